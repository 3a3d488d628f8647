/- ref18.bare of an act of another kind: its text is kept. Written by mkrbg2.py. ref18.formed and Valid of any act. Written by mkrvg.py. A formula of one node that is no formula as it should be: an error, in the program. A formula of one node that is no formula as it should be: an error, in the reference; texts of it. acts.formed of a filing with any fields. acts.Valid of a filing with any fields. Its parts' answers are given. acts.Valid of an act that is no filing, but has a text: an error. -/
import Derived.Test.YtbeaijjaecaidaaGreatDoorM21
import Derived.Test.YtbeaijjaecaidaaGreatDoorM04
import Derived.Test.YtbeaijjaecaidaaGreatDoorM10
import Derived.Test.YtbeaijjaecaidaaGreatDoorM11
import Derived.Test.YtbeaijjaecaidaaGreatDoorM01
set_option maxRecDepth 100000
set_option maxHeartbeats 16000000
namespace Go.Proofs.YtbeaijjaecaidaaGreatDoor
open Go.RowKit Go.Shelf
attribute [local go_sem] Oper.semAt_some
theorem refbare_kind (kn day known file office party other number amount sn sd fo fn:Int) (hk:kn≠0) (Ad Ac Al Ae:Option Addr) (nd cd nc cc nl cl ne ce:Nat) (w:World) :
  Calls Tryz.prog 125 #[.agg #[iI kn,iI day,iI known,iI file,iI office,iI party,iI other,iI number,iI amount,iI sn,iI sd,.slice Ad nd cd,.slice Ac nc cc,.slice Al nl cl,.slice Ae ne ce,iI fo,iI fn,nN,nN]] w
   fun e w'=>BareR kn day known (.slice Ad nd cd) (.slice Ac nc cc) e∧Below w.heap.size w w':=by
 have X0:=Blk.new w 41 #[iI kn,iI day,iI known,iI file,iI office,iI party,iI other,iI number,iI amount,iI sn,iI sd,.slice Ad nd cd,.slice Ac nc cc,.slice Al nl cl,.slice Ae ne ce,iI fo,iI fn,nN,nN];have P0:=below_new w (.cells #[iI kn,iI day,iI known,iI file,iI office,iI party,iI other,iI number,iI amount,iI sn,iI sd,.slice Ad nd cd,.slice Ac nc cc,.slice Al nl cl,.slice Ae ne ce,iI fo,iI fn,nN,nN] 41);generalize hw1:w.alloc (.cells #[iI kn,iI day,iI known,iI file,iI office,iI party,iI other,iI number,iI amount,iI sn,iI sd,.slice Ad nd cd,.slice Ac nc cc,.slice Al nl cl,.slice Ae ne ce,iI fo,iI fn,nN,nN] 41)=w1 at *;have hs1:w1.heap.size=w.heap.size+1:=by rw [← hw1,World.size_alloc]
 go_enter Tryz.func125,Tryz.ntmps125
 go_upto_region 1 with fail;have X1:=X0.alloc (.cells #[iI 0,iI 0,iI 0,iI 0,iI 0,iI 0,iI 0,iI 0,iI 0,iI 0,iI 0,nN,nN,nN,nN,iI 0,iI 0,nN,nN] 41);have Y1:=Blk.new w1 41 #[iI 0,iI 0,iI 0,iI 0,iI 0,iI 0,iI 0,iI 0,iI 0,iI 0,iI 0,nN,nN,nN,nN,iI 0,iI 0,nN,nN];have P1:=P0.alloc P0.size (.cells #[iI 0,iI 0,iI 0,iI 0,iI 0,iI 0,iI 0,iI 0,iI 0,iI 0,iI 0,nN,nN,nN,nN,iI 0,iI 0,nN,nN] 41);rw [hs1] at Y1;clear X0 P0 hw1 hs1;generalize w1.alloc (.cells #[iI 0,iI 0,iI 0,iI 0,iI 0,iI 0,iI 0,iI 0,iI 0,iI 0,iI 0,nN,nN,nN,nN,iI 0,iI 0,nN,nN] 41)=w2 at *;by_cases h3:kn=3
 ·subst h3
  clear hk;have hz:=X1.cell 0;have c3:=X1.cell 3;have f3:=X1.frozen 3;have c13:=X1.cell 13;have f13:=X1.frozen 13;go_upto_region 54 with (go_at_call 140;refine (ofFile_t 3 rfl rfl rfl rfl _).mono ?_;rintro e w' ⟨rfl,rfl⟩)
  have X2:=((X1.set 3 (.int .i64 0)).set 13 (.slice none 0 0));have Y2:=((Y1.far (p:=⟨w.heap.size,3,none⟩) (Nat.succ_ne_self _) (.int .i64 0)).far (p:=⟨w.heap.size,13,none⟩) (Nat.succ_ne_self _) (.slice none 0 0));have P2:=((P1.setCell (p:=⟨w.heap.size,3,none⟩) (Nat.le_refl _) (.int .i64 0)).setCell (p:=⟨w.heap.size,13,none⟩) (Nat.le_refl _) (.slice none 0 0));simp only [pB,pZ,pC] at X2;clear X1 Y1 P1 hz c3 f3 c13 f13;generalize ((w2.setCell ⟨w.heap.size,3,none⟩ (.int .i64 0)).setCell ⟨w.heap.size,13,none⟩ (.slice none 0 0))=w3 at *;go_wp2_with (first | (refine wpList_loadA X2 rfl _ rfl rfl rfl ?_) | (refine wpList_storeA Y2 rfl _ _ rfl rfl rfl _ rfl rfl (by kernel_rfl) ?_;intro wz Yz gz))
  exact bodyPost_ret (results_A rfl _ rfl Yz rfl) rfl ⟨⟨_,rfl,_,_,_,_,_,_,_,_,_,_,_,_,_,_,_,_,rfl⟩,P2.grown gz P2.size (fun k e=>by injection e with e;omega)⟩
 by_cases h4:kn=4
 ·subst h4
  clear hk h3;have hz:=X1.cell 0;have c3:=X1.cell 3;have f3:=X1.frozen 3;have c5:=X1.cell 5;have f5:=X1.frozen 5;have c6:=X1.cell 6;have f6:=X1.frozen 6;have c7:=X1.cell 7;have f7:=X1.frozen 7;have c8:=X1.cell 8;have f8:=X1.frozen 8;go_upto_region 54 with (go_at_call 140;refine (ofFile_t 4 rfl rfl rfl rfl _).mono ?_;rintro e w' ⟨rfl,rfl⟩)
  have X2:=(((((X1.set 3 (.int .i64 0)).set 5 (.int .i64 0)).set 6 (.int .i64 0)).set 7 (.int .i64 0)).set 8 (.int .i64 0));have Y2:=(((((Y1.far (p:=⟨w.heap.size,3,none⟩) (Nat.succ_ne_self _) (.int .i64 0)).far (p:=⟨w.heap.size,5,none⟩) (Nat.succ_ne_self _) (.int .i64 0)).far (p:=⟨w.heap.size,6,none⟩) (Nat.succ_ne_self _) (.int .i64 0)).far (p:=⟨w.heap.size,7,none⟩) (Nat.succ_ne_self _) (.int .i64 0)).far (p:=⟨w.heap.size,8,none⟩) (Nat.succ_ne_self _) (.int .i64 0));have P2:=(((((P1.setCell (p:=⟨w.heap.size,3,none⟩) (Nat.le_refl _) (.int .i64 0)).setCell (p:=⟨w.heap.size,5,none⟩) (Nat.le_refl _) (.int .i64 0)).setCell (p:=⟨w.heap.size,6,none⟩) (Nat.le_refl _) (.int .i64 0)).setCell (p:=⟨w.heap.size,7,none⟩) (Nat.le_refl _) (.int .i64 0)).setCell (p:=⟨w.heap.size,8,none⟩) (Nat.le_refl _) (.int .i64 0));simp only [pB,pZ,pC] at X2;clear X1 Y1 P1 hz c3 f3 c5 f5 c6 f6 c7 f7 c8 f8;generalize (((((w2.setCell ⟨w.heap.size,3,none⟩ (.int .i64 0)).setCell ⟨w.heap.size,5,none⟩ (.int .i64 0)).setCell ⟨w.heap.size,6,none⟩ (.int .i64 0)).setCell ⟨w.heap.size,7,none⟩ (.int .i64 0)).setCell ⟨w.heap.size,8,none⟩ (.int .i64 0))=w3 at *;go_wp2_with (first | (refine wpList_loadA X2 rfl _ rfl rfl rfl ?_) | (refine wpList_storeA Y2 rfl _ _ rfl rfl rfl _ rfl rfl (by kernel_rfl) ?_;intro wz Yz gz))
  exact bodyPost_ret (results_A rfl _ rfl Yz rfl) rfl ⟨⟨_,rfl,_,_,_,_,_,_,_,_,_,_,_,_,_,_,_,_,rfl⟩,P2.grown gz P2.size (fun k e=>by injection e with e;omega)⟩
 by_cases h5:kn=5
 ·subst h5
  clear hk h3 h4;have hz:=X1.cell 0;have c5:=X1.cell 5;have f5:=X1.frozen 5;have c7:=X1.cell 7;have f7:=X1.frozen 7;go_upto_region 54 with (go_at_call 140;refine (ofFile_f 5 (by decide) _).mono ?_;rintro e w' ⟨rfl,rfl⟩)
  have X2:=((X1.set 5 (.int .i64 0)).set 7 (.int .i64 0));have Y2:=((Y1.far (p:=⟨w.heap.size,5,none⟩) (Nat.succ_ne_self _) (.int .i64 0)).far (p:=⟨w.heap.size,7,none⟩) (Nat.succ_ne_self _) (.int .i64 0));have P2:=((P1.setCell (p:=⟨w.heap.size,5,none⟩) (Nat.le_refl _) (.int .i64 0)).setCell (p:=⟨w.heap.size,7,none⟩) (Nat.le_refl _) (.int .i64 0));simp only [pB,pZ,pC] at X2;clear X1 Y1 P1 hz c5 f5 c7 f7;generalize ((w2.setCell ⟨w.heap.size,5,none⟩ (.int .i64 0)).setCell ⟨w.heap.size,7,none⟩ (.int .i64 0))=w3 at *;go_wp2_with (first | (refine wpList_loadA X2 rfl _ rfl rfl rfl ?_) | (refine wpList_storeA Y2 rfl _ _ rfl rfl rfl _ rfl rfl (by kernel_rfl) ?_;intro wz Yz gz))
  exact bodyPost_ret (results_A rfl _ rfl Yz rfl) rfl ⟨⟨_,rfl,_,_,_,_,_,_,_,_,_,_,_,_,_,_,_,_,rfl⟩,P2.grown gz P2.size (fun k e=>by injection e with e;omega)⟩
 by_cases h6:kn=6
 ·subst h6
  clear hk h3 h4 h5;have hz:=X1.cell 0;have c3:=X1.cell 3;have f3:=X1.frozen 3;have c7:=X1.cell 7;have f7:=X1.frozen 7;go_upto_region 54 with (go_at_call 140;refine (ofFile_t 6 rfl rfl rfl rfl _).mono ?_;rintro e w' ⟨rfl,rfl⟩)
  have X2:=((X1.set 3 (.int .i64 0)).set 7 (.int .i64 0));have Y2:=((Y1.far (p:=⟨w.heap.size,3,none⟩) (Nat.succ_ne_self _) (.int .i64 0)).far (p:=⟨w.heap.size,7,none⟩) (Nat.succ_ne_self _) (.int .i64 0));have P2:=((P1.setCell (p:=⟨w.heap.size,3,none⟩) (Nat.le_refl _) (.int .i64 0)).setCell (p:=⟨w.heap.size,7,none⟩) (Nat.le_refl _) (.int .i64 0));simp only [pB,pZ,pC] at X2;clear X1 Y1 P1 hz c3 f3 c7 f7;generalize ((w2.setCell ⟨w.heap.size,3,none⟩ (.int .i64 0)).setCell ⟨w.heap.size,7,none⟩ (.int .i64 0))=w3 at *;go_wp2_with (first | (refine wpList_loadA X2 rfl _ rfl rfl rfl ?_) | (refine wpList_storeA Y2 rfl _ _ rfl rfl rfl _ rfl rfl (by kernel_rfl) ?_;intro wz Yz gz))
  exact bodyPost_ret (results_A rfl _ rfl Yz rfl) rfl ⟨⟨_,rfl,_,_,_,_,_,_,_,_,_,_,_,_,_,_,_,_,rfl⟩,P2.grown gz P2.size (fun k e=>by injection e with e;omega)⟩
 by_cases h7:kn=7
 ·subst h7
  clear hk h3 h4 h5 h6;have hz:=X1.cell 0;have c3:=X1.cell 3;have f3:=X1.frozen 3;have c7:=X1.cell 7;have f7:=X1.frozen 7;go_upto_region 54 with (go_at_call 140;refine (ofFile_t 7 rfl rfl rfl rfl _).mono ?_;rintro e w' ⟨rfl,rfl⟩)
  have X2:=((X1.set 3 (.int .i64 0)).set 7 (.int .i64 0));have Y2:=((Y1.far (p:=⟨w.heap.size,3,none⟩) (Nat.succ_ne_self _) (.int .i64 0)).far (p:=⟨w.heap.size,7,none⟩) (Nat.succ_ne_self _) (.int .i64 0));have P2:=((P1.setCell (p:=⟨w.heap.size,3,none⟩) (Nat.le_refl _) (.int .i64 0)).setCell (p:=⟨w.heap.size,7,none⟩) (Nat.le_refl _) (.int .i64 0));simp only [pB,pZ,pC] at X2;clear X1 Y1 P1 hz c3 f3 c7 f7;generalize ((w2.setCell ⟨w.heap.size,3,none⟩ (.int .i64 0)).setCell ⟨w.heap.size,7,none⟩ (.int .i64 0))=w3 at *;go_wp2_with (first | (refine wpList_loadA X2 rfl _ rfl rfl rfl ?_) | (refine wpList_storeA Y2 rfl _ _ rfl rfl rfl _ rfl rfl (by kernel_rfl) ?_;intro wz Yz gz))
  exact bodyPost_ret (results_A rfl _ rfl Yz rfl) rfl ⟨⟨_,rfl,_,_,_,_,_,_,_,_,_,_,_,_,_,_,_,_,rfl⟩,P2.grown gz P2.size (fun k e=>by injection e with e;omega)⟩
 by_cases h8:kn=8
 ·subst h8
  clear hk h3 h4 h5 h6 h7;have hz:=X1.cell 0;have c3:=X1.cell 3;have f3:=X1.frozen 3;have c7:=X1.cell 7;have f7:=X1.frozen 7;have c8:=X1.cell 8;have f8:=X1.frozen 8;go_upto_region 54 with (go_at_call 140;refine (ofFile_t 8 rfl rfl rfl rfl _).mono ?_;rintro e w' ⟨rfl,rfl⟩)
  have X2:=(((X1.set 3 (.int .i64 0)).set 7 (.int .i64 0)).set 8 (.int .i64 0));have Y2:=(((Y1.far (p:=⟨w.heap.size,3,none⟩) (Nat.succ_ne_self _) (.int .i64 0)).far (p:=⟨w.heap.size,7,none⟩) (Nat.succ_ne_self _) (.int .i64 0)).far (p:=⟨w.heap.size,8,none⟩) (Nat.succ_ne_self _) (.int .i64 0));have P2:=(((P1.setCell (p:=⟨w.heap.size,3,none⟩) (Nat.le_refl _) (.int .i64 0)).setCell (p:=⟨w.heap.size,7,none⟩) (Nat.le_refl _) (.int .i64 0)).setCell (p:=⟨w.heap.size,8,none⟩) (Nat.le_refl _) (.int .i64 0));simp only [pB,pZ,pC] at X2;clear X1 Y1 P1 hz c3 f3 c7 f7 c8 f8;generalize (((w2.setCell ⟨w.heap.size,3,none⟩ (.int .i64 0)).setCell ⟨w.heap.size,7,none⟩ (.int .i64 0)).setCell ⟨w.heap.size,8,none⟩ (.int .i64 0))=w3 at *;go_wp2_with (first | (refine wpList_loadA X2 rfl _ rfl rfl rfl ?_) | (refine wpList_storeA Y2 rfl _ _ rfl rfl rfl _ rfl rfl (by kernel_rfl) ?_;intro wz Yz gz))
  exact bodyPost_ret (results_A rfl _ rfl Yz rfl) rfl ⟨⟨_,rfl,_,_,_,_,_,_,_,_,_,_,_,_,_,_,_,_,rfl⟩,P2.grown gz P2.size (fun k e=>by injection e with e;omega)⟩
 by_cases h9:kn=9
 ·subst h9
  clear hk h3 h4 h5 h6 h7 h8;have hz:=X1.cell 0;have c3:=X1.cell 3;have f3:=X1.frozen 3;have c7:=X1.cell 7;have f7:=X1.frozen 7;go_upto_region 54 with (go_at_call 140;refine (ofFile_t 9 rfl rfl rfl rfl _).mono ?_;rintro e w' ⟨rfl,rfl⟩)
  have X2:=((X1.set 3 (.int .i64 0)).set 7 (.int .i64 0));have Y2:=((Y1.far (p:=⟨w.heap.size,3,none⟩) (Nat.succ_ne_self _) (.int .i64 0)).far (p:=⟨w.heap.size,7,none⟩) (Nat.succ_ne_self _) (.int .i64 0));have P2:=((P1.setCell (p:=⟨w.heap.size,3,none⟩) (Nat.le_refl _) (.int .i64 0)).setCell (p:=⟨w.heap.size,7,none⟩) (Nat.le_refl _) (.int .i64 0));simp only [pB,pZ,pC] at X2;clear X1 Y1 P1 hz c3 f3 c7 f7;generalize ((w2.setCell ⟨w.heap.size,3,none⟩ (.int .i64 0)).setCell ⟨w.heap.size,7,none⟩ (.int .i64 0))=w3 at *;go_wp2_with (first | (refine wpList_loadA X2 rfl _ rfl rfl rfl ?_) | (refine wpList_storeA Y2 rfl _ _ rfl rfl rfl _ rfl rfl (by kernel_rfl) ?_;intro wz Yz gz))
  exact bodyPost_ret (results_A rfl _ rfl Yz rfl) rfl ⟨⟨_,rfl,_,_,_,_,_,_,_,_,_,_,_,_,_,_,_,_,rfl⟩,P2.grown gz P2.size (fun k e=>by injection e with e;omega)⟩
 by_cases h12:kn=12
 ·subst h12
  clear hk h3 h4 h5 h6 h7 h8 h9;have hz:=X1.cell 0;have c3:=X1.cell 3;have f3:=X1.frozen 3;have c5:=X1.cell 5;have f5:=X1.frozen 5;go_upto_region 54 with (go_at_call 140;refine (ofFile_t 12 rfl rfl rfl rfl _).mono ?_;rintro e w' ⟨rfl,rfl⟩)
  have X2:=((X1.set 3 (.int .i64 0)).set 5 (.int .i64 0));have Y2:=((Y1.far (p:=⟨w.heap.size,3,none⟩) (Nat.succ_ne_self _) (.int .i64 0)).far (p:=⟨w.heap.size,5,none⟩) (Nat.succ_ne_self _) (.int .i64 0));have P2:=((P1.setCell (p:=⟨w.heap.size,3,none⟩) (Nat.le_refl _) (.int .i64 0)).setCell (p:=⟨w.heap.size,5,none⟩) (Nat.le_refl _) (.int .i64 0));simp only [pB,pZ,pC] at X2;clear X1 Y1 P1 hz c3 f3 c5 f5;generalize ((w2.setCell ⟨w.heap.size,3,none⟩ (.int .i64 0)).setCell ⟨w.heap.size,5,none⟩ (.int .i64 0))=w3 at *;go_wp2_with (first | (refine wpList_loadA X2 rfl _ rfl rfl rfl ?_) | (refine wpList_storeA Y2 rfl _ _ rfl rfl rfl _ rfl rfl (by kernel_rfl) ?_;intro wz Yz gz))
  exact bodyPost_ret (results_A rfl _ rfl Yz rfl) rfl ⟨⟨_,rfl,_,_,_,_,_,_,_,_,_,_,_,_,_,_,_,_,rfl⟩,P2.grown gz P2.size (fun k e=>by injection e with e;omega)⟩
 by_cases h13:kn=13
 ·subst h13
  clear hk h3 h4 h5 h6 h7 h8 h9 h12;by_cases h2:number=2
  ·subst h2
   have hz:=X1.cell 0;have hn7:=X1.cell 7;have c3:=X1.cell 3;have f3:=X1.frozen 3;have c6:=X1.cell 6;have f6:=X1.frozen 6;have f7:=X1.frozen 7;have c13:=X1.cell 13;have f13:=X1.frozen 13;go_upto_region 54 with (go_at_call 140;refine (ofFile_t 13 rfl rfl rfl rfl _).mono ?_;rintro e w' ⟨rfl,rfl⟩)
   have X2:=((((X1.set 3 (.int .i64 0)).set 6 (.int .i64 0)).set 13 (.slice none 0 0)).set 7 (.int .i64 0));have Y2:=((((Y1.far (p:=⟨w.heap.size,3,none⟩) (Nat.succ_ne_self _) (.int .i64 0)).far (p:=⟨w.heap.size,6,none⟩) (Nat.succ_ne_self _) (.int .i64 0)).far (p:=⟨w.heap.size,13,none⟩) (Nat.succ_ne_self _) (.slice none 0 0)).far (p:=⟨w.heap.size,7,none⟩) (Nat.succ_ne_self _) (.int .i64 0));have P2:=((((P1.setCell (p:=⟨w.heap.size,3,none⟩) (Nat.le_refl _) (.int .i64 0)).setCell (p:=⟨w.heap.size,6,none⟩) (Nat.le_refl _) (.int .i64 0)).setCell (p:=⟨w.heap.size,13,none⟩) (Nat.le_refl _) (.slice none 0 0)).setCell (p:=⟨w.heap.size,7,none⟩) (Nat.le_refl _) (.int .i64 0));simp only [pB,pZ,pC] at X2;clear X1 Y1 P1 hz c3 f3 c6 f6 f7 c13 f13 hn7;generalize ((((w2.setCell ⟨w.heap.size,3,none⟩ (.int .i64 0)).setCell ⟨w.heap.size,6,none⟩ (.int .i64 0)).setCell ⟨w.heap.size,13,none⟩ (.slice none 0 0)).setCell ⟨w.heap.size,7,none⟩ (.int .i64 0))=w3 at *;go_wp2_with (first | (refine wpList_loadA X2 rfl _ rfl rfl rfl ?_) | (refine wpList_storeA Y2 rfl _ _ rfl rfl rfl _ rfl rfl (by kernel_rfl) ?_;intro wz Yz gz))
   exact bodyPost_ret (results_A rfl _ rfl Yz rfl) rfl ⟨⟨_,rfl,_,_,_,_,_,_,_,_,_,_,_,_,_,_,_,_,rfl⟩,P2.grown gz P2.size (fun k e=>by injection e with e;omega)⟩
  ·have e2:(number == 2)=false:=by simpa using h2
   clear h2;have hz:=X1.cell 0;have hn7:=X1.cell 7;have c3:=X1.cell 3;have f3:=X1.frozen 3;have c6:=X1.cell 6;have f6:=X1.frozen 6;have f7:=X1.frozen 7;go_upto_region 54 with (go_at_call 140;refine (ofFile_t 13 rfl rfl rfl rfl _).mono ?_;rintro e w' ⟨rfl,rfl⟩)
   have X2:=(((X1.set 3 (.int .i64 0)).set 6 (.int .i64 0)).set 7 (.int .i64 0));have Y2:=(((Y1.far (p:=⟨w.heap.size,3,none⟩) (Nat.succ_ne_self _) (.int .i64 0)).far (p:=⟨w.heap.size,6,none⟩) (Nat.succ_ne_self _) (.int .i64 0)).far (p:=⟨w.heap.size,7,none⟩) (Nat.succ_ne_self _) (.int .i64 0));have P2:=(((P1.setCell (p:=⟨w.heap.size,3,none⟩) (Nat.le_refl _) (.int .i64 0)).setCell (p:=⟨w.heap.size,6,none⟩) (Nat.le_refl _) (.int .i64 0)).setCell (p:=⟨w.heap.size,7,none⟩) (Nat.le_refl _) (.int .i64 0));simp only [pB,pZ,pC] at X2;clear X1 Y1 P1 hz c3 f3 c6 f6 f7 hn7;generalize (((w2.setCell ⟨w.heap.size,3,none⟩ (.int .i64 0)).setCell ⟨w.heap.size,6,none⟩ (.int .i64 0)).setCell ⟨w.heap.size,7,none⟩ (.int .i64 0))=w3 at *;go_wp2_with (first | (refine wpList_loadA X2 rfl _ rfl rfl rfl ?_) | (refine wpList_storeA Y2 rfl _ _ rfl rfl rfl _ rfl rfl (by kernel_rfl) ?_;intro wz Yz gz))
   exact bodyPost_ret (results_A rfl _ rfl Yz rfl) rfl ⟨⟨_,rfl,_,_,_,_,_,_,_,_,_,_,_,_,_,_,_,_,rfl⟩,P2.grown gz P2.size (fun k e=>by injection e with e;omega)⟩
 by_cases h14:kn=14
 ·subst h14
  clear hk h3 h4 h5 h6 h7 h8 h9 h12 h13;have hz:=X1.cell 0;have c3:=X1.cell 3;have f3:=X1.frozen 3;have c5:=X1.cell 5;have f5:=X1.frozen 5;go_upto_region 54 with (go_at_call 140;refine (ofFile_t 14 rfl rfl rfl rfl _).mono ?_;rintro e w' ⟨rfl,rfl⟩)
  have X2:=((X1.set 3 (.int .i64 0)).set 5 (.int .i64 0));have Y2:=((Y1.far (p:=⟨w.heap.size,3,none⟩) (Nat.succ_ne_self _) (.int .i64 0)).far (p:=⟨w.heap.size,5,none⟩) (Nat.succ_ne_self _) (.int .i64 0));have P2:=((P1.setCell (p:=⟨w.heap.size,3,none⟩) (Nat.le_refl _) (.int .i64 0)).setCell (p:=⟨w.heap.size,5,none⟩) (Nat.le_refl _) (.int .i64 0));simp only [pB,pZ,pC] at X2;clear X1 Y1 P1 hz c3 f3 c5 f5;generalize ((w2.setCell ⟨w.heap.size,3,none⟩ (.int .i64 0)).setCell ⟨w.heap.size,5,none⟩ (.int .i64 0))=w3 at *;go_wp2_with (first | (refine wpList_loadA X2 rfl _ rfl rfl rfl ?_) | (refine wpList_storeA Y2 rfl _ _ rfl rfl rfl _ rfl rfl (by kernel_rfl) ?_;intro wz Yz gz))
  exact bodyPost_ret (results_A rfl _ rfl Yz rfl) rfl ⟨⟨_,rfl,_,_,_,_,_,_,_,_,_,_,_,_,_,_,_,_,rfl⟩,P2.grown gz P2.size (fun k e=>by injection e with e;omega)⟩
 by_cases h15:kn=15
 ·subst h15
  clear hk h3 h4 h5 h6 h7 h8 h9 h12 h13 h14;have hz:=X1.cell 0;have c3:=X1.cell 3;have f3:=X1.frozen 3;have c13:=X1.cell 13;have f13:=X1.frozen 13;go_upto_region 54 with (go_at_call 140;refine (ofFile_t 15 rfl rfl rfl rfl _).mono ?_;rintro e w' ⟨rfl,rfl⟩)
  have X2:=((X1.set 3 (.int .i64 0)).set 13 (.slice none 0 0));have Y2:=((Y1.far (p:=⟨w.heap.size,3,none⟩) (Nat.succ_ne_self _) (.int .i64 0)).far (p:=⟨w.heap.size,13,none⟩) (Nat.succ_ne_self _) (.slice none 0 0));have P2:=((P1.setCell (p:=⟨w.heap.size,3,none⟩) (Nat.le_refl _) (.int .i64 0)).setCell (p:=⟨w.heap.size,13,none⟩) (Nat.le_refl _) (.slice none 0 0));simp only [pB,pZ,pC] at X2;clear X1 Y1 P1 hz c3 f3 c13 f13;generalize ((w2.setCell ⟨w.heap.size,3,none⟩ (.int .i64 0)).setCell ⟨w.heap.size,13,none⟩ (.slice none 0 0))=w3 at *;go_wp2_with (first | (refine wpList_loadA X2 rfl _ rfl rfl rfl ?_) | (refine wpList_storeA Y2 rfl _ _ rfl rfl rfl _ rfl rfl (by kernel_rfl) ?_;intro wz Yz gz))
  exact bodyPost_ret (results_A rfl _ rfl Yz rfl) rfl ⟨⟨_,rfl,_,_,_,_,_,_,_,_,_,_,_,_,_,_,_,_,rfl⟩,P2.grown gz P2.size (fun k e=>by injection e with e;omega)⟩
 by_cases h16:kn=16
 ·subst h16
  clear hk h3 h4 h5 h6 h7 h8 h9 h12 h13 h14 h15;have hz:=X1.cell 0;have c3:=X1.cell 3;have f3:=X1.frozen 3;have c5:=X1.cell 5;have f5:=X1.frozen 5;have c6:=X1.cell 6;have f6:=X1.frozen 6;have c9:=X1.cell 9;have f9:=X1.frozen 9;have c10:=X1.cell 10;have f10:=X1.frozen 10;go_upto_region 54 with (go_at_call 140;refine (ofFile_t 16 rfl rfl rfl rfl _).mono ?_;rintro e w' ⟨rfl,rfl⟩)
  have X2:=(((((X1.set 3 (.int .i64 0)).set 5 (.int .i64 0)).set 6 (.int .i64 0)).set 9 (.int .i64 0)).set 10 (.int .i64 0));have Y2:=(((((Y1.far (p:=⟨w.heap.size,3,none⟩) (Nat.succ_ne_self _) (.int .i64 0)).far (p:=⟨w.heap.size,5,none⟩) (Nat.succ_ne_self _) (.int .i64 0)).far (p:=⟨w.heap.size,6,none⟩) (Nat.succ_ne_self _) (.int .i64 0)).far (p:=⟨w.heap.size,9,none⟩) (Nat.succ_ne_self _) (.int .i64 0)).far (p:=⟨w.heap.size,10,none⟩) (Nat.succ_ne_self _) (.int .i64 0));have P2:=(((((P1.setCell (p:=⟨w.heap.size,3,none⟩) (Nat.le_refl _) (.int .i64 0)).setCell (p:=⟨w.heap.size,5,none⟩) (Nat.le_refl _) (.int .i64 0)).setCell (p:=⟨w.heap.size,6,none⟩) (Nat.le_refl _) (.int .i64 0)).setCell (p:=⟨w.heap.size,9,none⟩) (Nat.le_refl _) (.int .i64 0)).setCell (p:=⟨w.heap.size,10,none⟩) (Nat.le_refl _) (.int .i64 0));simp only [pB,pZ,pC] at X2;clear X1 Y1 P1 hz c3 f3 c5 f5 c6 f6 c9 f9 c10 f10;generalize (((((w2.setCell ⟨w.heap.size,3,none⟩ (.int .i64 0)).setCell ⟨w.heap.size,5,none⟩ (.int .i64 0)).setCell ⟨w.heap.size,6,none⟩ (.int .i64 0)).setCell ⟨w.heap.size,9,none⟩ (.int .i64 0)).setCell ⟨w.heap.size,10,none⟩ (.int .i64 0))=w3 at *;go_wp2_with (first | (refine wpList_loadA X2 rfl _ rfl rfl rfl ?_) | (refine wpList_storeA Y2 rfl _ _ rfl rfl rfl _ rfl rfl (by kernel_rfl) ?_;intro wz Yz gz))
  exact bodyPost_ret (results_A rfl _ rfl Yz rfl) rfl ⟨⟨_,rfl,_,_,_,_,_,_,_,_,_,_,_,_,_,_,_,_,rfl⟩,P2.grown gz P2.size (fun k e=>by injection e with e;omega)⟩
 by_cases h17:kn=17
 ·subst h17
  clear hk h3 h4 h5 h6 h7 h8 h9 h12 h13 h14 h15 h16;have hz:=X1.cell 0;have c3:=X1.cell 3;have f3:=X1.frozen 3;have c5:=X1.cell 5;have f5:=X1.frozen 5;have c6:=X1.cell 6;have f6:=X1.frozen 6;have c7:=X1.cell 7;have f7:=X1.frozen 7;go_upto_region 54 with (go_at_call 140;refine (ofFile_t 17 rfl rfl rfl rfl _).mono ?_;rintro e w' ⟨rfl,rfl⟩)
  have X2:=((((X1.set 3 (.int .i64 0)).set 5 (.int .i64 0)).set 6 (.int .i64 0)).set 7 (.int .i64 0));have Y2:=((((Y1.far (p:=⟨w.heap.size,3,none⟩) (Nat.succ_ne_self _) (.int .i64 0)).far (p:=⟨w.heap.size,5,none⟩) (Nat.succ_ne_self _) (.int .i64 0)).far (p:=⟨w.heap.size,6,none⟩) (Nat.succ_ne_self _) (.int .i64 0)).far (p:=⟨w.heap.size,7,none⟩) (Nat.succ_ne_self _) (.int .i64 0));have P2:=((((P1.setCell (p:=⟨w.heap.size,3,none⟩) (Nat.le_refl _) (.int .i64 0)).setCell (p:=⟨w.heap.size,5,none⟩) (Nat.le_refl _) (.int .i64 0)).setCell (p:=⟨w.heap.size,6,none⟩) (Nat.le_refl _) (.int .i64 0)).setCell (p:=⟨w.heap.size,7,none⟩) (Nat.le_refl _) (.int .i64 0));simp only [pB,pZ,pC] at X2;clear X1 Y1 P1 hz c3 f3 c5 f5 c6 f6 c7 f7;generalize ((((w2.setCell ⟨w.heap.size,3,none⟩ (.int .i64 0)).setCell ⟨w.heap.size,5,none⟩ (.int .i64 0)).setCell ⟨w.heap.size,6,none⟩ (.int .i64 0)).setCell ⟨w.heap.size,7,none⟩ (.int .i64 0))=w3 at *;go_wp2_with (first | (refine wpList_loadA X2 rfl _ rfl rfl rfl ?_) | (refine wpList_storeA Y2 rfl _ _ rfl rfl rfl _ rfl rfl (by kernel_rfl) ?_;intro wz Yz gz))
  exact bodyPost_ret (results_A rfl _ rfl Yz rfl) rfl ⟨⟨_,rfl,_,_,_,_,_,_,_,_,_,_,_,_,_,_,_,_,rfl⟩,P2.grown gz P2.size (fun k e=>by injection e with e;omega)⟩
 by_cases h18:kn=18
 ·subst h18
  clear hk h3 h4 h5 h6 h7 h8 h9 h12 h13 h14 h15 h16 h17;have hz:=X1.cell 0;have c3:=X1.cell 3;have f3:=X1.frozen 3;have c7:=X1.cell 7;have f7:=X1.frozen 7;go_upto_region 54 with (go_at_call 140;refine (ofFile_t 18 rfl rfl rfl rfl _).mono ?_;rintro e w' ⟨rfl,rfl⟩)
  have X2:=((X1.set 3 (.int .i64 0)).set 7 (.int .i64 0));have Y2:=((Y1.far (p:=⟨w.heap.size,3,none⟩) (Nat.succ_ne_self _) (.int .i64 0)).far (p:=⟨w.heap.size,7,none⟩) (Nat.succ_ne_self _) (.int .i64 0));have P2:=((P1.setCell (p:=⟨w.heap.size,3,none⟩) (Nat.le_refl _) (.int .i64 0)).setCell (p:=⟨w.heap.size,7,none⟩) (Nat.le_refl _) (.int .i64 0));simp only [pB,pZ,pC] at X2;clear X1 Y1 P1 hz c3 f3 c7 f7;generalize ((w2.setCell ⟨w.heap.size,3,none⟩ (.int .i64 0)).setCell ⟨w.heap.size,7,none⟩ (.int .i64 0))=w3 at *;go_wp2_with (first | (refine wpList_loadA X2 rfl _ rfl rfl rfl ?_) | (refine wpList_storeA Y2 rfl _ _ rfl rfl rfl _ rfl rfl (by kernel_rfl) ?_;intro wz Yz gz))
  exact bodyPost_ret (results_A rfl _ rfl Yz rfl) rfl ⟨⟨_,rfl,_,_,_,_,_,_,_,_,_,_,_,_,_,_,_,_,rfl⟩,P2.grown gz P2.size (fun k e=>by injection e with e;omega)⟩
 by_cases h19:kn=19
 ·subst h19
  clear hk h3 h4 h5 h6 h7 h8 h9 h12 h13 h14 h15 h16 h17 h18;have hz:=X1.cell 0;have c15:=X1.cell 15;have f15:=X1.frozen 15;have c16:=X1.cell 16;have f16:=X1.frozen 16;have c17:=X1.cell 17;have f17:=X1.frozen 17;have c18:=X1.cell 18;have f18:=X1.frozen 18;go_upto_region 54 with (go_at_call 140;refine (ofFile_f 19 (by decide) _).mono ?_;rintro e w' ⟨rfl,rfl⟩)
  have X2:=((((X1.set 15 (.int .i64 0)).set 16 (.int .i64 0)).set 17 (.slice none 0 0)).set 18 (.slice none 0 0));have Y2:=((((Y1.far (p:=⟨w.heap.size,15,none⟩) (Nat.succ_ne_self _) (.int .i64 0)).far (p:=⟨w.heap.size,16,none⟩) (Nat.succ_ne_self _) (.int .i64 0)).far (p:=⟨w.heap.size,17,none⟩) (Nat.succ_ne_self _) (.slice none 0 0)).far (p:=⟨w.heap.size,18,none⟩) (Nat.succ_ne_self _) (.slice none 0 0));have P2:=((((P1.setCell (p:=⟨w.heap.size,15,none⟩) (Nat.le_refl _) (.int .i64 0)).setCell (p:=⟨w.heap.size,16,none⟩) (Nat.le_refl _) (.int .i64 0)).setCell (p:=⟨w.heap.size,17,none⟩) (Nat.le_refl _) (.slice none 0 0)).setCell (p:=⟨w.heap.size,18,none⟩) (Nat.le_refl _) (.slice none 0 0));simp only [pB,pZ,pC] at X2;clear X1 Y1 P1 hz c15 f15 c16 f16 c17 f17 c18 f18;generalize ((((w2.setCell ⟨w.heap.size,15,none⟩ (.int .i64 0)).setCell ⟨w.heap.size,16,none⟩ (.int .i64 0)).setCell ⟨w.heap.size,17,none⟩ (.slice none 0 0)).setCell ⟨w.heap.size,18,none⟩ (.slice none 0 0))=w3 at *;go_wp2_with (first | (refine wpList_loadA X2 rfl _ rfl rfl rfl ?_) | (refine wpList_storeA Y2 rfl _ _ rfl rfl rfl _ rfl rfl (by kernel_rfl) ?_;intro wz Yz gz))
  exact bodyPost_ret (results_A rfl _ rfl Yz rfl) rfl ⟨⟨_,rfl,_,_,_,_,_,_,_,_,_,_,_,_,_,_,_,_,rfl⟩,P2.grown gz P2.size (fun k e=>by injection e with e;omega)⟩
 by_cases h20:kn=20
 ·subst h20
  clear hk h3 h4 h5 h6 h7 h8 h9 h12 h13 h14 h15 h16 h17 h18 h19;have hz:=X1.cell 0;have c4:=X1.cell 4;have f4:=X1.frozen 4;have c7:=X1.cell 7;have f7:=X1.frozen 7;go_upto_region 54 with (go_at_call 140;refine (ofFile_f 20 (by decide) _).mono ?_;rintro e w' ⟨rfl,rfl⟩)
  have X2:=((X1.set 4 (.int .i64 0)).set 7 (.int .i64 0));have Y2:=((Y1.far (p:=⟨w.heap.size,4,none⟩) (Nat.succ_ne_self _) (.int .i64 0)).far (p:=⟨w.heap.size,7,none⟩) (Nat.succ_ne_self _) (.int .i64 0));have P2:=((P1.setCell (p:=⟨w.heap.size,4,none⟩) (Nat.le_refl _) (.int .i64 0)).setCell (p:=⟨w.heap.size,7,none⟩) (Nat.le_refl _) (.int .i64 0));simp only [pB,pZ,pC] at X2;clear X1 Y1 P1 hz c4 f4 c7 f7;generalize ((w2.setCell ⟨w.heap.size,4,none⟩ (.int .i64 0)).setCell ⟨w.heap.size,7,none⟩ (.int .i64 0))=w3 at *;go_wp2_with (first | (refine wpList_loadA X2 rfl _ rfl rfl rfl ?_) | (refine wpList_storeA Y2 rfl _ _ rfl rfl rfl _ rfl rfl (by kernel_rfl) ?_;intro wz Yz gz))
  exact bodyPost_ret (results_A rfl _ rfl Yz rfl) rfl ⟨⟨_,rfl,_,_,_,_,_,_,_,_,_,_,_,_,_,_,_,_,rfl⟩,P2.grown gz P2.size (fun k e=>by injection e with e;omega)⟩
 by_cases h21:kn=21
 ·subst h21
  clear hk h3 h4 h5 h6 h7 h8 h9 h12 h13 h14 h15 h16 h17 h18 h19 h20;have hz:=X1.cell 0;have c4:=X1.cell 4;have f4:=X1.frozen 4;have c7:=X1.cell 7;have f7:=X1.frozen 7;have c8:=X1.cell 8;have f8:=X1.frozen 8;go_upto_region 54 with (go_at_call 140;refine (ofFile_f 21 (by decide) _).mono ?_;rintro e w' ⟨rfl,rfl⟩)
  have X2:=(((X1.set 4 (.int .i64 0)).set 7 (.int .i64 0)).set 8 (.int .i64 0));have Y2:=(((Y1.far (p:=⟨w.heap.size,4,none⟩) (Nat.succ_ne_self _) (.int .i64 0)).far (p:=⟨w.heap.size,7,none⟩) (Nat.succ_ne_self _) (.int .i64 0)).far (p:=⟨w.heap.size,8,none⟩) (Nat.succ_ne_self _) (.int .i64 0));have P2:=(((P1.setCell (p:=⟨w.heap.size,4,none⟩) (Nat.le_refl _) (.int .i64 0)).setCell (p:=⟨w.heap.size,7,none⟩) (Nat.le_refl _) (.int .i64 0)).setCell (p:=⟨w.heap.size,8,none⟩) (Nat.le_refl _) (.int .i64 0));simp only [pB,pZ,pC] at X2;clear X1 Y1 P1 hz c4 f4 c7 f7 c8 f8;generalize (((w2.setCell ⟨w.heap.size,4,none⟩ (.int .i64 0)).setCell ⟨w.heap.size,7,none⟩ (.int .i64 0)).setCell ⟨w.heap.size,8,none⟩ (.int .i64 0))=w3 at *;go_wp2_with (first | (refine wpList_loadA X2 rfl _ rfl rfl rfl ?_) | (refine wpList_storeA Y2 rfl _ _ rfl rfl rfl _ rfl rfl (by kernel_rfl) ?_;intro wz Yz gz))
  exact bodyPost_ret (results_A rfl _ rfl Yz rfl) rfl ⟨⟨_,rfl,_,_,_,_,_,_,_,_,_,_,_,_,_,_,_,_,rfl⟩,P2.grown gz P2.size (fun k e=>by injection e with e;omega)⟩
 have e0:(kn == 0)=false:=by simpa using hk
 have e3:(kn == 3)=false:=by simpa using h3
 have e4:(kn == 4)=false:=by simpa using h4
 have e5:(kn == 5)=false:=by simpa using h5
 have e6:(kn == 6)=false:=by simpa using h6
 have e7:(kn == 7)=false:=by simpa using h7
 have e8:(kn == 8)=false:=by simpa using h8
 have e9:(kn == 9)=false:=by simpa using h9
 have e12:(kn == 12)=false:=by simpa using h12
 have e13:(kn == 13)=false:=by simpa using h13
 have e14:(kn == 14)=false:=by simpa using h14
 have e15:(kn == 15)=false:=by simpa using h15
 have e16:(kn == 16)=false:=by simpa using h16
 have e17:(kn == 17)=false:=by simpa using h17
 have e18:(kn == 18)=false:=by simpa using h18
 have e19:(kn == 19)=false:=by simpa using h19
 have e20:(kn == 20)=false:=by simpa using h20
 have e21:(kn == 21)=false:=by simpa using h21
 have HOF:=Lib.hid (fun W=>ofFile_t kn (by simpa using h5) (by simpa using h19) (by simpa using h20) (by simpa using h21) W)
 clear hk h3 h4 h5 h6 h7 h8 h9 h12 h13 h14 h15 h16 h17 h18 h19 h20 h21;have hz:=X1.cell 0;have c3:=X1.cell 3;have f3:=X1.frozen 3;go_upto_region 54 with (go_at_call 140;refine (HOF.out _).mono ?_;rintro e w' ⟨rfl,rfl⟩)
 have X2:=(X1.set 3 (.int .i64 0));have Y2:=(Y1.far (p:=⟨w.heap.size,3,none⟩) (Nat.succ_ne_self _) (.int .i64 0));have P2:=(P1.setCell (p:=⟨w.heap.size,3,none⟩) (Nat.le_refl _) (.int .i64 0));simp only [pB,pZ,pC] at X2;clear X1 Y1 P1 hz c3 f3;generalize (w2.setCell ⟨w.heap.size,3,none⟩ (.int .i64 0))=w3 at *;go_wp2_with (first | (refine wpList_loadA X2 rfl _ rfl rfl rfl ?_) | (refine wpList_storeA Y2 rfl _ _ rfl rfl rfl _ rfl rfl (by kernel_rfl) ?_;intro wz Yz gz))
 exact bodyPost_ret (results_A rfl _ rfl Yz rfl) rfl ⟨⟨_,rfl,_,_,_,_,_,_,_,_,_,_,_,_,_,_,_,_,rfl⟩,P2.grown gz P2.size (fun k e=>by injection e with e;omega)⟩
theorem refaformed_gen (day known file office party other number amount sn sd fo fn:Int) (Ad Ac Al Ae:Option Addr) (nd cd nc cc nl cl ne ce:Nat) (fg:Prop) (w:World)
  (HF:Hid (∀ W,Below w.heap.size w W→Calls Tryz.prog 165 #[.agg #[iI 0,iI day,iI known,iI file,iI office,iI party,iI other,iI number,iI amount,iI sn,iI sd,.slice Ad nd cd,.slice Ac nc cc,.slice Al nl cl,.slice Ae ne ce,iI fo,iI fn,nN,nN]] W fun e w'=>(∃ b:Bool,e=.returned (.bool b)∧(b=true↔fg))∧Below W.heap.size W w')) :
  Calls Tryz.prog 127 #[.agg #[iI 0,iI day,iI known,iI file,iI office,iI party,iI other,iI number,iI amount,iI sn,iI sd,.slice Ad nd cd,.slice Ac nc cc,.slice Al nl cl,.slice Ae ne ce,iI fo,iI fn,nN,nN]] w fun e w'=>(∃ b:Bool,e=.returned (.bool b)∧(b=true↔fg))∧Below w.heap.size w w':=by
 have HP:=Lib.hid (fun W=>refwithin_gen party 1 4095 W)
 have HO:=Lib.hid (fun W=>refwithin_gen other 1 4095 W)
 have HL:=Lib.hid (fun W=>refwithin_gen number day 131072 W)
 generalize inR party 1 4095=bp at *;generalize inR other 1 4095=bo at *;generalize inR number day 131072=bl at *;have X0:=Blk.new w 41 #[iI 0,iI day,iI known,iI file,iI office,iI party,iI other,iI number,iI amount,iI sn,iI sd,.slice Ad nd cd,.slice Ac nc cc,.slice Al nl cl,.slice Ae ne ce,iI fo,iI fn,nN,nN];have P0:=below_new w (.cells #[iI 0,iI day,iI known,iI file,iI office,iI party,iI other,iI number,iI amount,iI sn,iI sd,.slice Ad nd cd,.slice Ac nc cc,.slice Al nl cl,.slice Ae ne ce,iI fo,iI fn,nN,nN] 41);have hc0:(w.alloc (.cells #[iI 0,iI day,iI known,iI file,iI office,iI party,iI other,iI number,iI amount,iI sn,iI sd,.slice Ad nd cd,.slice Ac nc cc,.slice Al nl cl,.slice Ae ne ce,iI fo,iI fn,nN,nN] 41)).cell? ⟨w.heap.size,0,none⟩=some (.int .i64 0):=X0.cell 0;have hc1:(w.alloc (.cells #[iI 0,iI day,iI known,iI file,iI office,iI party,iI other,iI number,iI amount,iI sn,iI sd,.slice Ad nd cd,.slice Ac nc cc,.slice Al nl cl,.slice Ae ne ce,iI fo,iI fn,nN,nN] 41)).cell? ⟨w.heap.size,1,none⟩=some (.int .i64 day):=X0.cell 1;have hc5:(w.alloc (.cells #[iI 0,iI day,iI known,iI file,iI office,iI party,iI other,iI number,iI amount,iI sn,iI sd,.slice Ad nd cd,.slice Ac nc cc,.slice Al nl cl,.slice Ae ne ce,iI fo,iI fn,nN,nN] 41)).cell? ⟨w.heap.size,5,none⟩=some (.int .i64 party):=X0.cell 5;have hc6:(w.alloc (.cells #[iI 0,iI day,iI known,iI file,iI office,iI party,iI other,iI number,iI amount,iI sn,iI sd,.slice Ad nd cd,.slice Ac nc cc,.slice Al nl cl,.slice Ae ne ce,iI fo,iI fn,nN,nN] 41)).cell? ⟨w.heap.size,6,none⟩=some (.int .i64 other):=X0.cell 6;have hc7:(w.alloc (.cells #[iI 0,iI day,iI known,iI file,iI office,iI party,iI other,iI number,iI amount,iI sn,iI sd,.slice Ad nd cd,.slice Ac nc cc,.slice Al nl cl,.slice Ae ne ce,iI fo,iI fn,nN,nN] 41)).cell? ⟨w.heap.size,7,none⟩=some (.int .i64 number):=X0.cell 7;go_enter Tryz.func127,Tryz.ntmps127
 go_upto_region 1 with fail;generalize w.alloc (.cells #[iI 0,iI day,iI known,iI file,iI office,iI party,iI other,iI number,iI amount,iI sn,iI sd,.slice Ad nd cd,.slice Ac nc cc,.slice Al nl cl,.slice Ae ne ce,iI fo,iI fn,nN,nN] 41)=w0 at *;go_wp2_with fail;refine (HP.out _).mono ?_
 rintro e w1 ⟨rfl,e1⟩;have e1:=e1.symm;subst e1
 cases bp with
 | false =>
  go_wp2_with fail;refine (HL.out _).mono ?_
  rintro e w1 ⟨rfl,e1⟩;have e1:=e1.symm;subst e1;clear hc1 hc5 hc6 hc7;go_wp2_with (refine wpList_loadA X0 rfl _ rfl rfl rfl ?_)
  refine (HF.out _ P0).mono ?_
  rintro e w1 ⟨⟨b,rfl,hb⟩,hb1⟩;have HB:=Lib.hid hb;have P1:=below_up P0 hb1 P0.size;clear hc0 hb;go_wp2_with fail;go_ret;exact ⟨⟨b,rfl,HB.out⟩,P1⟩
 | true =>
  go_wp2_with fail;refine (HO.out _).mono ?_
  rintro e w1 ⟨rfl,e1⟩;have e1:=e1.symm;subst e1
  cases bo with
  | false =>
   go_wp2_with fail;refine (HL.out _).mono ?_
   rintro e w1 ⟨rfl,e1⟩;have e1:=e1.symm;subst e1;clear hc1 hc5 hc6 hc7;go_wp2_with (refine wpList_loadA X0 rfl _ rfl rfl rfl ?_)
   refine (HF.out _ P0).mono ?_
   rintro e w1 ⟨⟨b,rfl,hb⟩,hb1⟩;have HB:=Lib.hid hb;have P1:=below_up P0 hb1 P0.size;clear hc0 hb;go_wp2_with fail;go_ret;exact ⟨⟨b,rfl,HB.out⟩,P1⟩
  | true =>
   generalize hpo:(party != other)=bq at *;go_wp2_with fail;clear hpo;refine (HL.out _).mono ?_
   rintro e w1 ⟨rfl,e1⟩;have e1:=e1.symm;subst e1;clear hc1 hc5 hc6 hc7;go_wp2_with (refine wpList_loadA X0 rfl _ rfl rfl rfl ?_)
   refine (HF.out _ P0).mono ?_
   rintro e w1 ⟨⟨b,rfl,hb⟩,hb1⟩;have HB:=Lib.hid hb;have P1:=below_up P0 hb1 P0.size;clear hc0 hb;go_wp2_with fail;go_ret;exact ⟨⟨b,rfl,HB.out⟩,P1⟩
theorem refavalid_core (kn day known file office party other number amount sn sd fo fn:Int) (Ad Ac Al Ae:Option Addr) (nd cd nc cc nl cl ne ce:Nat) (bk bc:Bool) (fg good:Prop) (hbk:inR kn 0 21=bk) (HGO:Hid (good↔(bk=true∧inR day 0 131072=true∧inR known 0 1099511627776=true∧inR file 0 4095=true∧bc=true∧fg))) (w:World)
  (HBa:Hid (∀ W,Calls Tryz.prog 125 #[.agg #[iI kn,iI day,iI known,iI file,iI office,iI party,iI other,iI number,iI amount,iI sn,iI sd,.slice Ad nd cd,.slice Ac nc cc,.slice Al nl cl,.slice Ae ne ce,iI fo,iI fn,nN,nN]] W fun e w'=>(∃ V,e=.returned (.agg V)∧∀ U,Calls Tryz.prog 124 #[.agg V] U fun e u'=>e=.returned (.bool bc)∧Below U.heap.size U u')∧Below W.heap.size W w'))
  (HF:Hid (bk=true→bc=true→∀ W,Below w.heap.size w W→Calls Tryz.prog 127 #[.agg #[iI kn,iI day,iI known,iI file,iI office,iI party,iI other,iI number,iI amount,iI sn,iI sd,.slice Ad nd cd,.slice Ac nc cc,.slice Al nl cl,.slice Ae ne ce,iI fo,iI fn,nN,nN]] W fun e w'=>(∃ b:Bool,e=.returned (.bool b)∧(b=true↔fg))∧Below W.heap.size W w')) :
  Calls Tryz.prog 77 #[.agg #[iI kn,iI day,iI known,iI file,iI office,iI party,iI other,iI number,iI amount,iI sn,iI sd,.slice Ad nd cd,.slice Ac nc cc,.slice Al nl cl,.slice Ae ne ce,iI fo,iI fn,nN,nN]] w fun e w'=>(∃ c:Int,e=.returned (.int .i64 c)∧((c=0∧good)∨(c=1∧¬ good)))∧Below w.heap.size w w':=by
 have HK:=Lib.hid (fun W=>refwithin_gen kn 0 21 W)
 have HD:=Lib.hid (fun W=>refwithin_gen day 0 131072 W)
 have HN:=Lib.hid (fun W=>refwithin_gen known 0 1099511627776 W)
 have HFi:=Lib.hid (fun W=>refwithin_gen file 0 4095 W)
 rw [hbk] at HK;clear hbk;generalize inR day 0 131072=b1 at *;generalize inR known 0 1099511627776=b2 at *;generalize inR file 0 4095=b3 at *;have bad:∀ (wx:World),Below w.heap.size w wx→¬ (bk=true∧b1=true∧b2=true∧b3=true∧bc=true∧fg)→(∃ c:Int,(Ending.returned (.int .i64 1))=.returned (.int .i64 c)∧((c=0∧good)∨(c=1∧¬ good)))∧Below w.heap.size w wx:=fun _ P h=>⟨⟨1,rfl,.inr ⟨rfl,fun g=>h (HGO.out.1 g)⟩⟩,P⟩
 have BAD:=Lib.hid bad;clear bad;have X0:=Blk.new w 41 #[iI kn,iI day,iI known,iI file,iI office,iI party,iI other,iI number,iI amount,iI sn,iI sd,.slice Ad nd cd,.slice Ac nc cc,.slice Al nl cl,.slice Ae ne ce,iI fo,iI fn,nN,nN];have P0:=below_new w (.cells #[iI kn,iI day,iI known,iI file,iI office,iI party,iI other,iI number,iI amount,iI sn,iI sd,.slice Ad nd cd,.slice Ac nc cc,.slice Al nl cl,.slice Ae ne ce,iI fo,iI fn,nN,nN] 41);go_enter Tryz.func77,Tryz.ntmps77
 go_wp2_with (refine wpList_loadA X0 rfl _ rfl rfl rfl ?_)
 refine (HBa.out _).mono ?_
 rintro e w1 ⟨⟨V,rfl,hcl⟩,hb1⟩;have HCl:=Lib.hid hcl;have X1:=X0.keep hb1;have P1:=below_up P0 hb1 P0.size;clear X0 P0 hb1 hcl;go_wp2_with fail;refine (HCl.out _).mono ?_
 rintro e w2 ⟨rfl,hb2⟩;have X2:=X1.keep hb2;have P2:=below_up P1 hb2 P1.size;clear X1 P1 hb2;have hc0:w2.cell? ⟨w.heap.size,0,none⟩=some (.int .i64 kn):=X2.cell 0;have hc1:w2.cell? ⟨w.heap.size,1,none⟩=some (.int .i64 day):=X2.cell 1;have hc2:w2.cell? ⟨w.heap.size,2,none⟩=some (.int .i64 known):=X2.cell 2;have hc3:w2.cell? ⟨w.heap.size,3,none⟩=some (.int .i64 file):=X2.cell 3;go_wp2_with fail;refine (HK.out _).mono ?_
 rintro e w3 ⟨rfl,e1⟩;have e1:=e1.symm;subst e1
 cases bk with
 | false =>
  go_wp2_with fail;go_ret;exact BAD.out _ P2 (fun h=>by cases h.1)
 | true =>
  go_wp2_with fail;refine (HD.out _).mono ?_
  rintro e w3 ⟨rfl,e1⟩;have e1:=e1.symm;subst e1
  cases b1 with
  | false =>
   go_wp2_with fail;go_ret;exact BAD.out _ P2 (fun h=>by cases h.2.1)
  | true =>
   go_wp2_with fail;refine (HN.out _).mono ?_
   rintro e w3 ⟨rfl,e1⟩;have e1:=e1.symm;subst e1
   cases b2 with
   | false =>
    go_wp2_with fail;go_ret;exact BAD.out _ P2 (fun h=>by cases h.2.2.1)
   | true =>
    go_wp2_with fail;refine (HFi.out _).mono ?_
    rintro e w3 ⟨rfl,e1⟩;have e1:=e1.symm;subst e1
    cases b3 with
    | false =>
     go_wp2_with fail;go_ret;exact BAD.out _ P2 (fun h=>by cases h.2.2.2.1)
    | true =>
     cases bc with
     | false =>
      go_wp2_with fail;go_ret;exact BAD.out _ P2 (fun h=>by cases h.2.2.2.2.1)
     | true =>
      have HFF:=Lib.hid (HF.out (by trivial) (by trivial))
      go_wp2_with (refine wpList_loadA X2 rfl _ rfl rfl rfl ?_)
      refine (HFF.out _ P2).mono ?_
      rintro e w3 ⟨⟨b,rfl,hb⟩,hb3⟩;have HB:=Lib.hid hb;have P3:=below_up P2 hb3 P2.size;clear hc0 hc1 hc2 hc3 hb
      cases b with
      | false =>
       go_wp2_with fail;go_ret;exact BAD.out _ P3 (fun h=>by have:=HB.out.2 h.2.2.2.2.2;first | cases this | exact this)
      | true =>
       go_wp2_with fail;go_ret;exact ⟨⟨0,rfl,.inl ⟨rfl,HGO.out.2 ⟨by trivial,by trivial,by trivial,by trivial,by trivial,HB.out.1 (by trivial)⟩⟩⟩,P3⟩
def leafF (op:Int):F:=.mk op 0 [] []
def leafOk (op:Int):Bool:=op == 0 || op == 1 || op == 2 || op == 4 || op == 5
theorem leaf_ok {op:Int} (h:leafOk op=true):OkF (leafF op):=by
 unfold leafOk at h;simp only [Bool.or_eq_true,beq_iff_eq] at h;refine ⟨by simp [leafF,F.size,sizeL],by simp [leafF,F.deep,deepL],fun y hy=>?_⟩
 have e:y=leafF op:=by simpa [leafF,F.nodes,nodesL] using hy
 subst e;unfold OkNode leafF F.op F.n F.ins F.kids;dsimp only;rcases h with (((h | h) | h) | h) | h
 ·exact .inl ⟨h,rfl,rfl,rfl⟩
 ·exact .inr (.inl ⟨h,by omega,rfl,rfl⟩)
 ·exact .inr (.inr (.inl ⟨h,by omega,⟨by simp,by simp⟩,rfl⟩))
 ·exact .inr (.inr (.inr (.inr ⟨.inl h,rfl,rfl⟩)))
 ·exact .inr (.inr (.inr (.inr ⟨.inr h,rfl,rfl⟩)))
section
variable (A1 A2:Option Addr) (c1 c2:Nat) (w:World)
theorem leaf3:Calls Tryz.prog 152 #[.agg #[.int .i64 3,.int .i64 0,.slice A1 0 c1,.slice A2 0 c2]] w fun e w'=>e=.returned (.bool false)∧Below w.heap.size w w':=by
 go_enter Tryz.func152,Tryz.ntmps152
 go_wp2;go_ret;exact ⟨rfl,below_new _ _⟩
theorem leaf6:Calls Tryz.prog 152 #[.agg #[.int .i64 6,.int .i64 0,.slice A1 0 c1,.slice A2 0 c2]] w fun e w'=>e=.returned (.bool false)∧Below w.heap.size w w':=by
 go_enter Tryz.func152,Tryz.ntmps152
 go_wp2;go_ret;exact ⟨rfl,below_new _ _⟩
theorem leaf_other (op:Int) (e0:(op == 0)=false) (e1:(op == 1)=false) (e2:(op == 2)=false) (e3:(op == 3)=false) (e4:(op == 4)=false) (e5:(op == 5)=false) (e6:(op == 6)=false):Calls Tryz.prog 152 #[.agg #[.int .i64 op,.int .i64 0,.slice A1 0 c1,.slice A2 0 c2]] w fun e w'=>e=.returned (.bool false)∧Below w.heap.size w w':=by
 have n0:(op != 0)=true:=by simpa using e0
 have n1:(op != 1)=true:=by simpa using e1
 have n2:(op != 2)=true:=by simpa using e2
 have n3:(op != 3)=true:=by simpa using e3
 have n4:(op != 4)=true:=by simpa using e4
 have n5:(op != 5)=true:=by simpa using e5
 have n6:(op != 6)=true:=by simpa using e6
 go_enter Tryz.func152,Tryz.ntmps152
 go_wp2;go_ret;exact ⟨rfl,below_new _ _⟩
end
theorem leaf_bad {op:Int} (h:leafOk op=false) (A1 A2:Option Addr) (c1 c2:Nat) (w:World):Calls Tryz.prog 152 #[.agg #[.int .i64 op,.int .i64 0,.slice A1 0 c1,.slice A2 0 c2]] w fun e w'=>e=.returned (.bool false)∧Below w.heap.size w w':=by
 unfold leafOk at h;simp only [Bool.or_eq_false_iff] at h;obtain ⟨⟨⟨⟨e0,e1⟩,e2⟩,e4⟩,e5⟩:=h;by_cases h3:op=3
 ·subst h3
  exact leaf3 A1 A2 c1 c2 w
 ·by_cases h6:op=6
  ·subst h6
   exact leaf6 A1 A2 c1 c2 w
  ·exact leaf_other A1 A2 c1 c2 w op e0 e1 e2 (by simpa using h3) e4 e5 (by simpa using h6)
theorem valid_leaf (w:World) (B:Nat) (hBw:B≤w.heap.size) (x:FNode w B) (op:Int) (hx:x.t=leafF op) (hop:leafOk op=false) :
  Calls Tryz.prog 106 #[.agg #[x.a,x.b,x.c,x.d]] w fun e w'=>e=.returned (.int .i64 1)∧Below w.heap.size w w':=by
 have hs1:x.t.size=1:=by rw [hx];simp [leafF,F.size,sizeL]
 have hd1:x.t.deep=1:=by rw [hx];simp [leafF,F.deep,deepL]
 have hnodes:x.t.nodes=[x.t]:=by rw [hx];simp [leafF,F.nodes,nodesL]
 have HO:=Lib.hid (show x.t=leafF op from hx)
 have hs':(x.t.size:Int)≤96:=by omega
 have hd':(x.t.deep:Int)≤8:=by omega
 have hs6:x.t.size≤1000000:=by omega
 have g1:decide ((96:Int)<(x.t.size:Int))=false:=by simp;omega
 have g2:decide ((8:Int)<(x.t.deep:Int))=false:=by simp;omega
 have HN:=Lib.hid hnodes;have HOP:=Lib.hid hop;clear hs1 hd1 hnodes hx hop;refine (callsIn_wide (n:=5)).1 ?_
 refine callsIn_of_wp_marks Tryz.func106 rfl trivial ?_ rfl
 simp only [Tryz.ntmps106,List.size_toArray,List.length_cons,List.length_nil,Nat.reduceAdd,Nat.reduceSub,Array.replicate_succ,Array.replicate_zero,List.push_toArray,List.append_toArray,List.nil_append,List.cons_append];have B0:=(Blk.new w 39 #[x.a,x.b,x.c,x.d]).alloc (.cells #[.int .i64 0] 47);have R0:=Blk.new (w.alloc (.cells #[x.a,x.b,x.c,x.d] 39)) 47 #[.int .i64 0];rw [World.size_alloc] at R0;have HB0:=(below_new w (.cells #[x.a,x.b,x.c,x.d] 39)).alloc (by simp) (.cells #[.int .i64 0] 47)
 gi_wp2_with fail
 generalize (w.alloc (.cells #[x.a,x.b,x.c,x.d] 39)).alloc (.cells #[.int .i64 0] 47)=W0 at *;have HK:∀ W,Below w.heap.size w W→∀ p:Addr,p.block<B→W.cell? p=w.cell? p:=fun W hW p hp=>hW.cell (Nat.lt_of_lt_of_le hp hBw)
 have HKH:=Lib.hid HK;clear HK;refine ⟨trivial,?_⟩
 refine (callsIn_wide.2 (size_at x W0 (HKH.out _ HB0) (Nat.le_trans hBw HB0.size) hs6)).mono ?_
 rintro e w1 ⟨rfl,hb1⟩;have HB1:=HB0.trans (hb1.mono HB0.size);have B1:=B0.keep hb1;have R1:=R0.keep hb1;have c1:=B1.c4;clear B0 R0 HB0 hb1
 gi_wp2_with fail
 refine ⟨trivial,?_⟩
 refine (callsIn_wide.2 (deep_at x w1 (HKH.out _ HB1) (Nat.le_trans hBw HB1.size) hs6)).mono ?_
 rintro e w2 ⟨rfl,hb2⟩;have HB2:=HB1.trans (hb2.mono HB1.size);have B2:=B1.keep hb2;have R2:=R1.keep hb2;have c2:=B2.c4;clear B1 R1 HB1 hb2 c1
 gi_wp2_with (refine ⟨trivial,?_⟩;gi_at_call 107;refine (callsIn_wide.2 (nodes_any _ _ _ _ _)).mono ?_;rintro e w' ⟨rfl,rfl⟩)
 have R3:=R2.alloc (.cells #[x.a,x.b,x.c,x.d] 39);have B3:=Blk.new w2 39 #[x.a,x.b,x.c,x.d];have HB3:=HB2.alloc HB2.size (.cells #[x.a,x.b,x.c,x.d] 39);have hz:=World.size_alloc w2 (.cells #[x.a,x.b,x.c,x.d] 39);generalize w2.alloc (.cells #[x.a,x.b,x.c,x.d] 39)=w3 at *;clear R2 B2 c2;have hz2:=HB2.size;generalize w2.heap.size=H2 at *
 refine wpIn_rangeFunc_ownH rfl (by omega) (gf:=153) (lb:=#[.pointer (some ⟨H2,0,none⟩)]) rfl trivial (enters_of Tryz.func153 (by kernel_rfl) rfl)
  (nodes_stops (fun t=>t=leafF op) (fun t ht k hk=>by subst ht;simp [leafF,F.kids] at hk) (5 - 1) w B hBw x HO.out hs6 H2 w3 B3 (KeepT.below HB3 hBw)) KeepT.trans (KeepT.put (Nat.le_trans hBw HB3.size)) (Below.refl _ _) (fun _=>rfl)
  (fun pre W=>(pre=[]∧Blk W (w.heap.size+1) 47 #[.int .i64 0])∧Below w.heap.size w W)
  (fun c _ W=>(c=.ret∧Blk W (w.heap.size+1) 47 #[.int .i64 1])∧Below w.heap.size w W)
  (OwnFrom.and (OwnFrom.and (ownFrom_pure _ _) (Own.from (blk_own _ _ (fun _=>#[.int .i64 0])) _)) (ownFrom_below (Nat.le_refl _) HB3.size))
  (fun c=>OwnFrom.and (OwnFrom.and (ownFrom_pure _ _) (Own.from (blk_own _ _ (fun _=>#[.int .i64 1])) _)) (ownFrom_below (Nat.le_refl _) HB3.size))
  ⟨⟨rfl,R3⟩,HB3⟩
  (fun y a' W=>∃ Bx,Blk W Bx 39 #[y.1.a,y.1.b,y.1.c,y.1.d]∧a'={ tmps:=#[.agg #[x.a,x.b,x.c,x.d],.pointer (some ⟨w.heap.size,0,none⟩),.pointer (some ⟨w.heap.size+1,0,none⟩),.pointer (some ⟨Bx,0,none⟩),.agg #[x.a,x.b,x.c,x.d],.int .i64 (x.t.size:Int),.bool false,.bool false,.agg #[x.a,x.b,x.c,x.d],.int .i64 (x.t.deep:Int),.bool false,.bool false,.agg #[x.a,x.b,x.c,x.d],.func (.func 153) #[] #[.pointer (some ⟨H2,0,none⟩)],.agg #[y.1.a,y.1.b,y.1.c,y.1.d],undef,undef,undef],defers:=[] })
  (fun y a' _ X Y row hs hg hr=>by obtain ⟨Bx,h2,h3⟩:=hs;exact ⟨Bx,blk_own Bx 39 (fun (_:Unit)=>#[y.1.a,y.1.b,y.1.c,y.1.d]) () X Y row h2 hg (fun r e=>(hr r e).2),h3⟩)
  ?assign ?body ?done ?stop
 case assign =>
  rintro l pre y W K ⟨⟨hp,hv⟩,hB⟩ hK;obtain ⟨A1,n1,q1,A2,n2,q2,e1,e2,e3,e4⟩:=node_form y.1.h
  gi_wp2_with fail
  rw [← e1,← e2,← e3,← e4];exact hK _ _ ((KeepsOthers.alloc _ _).from _) (KeepT.alloc W (Nat.le_trans hBw hB.size) _) ⟨⟨hp,hv.alloc _⟩,hB.alloc hB.size _⟩ ⟨W.heap.size,Blk.new W _ _,rfl⟩
 case body =>
  rintro l pre y a' W hl ⟨r,hr⟩ ⟨⟨hp,hv⟩,hB⟩ ⟨Bx,bX,rfl⟩ hlt;have hyt:y.1.t=leafF op:=y.2;obtain ⟨f1,f2,r3,r4⟩:=y.1.parts;obtain ⟨A1,q1,f3,_,_⟩:=r3.ivs;obtain ⟨A2,q2,f4,_,_⟩:=r4.formulas;rw [hyt] at f1 f2 f3 f4;rw [f1,f2,f3,f4] at bX;have hc:=bX.c4;have hcv:=hv.c1;have HF:=Lib.hid (leaf_bad HOP.out A1 A2 q1 q2 W);rw [f1,f2,f3,f4];clear f1 f2 f3 f4 r3 r4 hyt;unfold leafF F.op F.n F.ins F.kids at *;dsimp only [List.length_nil] at *
  gi_wp2_with (refine ⟨trivial,?_⟩;gi_at_call 152;refine (CallsIn.inRound l (callsIn_wide.2 HF.out)).mono ?_;rintro e w' ⟨rfl,hb'⟩;have hv1:=hv.keep hb';have hcv1:=hv1.c1)
  exact ⟨((KeepsW.others (KeepsW.below hb' (Nat.le_refl _) hB.size)).trans (KeepsOthers.setCell _ _ _)).from _,⟨rfl,hv1.set1 (.int .i64 1)⟩,(hB.trans (hb'.mono hB.size)).setCell (p:=⟨w.heap.size+1,0,none⟩) (by simp) (.int .i64 1)⟩
 case done =>
  rintro D ys W hD hys ⟨⟨rfl,hv⟩,hB⟩ hK;rw [HN.out] at hys;cases hys
 case stop =>
  rintro D c pre W hD hpre ⟨⟨rfl,hv⟩,hB⟩ hK
  gi_wp2_with fail
  have hv2:=hv.grown (grownBy_putObj' _ D (.deferred none)) (fun e=>by
   cases e
   unfold Blk at hv;rw [hv] at hK;cases hK)
  refine ⟨by simp,.inl ⟨_,_,rfl,run_takeDeferred hK,?_⟩⟩
  refine ⟨.int .i64 1,?_,rfl,hB.trans (belowK_b (w:=w) (Nat.le_refl _) _ D _ _ (Nat.le_trans HB3.size hD) hK rfl rfl)⟩
  have hc5:=hv2.c1;simp [results,Tryz.f106,go_sem,hc5.1]
section
variable (A1 A2:Option Addr) (c1 c2:Nat) (w:World)
theorem refleaf3:Calls Tryz.prog 201 #[.agg #[.int .i64 3,.int .i64 0,.slice A1 0 c1,.slice A2 0 c2]] w fun e w'=>e=.returned (.bool false)∧Below w.heap.size w w':=by
 go_enter Tryz.func201,Tryz.ntmps201
 go_wp2;go_ret;exact ⟨rfl,below_new _ _⟩
theorem refleaf6:Calls Tryz.prog 201 #[.agg #[.int .i64 6,.int .i64 0,.slice A1 0 c1,.slice A2 0 c2]] w fun e w'=>e=.returned (.bool false)∧Below w.heap.size w w':=by
 go_enter Tryz.func201,Tryz.ntmps201
 go_wp2;go_ret;exact ⟨rfl,below_new _ _⟩
theorem refleaf_other (op:Int) (e0:(op == 0)=false) (e1:(op == 1)=false) (e2:(op == 2)=false) (e3:(op == 3)=false) (e4:(op == 4)=false) (e5:(op == 5)=false) (e6:(op == 6)=false):Calls Tryz.prog 201 #[.agg #[.int .i64 op,.int .i64 0,.slice A1 0 c1,.slice A2 0 c2]] w fun e w'=>e=.returned (.bool false)∧Below w.heap.size w w':=by
 have n0:(op != 0)=true:=by simpa using e0
 have n1:(op != 1)=true:=by simpa using e1
 have n2:(op != 2)=true:=by simpa using e2
 have n3:(op != 3)=true:=by simpa using e3
 have n4:(op != 4)=true:=by simpa using e4
 have n5:(op != 5)=true:=by simpa using e5
 have n6:(op != 6)=true:=by simpa using e6
 go_enter Tryz.func201,Tryz.ntmps201
 go_wp2;go_ret;exact ⟨rfl,below_new _ _⟩
end
theorem refleaf_bad {op:Int} (h:leafOk op=false) (A1 A2:Option Addr) (c1 c2:Nat) (w:World):Calls Tryz.prog 201 #[.agg #[.int .i64 op,.int .i64 0,.slice A1 0 c1,.slice A2 0 c2]] w fun e w'=>e=.returned (.bool false)∧Below w.heap.size w w':=by
 unfold leafOk at h;simp only [Bool.or_eq_false_iff] at h;obtain ⟨⟨⟨⟨e0,e1⟩,e2⟩,e4⟩,e5⟩:=h;by_cases h3:op=3
 ·subst h3
  exact refleaf3 A1 A2 c1 c2 w
 ·by_cases h6:op=6
  ·subst h6
   exact refleaf6 A1 A2 c1 c2 w
  ·exact refleaf_other A1 A2 c1 c2 w op e0 e1 e2 (by simpa using h3) e4 e5 (by simpa using h6)
theorem whole_leaf {op:Int} (h:leafOk op=false) (A1 A2:Option Addr) (c1 c2:Nat) (w:World):Calls Tryz.prog 183 #[.agg #[.int .i64 op,.int .i64 0,.slice A1 0 c1,.slice A2 0 c2]] w fun e w'=>e=.returned (.bool false)∧Below w.heap.size w w':=by
 have HF:=Lib.hid (fun W=>refleaf_bad h A1 A2 c1 c2 W)
 have P0:=below_new w (.cells #[.int .i64 op,.int .i64 0,.slice A1 0 c1,.slice A2 0 c2] 39);clear h;go_enter Tryz.func183,Tryz.ntmps183
 go_wp2_with fail;refine (HF.out _).mono ?_
 rintro e w1 ⟨rfl,hb1⟩;have P1:=below_up P0 hb1 P0.size;go_wp2_with fail;go_ret;exact ⟨rfl,P1⟩
theorem refvalid_leaf (w:World) (B:Nat) (hBw:B≤w.heap.size) (x:FNode w B) (op:Int) (hx:x.t=leafF op) (hop:leafOk op=false) :
  Calls Tryz.prog 161 #[.agg #[x.a,x.b,x.c,x.d]] w fun e w'=>e=.returned (.int .i64 1)∧Below w.heap.size w w':=by
 have hs1:x.t.size=1:=by rw [hx];simp [leafF,F.size,sizeL]
 have hd1:x.t.deep=1:=by rw [hx];simp [leafF,F.deep,deepL]
 have HX:=Lib.hid (fun (W:World) (hb:Below w.heap.size w W)=>refsize_any x.t.size W B (x.up (B':=B) (fun p hp=>hb.cell (Nat.lt_of_lt_of_le hp hBw)) (Nat.le_refl _)) (Nat.le_trans hBw hb.size) (Nat.le_refl _) (by omega))
 have HD:=Lib.hid (fun (W:World) (hb:Below w.heap.size w W)=>refdeep_any x.t.size W B (x.up (B':=B) (fun p hp=>hb.cell (Nat.lt_of_lt_of_le hp hBw)) (Nat.le_refl _)) (Nat.le_trans hBw hb.size) (Nat.le_refl _) (by omega))
 obtain ⟨f1,f2,r3,r4⟩:=x.parts;obtain ⟨A1,q1,f3,_,_⟩:=r3.ivs;obtain ⟨A2,q2,f4,_,_⟩:=r4.formulas;obtain ⟨xa,xb,xc,xd,xt,xh⟩:=x;dsimp only [FNode.up] at *;subst hx;clear r3 r4 xh;have HW:=Lib.hid (fun (W:World)=>whole_leaf hop A1 A2 q1 q2 W)
 simp only [leafF,F.op,F.n,F.ins,F.kids,List.length_nil] at f1 f2 f3 f4;subst f1 f2 f3 f4;rw [hs1] at HX;rw [hd1] at HD;clear hop hs1 hd1;have B0:=Blk.new w 39 #[.int .i64 op,.int .i64 0,.slice A1 0 q1,.slice A2 0 q2];have P0:=below_new w (.cells #[.int .i64 op,.int .i64 0,.slice A1 0 q1,.slice A2 0 q2] 39);go_enter Tryz.func161,Tryz.ntmps161
 go_wp2_with fail;refine (HX.out _ P0).mono ?_
 rintro e w1 ⟨rfl,hb1⟩;have B1:=B0.keep hb1;have P1:=below_up P0 hb1 P0.size;have hc1:=B1.c4;clear B0 P0 hb1;go_wp2_with fail;refine (HD.out _ P1).mono ?_
 rintro e w2 ⟨rfl,hb2⟩;have B2:=B1.keep hb2;have P2:=below_up P1 hb2 P1.size;have hc2:=B2.c4;clear B1 P1 hb2 hc1;go_wp2_with fail;refine (HW.out _).mono ?_
 rintro e w3 ⟨rfl,hb3⟩;have P3:=below_up P2 hb3 P2.size;go_wp2_with fail;go_ret;exact ⟨rfl,P3⟩
theorem leaf_slice {w:World} {B:Nat} {dv:Value} {op:Int} (hd:Rep w B dv (.s 4 ([leafF op].flatMap F.cells))):∃ (b o q:Nat) (y:FNode w B),dv=.slice (some ⟨b,o,none⟩) 1 q∧b<B∧y.t=leafF op∧w.cell? ⟨b,o,none⟩=some y.a∧w.cell? ⟨b,o+1,none⟩=some y.b∧w.cell? ⟨b,o+2,none⟩=some y.c∧w.cell? ⟨b,o+3,none⟩=some y.d:=by
 obtain ⟨A,q,rfl,_,hcell⟩:=hd.formulas;obtain ⟨b,o,y,rfl,hb,hy,c0,c1,c2,c3⟩:=hcell 0 (by simp)
 simp only [Nat.zero_mul,Nat.add_zero] at c0 c1 c2 c3;exact ⟨b,o,q,y,rfl,hb,hy,c0,c1,c2,c3⟩
theorem disclosed_leaf (op:Int) (hop:leafOk op=false) (dv:Value) (A2:Option Addr) (n2 q2:Nat) (w:World) (B:Nat) (hBw:B≤w.heap.size) (hd:Rep w B dv (.s 4 ([leafF op].flatMap F.cells))) :
  Calls Tryz.prog 149 #[.agg #[dv,.slice A2 n2 q2]] w fun e w'=>∃ u,e=.returned (.tuple #[u,.int .i64 1])∧Below w.heap.size w w':=by
 obtain ⟨b,o,q,y,rfl,hb,hy,c0,c1,c2,c3⟩:=leaf_slice hd;have HF:=Lib.hid (fun (W:World) (hW:Below w.heap.size w W)=>valid_leaf W B (Nat.le_trans hBw hW.size) (y.up (fun p hp=>hW.cell (Nat.lt_of_lt_of_le hp hBw)) (Nat.le_refl _)) op hy hop)
 have hb':b<w.heap.size:=Nat.lt_of_lt_of_le hb hBw;have P0:=below_new w (.cells #[.slice (some ⟨b,o,none⟩) 1 q,.slice A2 n2 q2] 35);have e0:=(P0.cell (p:=⟨b,o,none⟩) hb').trans c0;have e1:=(P0.cell (p:=⟨b,o+1,none⟩) hb').trans c1;have e2:=(P0.cell (p:=⟨b,o+2,none⟩) hb').trans c2;have e3:=(P0.cell (p:=⟨b,o+3,none⟩) hb').trans c3;obtain ⟨A3,n3,q3,A4,n4,q4,f1,f2,f3,f4⟩:=node_form y.h;dsimp only [FNode.up] at HF;rw [f1,f2,f3,f4] at HF;rw [f1] at e0;rw [f2] at e1;rw [f3] at e2;rw [f4] at e3;clear c0 c1 c2 c3 f1 f2 f3 f4 hy hop hd;generalize y.t.op=op at *;generalize y.t.n=nn at *;have X0:=Blk.new w 35 #[.slice (some ⟨b,o,none⟩) 1 q,.slice A2 n2 q2];have hcx:=X0.c2;go_enter Tryz.func149,Tryz.ntmps149
 go_wp2_with fail;clear hcx;generalize w.alloc (.cells #[.slice (some ⟨b,o,none⟩) 1 q,.slice A2 n2 q2] 35)=w0 at *;go_loopw [19] (fun i wr=>i=.int .i64 0∧wr=w0) (fun i _=>1 - (intOf i).toNat)
 case atStart=>exact ⟨rfl,rfl⟩
 case round =>
  obtain ⟨rfl,rfl⟩:=hrel;have Q0:=P0.alloc P0.size (.cells #[.int .i64 op,.int .i64 nn,.slice A3 n3 q3,.slice A4 n4 q4] 39);go_wp2_with fail;refine (HF.out _ Q0).mono ?_
  rintro e w2 ⟨rfl,hb2⟩;have Q2:=below_up Q0 hb2 Q0.size;clear e0 e1 e2 e3;go_wp2_with fail;exact bodyPost_ret (results_tmp2 rfl _ _ _) rfl ⟨_,rfl,Q2⟩
theorem textvalid_leaf (op:Int) (hop:leafOk op=false) (dv:Value) (A2:Option Addr) (n2 q2:Nat) (w:World) (B:Nat) (hBw:B≤w.heap.size) (hd:Rep w B dv (.s 4 ([leafF op].flatMap F.cells))) :
  Calls Tryz.prog 104 #[.agg #[dv,.slice A2 n2 q2]] w fun e w'=>e=.returned (.int .i64 1)∧Below w.heap.size w w':=by
 have HD:=Lib.hid (fun (W:World) (hW:Below w.heap.size w W)=>disclosed_leaf op hop dv A2 n2 q2 W B (Nat.le_trans hBw hW.size) (hd.keep (fun p hp=>hW.cell (Nat.lt_of_lt_of_le hp hBw)) (Nat.le_refl _)))
 obtain ⟨A,q,rfl,_,_⟩:=hd.formulas;simp only [List.length_singleton] at HD ⊢;have P0:=below_new w (.cells #[.slice A 1 q,.slice A2 n2 q2] 35);clear hd hop;go_enter Tryz.func104,Tryz.ntmps104
 go_wp2_with fail;refine (HD.out _ P0).mono ?_
 rintro e w2 ⟨u,rfl,hb2⟩;have Q2:=below_up P0 hb2 P0.size;go_wp2_with fail;go_ret;exact ⟨rfl,Q2⟩
theorem refdisclosed_leaf (op:Int) (hop:leafOk op=false) (dv:Value) (A2:Option Addr) (n2 q2:Nat) (w:World) (B:Nat) (hBw:B≤w.heap.size) (hd:Rep w B dv (.s 4 ([leafF op].flatMap F.cells))) :
  Calls Tryz.prog 180 #[.agg #[dv,.slice A2 n2 q2]] w fun e w'=>∃ u,e=.returned (.tuple #[u,.int .i64 1])∧Below w.heap.size w w':=by
 obtain ⟨b,o,q,y,rfl,hb,hy,c0,c1,c2,c3⟩:=leaf_slice hd;have HF:=Lib.hid (fun (W:World) (hW:Below w.heap.size w W)=>refvalid_leaf W B (Nat.le_trans hBw hW.size) (y.up (fun p hp=>hW.cell (Nat.lt_of_lt_of_le hp hBw)) (Nat.le_refl _)) op hy hop)
 have hb':b<w.heap.size:=Nat.lt_of_lt_of_le hb hBw;have P0:=below_new w (.cells #[.slice (some ⟨b,o,none⟩) 1 q,.slice A2 n2 q2] 35);have e0:=(P0.cell (p:=⟨b,o,none⟩) hb').trans c0;have e1:=(P0.cell (p:=⟨b,o+1,none⟩) hb').trans c1;have e2:=(P0.cell (p:=⟨b,o+2,none⟩) hb').trans c2;have e3:=(P0.cell (p:=⟨b,o+3,none⟩) hb').trans c3;obtain ⟨A3,n3,q3,A4,n4,q4,f1,f2,f3,f4⟩:=node_form y.h;dsimp only [FNode.up] at HF;rw [f1,f2,f3,f4] at HF;rw [f1] at e0;rw [f2] at e1;rw [f3] at e2;rw [f4] at e3;clear c0 c1 c2 c3 f1 f2 f3 f4 hy hop hd;generalize y.t.op=op at *;generalize y.t.n=nn at *;have X0:=Blk.new w 35 #[.slice (some ⟨b,o,none⟩) 1 q,.slice A2 n2 q2];have hcx:=X0.c2;go_enter Tryz.func180,Tryz.ntmps180
 go_wp2_with fail;clear hcx;generalize w.alloc (.cells #[.slice (some ⟨b,o,none⟩) 1 q,.slice A2 n2 q2] 35)=w0 at *;go_loopw [4,5] (fun u i wr=>u=.slice none 0 0∧i=.int .i64 0∧wr=w0) (fun _ i _=>1 - (intOf i).toNat)
 case atStart=>exact ⟨rfl,rfl,rfl⟩
 case round =>
  obtain ⟨rfl,rfl,rfl⟩:=hrel;have hcx:=X0.c2;go_wp2_with fail;refine (HF.out _ P0).mono ?_
  rintro e w2 ⟨rfl,hb2⟩;have Q2:=below_up P0 hb2 P0.size;clear e0 e1 e2 e3 hcx;go_wp2_with fail;exact bodyPost_ret (results_tmp2 rfl _ _ _) rfl ⟨_,rfl,Q2⟩
theorem reftextvalid_leaf (op:Int) (hop:leafOk op=false) (dv:Value) (A2:Option Addr) (n2 q2:Nat) (w:World) (B:Nat) (hBw:B≤w.heap.size) (hd:Rep w B dv (.s 4 ([leafF op].flatMap F.cells))) :
  Calls Tryz.prog 160 #[.agg #[dv,.slice A2 n2 q2]] w fun e w'=>e=.returned (.int .i64 1)∧Below w.heap.size w w':=by
 have HD:=Lib.hid (fun (W:World) (hW:Below w.heap.size w W)=>refdisclosed_leaf op hop dv A2 n2 q2 W B (Nat.le_trans hBw hW.size) (hd.keep (fun p hp=>hW.cell (Nat.lt_of_lt_of_le hp hBw)) (Nat.le_refl _)))
 obtain ⟨A,q,rfl,_,_⟩:=hd.formulas;simp only [List.length_singleton] at HD ⊢;have P0:=below_new w (.cells #[.slice A 1 q,.slice A2 n2 q2] 35);clear hd hop;go_enter Tryz.func160,Tryz.ntmps160
 go_wp2_with fail;refine (HD.out _ P0).mono ?_
 rintro e w2 ⟨u,rfl,hb2⟩;have Q2:=below_up P0 hb2 P0.size;go_wp2_with fail;go_ret;exact ⟨rfl,Q2⟩
theorem aformed_gen (day known file office party other number amount sn sd fo fn:Int) (Ad Ac Al:Option Addr) (nd cd nc cc nl cl:Nat) (el:List (Int × Int)) (ev:Value) (hel:el.length≤8) (hfi:-9223372036854775808≤file∧file≤9223372036854775807) (hep:∀ p∈el,-9223372036854775808≤p.1∧p.1≤9223372036854775807) (tv:Int) (w:World) (B:Nat) (hBw:B≤w.heap.size) (he:Rep w B ev (.s 2 (prD el)))
  (HV:Hid (∀ W,Below w.heap.size w W→Calls Tryz.prog 104 #[.agg #[.slice Ad nd cd,.slice Ac nc cc]] W fun e w'=>e=.returned (.int .i64 tv)∧Below W.heap.size W w')) :
  Calls Tryz.prog 102 #[.agg (actV 0 day known file office party other number amount sn sd (.slice Ad nd cd) (.slice Ac nc cc) (.slice Al nl cl) ev fo fn)] w fun e w'=>(∃ b:Bool,e=.returned (.bool b)∧(b=true↔FilGood file other tv el))∧Below w.heap.size w w':=by
 have HF:=Lib.hid (fun (W:World) (hW:Below w.heap.size w W)=>afiling_gen 0 day known file office party other number amount sn sd fo fn Ad Ac Al nd cd nc cc nl cl el ev hel hfi hep tv W B (Nat.le_trans hBw hW.size) (he.keep (fun p hp=>hW.cell (Nat.lt_of_lt_of_le hp hBw)) (Nat.le_refl _)) (Lib.hid (fun V hV=>HV.out V (hW.trans (hV.mono hW.size)))))
 clear he hBw HV hel hfi hep;unfold actV at *;generalize FilGood file other tv el=fg at *;have X0:=Blk.new w 41 #[iI 0,iI day,iI known,iI file,iI office,iI party,iI other,iI number,iI amount,iI sn,iI sd,.slice Ad nd cd,.slice Ac nc cc,.slice Al nl cl,ev,iI fo,iI fn,nN,nN];have P0:=below_new w (.cells #[iI 0,iI day,iI known,iI file,iI office,iI party,iI other,iI number,iI amount,iI sn,iI sd,.slice Ad nd cd,.slice Ac nc cc,.slice Al nl cl,ev,iI fo,iI fn,nN,nN] 41);have hcell:=X0.cell 0;go_enter Tryz.func102,Tryz.ntmps102
 go_wp2_with (refine wpList_loadA X0 rfl _ rfl rfl rfl ?_)
 refine (HF.out _ P0).mono ?_
 rintro e w1 ⟨⟨b,rfl,hb⟩,hb1⟩;have P1:=below_up P0 hb1 P0.size;have HB:=Lib.hid hb;clear hcell hb;go_wp2_with fail;go_ret;exact ⟨⟨b,rfl,HB.out⟩,P1⟩
def ActGood (day known file office party:Int) (bb:Bool) (fg:Prop):Prop:=inR day 0 131072=true∧inR known 0 1099511627776=true∧bb=true∧inR file 0 4095=true∧inR office 0 11=true∧inR party 1 4095=true∧fg
theorem avalid_core (day known file office party other number amount sn sd fo fn:Int) (dv cv lv ev:Value) (bb:Bool) (fg:Prop) (w:World) (hT:TabAt w)
  (HBa:Hid (∀ W,Below w.heap.size w W→Calls Tryz.prog 100 #[.agg #[iI 0,iI day,iI known,iI file,iI office,iI party,iI other,iI number,iI amount,iI sn,iI sd,dv,cv,lv,ev,iI fo,iI fn,nN,nN]] W fun e w'=>e=.returned (.bool bb)∧Below W.heap.size W w'))
  (HF:Hid (∀ W,Below w.heap.size w W→Calls Tryz.prog 102 #[.agg #[iI 0,iI day,iI known,iI file,iI office,iI party,iI other,iI number,iI amount,iI sn,iI sd,dv,cv,lv,ev,iI fo,iI fn,nN,nN]] W fun e w'=>(∃ b:Bool,e=.returned (.bool b)∧(b=true↔fg))∧Below W.heap.size W w')) :
  Calls Tryz.prog 49 #[.agg #[iI 0,iI day,iI known,iI file,iI office,iI party,iI other,iI number,iI amount,iI sn,iI sd,dv,cv,lv,ev,iI fo,iI fn,nN,nN]] w fun e w'=>(∃ c:Int,e=.returned (.int .i64 c)∧((c=0∧ActGood day known file office party bb fg)∨(c=1∧¬ ActGood day known file office party bb fg)))∧Below w.heap.size w w':=by
 obtain ⟨good,hgood⟩:∃ p:Prop,p=ActGood day known file office party bb fg:=⟨_,rfl⟩;rw [← hgood];have HGO:=Lib.hid hgood;clear hgood;have hG:=hT.zero;have h0:=hT.2;have HK:=Lib.hid (fun W=>actwithin_any 0 0 21 (by omega) (by omega) W)
 have HD:=Lib.hid (fun W=>within_gen day 0 131072 W)
 have HN:=Lib.hid (fun W=>within_gen known 0 1099511627776 W)
 have HFi:=Lib.hid (fun W=>within_gen file 0 4095 W)
 have HOf:=Lib.hid (fun W=>within_gen office 0 11 W)
 have HPa:=Lib.hid (fun W=>within_gen party 1 4095 W)
 unfold ActGood at HGO;generalize inR day 0 131072=b1 at *;generalize inR known 0 1099511627776=b2 at *;generalize inR file 0 4095=b3 at *;generalize inR office 0 11=b4 at *;generalize inR party 1 4095=b5 at *;have X0:=Blk.new w 41 #[iI 0,iI day,iI known,iI file,iI office,iI party,iI other,iI number,iI amount,iI sn,iI sd,dv,cv,lv,ev,iI fo,iI fn,nN,nN];have P0:=below_new w (.cells #[iI 0,iI day,iI known,iI file,iI office,iI party,iI other,iI number,iI amount,iI sn,iI sd,dv,cv,lv,ev,iI fo,iI fn,nN,nN] 41);have hcell:=X0.c19;have bad:∀ (wx:World),Below w.heap.size w wx→¬ (b1=true∧b2=true∧bb=true∧b3=true∧b4=true∧b5=true∧fg)→(∃ c:Int,(Ending.returned (.int .i64 1))=.returned (.int .i64 c)∧((c=0∧good)∨(c=1∧¬ good)))∧Below w.heap.size w wx:=fun _ P h=>⟨⟨1,rfl,.inr ⟨rfl,by rw [HGO.out];exact h⟩⟩,P⟩
 have BAD:=Lib.hid bad;clear bad;go_enter Tryz.func49,Tryz.ntmps49
 go_wp2_with fail;refine (HK.out _).mono ?_
 rintro e w1 ⟨rfl,rfl⟩;go_wp2_with fail;refine (HD.out _).mono ?_
 rintro e w1 ⟨rfl,rfl⟩
 cases b1 with
 | false =>
  go_wp2_with fail;go_ret;exact BAD.out _ P0 (fun h=>by cases h.1)
 | true =>
  go_wp2_with fail;refine (HN.out _).mono ?_
  rintro e w2 ⟨rfl,rfl⟩
  cases b2 with
  | false =>
   go_wp2_with fail;go_ret;exact BAD.out _ P0 (fun h=>by cases h.2.1)
  | true =>
   go_wp2_with (refine wpList_loadA X0 rfl _ rfl rfl rfl ?_)
   refine (HBa.out _ P0).mono ?_
   rintro e w1 ⟨rfl,hb1⟩;have X1:=X0.keep hb1;have P1:=below_up P0 hb1 P0.size;clear hcell X0 P0 hb1;have hcell:=X1.c19;have HH1:=Lib.hid (fun k (hk:k=1∨k=2∨k=4)=>has_any k hk w.heap.size w1 (X1.cell 0) ((P1.cell (p:=⟨0,0,none⟩) h0).trans hG))
   cases bb with
   | false =>
    go_wp2_with fail;go_ret;exact BAD.out _ P1 (fun h=>by cases h.2.2.1)
   | true =>
    go_wp2_with fail;refine (HH1.out 1 (by omega)).mono ?_
    rintro e w2 ⟨rfl,rfl⟩;go_wp2_with fail;refine (HFi.out _).mono ?_
    rintro e w2 ⟨rfl,rfl⟩
    cases b3 with
    | false =>
     go_wp2_with fail;go_ret;exact BAD.out _ P1 (fun h=>by cases h.2.2.2.1)
    | true =>
     go_wp2_with fail;refine (HH1.out 2 (by omega)).mono ?_
     rintro e w2 ⟨rfl,rfl⟩;go_wp2_with fail;refine (HOf.out _).mono ?_
     rintro e w2 ⟨rfl,rfl⟩
     cases b4 with
     | false =>
      go_wp2_with fail;go_ret;exact BAD.out _ P1 (fun h=>by cases h.2.2.2.2.1)
     | true =>
      go_wp2_with fail;refine (HH1.out 4 (by omega)).mono ?_
      rintro e w2 ⟨rfl,rfl⟩;go_wp2_with fail;refine (HPa.out _).mono ?_
      rintro e w2 ⟨rfl,rfl⟩
      cases b5 with
      | false =>
       go_wp2_with fail;go_ret;exact BAD.out _ P1 (fun h=>by cases h.2.2.2.2.2.1)
      | true =>
       go_wp2_with (refine wpList_loadA X1 rfl _ rfl rfl rfl ?_)
       refine (HF.out _ P1).mono ?_
       rintro e w3 ⟨⟨b,rfl,hb⟩,hb3⟩;have HB:=Lib.hid hb;have P3:=below_up P1 hb3 P1.size;clear hcell hb
       cases b with
       | false =>
        go_wp2_with fail;go_ret;exact BAD.out _ P3 (fun h=>by have:=HB.out.2 h.2.2.2.2.2.2;first | cases this | exact this)
       | true =>
        go_wp2_with fail;go_ret;exact ⟨⟨0,rfl,.inl ⟨rfl,by rw [HGO.out];refine ⟨?_,?_,?_,?_,?_,?_,HB.out.1 (by first | rfl | trivial)⟩ <;> first | rfl | trivial⟩⟩,P3⟩
theorem avalid_out (kn day known file office party other number amount sn sd fo fn:Int) (hk:inR kn 0 21=false) (dv cv lv ev:Value) (w:World) :
  Calls Tryz.prog 49 #[.agg #[iI kn,iI day,iI known,iI file,iI office,iI party,iI other,iI number,iI amount,iI sn,iI sd,dv,cv,lv,ev,iI fo,iI fn,nN,nN]] w fun e w'=>e=.returned (.int .i64 1)∧Below w.heap.size w w':=by
 have HK:=Lib.hid (fun W=>within_gen kn 0 21 W)
 rw [hk] at HK;clear hk;have X0:=Blk.new w 41 #[iI kn,iI day,iI known,iI file,iI office,iI party,iI other,iI number,iI amount,iI sn,iI sd,dv,cv,lv,ev,iI fo,iI fn,nN,nN];have P0:=below_new w (.cells #[iI kn,iI day,iI known,iI file,iI office,iI party,iI other,iI number,iI amount,iI sn,iI sd,dv,cv,lv,ev,iI fo,iI fn,nN,nN] 41);have hcell:=X0.c19;go_enter Tryz.func49,Tryz.ntmps49
 go_wp2_with fail;refine (HK.out _).mono ?_
 rintro e w1 ⟨rfl,rfl⟩;go_wp2_with fail;go_ret;exact ⟨rfl,P0⟩
theorem avalid_kind (kn day known file office party other number amount sn sd fo fn:Int) (hk:inR kn 0 21=true) (dv cv lv ev:Value) (w:World)
  (HBa:Hid (∀ W,Below w.heap.size w W→Calls Tryz.prog 100 #[.agg #[iI kn,iI day,iI known,iI file,iI office,iI party,iI other,iI number,iI amount,iI sn,iI sd,dv,cv,lv,ev,iI fo,iI fn,nN,nN]] W fun e w'=>e=.returned (.bool false)∧Below W.heap.size W w')) :
  Calls Tryz.prog 49 #[.agg #[iI kn,iI day,iI known,iI file,iI office,iI party,iI other,iI number,iI amount,iI sn,iI sd,dv,cv,lv,ev,iI fo,iI fn,nN,nN]] w fun e w'=>e=.returned (.int .i64 1)∧Below w.heap.size w w':=by
 have HK:=Lib.hid (fun W=>within_gen kn 0 21 W)
 rw [hk] at HK;clear hk;have HD:=Lib.hid (fun W=>within_gen day 0 131072 W)
 have HN:=Lib.hid (fun W=>within_gen known 0 1099511627776 W)
 generalize inR day 0 131072=b1 at *;generalize inR known 0 1099511627776=b2 at *;have X0:=Blk.new w 41 #[iI kn,iI day,iI known,iI file,iI office,iI party,iI other,iI number,iI amount,iI sn,iI sd,dv,cv,lv,ev,iI fo,iI fn,nN,nN];have P0:=below_new w (.cells #[iI kn,iI day,iI known,iI file,iI office,iI party,iI other,iI number,iI amount,iI sn,iI sd,dv,cv,lv,ev,iI fo,iI fn,nN,nN] 41);have hcell:=X0.c19;go_enter Tryz.func49,Tryz.ntmps49
 go_wp2_with fail;refine (HK.out _).mono ?_
 rintro e w1 ⟨rfl,rfl⟩;go_wp2_with fail;refine (HD.out _).mono ?_
 rintro e w1 ⟨rfl,rfl⟩
 cases b1 with
 | false =>
  go_wp2_with fail;go_ret;exact ⟨rfl,P0⟩
 | true =>
  go_wp2_with fail;refine (HN.out _).mono ?_
  rintro e w1 ⟨rfl,rfl⟩
  cases b2 with
  | false =>
   go_wp2_with fail;go_ret;exact ⟨rfl,P0⟩
  | true =>
   go_wp2_with (refine wpList_loadA X0 rfl _ rfl rfl rfl ?_)
   refine (HBa.out _ P0).mono ?_
   rintro e w1 ⟨rfl,hb1⟩;have P1:=below_up P0 hb1 P0.size;clear hcell;go_wp2_with fail;go_ret;exact ⟨rfl,P1⟩
end Go.Proofs.YtbeaijjaecaidaaGreatDoor
