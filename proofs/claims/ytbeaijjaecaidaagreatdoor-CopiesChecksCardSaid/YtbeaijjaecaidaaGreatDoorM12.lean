/- acts.Encode of filings. Whole acts loaded, stored and handed back: each in one step. ref18: bare, clean, filing, formed and Valid of filings. ref18.clean of a bare filing. ref18.filing, formed and Valid of filings. ref18.formed and Valid of filings. ref18.Encode of filings. ref37.Entry of a filing. copies.first of the three conditions of Check. Copies in memory: what a copy's conditions return. Copies: logged, Check. -/
import Derived.Test.YtbeaijjaecaidaaGreatDoorM11
import Derived.Test.YtbeaijjaecaidaaGreatDoorM10
import Derived.Test.YtbeaijjaecaidaaGreatDoorM01
import Derived.Laws.Tables
set_option maxRecDepth 100000
set_option maxHeartbeats 16000000
namespace Go.Proofs.YtbeaijjaecaidaaGreatDoor
open Go.RowKit Go.Shelf
attribute [local go_sem] Oper.semAt_some
def Fil.nums (f:Fil):List Int:=[0,f.day,f.known,f.file,f.office,f.party,f.other,0,0,0,0]
def prE (e:List (Int × Int)):List Nat:=e.flatMap fun p=>intL p.1++intL p.2
def encA (f:Fil):List Nat:=f.nums.flatMap intL++rawL (encT f.d f.c)++intL (f.e.length:Int)++prE f.e
theorem ints_flat {l:List Int} (h:∀ x∈l,-9223372036854775808≤x∧x≤9223372036854775807):(l.flatMap intL).length≤l.length * 10:=by
 induction l with
 | nil=>simp
 | cons a l ih =>
  have h1:=intL_len (h a List.mem_cons_self).1 (h a List.mem_cons_self).2;have h2:=ih (fun c hc=>h c (List.mem_cons_of_mem _ hc))
  rw [List.flatMap_cons,List.length_append,List.length_cons];omega
theorem prE_len {e:List (Int × Int)} (h:∀ p∈e,(0≤p.1∧p.1≤4095)∧(0≤p.2∧p.2≤131072)):(prE e).length≤e.length * 20:=by
 unfold prE
 induction e with
 | nil=>simp
 | cons a l ih =>
  obtain ⟨⟨a1,a2⟩,a3,a4⟩:=h a List.mem_cons_self;have h1:=intL_len (n:=a.1) (by omega) (by omega)
  have h3:=intL_len (n:=a.2) (by omega) (by omega)
  have h2:=ih (fun c hc=>h c (List.mem_cons_of_mem _ hc))
  rw [List.flatMap_cons,List.length_append,List.length_append,List.length_cons];omega
theorem OkFil.nums {f:Fil} (h:OkFil f):∀ x∈f.nums,-9223372036854775808≤x∧x≤9223372036854775807:=by
 obtain ⟨hda,hkn,hfi,hof,hpa,hot,_⟩:=h;intro x hx;simp only [Fil.nums,List.mem_cons,List.not_mem_nil,or_false] at hx;rcases hx with rfl | rfl | rfl | rfl | rfl | rfl | rfl | rfl | rfl | rfl | rfl <;> omega
theorem OkFil.earl {f:Fil} (h:OkFil f):∀ p∈f.e,(0≤p.1∧p.1≤4095)∧(0≤p.2∧p.2≤131072):=fun p hp=>⟨(h.2.2.2.2.2.2.2.2.1 p hp).1,(h.2.2.2.2.2.2.2.2.1 p hp).2.1⟩
theorem nums_step {l:List Int} {k:Nat} (h:k<l.length):(l.take (k+1)).flatMap intL=(l.take k).flatMap intL++intL l[k]:=by
 rw [List.take_add_one,List.getElem?_eq_getElem h,List.flatMap_append]
 simp
theorem prE_step {l:List (Int × Int)} {k:Nat} (h:k<l.length):prE (l.take (k+1))=prE (l.take k)++intL l[k].1++intL l[k].2:=by
 unfold prE;rw [List.take_add_one,List.getElem?_eq_getElem h,List.flatMap_append]
 simp
theorem aenc_own (f:Fil) (hok:OkFil f) (dv cv ev:Value) (w:World) (hG:w.cell? ⟨0,0,none⟩=some (.int .i64 655)) (h0:0<w.heap.size) (B:Nat) (hBw:B≤w.heap.size) (h:FilAt w B f dv cv ev) :
  Calls Tryz.prog 15 #[.agg (f.vals dv cv ev)] w fun e w'=>∃ u,e=.returned (.tuple #[u,.int .i64 0])∧OwnB w' w.heap.size u (encA f)∧Below w.heap.size w w':=by
 have hkeep:∀ W,Below w.heap.size w W→∀ p:Addr,p.block<B→W.cell? p=w.cell? p:=fun W hW p hp=>hW.cell (Nat.lt_of_lt_of_le hp hBw)
 have HV:=Lib.hid (fun (W:World) (hW:Below w.heap.size w W)=>avalid_any f hok dv cv ev W ((hW.cell (p:=⟨0,0,none⟩) h0).trans hG) (Nat.lt_of_lt_of_le h0 hW.size) B (Nat.le_trans hBw hW.size) (h.keep (hkeep W hW) (Nat.le_refl _)))
 have HT:=Lib.hid (fun (W:World) (hW:Below w.heap.size w W)=>textenc_own f.d f.c hok.2.2.2.2.2.2.1 dv cv W B (Nat.le_trans hBw hW.size) (h.1.keep (hkeep W hW) (Nat.le_refl _)) (h.2.1.keep (hkeep W hW) (Nat.le_refl _)))
 have htl:=encT_len hok.2.2.2.2.2.2.1;have htb:=Lib.hid (encT_bytes f.d f.c);have HNU:=Lib.hid hok.nums;have HEA:=Lib.hid hok.earl;have hel:f.e.length≤8:=hok.2.2.2.2.2.2.2.1;have hHE:encA f=f.nums.flatMap intL++rawL (encT f.d f.c)++intL (f.e.length:Int)++prE f.e:=rfl;obtain ⟨Ae,ce,rfl,x5,x6⟩:=h.2.2.pairs;clear h hok hkeep x5;have HEV:=Lib.hid x6;clear x6;generalize encT f.d f.c=tb at *;have hnl:f.nums.length=11:=rfl;have hNU:f.nums=[0,f.day,f.known,f.file,f.office,f.party,f.other,0,0,0,0]:=rfl;generalize encA f=eb at *;generalize f.nums=nu at *;obtain ⟨day,known,file,office,party,other,d,c,el⟩:=f;unfold Fil.vals at *;dsimp only at *;clear d c;have HHE:=Lib.hid hHE;have HNL:=Lib.hid hNU;clear hHE hNU;have X0:=Blk.new w 41 #[iI 0,iI day,iI known,iI file,iI office,iI party,iI other,iI 0,iI 0,iI 0,iI 0,dv,cv,nN,.slice Ae el.length ce,iI 0,iI 0,nN,nN];have P0:=below_new w (.cells #[iI 0,iI day,iI known,iI file,iI office,iI party,iI other,iI 0,iI 0,iI 0,iI 0,dv,cv,nN,.slice Ae el.length ce,iI 0,iI 0,nN,nN] 41);go_enter Tryz.func15,Tryz.ntmps15
 go_wp2_with (refine wpList_loadA X0 rfl _ rfl rfl rfl ?_)
 refine (HV.out _ P0).mono ?_
 rintro e w1 ⟨rfl,hb1⟩;have P1:=below_up P0 hb1 P0.size;have X1:=X0.keep hb1;have hg1:=P1.size;have G1:=Blk.new w1 101 #[.slice none 0 0];have P2:=P1.alloc P1.size (.cells #[.slice none 0 0] 101);have X2:=X1.alloc (.cells #[.slice none 0 0] 101);have W1:WrAt (w1.alloc (.cells #[.slice none 0 0] 101)) w.heap.size w1.heap.size []:=⟨hg1,_,0,G1,World.ownsRow_nil _ _ _ _⟩;clear G1 P1 X1 hb1 P0 X0;generalize hgg:w1.heap.size=g at *;generalize hw2:w1.alloc (.cells #[.slice none 0 0] 101)=w2 at *;have hsz2:w2.heap.size=g+1:=by rw [← hw2,World.size_alloc,hgg]
 have hcx2:=X2.c19;go_upto_region 5 with fail;have R3:=Blk.new w2 3 #[iI 0,iI day,iI known,iI file,iI office,iI party,iI other,iI 0,iI 0,iI 0,iI 0];rw [hsz2] at R3;have X3:=X2.alloc (.cells #[iI 0,iI day,iI known,iI file,iI office,iI party,iI other,iI 0,iI 0,iI 0,iI 0] 3);have P3:=P2.alloc P2.size (.cells #[iI 0,iI day,iI known,iI file,iI office,iI party,iI other,iI 0,iI 0,iI 0,iI 0] 3);have W3:=W1.alloc (.cells #[iI 0,iI day,iI known,iI file,iI office,iI party,iI other,iI 0,iI 0,iI 0,iI 0] 3);have HC3:(ints nu).toArray=#[iI 0,iI day,iI known,iI file,iI office,iI party,iI other,iI 0,iI 0,iI 0,iI 0]:=by rw [HNL.out];rfl
 have R3:Blk (w2.alloc (.cells #[iI 0,iI day,iI known,iI file,iI office,iI party,iI other,iI 0,iI 0,iI 0,iI 0] 3)) (g+1) 3 (ints nu).toArray:=by rw [HC3];exact R3
 clear hcx2 W1 X2 P2;generalize w2.alloc (.cells #[iI 0,iI day,iI known,iI file,iI office,iI party,iI other,iI 0,iI 0,iI 0,iI 0] 3)=w3 at *;clear HC3;go_loopw [44] (fun j wr=>∃ k:Nat,j=.int .i64 (k:Int)∧k≤11∧WrAt wr w.heap.size g ((nu.take k).flatMap intL)∧Below w.heap.size w wr∧Blk wr w.heap.size 41 #[iI 0,iI day,iI known,iI file,iI office,iI party,iI other,iI 0,iI 0,iI 0,iI 0,dv,cv,nN,.slice Ae el.length ce,iI 0,iI 0,nN,nN]∧Blk wr (g+1) 3 (ints nu).toArray) (fun j _=>11 - (intOf j).toNat)
 case atStart=>exact ⟨0,rfl,Nat.zero_le _,by simpa using W3,P3,X3,R3⟩
 case round =>
  obtain ⟨k,rfl,hk,hW,hB,hX,hR⟩:=hrel;have hfl:=ints_flat (l:=nu.take k) (fun x hx=>HNU.out x (List.mem_of_mem_take hx))
  rw [List.length_take] at hfl;by_cases hlt:k<11
  ·have hkn:k<nu.length:=by omega
   have hc:=hR.cellAt k (.int .i64 nu[k]) (by rw [List.getElem?_toArray];exact ints_get nu k hkn)
   have HS:=Lib.hid (nums_step hkn);obtain ⟨n0,n1⟩:=HNU.out nu[k] (List.getElem_mem hkn);generalize nu[k]=x at *;generalize (nu.take k).flatMap intL=bs at *;clear X3 P3 W3 R3;go_wp2_with fail;refine (wint_any g w.heap.size bs x wr n0 n1 hW (by omega)).mono ?_
   rintro e w4 ⟨⟨v4,rfl⟩,W4,k4⟩;have P4:=hB.trans k4.1;have X4:=k4.blk hX (by decide) (by decide)
   have R4:=k4.blk hR (by decide) (by decide)
   rw [← HS.out] at W4;clear hc hfl;go_wp2_with fail;go_roundw
   case rel=>exact ⟨k+1,by go_num,by omega,W4,P4,X4,R4⟩
   case measure=>simp [intOf];omega
  ·obtain rfl:k=11:=by omega
   rw [List.take_of_length_le (by omega)] at hW
   have hcx:=hX.c19;clear X3 P3 W3 R3 hR;generalize hE1:nu.flatMap intL=bs at *
   have hbl:bs.length≤110:=by
    rw [← hE1];have:=ints_flat HNU.out;omega
   have HE1:=Lib.hid hE1;clear hE1 hfl;go_wp2_with fail;refine (HT.out _ hB).mono ?_
   rintro e w4 ⟨v4,rfl,o4,hb4⟩;have P4:=below_up hB hb4 hB.size;have W4:=hW.grown hb4;have X4:=hX.keep hb4;clear hcx hW hB hX;go_wp2_with fail;refine (wraw_any g w.heap.size _ tb v4 w4 W4 (by omega) (by omega) htb.out o4.rep).mono ?_
   rintro e w5 ⟨⟨v5,rfl⟩,W5,k5⟩;have P5:=P4.trans k5.1;have X5:=k5.blk X4 (by decide) (by decide)
   have hrl:(rawL tb).length≤940020:=by
    have:=uv_len10 (n:=tb.length) (by omega)
    unfold rawL;simp only [List.length_append];omega
   have hcx:=X5.c19;clear W4 P4 X4 k5 o4;go_wp2_with fail;refine (wint_any g w.heap.size _ (el.length:Int) w5 (by omega) (by omega) W5 (by rw [List.length_append];omega)).mono ?_
   rintro e w6 ⟨⟨v6,rfl⟩,W6,k6⟩;have P6:=P5.trans k6.1;have X6:=k6.blk X5 (by decide) (by decide)
   have hil:=intL_len (n:=(el.length:Int)) (by omega) (by omega)
   clear hcx W5 P5 X5 k6;have hcx:=X6.c19;generalize hE2:bs++rawL tb++intL (el.length:Int)=bs2 at *
   have hb2:bs2.length≤950000:=by
    rw [← hE2];simp only [List.length_append];omega
   have HE2:=Lib.hid hE2;clear hE2 hil hrl hbl;go_wp2_with fail;clear hcx;go_loopw [70] (fun j wr=>∃ k:Nat,j=.int .i64 (k:Int)∧k≤el.length∧WrAt wr w.heap.size g (bs2++prE (el.take k))∧Below w.heap.size w wr∧Blk wr w.heap.size 41 #[iI 0,iI day,iI known,iI file,iI office,iI party,iI other,iI 0,iI 0,iI 0,iI 0,dv,cv,nN,.slice Ae el.length ce,iI 0,iI 0,nN,nN]) (fun j _=>el.length - (intOf j).toNat)
   case atStart=>exact ⟨0,rfl,Nat.zero_le _,by simpa [prE] using W6,P6,X6⟩
   case round =>
    obtain ⟨k,rfl,hk,hW,hB,hX⟩:=hrel;have hpl:=prE_len (e:=el.take k) (fun p hp=>HEA.out p (List.mem_of_mem_take hp))
    rw [List.length_take] at hpl;by_cases hlt:k<el.length
    ·obtain ⟨b,o,rfl,hb,c0,c1⟩:=HEV.out k hlt
     have hb':b<w.heap.size:=Nat.lt_of_lt_of_le hb hBw;have e0:=(hB.cell (p:=⟨b,o+k * 2,none⟩) hb').trans c0;have e1:=(hB.cell (p:=⟨b,o+k * 2+1,none⟩) hb').trans c1;obtain ⟨⟨p1,p2⟩,p3,p4⟩:=HEA.out _ (List.getElem_mem hlt);have HS:=Lib.hid (prE_step hlt);generalize el[k].1=x at *;generalize el[k].2=y at *;generalize prE (el.take k)=ps at *;have Q0:=hB.alloc hB.size (.cells #[.int .i64 x,.int .i64 y] 106);have X0:=hX.alloc (.cells #[.int .i64 x,.int .i64 y] 106);have W0:=hW.alloc (.cells #[.int .i64 x,.int .i64 y] 106);have Y0:=Blk.new wr 106 #[.int .i64 x,.int .i64 y];have hcy:=Y0.c2;have hi1:=intL_len (n:=x) (by omega) (by omega)
     clear c0 c1 W6 P6 X6 hW hB hX;go_wp2_with fail;refine (wint_any g w.heap.size _ x _ (by omega) (by omega) W0 (by rw [List.length_append];omega)).mono ?_
     rintro e w7 ⟨⟨v7,rfl⟩,W7,k7⟩;have P7:=Q0.trans k7.1;have X7:=k7.blk X0 (by decide) (by decide)
     have Y7:=k7.blk Y0 (by decide) (by decide)
     have hcy7:=Y7.c2;clear hcy W0 Q0 X0 Y0 k7 e0 e1;go_wp2_with fail;refine (wint_any g w.heap.size _ y _ (by omega) (by omega) W7 (by simp only [List.length_append];omega)).mono ?_
     rintro e w8 ⟨⟨v8,rfl⟩,W8,k8⟩;have P8:=P7.trans k8.1;have X8:=k8.blk X7 (by decide) (by decide)
     have hass:bs2++ps++intL x++intL y=bs2++(ps++intL x++intL y):=by simp only [List.append_assoc]
     rw [hass,← HS.out] at W8;clear hcy7 W7 P7 X7 k8 hass;go_wp2_with fail;go_roundw
     case rel=>exact ⟨k+1,by go_num,by omega,W8,P8,X8⟩
     case measure=>simp [intOf];omega
    ·obtain rfl:k=el.length:=by omega
     rw [List.take_length] at hW hpl;have hcx:=hX.c19;have hfin:bs2++prE el=eb:=by rw [HHE.out,← HE2.out,← HE1.out]
     rw [hfin] at hW
     have hebl:eb.length≤3000000000:=by
      rw [← hfin,List.length_append];omega
     clear hfin;clear W6 P6 X6 hX;go_wp2_with fail;refine (wdone_own g w.heap.size _ wr hW hebl).mono ?_
     rintro e w7 ⟨v7,rfl,o7,hb7⟩;clear hcx;go_wp2_with fail;exact bodyPost_ret (results_tmp2 rfl _ _ _) rfl ⟨_,rfl,o7.mono hB.size,below_up hB hb7 hB.size⟩
theorem Blk.setRow {W:World} {g:Nat} {t:TypeId} {cs:Array Value} (h:Blk W g t cs) (vs:Array Value):Blk (W.setRow g vs) g t vs:=setRow_heap W g cs vs t _ h
theorem grown_setRow (W:World) (g:Nat) (vs:Array Value):W.grownBy (W.setRow g vs) (some g):=by
 refine ⟨rfl,rfl,rfl,by simp [World.setRow],fun k _ hne=>?_⟩
 simp only [World.setRow,Array.getElem?_modify]
 rw [if_neg (fun e=>hne (by rw [e]))]
theorem wpList_storeA {w:World} {g:Nat} {old:Array Value} (h:Blk w g 41 old) (hs:old.size=19) {ops:Array Oper} {rest:List Oper} {o:Oper} {a:Act} {Q:Exit→Act→World→Prop} (p v:Operand) (ho:o.op=.store 41 p v) (hg:o.guard=none)
  (hp:a.eval p=.pointer (some ⟨g,0,none⟩)) (vs:Array Value) (hv:a.eval v=.agg vs) (hvs:vs.size=19) (h1:vs.all (·.oneCell')=true)
  (hK:∀ w',Blk w' g 41 vs→w.grownBy w' (some g)→wpList Tryz.prog ops Q rest (a.put o.dst undef) w'):wpList Tryz.prog ops Q (o::rest) a w :=
 wpList_store_row hg 41 p v ho g vs hp hv 41 old h (by rw [hvs];kernel_rfl) (by rw [hs,hvs]) h1 (hK _ (h.setRow vs) (grown_setRow w g vs))
theorem results_A {fn:Func} {p:Tmp} (h:fn.results=#[.cell p 41]) (tmps:Array Value) {w:World} {g:Nat} {cs:Array Value} (hp:tmps.getD p undef=.pointer (some ⟨g,0,none⟩)) (hb:Blk w g 41 cs) (hs:cs.size=19) :
  (results fn tmps).run Tryz.prog w=.ok (.agg cs) w :=
 results_cell_row h tmps w g 41 cs _ _ hp hb Tryz.underlying41 rfl (by rw [hs];kernel_rfl)
theorem refbare_any (day known file office party other:Int) (Ad Ac Ae:Option Addr) (nd cd nc cc ne ce:Nat) (w:World) :
  Calls Tryz.prog 125 #[.agg #[iI 0,iI day,iI known,iI file,iI office,iI party,iI other,iI 0,iI 0,iI 0,iI 0,.slice Ad nd cd,.slice Ac nc cc,nN,.slice Ae ne ce,iI 0,iI 0,nN,nN]] w
   fun e w'=>e=.returned (.agg #[iI 0,iI day,iI known,iI 0,iI 0,iI 0,iI 0,iI 0,iI 0,iI 0,iI 0,nN,nN,nN,nN,iI 0,iI 0,nN,nN])∧Below w.heap.size w w':=by
 have X0:=Blk.new w 41 #[iI 0,iI day,iI known,iI file,iI office,iI party,iI other,iI 0,iI 0,iI 0,iI 0,.slice Ad nd cd,.slice Ac nc cc,nN,.slice Ae ne ce,iI 0,iI 0,nN,nN];have P0:=below_new w (.cells #[iI 0,iI day,iI known,iI file,iI office,iI party,iI other,iI 0,iI 0,iI 0,iI 0,.slice Ad nd cd,.slice Ac nc cc,nN,.slice Ae ne ce,iI 0,iI 0,nN,nN] 41);generalize hw1:w.alloc (.cells #[iI 0,iI day,iI known,iI file,iI office,iI party,iI other,iI 0,iI 0,iI 0,iI 0,.slice Ad nd cd,.slice Ac nc cc,nN,.slice Ae ne ce,iI 0,iI 0,nN,nN] 41)=w1 at *;have hs1:w1.heap.size=w.heap.size+1:=by rw [← hw1,World.size_alloc]
 go_enter Tryz.func125,Tryz.ntmps125
 go_upto_region 1 with fail;have X1:=X0.alloc (.cells #[iI 0,iI 0,iI 0,iI 0,iI 0,iI 0,iI 0,iI 0,iI 0,iI 0,iI 0,nN,nN,nN,nN,iI 0,iI 0,nN,nN] 41);have Y1:=Blk.new w1 41 #[iI 0,iI 0,iI 0,iI 0,iI 0,iI 0,iI 0,iI 0,iI 0,iI 0,iI 0,nN,nN,nN,nN,iI 0,iI 0,nN,nN];have P1:=P0.alloc P0.size (.cells #[iI 0,iI 0,iI 0,iI 0,iI 0,iI 0,iI 0,iI 0,iI 0,iI 0,iI 0,nN,nN,nN,nN,iI 0,iI 0,nN,nN] 41);rw [hs1] at Y1;clear X0 P0 hw1;generalize w1.alloc (.cells #[iI 0,iI 0,iI 0,iI 0,iI 0,iI 0,iI 0,iI 0,iI 0,iI 0,iI 0,nN,nN,nN,nN,iI 0,iI 0,nN,nN] 41)=w2 at *;have hz:=X1.cell 0;go_upto_region 2 with (go_at_call 140;refine (ofFile_zero _).mono ?_;rintro e w' ⟨rfl,hw'⟩;have hw':=hw'.symm;subst hw')
 have c3:=X1.cell 3;have f3:=X1.frozen 3;go_upto_region 3 with fail;have X3:=(X1.set 3 (.int .i64 0));have Y3:=(Y1.far (p:=⟨w.heap.size,3,none⟩) (Nat.succ_ne_self _) (.int .i64 0));have P3:=(P1.setCell (p:=⟨w.heap.size,3,none⟩) (Nat.le_refl _) (.int .i64 0));simp only [pB,pZ,pC] at X3;clear c3 f3 hz X1 Y1 P1;generalize (w2.setCell ⟨w.heap.size,3,none⟩ (.int .i64 0))=w3 at *;have hz:=X3.cell 0;have c4:=X3.cell 4;have f4:=X3.frozen 4;go_upto_region 6 with fail;have X4:=(X3.set 4 (.int .i64 0));have Y4:=(Y3.far (p:=⟨w.heap.size,4,none⟩) (Nat.succ_ne_self _) (.int .i64 0));have P4:=(P3.setCell (p:=⟨w.heap.size,4,none⟩) (Nat.le_refl _) (.int .i64 0));simp only [pB,pZ,pC] at X4;clear c4 f4 hz X3 Y3 P3;generalize (w3.setCell ⟨w.heap.size,4,none⟩ (.int .i64 0))=w4 at *;have hz:=X4.cell 0;have c5:=X4.cell 5;have f5:=X4.frozen 5;go_upto_region 7 with fail;have X5:=(X4.set 5 (.int .i64 0));have Y5:=(Y4.far (p:=⟨w.heap.size,5,none⟩) (Nat.succ_ne_self _) (.int .i64 0));have P5:=(P4.setCell (p:=⟨w.heap.size,5,none⟩) (Nat.le_refl _) (.int .i64 0));simp only [pB,pZ,pC] at X5;clear c5 f5 hz X4 Y4 P4;generalize (w4.setCell ⟨w.heap.size,5,none⟩ (.int .i64 0))=w5 at *;have hz:=X5.cell 0;have c6:=X5.cell 6;have f6:=X5.frozen 6;go_upto_region 8 with fail;have X6:=(X5.set 6 (.int .i64 0));have Y6:=(Y5.far (p:=⟨w.heap.size,6,none⟩) (Nat.succ_ne_self _) (.int .i64 0));have P6:=(P5.setCell (p:=⟨w.heap.size,6,none⟩) (Nat.le_refl _) (.int .i64 0));simp only [pB,pZ,pC] at X6;clear c6 f6 hz X5 Y5 P5;generalize (w5.setCell ⟨w.heap.size,6,none⟩ (.int .i64 0))=w6 at *;have hz:=X6.cell 0;have c11:=X6.cell 11;have f11:=X6.frozen 11;have c12:=X6.cell 12;have f12:=X6.frozen 12;go_upto_region 9 with fail;have X7:=((X6.set 11 (.slice none 0 0)).set 12 (.slice none 0 0));have Y7:=((Y6.far (p:=⟨w.heap.size,11,none⟩) (Nat.succ_ne_self _) (.slice none 0 0)).far (p:=⟨w.heap.size,12,none⟩) (Nat.succ_ne_self _) (.slice none 0 0));have P7:=((P6.setCell (p:=⟨w.heap.size,11,none⟩) (Nat.le_refl _) (.slice none 0 0)).setCell (p:=⟨w.heap.size,12,none⟩) (Nat.le_refl _) (.slice none 0 0));simp only [pB,pZ,pC] at X7;clear c11 f11 c12 f12 hz X6 Y6 P6;generalize ((w6.setCell ⟨w.heap.size,11,none⟩ (.slice none 0 0)).setCell ⟨w.heap.size,12,none⟩ (.slice none 0 0))=w7 at *;have hz:=X7.cell 0;have c14:=X7.cell 14;have f14:=X7.frozen 14;go_upto_region 54 with fail;have X8:=(X7.set 14 (.slice none 0 0));have Y8:=(Y7.far (p:=⟨w.heap.size,14,none⟩) (Nat.succ_ne_self _) (.slice none 0 0));have P8:=(P7.setCell (p:=⟨w.heap.size,14,none⟩) (Nat.le_refl _) (.slice none 0 0));simp only [pB,pZ,pC] at X8;clear c14 f14 hz X7 Y7 P7;generalize (w7.setCell ⟨w.heap.size,14,none⟩ (.slice none 0 0))=w8 at *;have hz:=X8.cell 0;clear hz;go_wp2_with (first | (refine wpList_loadA X8 rfl _ rfl rfl rfl ?_) | (refine wpList_storeA Y8 rfl _ _ rfl rfl rfl _ rfl rfl (by kernel_rfl) ?_;intro wz Yz gz))
 have Pz:=P8.grown gz P8.size (fun k e=>by injection e with e;omega)
 exact bodyPost_ret (results_A rfl _ rfl Yz rfl) rfl ⟨rfl,Pz⟩
theorem refclean_any (day known:Int) (w:World) :
  Calls Tryz.prog 124 #[.agg #[iI 0,iI day,iI known,iI 0,iI 0,iI 0,iI 0,iI 0,iI 0,iI 0,iI 0,nN,nN,nN,nN,iI 0,iI 0,nN,nN]] w
   fun e w'=>e=.returned (.bool true)∧Below w.heap.size w w':=by
 have X0:=Blk.new w 41 #[iI 0,iI day,iI known,iI 0,iI 0,iI 0,iI 0,iI 0,iI 0,iI 0,iI 0,nN,nN,nN,nN,iI 0,iI 0,nN,nN];have P0:=below_new w (.cells #[iI 0,iI day,iI known,iI 0,iI 0,iI 0,iI 0,iI 0,iI 0,iI 0,iI 0,nN,nN,nN,nN,iI 0,iI 0,nN,nN] 41);go_enter Tryz.func124,Tryz.ntmps124
 go_upto_region 1 with fail;generalize w.alloc (.cells #[iI 0,iI day,iI known,iI 0,iI 0,iI 0,iI 0,iI 0,iI 0,iI 0,iI 0,nN,nN,nN,nN,iI 0,iI 0,nN,nN] 41)=w1 at *;have c3:w1.cell? ⟨w.heap.size,3,none⟩=some (.int .i64 0):=X0.cell 3;have c4:w1.cell? ⟨w.heap.size,4,none⟩=some (.int .i64 0):=X0.cell 4;have c5:w1.cell? ⟨w.heap.size,5,none⟩=some (.int .i64 0):=X0.cell 5;have c6:w1.cell? ⟨w.heap.size,6,none⟩=some (.int .i64 0):=X0.cell 6;have c7:w1.cell? ⟨w.heap.size,7,none⟩=some (.int .i64 0):=X0.cell 7;have c8:w1.cell? ⟨w.heap.size,8,none⟩=some (.int .i64 0):=X0.cell 8;have c9:w1.cell? ⟨w.heap.size,9,none⟩=some (.int .i64 0):=X0.cell 9;have c10:w1.cell? ⟨w.heap.size,10,none⟩=some (.int .i64 0):=X0.cell 10;go_upto_region 2 with fail;clear c3 c4 c5 c6 c7 c8 c9 c10;have c15:w1.cell? ⟨w.heap.size,15,none⟩=some (.int .i64 0):=X0.cell 15;have c16:w1.cell? ⟨w.heap.size,16,none⟩=some (.int .i64 0):=X0.cell 16;have c17:w1.cell? ⟨w.heap.size,17,none⟩=some (.slice none 0 0):=X0.cell 17;have c18:w1.cell? ⟨w.heap.size,18,none⟩=some (.slice none 0 0):=X0.cell 18;go_upto_region 3 with fail;clear c15 c16 c17 c18;have c11:w1.cell? ⟨w.heap.size,11,none⟩=some (.slice none 0 0):=X0.cell 11;have c12:w1.cell? ⟨w.heap.size,12,none⟩=some (.slice none 0 0):=X0.cell 12;have c13:w1.cell? ⟨w.heap.size,13,none⟩=some (.slice none 0 0):=X0.cell 13;have c14:w1.cell? ⟨w.heap.size,14,none⟩=some (.slice none 0 0):=X0.cell 14;clear X0;go_wp2_with fail;go_ret;exact ⟨rfl,P0⟩
theorem reffiling_any (f:Fil) (hok:OkFil f) (dv cv ev:Value) (w:World) (B:Nat) (hBw:B≤w.heap.size) (h:FilAt w B f dv cv ev) :
  Calls Tryz.prog 165 #[.agg (f.vals dv cv ev)] w fun e w'=>e=.returned (.bool true)∧Below w.heap.size w w':=by
 obtain ⟨day,known,file,office,party,other,d,c,el⟩:=f;obtain ⟨hda,hkn,hfi,hof,hpa,hot,htx,hel,hep,hnd⟩:=hok;obtain ⟨hd,hc,he⟩:=h;unfold Fil.vals;dsimp only at *;have HV:=Lib.hid (fun (W:World) (hW:Below w.heap.size w W)=>reftextvalid_any d c htx dv cv W B (Nat.le_trans hBw hW.size) (hd.keep (fun p hp=>hW.cell (Nat.lt_of_lt_of_le hp hBw)) (Nat.le_refl _)) (hc.keep (fun p hp=>hW.cell (Nat.lt_of_lt_of_le hp hBw)) (Nat.le_refl _)))
 have HO:=Lib.hid (fun W=>refwithin_any office 0 11 hof.1 hof.2 W)
 have HPa:=Lib.hid (fun W=>refwithin_any party 1 4095 hpa.1 hpa.2 W)
 have HOt:=Lib.hid (fun W=>refwithin_any other (-1) 4095 hot.1 hot.2.1 W)
 obtain ⟨Ad,cd,rfl,x1,x2⟩:=hd.formulas;obtain ⟨Ac,cc,rfl,x3,x4⟩:=hc.claims;obtain ⟨Ae,ce,rfl,x5,HEV⟩:=he.pairs;clear hd hc he htx x1 x2 x3 x4 x5;generalize d.length=nd at *;generalize c.length=nc at *;have HEV:=Lib.hid HEV;have HEP:=Lib.hid hep;have HND:=Lib.hid hnd;have hof2:(other == file)=false:=by simpa using hot.2.2
 have hlen:decide (8<(el.length:Int))=false:=by simp;omega
 clear hot hda hkn hof hpa hep hnd hfi;have X0:=Blk.new w 41 #[iI 0,iI day,iI known,iI file,iI office,iI party,iI other,iI 0,iI 0,iI 0,iI 0,.slice Ad nd cd,.slice Ac nc cc,nN,.slice Ae el.length ce,iI 0,iI 0,nN,nN];have P0:=below_new w (.cells #[iI 0,iI day,iI known,iI file,iI office,iI party,iI other,iI 0,iI 0,iI 0,iI 0,.slice Ad nd cd,.slice Ac nc cc,nN,.slice Ae el.length ce,iI 0,iI 0,nN,nN] 41);have hcell:=X0.c19;go_enter Tryz.func165,Tryz.ntmps165
 go_wp2_with fail;refine (HO.out _).mono ?_
 rintro e w1 ⟨rfl,rfl⟩;go_wp2_with fail;refine (HPa.out _).mono ?_
 rintro e w1 ⟨rfl,rfl⟩;go_wp2_with fail;refine (HOt.out _).mono ?_
 rintro e w1 ⟨rfl,rfl⟩;go_wp2_with fail;refine (HV.out _ P0).mono ?_
 rintro e w1 ⟨rfl,hb1⟩;have X1:=X0.keep hb1;have P1:=below_up P0 hb1 P0.size;clear hcell X0 P0 hb1;go_wp2_with fail;clear hlen hof2;go_loopw [3] (fun j wr=>∃ k:Nat,j=.int .i64 (k:Int)∧k≤el.length∧Below w.heap.size w wr∧Blk wr w.heap.size 41 #[iI 0,iI day,iI known,iI file,iI office,iI party,iI other,iI 0,iI 0,iI 0,iI 0,.slice Ad nd cd,.slice Ac nc cc,nN,.slice Ae el.length ce,iI 0,iI 0,nN,nN]) (fun j _=>el.length - (intOf j).toNat)
 case atStart=>exact ⟨0,rfl,Nat.zero_le _,P1,X1⟩
 case round =>
  obtain ⟨k,rfl,hk,hB,hX⟩:=hrel;have hc14:wr.cell? ⟨w.heap.size,14,none⟩=some (.slice Ae el.length ce):=hX.cell 14;have hc3:wr.cell? ⟨w.heap.size,3,none⟩=some (.int .i64 file):=hX.cell 3;by_cases hlt:k<el.length
  ·obtain ⟨b,o,rfl,hb,c0,c1⟩:=HEV.out k hlt
   have hb':b<w.heap.size:=Nat.lt_of_lt_of_le hb hBw;have e0:=(hB.cell (p:=⟨b,o+k * 2,none⟩) hb').trans c0;have e1:=(hB.cell (p:=⟨b,o+k * 2+1,none⟩) hb').trans c1;obtain ⟨⟨p1,p2⟩,⟨p3,p4⟩,p5⟩:=HEP.out _ (List.getElem_mem hlt);have HW1:=Lib.hid (fun W=>refwithin_any el[k].1 0 4095 p1 p2 W)
   have HW2:=Lib.hid (fun W=>refwithin_any el[k].2 0 131072 p3 p4 W)
   have h5:(el[k].1 == file)=false:=by simpa using p5
   have HNE:=Lib.hid (fun (j:Nat) (hj:j<k)=>(by
    have h7:=List.pairwise_iff_getElem.1 (List.nodup_iff_pairwise_ne.1 HND.out) j k (by simp;omega) (by simp;omega) hj
    simpa using h7:(el[j]'(by omega)).1≠el[k].1))
   clear c0 c1 p1 p2 p3 p4 p5;generalize el[k].1=x at *;generalize el[k].2=y at *;have Q0:=hB.alloc hB.size (.cells #[.int .i64 x,.int .i64 y] 106);have X0:=hX.alloc (.cells #[.int .i64 x,.int .i64 y] 106);have Y0:=Blk.new wr 106 #[.int .i64 x,.int .i64 y];have hcy:=Y0.c2;have hc3y:(wr.alloc (.cells #[.int .i64 x,.int .i64 y] 106)).cell? ⟨w.heap.size,3,none⟩=some (.int .i64 file):=X0.cell 3;clear X1 P1;go_wp2_with fail;refine (HW1.out _).mono ?_
   rintro e w2 ⟨rfl,rfl⟩;go_wp2_with fail;refine (HW2.out _).mono ?_
   rintro e w2 ⟨rfl,rfl⟩;clear hc14 hc3;go_wp2_with fail;clear h5 e0 e1 hc3y;generalize hwy:wr.alloc (.cells #[.int .i64 x,.int .i64 y] 106)=wy at *;generalize hyb:wr.heap.size=yb at *;go_loopw [5] (fun j wq=>∃ i:Nat,j=.int .i64 (i:Int)∧i≤k∧∃ n,wq=wy.drewN n) (fun j _=>k - (intOf j).toNat)
   case atStart=>exact ⟨0,rfl,Nat.zero_le _,0,rfl⟩
   case round =>
    obtain ⟨i,rfl,hi,n,rfl⟩:=hrel;by_cases hik:i<k
    ·obtain ⟨b2,o2,hAe,_,d0,_⟩:=HEV.out i (by omega)
     cases hAe
     have hxi:=HNE.out i hik;have f0:wy.cell? ⟨b,o+i * 2,none⟩=some (.int .i64 (el[i]'(by omega)).1):=(Q0.cell (p:=⟨b,o+i * 2,none⟩) hb').trans d0
     have hc14:wy.cell? ⟨w.heap.size,14,none⟩=some (.slice (some ⟨b,o,none⟩) el.length ce):=X0.cell 14;have hne2:((el[i]'(by omega)).1 == x)=false:=by simpa using hxi
     clear d0 hxi;generalize (el[i]'(by omega)).1=xi at *
     go_wp2_with fail;go_quiet (fail);go_wp2;go_roundw
     case rel=>exact ⟨i+1,by go_num,by omega,_,rfl⟩
     case measure=>simp [intOf];omega
    ·obtain rfl:i=k:=by omega
     go_wp2_with fail;go_roundw
     case rel=>exact ⟨i+1,by go_num,by omega,below_drewN Q0 n,X0.drewN n⟩
     case measure=>simp [intOf];omega
  ·obtain rfl:k=el.length:=by omega
   go_wp2_with fail;go_ret;exact ⟨rfl,hB⟩
def btwB (x lo hi:Int):Bool:=decide (lo≤x) && decide (x≤hi)
theorem refwithinB (x lo hi:Int) (w:World) :
  Calls Tryz.prog 126 #[.int .i64 x,.int .i64 lo,.int .i64 hi] w fun e w'=>e=.returned (.bool (btwB x lo hi))∧w'=w:=by
 by_cases h1:lo≤x
 ·by_cases h2:x≤hi
  ·have e:btwB x lo hi=true:=by simp [btwB,h1,h2]
   rw [e];exact refwithin_any x lo hi h1 h2 w
  ·have e:btwB x lo hi=false:=by simp [btwB,h2]
   have d1:decide (lo≤x)=true:=decide_eq_true h1;have d2:decide (x≤hi)=false:=decide_eq_false h2;rw [e];clear e;go_enter Tryz.func126,Tryz.ntmps126
   go_wp2_with fail;go_ret;exact ⟨rfl,rfl⟩
 ·have e:btwB x lo hi=false:=by simp [btwB,h1]
  have d1:decide (lo≤x)=false:=decide_eq_false h1;rw [e];clear e;go_enter Tryz.func126,Tryz.ntmps126
  go_wp2_with fail;go_ret;exact ⟨rfl,rfl⟩
theorem refaformed_any (f:Fil) (hok:OkFil f) (dv cv ev:Value) (w:World) (B:Nat) (hBw:B≤w.heap.size) (h:FilAt w B f dv cv ev) :
  Calls Tryz.prog 127 #[.agg (f.vals dv cv ev)] w fun e w'=>e=.returned (.bool true)∧Below w.heap.size w w':=by
 have HF:=Lib.hid (fun (W:World) (hW:Below w.heap.size w W)=>reffiling_any f hok dv cv ev W B (Nat.le_trans hBw hW.size) (h.keep (fun p hp=>hW.cell (Nat.lt_of_lt_of_le hp hBw)) (Nat.le_refl _)))
 have hpa:=hok.2.2.2.2.1;clear h hok hBw;obtain ⟨day,known,file,office,party,other,d,c,el⟩:=f;unfold Fil.vals at *;dsimp only at *;clear d c el;have HP:=Lib.hid (fun W=>refwithin_any party 1 4095 hpa.1 hpa.2 W)
 have HO:=Lib.hid (fun W=>refwithinB other 1 4095 W)
 have HL:=Lib.hid (fun W=>refwithinB 0 day 131072 W)
 clear hpa;generalize btwB other 1 4095=bo at *;generalize btwB 0 day 131072=bl at *;have X0:=Blk.new w 41 #[iI 0,iI day,iI known,iI file,iI office,iI party,iI other,iI 0,iI 0,iI 0,iI 0,dv,cv,nN,ev,iI 0,iI 0,nN,nN];have P0:=below_new w (.cells #[iI 0,iI day,iI known,iI file,iI office,iI party,iI other,iI 0,iI 0,iI 0,iI 0,dv,cv,nN,ev,iI 0,iI 0,nN,nN] 41);have hc0:(w.alloc (.cells #[iI 0,iI day,iI known,iI file,iI office,iI party,iI other,iI 0,iI 0,iI 0,iI 0,dv,cv,nN,ev,iI 0,iI 0,nN,nN] 41)).cell? ⟨w.heap.size,0,none⟩=some (.int .i64 0):=X0.cell 0;have hc1:(w.alloc (.cells #[iI 0,iI day,iI known,iI file,iI office,iI party,iI other,iI 0,iI 0,iI 0,iI 0,dv,cv,nN,ev,iI 0,iI 0,nN,nN] 41)).cell? ⟨w.heap.size,1,none⟩=some (.int .i64 day):=X0.cell 1;have hc5:(w.alloc (.cells #[iI 0,iI day,iI known,iI file,iI office,iI party,iI other,iI 0,iI 0,iI 0,iI 0,dv,cv,nN,ev,iI 0,iI 0,nN,nN] 41)).cell? ⟨w.heap.size,5,none⟩=some (.int .i64 party):=X0.cell 5;have hc6:(w.alloc (.cells #[iI 0,iI day,iI known,iI file,iI office,iI party,iI other,iI 0,iI 0,iI 0,iI 0,dv,cv,nN,ev,iI 0,iI 0,nN,nN] 41)).cell? ⟨w.heap.size,6,none⟩=some (.int .i64 other):=X0.cell 6;have hc7:(w.alloc (.cells #[iI 0,iI day,iI known,iI file,iI office,iI party,iI other,iI 0,iI 0,iI 0,iI 0,dv,cv,nN,ev,iI 0,iI 0,nN,nN] 41)).cell? ⟨w.heap.size,7,none⟩=some (.int .i64 0):=X0.cell 7;go_enter Tryz.func127,Tryz.ntmps127
 go_upto_region 1 with fail;generalize w.alloc (.cells #[iI 0,iI day,iI known,iI file,iI office,iI party,iI other,iI 0,iI 0,iI 0,iI 0,dv,cv,nN,ev,iI 0,iI 0,nN,nN] 41)=w0 at *;go_wp2_with fail;refine (HP.out _).mono ?_
 rintro e w1 ⟨rfl,e1⟩;have e1:=e1.symm;subst e1;go_wp2_with fail;refine (HO.out _).mono ?_
 rintro e w1 ⟨rfl,e1⟩;have e1:=e1.symm;subst e1
 cases bo with
 | false =>
  go_wp2_with fail;refine (HL.out _).mono ?_
  rintro e w1 ⟨rfl,e1⟩;have e1:=e1.symm;subst e1;clear hc1 hc5 hc6 hc7;go_wp2_with (refine wpList_loadA X0 rfl _ rfl rfl rfl ?_)
  refine (HF.out _ P0).mono ?_
  rintro e w1 ⟨rfl,hb1⟩;have P1:=below_up P0 hb1 P0.size;clear hc0;go_wp2_with fail;go_ret;exact ⟨rfl,P1⟩
 | true =>
  generalize hpo:(party != other)=bp at *;go_wp2_with fail;refine (HL.out _).mono ?_
  rintro e w1 ⟨rfl,e1⟩;have e1:=e1.symm;subst e1;clear hc1 hc5 hc6 hc7 hpo;go_wp2_with (refine wpList_loadA X0 rfl _ rfl rfl rfl ?_)
  refine (HF.out _ P0).mono ?_
  rintro e w1 ⟨rfl,hb1⟩;have P1:=below_up P0 hb1 P0.size;clear hc0;go_wp2_with fail;go_ret;exact ⟨rfl,P1⟩
theorem refavalid_any (f:Fil) (hok:OkFil f) (dv cv ev:Value) (w:World) (B:Nat) (hBw:B≤w.heap.size) (h:FilAt w B f dv cv ev) :
  Calls Tryz.prog 77 #[.agg (f.vals dv cv ev)] w fun e w'=>e=.returned (.int .i64 0)∧Below w.heap.size w w':=by
 have HF:=Lib.hid (fun (W:World) (hW:Below w.heap.size w W)=>refaformed_any f hok dv cv ev W B (Nat.le_trans hBw hW.size) (h.keep (fun p hp=>hW.cell (Nat.lt_of_lt_of_le hp hBw)) (Nat.le_refl _)))
 obtain ⟨day,known,file,office,party,other,d,c,el⟩:=f;obtain ⟨hda,hkn,hfi,hof,hpa,hot,htx,hel,hep,hnd⟩:=hok;obtain ⟨hd,hc,he⟩:=h;unfold Fil.vals at *;dsimp only at *;obtain ⟨Ad,cd,rfl,x1,x2⟩:=hd.formulas;obtain ⟨Ac,cc,rfl,x3,x4⟩:=hc.claims;obtain ⟨Ae,ce,rfl,x5,x6⟩:=he.pairs;clear hd hc he htx hep hnd x1 x2 x3 x4 x5 x6 hot hel hof hpa;generalize d.length=nd at *;generalize c.length=nc at *;generalize el.length=ne at *;have HBa:=Lib.hid (fun (W:World)=>refbare_any day known file office party other Ad Ac Ae nd cd nc cc ne ce W)
 have HCl:=Lib.hid (fun (W:World)=>refclean_any day known W)
 have HK:=Lib.hid (fun W=>refwithin_any 0 0 21 (by omega) (by omega) W)
 have HD:=Lib.hid (fun W=>refwithin_any day 0 131072 hda.1 hda.2 W)
 have HN:=Lib.hid (fun W=>refwithin_any known 0 1099511627776 hkn.1 hkn.2 W)
 have HFi:=Lib.hid (fun W=>refwithin_any file 0 4095 hfi.1 hfi.2 W)
 clear hda hkn hfi;have X0:=Blk.new w 41 #[iI 0,iI day,iI known,iI file,iI office,iI party,iI other,iI 0,iI 0,iI 0,iI 0,.slice Ad nd cd,.slice Ac nc cc,nN,.slice Ae ne ce,iI 0,iI 0,nN,nN];have P0:=below_new w (.cells #[iI 0,iI day,iI known,iI file,iI office,iI party,iI other,iI 0,iI 0,iI 0,iI 0,.slice Ad nd cd,.slice Ac nc cc,nN,.slice Ae ne ce,iI 0,iI 0,nN,nN] 41);go_enter Tryz.func77,Tryz.ntmps77
 go_wp2_with (refine wpList_loadA X0 rfl _ rfl rfl rfl ?_)
 refine (HBa.out _).mono ?_
 rintro e w1 ⟨rfl,hb1⟩;have X1:=X0.keep hb1;have P1:=below_up P0 hb1 P0.size;clear X0 P0 hb1;go_wp2_with fail;refine (HCl.out _).mono ?_
 rintro e w2 ⟨rfl,hb2⟩;have X2:=X1.keep hb2;have P2:=below_up P1 hb2 P1.size;clear X1 P1 hb2;have hc0:w2.cell? ⟨w.heap.size,0,none⟩=some (.int .i64 0):=X2.cell 0;have hc1:w2.cell? ⟨w.heap.size,1,none⟩=some (.int .i64 day):=X2.cell 1;have hc2:w2.cell? ⟨w.heap.size,2,none⟩=some (.int .i64 known):=X2.cell 2;have hc3:w2.cell? ⟨w.heap.size,3,none⟩=some (.int .i64 file):=X2.cell 3;go_wp2_with fail;refine (HK.out _).mono ?_
 rintro e w3 ⟨rfl,e1⟩;have e1:=e1.symm;subst e1;go_wp2_with fail;refine (HD.out _).mono ?_
 rintro e w3 ⟨rfl,e1⟩;have e1:=e1.symm;subst e1;go_wp2_with fail;refine (HN.out _).mono ?_
 rintro e w3 ⟨rfl,e1⟩;have e1:=e1.symm;subst e1;go_wp2_with fail;refine (HFi.out _).mono ?_
 rintro e w3 ⟨rfl,e1⟩;have e1:=e1.symm;subst e1;go_wp2_with (refine wpList_loadA X2 rfl _ rfl rfl rfl ?_)
 refine (HF.out _ P2).mono ?_
 rintro e w3 ⟨rfl,hb3⟩;have P3:=below_up P2 hb3 P2.size;clear hc0 hc1 hc2 hc3;go_wp2_with fail;go_ret;exact ⟨rfl,P3⟩
theorem refaenc_own (f:Fil) (hok:OkFil f) (dv cv ev:Value) (w:World) (B:Nat) (hBw:B≤w.heap.size) (h:FilAt w B f dv cv ev) :
  Calls Tryz.prog 71 #[.agg (f.vals dv cv ev)] w fun e w'=>∃ u,e=.returned (.tuple #[u,.int .i64 0])∧OwnB w' w.heap.size u (encA f)∧Below w.heap.size w w':=by
 have hkeep:∀ W,Below w.heap.size w W→∀ p:Addr,p.block<B→W.cell? p=w.cell? p:=fun W hW p hp=>hW.cell (Nat.lt_of_lt_of_le hp hBw)
 have HV:=Lib.hid (fun (W:World) (hW:Below w.heap.size w W)=>refavalid_any f hok dv cv ev W B (Nat.le_trans hBw hW.size) (h.keep (hkeep W hW) (Nat.le_refl _)))
 have HT:=Lib.hid (fun (W:World) (hW:Below w.heap.size w W)=>reftextenc_own f.d f.c hok.2.2.2.2.2.2.1 dv cv W B (Nat.le_trans hBw hW.size) (h.1.keep (hkeep W hW) (Nat.le_refl _)) (h.2.1.keep (hkeep W hW) (Nat.le_refl _)))
 have htl:=encT_len hok.2.2.2.2.2.2.1;have HNU:=Lib.hid hok.nums;have HEA:=Lib.hid hok.earl;have hel:f.e.length≤8:=hok.2.2.2.2.2.2.2.1;have hHE:encA f=f.nums.flatMap intL++rawL (encT f.d f.c)++intL (f.e.length:Int)++prE f.e:=rfl;obtain ⟨Ae,ce,rfl,x5,x6⟩:=h.2.2.pairs;clear h hok hkeep x5;have HEV:=Lib.hid x6;clear x6;generalize encT f.d f.c=tb at *;have hnl:f.nums.length=11:=rfl;have hNU:f.nums=[0,f.day,f.known,f.file,f.office,f.party,f.other,0,0,0,0]:=rfl;generalize encA f=eb at *;generalize f.nums=nu at *;obtain ⟨day,known,file,office,party,other,d,c,el⟩:=f;unfold Fil.vals at *;dsimp only at *;clear d c;have HHE:=Lib.hid hHE;have HNL:=Lib.hid hNU;clear hHE hNU;have X0:=Blk.new w 41 #[iI 0,iI day,iI known,iI file,iI office,iI party,iI other,iI 0,iI 0,iI 0,iI 0,dv,cv,nN,.slice Ae el.length ce,iI 0,iI 0,nN,nN];have P0:=below_new w (.cells #[iI 0,iI day,iI known,iI file,iI office,iI party,iI other,iI 0,iI 0,iI 0,iI 0,dv,cv,nN,.slice Ae el.length ce,iI 0,iI 0,nN,nN] 41);go_enter Tryz.func71,Tryz.ntmps71
 go_wp2_with (refine wpList_loadA X0 rfl _ rfl rfl rfl ?_)
 refine (HV.out _ P0).mono ?_
 rintro e w1 ⟨rfl,hb1⟩;have P1:=below_up P0 hb1 P0.size;have X1:=X0.keep hb1;clear hb1 P0 X0;have hcx2:=X1.c19;go_upto_region 6 with fail;have R3:=Blk.new w1 3 #[iI 0,iI day,iI known,iI file,iI office,iI party,iI other,iI 0,iI 0,iI 0,iI 0];have X3:=X1.alloc (.cells #[iI 0,iI day,iI known,iI file,iI office,iI party,iI other,iI 0,iI 0,iI 0,iI 0] 3);have P3:=P1.alloc P1.size (.cells #[iI 0,iI day,iI known,iI file,iI office,iI party,iI other,iI 0,iI 0,iI 0,iI 0] 3);have hsz:(w1.alloc (.cells #[iI 0,iI day,iI known,iI file,iI office,iI party,iI other,iI 0,iI 0,iI 0,iI 0] 3)).heap.size=w1.heap.size+1:=World.size_alloc ..;have HC3:(ints nu).toArray=#[iI 0,iI day,iI known,iI file,iI office,iI party,iI other,iI 0,iI 0,iI 0,iI 0]:=by rw [HNL.out];rfl
 have R3:Blk (w1.alloc (.cells #[iI 0,iI day,iI known,iI file,iI office,iI party,iI other,iI 0,iI 0,iI 0,iI 0] 3)) w1.heap.size 3 (ints nu).toArray:=by rw [HC3];exact R3
 have hlt1:=X1.lt;clear hcx2 X1 P1;generalize w1.alloc (.cells #[iI 0,iI day,iI known,iI file,iI office,iI party,iI other,iI 0,iI 0,iI 0,iI 0] 3)=w3 at *;clear HC3;generalize w1.heap.size=g at *;have O3:OwnB w3 (g+1) (.slice none 0 0) []:=OwnB.nil ..;go_loopw [5,6] (fun u j wr=>∃ k:Nat,j=.int .i64 (k:Int)∧k≤11∧OwnB wr (g+1) u ((nu.take k).flatMap intL)∧Below w.heap.size w wr∧Blk wr w.heap.size 41 #[iI 0,iI day,iI known,iI file,iI office,iI party,iI other,iI 0,iI 0,iI 0,iI 0,dv,cv,nN,.slice Ae el.length ce,iI 0,iI 0,nN,nN]∧Blk wr g 3 (ints nu).toArray) (fun _ j _=>11 - (intOf j).toNat)
 case atStart=>exact ⟨0,rfl,Nat.zero_le _,by simpa using O3,P3,X3,R3⟩
 case round =>
  obtain ⟨k,rfl,hk,hO,hB,hX,hR⟩:=hrel;have hfl:=ints_flat (l:=nu.take k) (fun x hx=>HNU.out x (List.mem_of_mem_take hx))
  rw [List.length_take] at hfl;by_cases hlt:k<11
  ·have hkn:k<nu.length:=by omega
   have hc:=hR.cellAt k (.int .i64 nu[k]) (by rw [List.getElem?_toArray];exact ints_get nu k hkn)
   have HS:=Lib.hid (nums_step hkn);obtain ⟨n0,n1⟩:=HNU.out nu[k] (List.getElem_mem hkn);have hil:=intL_len n0 n1;generalize nu[k]=x at *;generalize (nu.take k).flatMap intL=bs at *;clear X3 P3 O3 R3;go_wp2_with fail;refine (refint_any x n0 n1 wr).mono ?_
   rintro e w4 ⟨v4,rfl,o4,hb4⟩;have P4:=below_up hB hb4 hB.size;have X4:=hX.keep hb4;have R4:=hR.keep hb4;have O4:=hO.below hb4;have hg4:=R4.lt;clear hc;go_wp2_with (at_builtin;refine wpList_appB rfl _ _ rfl (g+1) _ bs rfl O4 _ (intL x) rfl o4.rep (by omega) hg4 ?_;intro v7 w7 o7 g7)
   have P7:=P4.grown g7 P4.size (fun q e=>by have:=O4.lt q e;omega)
   have X7:=X4.grown g7 (fun e=>by have:=O4.lt _ e.symm;omega)
   have R7:=R4.grown g7 (fun e=>by have:=O4.lt _ e.symm;omega)
   rw [← HS.out] at o7;go_roundw
   case rel=>exact ⟨k+1,by go_num,by omega,o7,P7,X7,R7⟩
   case measure=>simp [intOf];omega
  ·obtain rfl:k=11:=by omega
   rw [List.take_of_length_le (by omega)] at hO
   have hcx:=hX.c19;clear X3 P3 O3 R3 hR;generalize hE1:nu.flatMap intL=bs at *
   have hbl:bs.length≤110:=by
    rw [← hE1];have:=ints_flat HNU.out;omega
   have HE1:=Lib.hid hE1;have W0:Writ w wr 41 #[iI 0,iI day,iI known,iI file,iI office,iI party,iI other,iI 0,iI 0,iI 0,iI 0,dv,cv,nN,.slice Ae el.length ce,iI 0,iI 0,nN,nN] _ bs:=⟨hX,hB,hO.mono (by omega)⟩
   clear hE1 hfl hX hB hO;go_wp2_with fail;refine (HT.out _ W0.2.1).mono ?_
   rintro e w4 ⟨v4,rfl,o4,hb4⟩;have W4:=W0.call hb4;clear hcx W0 hb4
   have hrl:(rawL tb).length≤940020:=by
    have:=uv_len10 (n:=tb.length) (by omega)
    unfold rawL;simp only [List.length_append];omega
   go_wp2_with fail;refine (refraw_any v4 tb _ (by omega) o4.rep).mono ?_
   rintro e w5 ⟨v5,rfl,o5,hb5⟩;have W5:=W4.call hb5;clear W4 o4 hb5;go_upto_region 13 with (at_builtin;refine wpList_appB rfl _ _ rfl (w.heap.size+1) _ bs rfl W5.2.2 _ (rawL tb) rfl o5.rep (by omega) W5.size ?_;intro v7 w7 o7 g7)
   have W7:=W5.app o7 g7;clear W5 o5 o7 g7;have hcx:w7.cell? ⟨w.heap.size,14,none⟩=some (.slice Ae el.length ce):=W7.1.cell 14;have hil:=intL_len (n:=(el.length:Int)) (by omega) (by omega)
   go_wp2_with fail;refine (refint_any (el.length:Int) (by omega) (by omega) w7).mono ?_
   rintro e w8 ⟨v8,rfl,o8,hb8⟩;have W8:=W7.call hb8;clear hcx W7 hb8;go_upto_region 15 with (at_builtin;refine wpList_appB rfl _ _ rfl (w.heap.size+1) _ (bs++rawL tb) rfl W8.2.2 _ (intL (el.length:Int)) rfl o8.rep (by rw [List.length_append];omega) W8.size ?_;intro v9 w9 o9 g9)
   have W9:=W8.app o9 g9;clear W8 o8 o9 g9;generalize hE2:bs++rawL tb++intL (el.length:Int)=bs2 at *
   have hb2:bs2.length≤950000:=by
    rw [← hE2];simp only [List.length_append];omega
   have HE2:=Lib.hid hE2;clear hE2 hil hrl hbl;go_loopw [5,9] (fun u j wr=>∃ k:Nat,j=.int .i64 (k:Int)∧k≤el.length∧Writ w wr 41 #[iI 0,iI day,iI known,iI file,iI office,iI party,iI other,iI 0,iI 0,iI 0,iI 0,dv,cv,nN,.slice Ae el.length ce,iI 0,iI 0,nN,nN] u (bs2++prE (el.take k))) (fun _ j _=>el.length - (intOf j).toNat)
   case atStart=>exact ⟨0,rfl,Nat.zero_le _,by simpa [prE] using W9⟩
   case round =>
    obtain ⟨k,rfl,hk,hW⟩:=hrel;have hpl:=prE_len (e:=el.take k) (fun p hp=>HEA.out p (List.mem_of_mem_take hp))
    rw [List.length_take] at hpl;have hcx:wr.cell? ⟨w.heap.size,14,none⟩=some (.slice Ae el.length ce):=hW.1.cell 14;by_cases hlt:k<el.length
    ·obtain ⟨b,o,rfl,hb,c0,c1⟩:=HEV.out k hlt
     have hb':b<w.heap.size:=Nat.lt_of_lt_of_le hb hBw;have e0:=(hW.2.1.cell (p:=⟨b,o+k * 2,none⟩) hb').trans c0;obtain ⟨⟨p1,p2⟩,p3,p4⟩:=HEA.out _ (List.getElem_mem hlt);have HS:=Lib.hid (prE_step hlt);have HC1:=Lib.hid c1;generalize el[k].1=x at *;generalize el[k].2=y at *;generalize prE (el.take k)=ps at *;have hi1:=intL_len (n:=x) (by omega) (by omega)
     have hi2:=intL_len (n:=y) (by omega) (by omega)
     clear c0 c1 W9;go_wp2_with fail;refine (refint_any x (by omega) (by omega) wr).mono ?_
     rintro e w4 ⟨v4,rfl,o4,hb4⟩;have W4:=hW.call hb4;clear hcx e0 hW hb4;go_upto_region 18 with (at_builtin;refine wpList_appB rfl _ _ rfl (w.heap.size+1) _ (bs2++ps) rfl W4.2.2 _ (intL x) rfl o4.rep (by rw [List.length_append];omega) W4.size ?_;intro v7 w7 o7 g7)
     have W7:=W4.app o7 g7;clear W4 o4 o7 g7;have hcx:w7.cell? ⟨w.heap.size,14,none⟩=some (.slice (some ⟨b,o,none⟩) el.length ce):=W7.1.cell 14;have e1:=(W7.2.1.cell (p:=⟨b,o+k * 2+1,none⟩) hb').trans HC1.out;go_wp2_with fail;refine (refint_any y (by omega) (by omega) w7).mono ?_
     rintro e w8 ⟨v8,rfl,o8,hb8⟩;have W8:=W7.call hb8;clear hcx e1 W7 hb8;go_wp2_with (at_builtin;refine wpList_appB rfl _ _ rfl (w.heap.size+1) _ (bs2++ps++intL x) rfl W8.2.2 _ (intL y) rfl o8.rep (by simp only [List.length_append];omega) W8.size ?_;intro v9 w9 o9 g9)
     have W9:=W8.app o9 g9;have hass:bs2++ps++intL x++intL y=bs2++(ps++intL x++intL y):=by simp only [List.append_assoc]
     rw [hass,← HS.out] at W9;clear W8 o8 o9 g9 hass;go_roundw
     case rel=>exact ⟨k+1,by go_num,by omega,W9⟩
     case measure=>simp [intOf];omega
    ·obtain rfl:k=el.length:=by omega
     rw [List.take_length] at hW;have hcy:wr.cell? ⟨w.heap.size,13,none⟩=some (.slice none 0 0):=hW.1.cell 13;have hfin:bs2++prE el=eb:=by rw [HHE.out,← HE2.out,← HE1.out]
     rw [hfin] at hW;clear hfin W9;go_wp2_with fail;exact bodyPost_ret (results_tmp2 rfl _ _ _) rfl ⟨_,rfl,hW.2.2.mono (Nat.le_succ _),hW.2.1⟩
theorem encA_bytes (f:Fil):Bytes (encA f) :=
 (((Bytes.flat fun _ _=>int_bytes _).app (raw_bytes (encT_bytes _ _))).app (int_bytes _)).app (Bytes.flat fun _ _=>(int_bytes _).app (int_bytes _))
theorem encA_len {f:Fil} (h:OkFil f):(encA f).length≤1000000:=by
 have h1:=ints_flat h.nums;have h2:=encT_len h.2.2.2.2.2.2.1;have h3:=intL_len (n:=(f.e.length:Int)) (by omega) (by have:=h.2.2.2.2.2.2.2.1;omega)
 have h4:=prE_len h.earl;have h5:=h.2.2.2.2.2.2.2.1;have h6:=uv_len10 (n:=(encT f.d f.c).length) (by omega)
 have h7:f.nums.length=11:=rfl;unfold encA rawL;simp only [List.length_append];omega
theorem entry_any (f:Fil) (hok:OkFil f) (dv cv ev:Value) (salt:Nat) (hs:salt<18446744073709551616) (w:World) (B:Nat) (hBw:B≤w.heap.size) (h:FilAt w B f dv cv ev) :
  Calls Tryz.prog 29 #[.agg (f.vals dv cv ev),.int .u64 (salt:Int)] w fun e w'=>e=.returned (.int .u64 (commitN (encA f) salt:Int))∧Below w.heap.size w w':=by
 have HE:=Lib.hid (fun (W:World) (hW:Below w.heap.size w W)=>refaenc_own f hok dv cv ev W B (Nat.le_trans hBw hW.size) (h.keep (fun p hp=>hW.cell (Nat.lt_of_lt_of_le hp hBw)) (Nat.le_refl _)))
 have hlen:=encA_len hok;have hbb:=Lib.hid (encA_bytes f);clear h hok hBw;generalize encA f=bs at *;have hvs:(f.vals dv cv ev).size=19:=rfl;have X0:=Blk.new w 41 (f.vals dv cv ev);have P0:=below_new w (.cells (f.vals dv cv ev) 41);obtain ⟨day,known,file,office,party,other,d,c,el⟩:=f;unfold Fil.vals at *;dsimp only at *;clear d c el;go_enter Tryz.func29,Tryz.ntmps29
 go_wp2_with (refine wpList_loadA X0 rfl _ rfl rfl rfl ?_)
 refine (HE.out _ P0).mono ?_
 rintro e w1 ⟨v1,rfl,o1,hb1⟩;have P1:=below_up P0 hb1 P0.size;go_wp2_with fail;refine (refcommit_any v1 bs hbb.out (by omega) salt hs w1 o1.rep).mono ?_
 rintro e w2 ⟨rfl,hb2⟩;have P2:=below_up P1 hb2 P1.size;go_wp2_with fail;go_ret;exact ⟨rfl,P2⟩
def first3 (a b c:Int):Int:=if a=0 then (if b=0 then c else b) else a
theorem first3_any (C:Array Value) (p2 p3:Value) (c1 c2 c3:Int) (w:World) (b:Nat)
  (hb:Blk w b 97 #[.func (.func 45) #[.agg C] #[],.func (.func 46) #[] #[p2,p3],.func (.func 48) #[.agg C] #[]])
  (H1:∀ W,Below w.heap.size w W→Calls Tryz.prog 45 #[.agg C] W fun e w'=>e=.returned (.int .i64 c1)∧Below W.heap.size W w')
  (H2:c1=0→∀ W,Below w.heap.size w W→Calls Tryz.prog 46 #[p2,p3] W fun e w'=>e=.returned (.int .i64 c2)∧Below W.heap.size W w')
  (H3:c1=0→c2=0→∀ W,Below w.heap.size w W→Calls Tryz.prog 48 #[.agg C] W fun e w'=>e=.returned (.int .i64 c3)∧Below W.heap.size W w') :
  Calls Tryz.prog 44 #[.slice (some ⟨b,0,none⟩) 3 3] w fun e w'=>e=.returned (.int .i64 (first3 c1 c2 c3))∧Below w.heap.size w w':=by
 have K1:=Lib.hid H1;have K2:=Lib.hid H2;have K3:=Lib.hid H3;clear H1 H2 H3;go_enter Tryz.func44,Tryz.ntmps44
 go_wp2_with fail;go_loopw [8] (fun j wr=>∃ k:Nat,j=.int .i64 (k:Int)∧k≤3∧(1≤k→c1=0)∧(2≤k→c2=0)∧(3≤k→c3=0)∧Below w.heap.size w wr) (fun j _=>3 - (intOf j).toNat)
 case atStart=>exact ⟨0,rfl,by omega,by omega,by omega,by omega,Below.refl _ _⟩
 case round =>
  obtain ⟨k,rfl,hk,a1,a2,a3,hB⟩:=hrel;have hb':=hb.under hB hb.lt;have HA1:=Lib.hid a1;have HA2:=Lib.hid a2;have HA3:=Lib.hid a3;clear a1 a2 a3;have hcase:k=0∨k=1∨k=2∨k=3:=by omega
  rcases hcase with rfl | rfl | rfl | rfl
  ·have hc:=hb'.cell 0
   by_cases h0:c1=0
   ·have e0:(c1 != 0)=false:=by simp [h0]
    go_wp2_with (refine (K1.out wr hB).mono ?_;rintro e w2 ⟨rfl,hb2⟩)
    go_roundw
    case rel=>exact ⟨1,by go_num,by omega,fun _=>h0,by omega,by omega,below_up hB hb2 hB.size⟩
    case measure=>simp [intOf]
   ·have e0:(c1 != 0)=true:=by simp [h0]
    go_wp2_with (refine (K1.out wr hB).mono ?_;rintro e w2 ⟨rfl,hb2⟩)
    go_ret;exact ⟨by unfold first3;rw [if_neg h0];rfl,below_up hB hb2 hB.size⟩
  ·have hc:=hb'.cell 1
   have z1:=HA1.out (Nat.le_refl _);by_cases h0:c2=0
   ·have e0:(c2 != 0)=false:=by simp [h0]
    go_wp2_with (refine (K2.out z1 wr hB).mono ?_;rintro e w2 ⟨rfl,hb2⟩)
    go_roundw
    case rel=>exact ⟨2,by go_num,by omega,fun _=>z1,fun _=>h0,by omega,below_up hB hb2 hB.size⟩
    case measure=>simp [intOf]
   ·have e0:(c2 != 0)=true:=by simp [h0]
    go_wp2_with (refine (K2.out z1 wr hB).mono ?_;rintro e w2 ⟨rfl,hb2⟩)
    go_ret;exact ⟨by unfold first3;rw [if_pos z1,if_neg h0];rfl,below_up hB hb2 hB.size⟩
  ·have hc:=hb'.cell 2
   have z1:=HA1.out (by omega)
   have z2:=HA2.out (by omega)
   by_cases h0:c3=0
   ·have e0:(c3 != 0)=false:=by simp [h0]
    go_wp2_with (refine (K3.out z1 z2 wr hB).mono ?_;rintro e w2 ⟨rfl,hb2⟩)
    go_roundw
    case rel=>exact ⟨3,by go_num,by omega,fun _=>z1,fun _=>z2,fun _=>h0,below_up hB hb2 hB.size⟩
    case measure=>simp [intOf]
   ·have e0:(c3 != 0)=true:=by simp [h0]
    go_wp2_with (refine (K3.out z1 z2 wr hB).mono ?_;rintro e w2 ⟨rfl,hb2⟩)
    go_ret;exact ⟨by unfold first3;rw [if_pos z1,if_pos z2];rfl,below_up hB hb2 hB.size⟩
  ·have z1:=HA1.out (by omega)
   have z2:=HA2.out (by omega)
   have z3:=HA3.out (by omega)
   go_wp2_with fail;go_ret;exact ⟨by unfold first3;rw [if_pos z1,if_pos z2,z3];rfl,hB⟩
def cop (h:Hd) (i:Int) (f:Fil) (dv cv ev:Value) (salt:Nat) (p:Value):Array Value :=
 #[iI h.office,iI h.tick,iI h.day,iI h.size,uI (h.log:Int),uI (h.map:Int),iI h.sld,uI (h.sign:Int),iI i,
  iI 0,iI f.day,iI f.known,iI f.file,iI f.office,iI f.party,iI f.other,iI 0,iI 0,iI 0,iI 0,dv,cv,nN,ev,iI 0,iI 0,nN,nN,
  uI (salt:Int),p]
def ActIn (C:Array Value) (f:Fil) (dv cv ev:Value):Prop:=∀ (j:Nat) (v:Value),(f.vals dv cv ev).toList[j]?=some v→C[9+j]?=some v
def HdIn (C:Array Value) (h:Hd):Prop:=∀ (j:Nat) (v:Value),h.vals.toList[j]?=some v→C[j]?=some v
structure IsCop (C:Array Value) (h:Hd) (i:Int) (f:Fil) (dv cv ev:Value) (salt:Nat) (p:Value):Prop where
 size:C.size=30
 act:ActIn C f dv cv ev
 hd:HdIn C h
 idx:C[8]?=some (.int .i64 i)
 salt:C[28]?=some (.int .u64 (salt:Int))
 path:C[29]?=some p
theorem lt_of_some {α:Type} {l:List α} {j:Nat} {v:α} (h:l[j]?=some v):j<l.length:=by
 rcases Nat.lt_or_ge j l.length with h1 | h1
 ·exact h1
 ·rw [List.getElem?_eq_none h1] at h;cases h
theorem cop_is (h:Hd) (i:Int) (f:Fil) (dv cv ev:Value) (salt:Nat) (p:Value):IsCop (cop h i f dv cv ev salt p) h i f dv cv ev salt p:=by
 refine ⟨rfl,fun j v hj=>?_,fun j v hj=>?_,rfl,rfl,rfl⟩
 ·have hlt:j<19:=lt_of_some hj
  have e:j=0∨j=1∨j=2∨j=3∨j=4∨j=5∨j=6∨j=7∨j=8∨j=9∨j=10∨j=11∨j=12∨j=13∨j=14∨j=15∨j=16∨j=17∨j=18:=by omega
  rcases e with rfl | rfl | rfl | rfl | rfl | rfl | rfl | rfl | rfl | rfl | rfl | rfl | rfl | rfl | rfl | rfl | rfl | rfl | rfl <;> exact hj
 ·have hlt:j<8:=lt_of_some hj
  have e:j=0∨j=1∨j=2∨j=3∨j=4∨j=5∨j=6∨j=7:=by omega
  rcases e with rfl | rfl | rfl | rfl | rfl | rfl | rfl | rfl <;> exact hj
section
variable {T:TypeId} {C:Array Value} {h:Hd} {i:Int} {f:Fil} {dv cv ev:Value} {salt:Nat} {p:Value}
theorem IsCop.range {W:World} {g:Nat} (hc:IsCop C h i f dv cv ev salt p) (hb:Blk W g T C):W.rangeAt g 9 (f.vals dv cv ev).toList:=fun j v hj=>hb.cellAt _ _ (hc.act j v hj)
theorem IsCop.hrange {W:World} {g:Nat} (hc:IsCop C h i f dv cv ev salt p) (hb:Blk W g T C):W.rangeAt g 0 h.vals.toList:=fun j v hj=>by rw [Nat.zero_add];exact hb.cellAt _ _ (hc.hd j v hj)
theorem IsCop.cells {W:World} {g:Nat} (hc:IsCop C h i f dv cv ev salt p) (hb:Blk W g T C) :
  W.cell? ⟨g,0,none⟩=some (.int .i64 h.office)∧W.cell? ⟨g,1,none⟩=some (.int .i64 h.tick)∧W.cell? ⟨g,3,none⟩=some (.int .i64 h.size)∧W.cell? ⟨g,4,none⟩=some (.int .u64 (h.log:Int)) ∧
   W.cell? ⟨g,8,none⟩=some (.int .i64 i)∧W.cell? ⟨g,9,none⟩=some (.int .i64 0)∧W.cell? ⟨g,11,none⟩=some (.int .i64 f.known)∧W.cell? ⟨g,13,none⟩=some (.int .i64 f.office)∧W.cell? ⟨g,28,none⟩=some (.int .u64 (salt:Int))∧W.cell? ⟨g,29,none⟩=some p :=
 ⟨hb.cellAt _ _ (hc.hd 0 _ rfl),hb.cellAt _ _ (hc.hd 1 _ rfl),hb.cellAt _ _ (hc.hd 3 _ rfl),hb.cellAt _ _ (hc.hd 4 _ rfl),hb.cellAt _ _ hc.idx,hb.cellAt _ _ (hc.act 0 _ rfl),hb.cellAt _ _ (hc.act 2 _ rfl),hb.cellAt _ _ (hc.act 4 _ rfl),hb.cellAt _ _ hc.salt,hb.cellAt _ _ hc.path⟩
theorem wp_loadCA (hc:IsCop C h i f dv cv ev salt p) {w:World} {g:Nat} (hb:Blk w g T C) {o:Oper} {a:Act} {K:Act→World→Prop} {Q:Exit→Act→World→Prop} (x:Operand) (ho:o.op=.load 41 x)
  (hx:a.eval x=.pointer (some ⟨g,9,none⟩)) (hK:K (a.put o.dst (.agg (f.vals dv cv ev))) w):o.wp Tryz.prog a w K Q:=by
 refine wp_load_mid 41 x ho g 9 hx (f.vals dv cv ev).toList _ (hc.range hb) Tryz.underlying41 rfl (by kernel_rfl) ?_
 rw [Array.toArray_toList];exact hK
theorem wpList_loadCA (hc:IsCop C h i f dv cv ev salt p) {w:World} {g:Nat} (hb:Blk w g T C) {ops:Array Oper} {rest:List Oper} {o:Oper} {a:Act} {Q:Exit→Act→World→Prop} (x:Operand) (ho:o.op=.load 41 x) (hw:Region.wanted o (yielded ops a.tmps)=true)
  (hx:a.eval x=.pointer (some ⟨g,9,none⟩)) (hK:wpList Tryz.prog ops Q rest (a.put o.dst (.agg (f.vals dv cv ev))) w):wpList Tryz.prog ops Q (o::rest) a w :=
 wpList_step fun _ h2=>by
  rw [if_pos hw];exact wp_loadCA hc hb x ho hx (h2 _ _ hK)
theorem wpList_loadCH (hc:IsCop C h i f dv cv ev salt p) {w:World} {g:Nat} (hb:Blk w g T C) {ops:Array Oper} {rest:List Oper} {o:Oper} {a:Act} {Q:Exit→Act→World→Prop} (x:Operand) (ho:o.op=.load 49 x) (hw:Region.wanted o (yielded ops a.tmps)=true)
  (hx:a.eval x=.pointer (some ⟨g,0,none⟩)) (hK:wpList Tryz.prog ops Q rest (a.put o.dst (.agg h.vals)) w):wpList Tryz.prog ops Q (o::rest) a w :=
 wpList_step fun _ h2=>by
  rw [if_pos hw];refine wp_load_mid 49 x ho g 0 hx h.vals.toList _ (hc.hrange hb) Tryz.underlying49 rfl (by kernel_rfl) ?_
  rw [Array.toArray_toList];exact h2 _ _ hK
end
theorem wp_loadC {w:World} {g:Nat} {cs:Array Value} (h:Blk w g 51 cs) (hs:cs.size=30) {o:Oper} {a:Act} {K:Act→World→Prop} {Q:Exit→Act→World→Prop} (x:Operand) (ho:o.op=.load 51 x)
  (hx:a.eval x=.pointer (some ⟨g,0,none⟩)) (hK:K (a.put o.dst (.agg cs)) w):o.wp Tryz.prog a w K Q:=by
 refine wp_load_mid 51 x ho g 0 hx cs.toList _ (fun j v hv=>by rw [Nat.zero_add,h.cell j,← Array.getElem?_toList];exact hv) Tryz.underlying51 rfl (by rw [Array.length_toList,hs];kernel_rfl) ?_
 rw [Array.toArray_toList];exact hK
theorem wpList_loadC {w:World} {g:Nat} {cs:Array Value} (h:Blk w g 51 cs) (hs:cs.size=30) {ops:Array Oper} {rest:List Oper} {o:Oper} {a:Act} {Q:Exit→Act→World→Prop} (x:Operand) (ho:o.op=.load 51 x) (hw:Region.wanted o (yielded ops a.tmps)=true)
  (hx:a.eval x=.pointer (some ⟨g,0,none⟩)) (hK:wpList Tryz.prog ops Q rest (a.put o.dst (.agg cs)) w):wpList Tryz.prog ops Q (o::rest) a w :=
 wpList_step fun _ h2=>by
  rw [if_pos hw];exact wp_loadC h hs x ho hx (h2 _ _ hK)
theorem wp_loadK {w:World} {g:Nat} {cs:Array Value} (h:Blk w g 44 cs) (hs:cs.size=30) {o:Oper} {a:Act} {K:Act→World→Prop} {Q:Exit→Act→World→Prop} (x:Operand) (ho:o.op=.load 44 x)
  (hx:a.eval x=.pointer (some ⟨g,0,none⟩)) (hK:K (a.put o.dst (.agg cs)) w):o.wp Tryz.prog a w K Q:=by
 refine wp_load_mid 44 x ho g 0 hx cs.toList _ (fun j v hv=>by rw [Nat.zero_add,h.cell j,← Array.getElem?_toList];exact hv) Tryz.underlying44 rfl (by rw [Array.length_toList,hs];kernel_rfl) ?_
 rw [Array.toArray_toList];exact hK
theorem wpList_loadK {w:World} {g:Nat} {cs:Array Value} (h:Blk w g 44 cs) (hs:cs.size=30) {ops:Array Oper} {rest:List Oper} {o:Oper} {a:Act} {Q:Exit→Act→World→Prop} (x:Operand) (ho:o.op=.load 44 x) (hw:Region.wanted o (yielded ops a.tmps)=true)
  (hx:a.eval x=.pointer (some ⟨g,0,none⟩)) (hK:wpList Tryz.prog ops Q rest (a.put o.dst (.agg cs)) w):wpList Tryz.prog ops Q (o::rest) a w :=
 wpList_step fun _ h2=>by
  rw [if_pos hw];exact wp_loadK h hs x ho hx (h2 _ _ hK)
def filE (f:Fil) (o:Int):Int:=if f.office=o then 0 else 22
theorem cfiling_any {C:Array Value} {h:Hd} {i:Int} {f:Fil} {dv cv ev:Value} {salt:Nat} {p:Value} (hC:IsCop C h i f dv cv ev salt p) (hok:OkFil f) (w:World) (hG:w.cell? ⟨0,0,none⟩=some (.int .i64 655)) (h0:0<w.heap.size) (B:Nat) (hBw:B≤w.heap.size) (hf:FilAt w B f dv cv ev) :
  Calls Tryz.prog 45 #[.agg C] w fun e w'=>e=.returned (.int .i64 (filE f h.office))∧Below w.heap.size w w':=by
 have HV:=Lib.hid (fun (W:World) (hW:Below w.heap.size w W)=>avalid_any f hok dv cv ev W ((hW.cell (p:=⟨0,0,none⟩) h0).trans hG) (Nat.lt_of_lt_of_le h0 hW.size) B (Nat.le_trans hBw hW.size) (hf.keep (fun p hp=>hW.cell (Nat.lt_of_lt_of_le hp hBw)) (Nat.le_refl _)))
 have X0:=Blk.new w 51 C;have P0:=below_new w (.cells C 51);have hcc:=hC.size;clear hok hf hG;go_enter Tryz.func45,Tryz.ntmps45
 go_wp2_with (refine wpList_loadCA hC X0 _ rfl rfl rfl ?_)
 refine (HV.out _ P0).mono ?_
 rintro e w1 ⟨rfl,hb1⟩;have hc:=hC.cells (X0.keep hb1);have P1:=below_up P0 hb1 P0.size;by_cases he:f.office=h.office
 ·have e1:(f.office != h.office)=false:=by simp [he]
  go_wp2_with fail;go_ret;exact ⟨by unfold filE;rw [if_pos he];rfl,P1⟩
 ·have e1:(f.office != h.office)=true:=by simp [he]
  go_wp2_with fail;go_ret;exact ⟨by unfold filE;rw [if_neg he];rfl,P1⟩
def logE (h:Hd) (f:Fil) (salt:Nat):Int:=if h.log=leafN (commitN (encA f) salt) then 0 else 10
theorem logcheck_any (root h:Nat) (hh:h<18446744073709551616) (A:Option Addr) (c:Nat) (w:World) :
  Calls Tryz.prog 98 #[.int .u64 (root:Int),.int .i64 0,.int .i64 1,.int .u64 (h:Int),.slice A 0 c] w fun e w'=>e=.returned (.int .i64 (if root=leafN h then 0 else 10))∧Below w.heap.size w w':=by
 by_cases hr:root=leafN h
 ·rw [if_pos hr];exact logcheck_ok root h hh hr A c w
 ·rw [if_neg hr];exact logcheck_bad root h hh hr A c w
theorem clogged_any {C:Array Value} {h:Hd} {f:Fil} {dv cv ev:Value} {salt:Nat} {A:Option Addr} {cp:Nat} (hC:IsCop C h 0 f dv cv ev salt (.slice A 0 cp)) (hok:OkFil f) (hs1:h.size=1) (hkt:f.known≤h.tick) (hsalt:salt<18446744073709551616) (w:World) (hG:w.cell? ⟨0,0,none⟩=some (.int .i64 655)) (h0:0<w.heap.size) (B:Nat) (hBw:B≤w.heap.size) (hf:FilAt w B f dv cv ev) :
  Calls Tryz.prog 48 #[.agg C] w fun e w'=>e=.returned (.int .i64 (logE h f salt))∧Below w.heap.size w w':=by
 have HE:=Lib.hid (fun (W:World) (hW:Below w.heap.size w W)=>aenc_own f hok dv cv ev W ((hW.cell (p:=⟨0,0,none⟩) h0).trans hG) (Nat.lt_of_lt_of_le h0 hW.size) B (Nat.le_trans hBw hW.size) (hf.keep (fun p hp=>hW.cell (Nat.lt_of_lt_of_le hp hBw)) (Nat.le_refl _)))
 have X0:=Blk.new w 51 C;have P0:=below_new w (.cells C 51);have hcc:=hC.size;have hk:decide (h.tick<f.known)=false:=decide_eq_false (by omega)
 have hlen:=encA_len hok;have hbb:=Lib.hid (encA_bytes f);have hLE:logE h f salt=if h.log=leafN (commitN (encA f) salt) then 0 else 10:=rfl
 have HLE:=Lib.hid hLE;clear hLE;generalize logE h f salt=le at *;clear hok hf hG;generalize encA f=bs at *;have hc:=hC.cells X0;rw [hs1] at hc;go_enter Tryz.func48,Tryz.ntmps48
 go_wp2_with (refine wpList_loadCA hC X0 _ rfl rfl rfl ?_)
 refine (HE.out _ P0).mono ?_
 rintro e w1 ⟨u,rfl,o1,hb1⟩;have X1:=X0.keep hb1;have P1:=below_up P0 hb1 P0.size;have R1:=o1.rep;have hclt:commitN bs salt<18446744073709551616:=lab_lt _ _;clear hc P0 hb1 o1;go_upto_region 6 with fail;refine wp_region_held_drew (S:=(fun W=>Below w1.heap.size w1 W)) (by kernel_rfl) ?_ (fun hHeld=>?_)
 ·first | done | ((try dsimp only);exact (Below.refl _ _).drew)
 generalize w1.drew=wb at *;refine tq 0 21 rfl ?_
 refine tq 1 22 rfl ?_
 refine tq 2 23 rfl ?_ (hy:=by intro w' hSw;(try dsimp only at hSw);have hc:=hC.cells (X1.keep hSw);rw [hs1] at hc;go_simp;try (with_reducible rfl))
 refine tq 3 24 rfl ?_
 refine tq 4 25 rfl ?_ (hy:=by intro w' hSw;(try dsimp only at hSw);have hc:=hC.cells (X1.keep hSw);rw [hs1] at hc;go_simp;try (with_reducible rfl))
 refine tq 5 26 rfl ?_
 refine tq 6 27 rfl ?_
 refine tq 7 28 rfl ?_ (hy:=by intro w' hSw;(try dsimp only at hSw);have hc:=hC.cells (X1.keep hSw);rw [hs1] at hc;go_simp;try (with_reducible rfl))
 refine tq 8 29 rfl ?_
 refine tq 9 30 rfl ?_
 refine tq 10 31 rfl ?_ (hy:=by intro w' hSw;(try dsimp only at hSw);have hc:=hC.cells (X1.keep hSw);rw [hs1] at hc;go_simp;try (with_reducible rfl))
 refine tq 12 33 rfl ?_
 refine tq 13 34 rfl ?_ (hy:=by intro w' hSw;(try dsimp only at hSw);have hc:=hC.cells (X1.keep hSw);rw [hs1] at hc;go_simp;try (with_reducible rfl))
 refine rd 11 (some 32) rfl fun K hK=>?_
 go_simp
 (refine (commit_any u bs hbb.out (by omega) salt hsalt _ (R1.keep (fun p hp=>hHeld.cell hp) hHeld.size)).mono ?_;rintro e w2 ⟨rfl,hb2⟩)
 refine hK.out _ _ (hHeld.trans (hb2.mono hHeld.size)) fun hHeld=>?_
 clear hK K;(try simp only [pS,pB,pZ,pC]);refine rd 14 (some 35) rfl fun K hK=>?_
 go_simp
 (refine (logcheck_any h.log _ hclt A cp _).mono ?_;rintro e w2 ⟨rfl,hb2⟩;rw [← HLE.out])
 refine hK.out _ _ (hHeld.trans (hb2.mono hHeld.size)) fun hHeld=>?_
 clear hK K;(try simp only [pS,pB,pZ,pC]);refine tq 15 2 rfl ?_
 refine dn ?_
 have HB:=Lib.hid (below_up P1 hHeld P1.size);clear hHeld;go_wp2_with fail;go_ret;exact ⟨rfl,HB.out⟩
def hdE (key:Nat) (h:Hd):Int:=if h.sign=sigN key h then 0 else 23
theorem hdcheck_any (key:Nat) (hk:key<18446744073709551616) (h:Hd) (hl:h.log<18446744073709551616) (hm:h.map<18446744073709551616) (hok:OkHd h.office h.tick h.day h.size h.sld) (w:World) :
  Calls Tryz.prog 47 #[.int .u64 (key:Int),.agg h.vals] w fun e w'=>e=.returned (.int .i64 (hdE key h))∧Below w.heap.size w w':=by
 obtain ⟨o,t,d,s,l,m,sl,sg⟩:=h;unfold hdE Hd.vals;by_cases hs:sg=sigN key ⟨o,t,d,s,l,m,sl,sg⟩
 ·rw [if_pos hs];exact hdcheck_ok key hk o t d s l m hl hm sl sg hok hs w
 ·rw [if_neg hs];exact hdcheck_bad key hk o t d s l m hl hm sl sg hok hs w
theorem ccheck1_any {C:Array Value} {h:Hd} {i:Int} {f:Fil} {dv cv ev:Value} {salt:Nat} {p:Value} (hC:IsCop C h i f dv cv ev salt p) (key:Nat) (hk:key<18446744073709551616) (hl:h.log<18446744073709551616) (hm:h.map<18446744073709551616) (hok:OkHd h.office h.tick h.day h.size h.sld) (kb cb:Nat) (w:World)
  (hb:Blk w kb 27 #[.int .u64 (key:Int)]) (hx:Blk w cb 51 C) :
  Calls Tryz.prog 46 #[.pointer (some ⟨kb,0,none⟩),.pointer (some ⟨cb,0,none⟩)] w fun e w'=>e=.returned (.int .i64 (hdE key h))∧Below w.heap.size w w':=by
 have HK:=Lib.hid (fun W=>hdcheck_any key hk h hl hm hok W)
 have hc:=hb.c1;clear hk hl hm hok hb;go_enter Tryz.func46,Tryz.ntmps46
 go_wp2_with (refine wpList_loadCH hC hx _ rfl rfl rfl ?_)
 refine (HK.out _).mono ?_
 rintro e w1 ⟨rfl,hb1⟩;go_wp2_with fail;go_ret;exact ⟨rfl,hb1⟩
theorem ccheck_any {C:Array Value} {h:Hd} {f:Fil} {dv cv ev:Value} {salt:Nat} {A:Option Addr} {cp:Nat} (hC:IsCop C h 0 f dv cv ev salt (.slice A 0 cp)) (hok:OkFil f) (key:Nat) (hk:key<18446744073709551616) (hs1:h.size=1) (hkt:f.known≤h.tick) (hsalt:salt<18446744073709551616) (hlog:h.log<18446744073709551616) (hm:h.map<18446744073709551616) (hhd:OkHd h.office h.tick h.day h.size h.sld)
  (w:World) (hG:w.cell? ⟨0,0,none⟩=some (.int .i64 655)) (h0:0<w.heap.size) (B:Nat) (hBw:B≤w.heap.size) (hf:FilAt w B f dv cv ev) :
  Calls Tryz.prog 13 #[.int .u64 (key:Int),.agg C] w fun e w'=>e=.returned (.int .i64 (first3 (filE f h.office) (hdE key h) (logE h f salt)))∧Below w.heap.size w w':=by
 have HK:∀ W,Below w.heap.size w W→W.cell? ⟨0,0,none⟩=some (.int .i64 655)∧0<W.heap.size∧B≤W.heap.size∧FilAt W B f dv cv ev:=fun W hW=>⟨(hW.cell (p:=⟨0,0,none⟩) h0).trans hG,Nat.lt_of_lt_of_le h0 hW.size,Nat.le_trans hBw hW.size,hf.keep (fun p hp=>hW.cell (Nat.lt_of_lt_of_le hp hBw)) (Nat.le_refl _)⟩
 have H1:=Lib.hid (fun (W:World) (hW:Below w.heap.size w W)=>cfiling_any hC hok W (HK W hW).1 (HK W hW).2.1 B (HK W hW).2.2.1 (HK W hW).2.2.2)
 have H3:=Lib.hid (fun (W:World) (hW:Below w.heap.size w W)=>clogged_any hC hok hs1 hkt hsalt W (HK W hW).1 (HK W hW).2.1 B (HK W hW).2.2.1 (HK W hW).2.2.2)
 have H2:=Lib.hid (fun (W:World) (kb cb:Nat) hb hx=>ccheck1_any hC key hk hlog hm hhd kb cb W hb hx)
 have X0:=(Blk.new (w.alloc (.cells #[.int .u64 (key:Int)] 27)) 51 C);rw [World.size_alloc] at X0;have K0:=(Blk.new w 27 #[.int .u64 (key:Int)]).alloc (.cells C 51);have P0:=(below_new w (.cells #[.int .u64 (key:Int)] 27)).alloc (by simp) (.cells C 51)
 have hcs:=hC.size;clear HK hC hok hk hs1 hkt hsalt hlog hm hhd hG hf;generalize filE f h.office=e1 at *;generalize hdE key h=e2 at *;generalize logE h f salt=e3 at *;go_enter Tryz.func13,Tryz.ntmps13
 go_wp2_with (refine wpList_loadC X0 hcs _ rfl rfl rfl ?_)
 have hF:=Blk.new ((w.alloc (.cells #[.int .u64 (key:Int)] 27)).alloc (.cells C 51)) 97 #[.func (.func 45) #[.agg C] #[],.func (.func 46) #[] #[.pointer (some ⟨w.heap.size,0,none⟩),.pointer (some ⟨w.heap.size+1,0,none⟩)],.func (.func 48) #[.agg C] #[]]
 have PF:=P0.alloc (by simp;omega) (.cells #[.func (.func 45) #[.agg C] #[],.func (.func 46) #[] #[.pointer (some ⟨w.heap.size,0,none⟩),.pointer (some ⟨w.heap.size+1,0,none⟩)],.func (.func 48) #[.agg C] #[]] 97)
 have XF:=X0.alloc (.cells #[.func (.func 45) #[.agg C] #[],.func (.func 46) #[] #[.pointer (some ⟨w.heap.size,0,none⟩),.pointer (some ⟨w.heap.size+1,0,none⟩)],.func (.func 48) #[.agg C] #[]] 97)
 have KF:=K0.alloc (.cells #[.func (.func 45) #[.agg C] #[],.func (.func 46) #[] #[.pointer (some ⟨w.heap.size,0,none⟩),.pointer (some ⟨w.heap.size+1,0,none⟩)],.func (.func 48) #[.agg C] #[]] 97)
 rw [World.size_alloc,World.size_alloc] at hF;refine (first3_any C _ _ e1 e2 e3 _ _ hF (fun W hW=>H1.out W (PF.trans (hW.mono (PF.size)))) (fun _ W hW=>H2.out W _ _ (KF.keep hW) (XF.keep hW)) (fun _ _ W hW=>H3.out W (PF.trans (hW.mono (PF.size))))).mono ?_
 rintro e w2 ⟨rfl,hb2⟩;have P2:=PF.trans (hb2.mono PF.size);clear hF PF XF KF hb2 H1 H2 H3 X0 K0 P0;go_wp2_with fail;go_ret;exact ⟨rfl,P2⟩
def first2 (a c:Int):Int:=if a=0 then c else a
theorem first2_any (C:Array Value) (c1 c3:Int) (w:World) (b:Nat)
  (hb:Blk w b 97 #[.func (.func 45) #[.agg C] #[],.func (.func 48) #[.agg C] #[]])
  (H1:∀ W,Below w.heap.size w W→Calls Tryz.prog 45 #[.agg C] W fun e w'=>e=.returned (.int .i64 c1)∧Below W.heap.size W w')
  (H3:c1=0→∀ W,Below w.heap.size w W→Calls Tryz.prog 48 #[.agg C] W fun e w'=>e=.returned (.int .i64 c3)∧Below W.heap.size W w') :
  Calls Tryz.prog 44 #[.slice (some ⟨b,0,none⟩) 2 2] w fun e w'=>e=.returned (.int .i64 (first2 c1 c3))∧Below w.heap.size w w':=by
 have K1:=Lib.hid H1;have K3:=Lib.hid H3;clear H1 H3;go_enter Tryz.func44,Tryz.ntmps44
 go_wp2_with fail;go_loopw [8] (fun j wr=>∃ k:Nat,j=.int .i64 (k:Int)∧k≤2∧(1≤k→c1=0)∧(2≤k→c3=0)∧Below w.heap.size w wr) (fun j _=>2 - (intOf j).toNat)
 case atStart=>exact ⟨0,rfl,by omega,by omega,by omega,Below.refl _ _⟩
 case round =>
  obtain ⟨k,rfl,hk,a1,a2,hB⟩:=hrel;have hb':=hb.under hB hb.lt;have HA1:=Lib.hid a1;have HA2:=Lib.hid a2;clear a1 a2;have hcase:k=0∨k=1∨k=2:=by omega
  rcases hcase with rfl | rfl | rfl
  ·have hc:=hb'.cell 0
   by_cases h0:c1=0
   ·have e0:(c1 != 0)=false:=by simp [h0]
    go_wp2_with (refine (K1.out wr hB).mono ?_;rintro e w2 ⟨rfl,hb2⟩)
    go_roundw
    case rel=>exact ⟨1,by go_num,by omega,fun _=>h0,by omega,below_up hB hb2 hB.size⟩
    case measure=>simp [intOf]
   ·have e0:(c1 != 0)=true:=by simp [h0]
    go_wp2_with (refine (K1.out wr hB).mono ?_;rintro e w2 ⟨rfl,hb2⟩)
    go_ret;exact ⟨by unfold first2;rw [if_neg h0];rfl,below_up hB hb2 hB.size⟩
  ·have hc:=hb'.cell 1
   have z1:=HA1.out (by omega)
   by_cases h0:c3=0
   ·have e0:(c3 != 0)=false:=by simp [h0]
    go_wp2_with (refine (K3.out z1 wr hB).mono ?_;rintro e w2 ⟨rfl,hb2⟩)
    go_roundw
    case rel=>exact ⟨2,by go_num,by omega,fun _=>z1,fun _=>h0,below_up hB hb2 hB.size⟩
    case measure=>simp [intOf]
   ·have e0:(c3 != 0)=true:=by simp [h0]
    go_wp2_with (refine (K3.out z1 wr hB).mono ?_;rintro e w2 ⟨rfl,hb2⟩)
    go_ret;exact ⟨by unfold first2;rw [if_pos z1];rfl,below_up hB hb2 hB.size⟩
  ·have z1:=HA1.out (by omega)
   have z3:=HA2.out (by omega)
   go_wp2_with fail;go_ret;exact ⟨by unfold first2;rw [if_pos z1,z3];rfl,hB⟩
end Go.Proofs.YtbeaijjaecaidaaGreatDoor
