/- The documented examples of copies: lives returns true. Cells stored into the middle of a block; rows of heads. A path of one's own, of which one element is changed. copies.Make of a filing of a log of one entry. slices.Reverse and slices.Clone of numbers of one's own. copies.Make of any copy: a copy with its path kept, or an error. logtree.Check of any index, size and path: what follows from an entry and its path, in the program. -/
import Derived.Test.YtbeaijjaecaidaaGreatDoorM16
import Derived.Test.YtbeaijjaecaidaaGreatDoorM18
import Derived.Test.YtbeaijjaecaidaaGreatDoorM01
import Derived.Laws.ResultCell
set_option maxRecDepth 100000
set_option maxHeartbeats 16000000
namespace Go.Proofs.YtbeaijjaecaidaaGreatDoor
open Go.RowKit Go.Shelf
attribute [local go_sem] Oper.semAt_some
theorem live_row (W:World) (b0 b1:Nat) (hb0:Blk W b0 39 #[.int .i64 0,.int .i64 0,.slice none 0 0,.slice none 0 0])
  (hb1:Blk W b1 41 (liveF.vals (.slice (some ⟨b0,0,none⟩) 1 1) (.slice none 0 0) (.slice none 0 0))):FilRow W W.heap.size (some ⟨b1,0,none⟩) [liveF]:=fun k hk=>by
 have hk:k<1:=hk;obtain rfl:k=0:=by omega
 refine ⟨b1,0,.slice (some ⟨b0,0,none⟩) 1 1,.slice none 0 0,.slice none 0 0,rfl,hb1.lt,fun j u hu=>?_,?_,.nil _,.nil _⟩
 ·rw [Nat.zero_mul,Nat.zero_add,hb1.cell j,← Array.getElem?_toList]
  exact hu
 ·refine Rep.mk (cs:=[.int .i64 0,.int .i64 0,.slice none 0 0,.slice none 0 0]) rfl (Nat.le_refl _) hb0.lt ?_ (fun j u hu=>?_)
  ·exact RepL.cons (.v _) (RepL.cons (.v _) (RepL.cons (.nil _) (RepL.cons (.nil _) (RepL.nil _ _))))
  ·rw [Nat.zero_add,hb0.cell j,← Array.getElem?_toList]
   exact hu
theorem live_of (W:World) (b0 b1:Nat) (hb0:Blk W b0 39 #[.int .i64 0,.int .i64 0,.slice none 0 0,.slice none 0 0])
  (hb1:Blk W b1 41 (liveF.vals (.slice (some ⟨b0,0,none⟩) 1 1) (.slice none 0 0) (.slice none 0 0))) :
  Calls Tryz.prog 11 #[.int .u64 6,.slice (some ⟨b1,0,none⟩) 1 1,.int .i64 0,.int .i64 1] W fun e w'=>∃ C dv cv ev,e=.returned (.agg C)∧IsCop C (hdOf 6 [liveF] 1 1 (leafN (entN 0 liveF))) 0 liveF dv cv ev (saltN 0) (.slice none 0 0)∧C.all (·.oneCell')=true∧FilAt W W.heap.size liveF dv cv ev∧Below W.heap.size W w':=by
 refine (of_any 6 (by omega) [liveF] (by decide) (fun f hf=>by rw [List.mem_singleton.1 hf];exact liveF_ok) (some ⟨b1,0,none⟩) 1 (by decide) W W.heap.size (Nat.le_refl _) (live_row W b0 b1 hb0 hb1) 0 1 (by decide) (by decide) (leafN (entN 0 liveF)) (lab_lt _ _) (fun _ v=>v=.slice none 0 0)
  (fun V v hr=>?_) (fun V v _ hr=>?_) (fun _ _ _ h _=>h)).mono ?_
 ·obtain ⟨A,c,rfl,hc,hcell⟩:=Rep.row hr
  obtain ⟨b,o,rfl,_,h1⟩:=hcell 0 (.int .u64 (entN 0 liveF:Int)) rfl;exact refroot_one (entN 0 liveF) (lab_lt _ _) b o c V h1
 ·obtain ⟨A,c,rfl,hc,hcell⟩:=Rep.row hr
  refine (refpath_one A c 0 V).mono ?_
  rintro e w' ⟨rfl,rfl⟩;exact ⟨none,0,0,rfl,rfl,Below.refl _ _⟩
 ·rintro e w' ⟨dv,cv,ev,Ap,np,cp,rfl,hf,hp,hb⟩
  rw [hp];exact ⟨_,dv,cv,ev,rfl,cop_is _ _ _ _ _ _ _ _,cop_one _ _ _ _ _ _ _ hf.one,hf,hb⟩
theorem liveF2_ok:OkFil { liveF with office:=2 }:=by
 obtain ⟨h1,h2,h3,h4,h5⟩:=liveF_ok;exact ⟨h1,h2,h3,by decide,h5⟩
theorem one_set {C:Array Value} {i:Nat} {v:Value} (h:C.all (·.oneCell')=true) (hv:v.oneCell'=true):(C.setIfInBounds i v).all (·.oneCell')=true:=by
 rw [Array.all_eq_true_iff_forall_mem] at *;intro x hx;rcases Array.mem_or_eq_of_mem_setIfInBounds hx with hx | rfl
 ·exact h x hx
 ·exact hv
theorem lives_any (w:World) (hG:w.cell? ⟨0,0,none⟩=some (.int .i64 655)) (h0:0<w.heap.size) :
  Calls Tryz.prog 9 #[] w fun e w'=>e=.returned (.bool true)∧Below w.heap.size w w':=by
 have hs1:(w.alloc (.cells #[.int .i64 0,.int .i64 0,.slice none 0 0,.slice none 0 0] 39)).heap.size=w.heap.size+1:=World.size_alloc ..;have b0:=(Blk.new w 39 #[.int .i64 0,.int .i64 0,.slice none 0 0,.slice none 0 0]).alloc (.cells #[iI 0,iI 7,iI 2,iI 3,iI 1,iI 4,iI (-1),iI 0,iI 0,iI 0,iI 0,.slice (some ⟨w.heap.size,0,none⟩) 1 1,nN,nN,nN,iI 0,iI 0,nN,nN] 41);have b1:=Blk.new (w.alloc (.cells #[.int .i64 0,.int .i64 0,.slice none 0 0,.slice none 0 0] 39)) 41 #[iI 0,iI 7,iI 2,iI 3,iI 1,iI 4,iI (-1),iI 0,iI 0,iI 0,iI 0,.slice (some ⟨w.heap.size,0,none⟩) 1 1,nN,nN,nN,iI 0,iI 0,nN,nN];rw [hs1] at b1;have P2:=(below_new w (.cells #[.int .i64 0,.int .i64 0,.slice none 0 0,.slice none 0 0] 39)).alloc (by simp) (.cells #[iI 0,iI 7,iI 2,iI 3,iI 1,iI 4,iI (-1),iI 0,iI 0,iI 0,iI 0,.slice (some ⟨w.heap.size,0,none⟩) 1 1,nN,nN,nN,iI 0,iI 0,nN,nN] 41)
 clear hs1;go_enter Tryz.func9,Tryz.ntmps9
 go_upto_region 2 with fail;generalize (w.alloc (.cells #[.int .i64 0,.int .i64 0,.slice none 0 0,.slice none 0 0] 39)).alloc (.cells #[iI 0,iI 7,iI 2,iI 3,iI 1,iI 4,iI (-1),iI 0,iI 0,iI 0,iI 0,.slice (some ⟨w.heap.size,0,none⟩) 1 1,nN,nN,nN,iI 0,iI 0,nN,nN] 41)=w2 at *;have HOF:=Lib.hid (live_of w2 _ _ b0 b1);clear b0 b1;have hG2:=(P2.cell (p:=⟨0,0,none⟩) h0).trans hG;have h02:=Nat.lt_of_lt_of_le h0 P2.size;clear hG h0;go_wp2_with fail;refine HOF.out.mono ?_
 rintro e w3 ⟨C,dv,cv,ev,rfl,hC,hC1,hf,hb3⟩;have P3:=below_up P2 hb3 P2.size;have hG3:=(hb3.cell (p:=⟨0,0,none⟩) h02).trans hG2;have h03:=Nat.lt_of_lt_of_le h02 hb3.size;have hf3:FilAt w3 w2.heap.size liveF dv cv ev:=hf.keep (fun p hp=>hb3.cell hp) (Nat.le_refl _)
 have hB3:=hb3.size;have hone:=hf.one;have hsign:=hd_sign 6 [liveF] 1 1 (leafN (entN 0 liveF));have hlog:(hdOf 6 [liveF] 1 1 (leafN (entN 0 liveF))).log=leafN (commitN (encA liveF) (saltN 0)):=rfl;have hoff:(hdOf 6 [liveF] 1 1 (leafN (entN 0 liveF))).office=1:=rfl;have hsz1:(hdOf 6 [liveF] 1 1 (leafN (entN 0 liveF))).size=1:=rfl;have hkt:liveF.known≤(hdOf 6 [liveF] 1 1 (leafN (entN 0 liveF))).tick:=by decide
 have hhd:OkHd (hdOf 6 [liveF] 1 1 (leafN (entN 0 liveF))).office (hdOf 6 [liveF] 1 1 (leafN (entN 0 liveF))).tick (hdOf 6 [liveF] 1 1 (leafN (entN 0 liveF))).day (hdOf 6 [liveF] 1 1 (leafN (entN 0 liveF))).size (hdOf 6 [liveF] 1 1 (leafN (entN 0 liveF))).sld:=⟨by decide,by decide,by decide,by decide,by decide⟩
 have hll:(hdOf 6 [liveF] 1 1 (leafN (entN 0 liveF))).log<18446744073709551616:=lab_lt _ _;have hmm:(hdOf 6 [liveF] 1 1 (leafN (entN 0 liveF))).map<18446744073709551616:=by decide
 have hslt:saltN 0<18446744073709551616:=lab_lt _ _;have hklt:keyN 6<18446744073709551616:=lab_lt _ _;have HKEY:=Lib.hid (fun (W:World)=>key_any 6 (by omega) W)
 generalize hdOf 6 [liveF] 1 1 (leafN (entN 0 liveF))=h at *;generalize saltN 0=s at *;generalize keyN 6=key at *;clear HOF hb3 hf hG2 h02 P2;have hcs:=hC.size;have Z1:=Blk.new w3 44 #[iI 0,iI 0,iI 0,iI 0,uI 0,uI 0,iI 0,uI 0,iI 0,iI 0,iI 0,iI 0,iI 0,iI 0,iI 0,iI 0,iI 0,iI 0,iI 0,iI 0,nN,nN,nN,nN,iI 0,iI 0,nN,nN,uI 0,nN];go_upto_region 3 with (refine wpList_storeW (T:=44) (n:=30) (by kernel_rfl) Z1 rfl _ _ rfl rfl rfl C rfl hcs hC1 ?_;intro w4 Y4 g4)
 have P4:=(P3.alloc P3.size (.cells #[iI 0,iI 0,iI 0,iI 0,uI 0,uI 0,iI 0,uI 0,iI 0,iI 0,iI 0,iI 0,iI 0,iI 0,iI 0,iI 0,iI 0,iI 0,iI 0,iI 0,nN,nN,nN,nN,iI 0,iI 0,nN,nN,uI 0,nN] 44)).grown g4 (Nat.le_trans P3.size (by simp)) (fun k e=>by injection e with e;have:=P3.size;omega)
 have Q4:=(below_new w3 (.cells #[iI 0,iI 0,iI 0,iI 0,uI 0,uI 0,iI 0,uI 0,iI 0,iI 0,iI 0,iI 0,iI 0,iI 0,iI 0,iI 0,iI 0,iI 0,iI 0,iI 0,nN,nN,nN,nN,iI 0,iI 0,nN,nN,uI 0,nN] 44)).grown g4 (by simp) (fun k e=>by injection e with e;omega)
 have hs4:=Y4.lt;clear Z1 g4;have Z2:=Blk.new w4 44 #[iI 0,iI 0,iI 0,iI 0,uI 0,uI 0,iI 0,uI 0,iI 0,iI 0,iI 0,iI 0,iI 0,iI 0,iI 0,iI 0,iI 0,iI 0,iI 0,iI 0,nN,nN,nN,nN,iI 0,iI 0,nN,nN,uI 0,nN];have Y4a:=Y4.alloc (.cells #[iI 0,iI 0,iI 0,iI 0,uI 0,uI 0,iI 0,uI 0,iI 0,iI 0,iI 0,iI 0,iI 0,iI 0,iI 0,iI 0,iI 0,iI 0,iI 0,iI 0,nN,nN,nN,nN,iI 0,iI 0,nN,nN,uI 0,nN] 44);go_upto_region 4 with (first | (refine wpList_loadK Y4 hcs _ rfl rfl rfl ?_) | (refine wpList_storeW (T:=44) (n:=30) (by kernel_rfl) Z2 rfl _ _ rfl rfl rfl C rfl hcs hC1 ?_;intro w5 Y5 g5))
 have X5:=Y4a.grown g5 (fun e=>by injection e with e;omega)
 have P5:=(P4.alloc P4.size (.cells #[iI 0,iI 0,iI 0,iI 0,uI 0,uI 0,iI 0,uI 0,iI 0,iI 0,iI 0,iI 0,iI 0,iI 0,iI 0,iI 0,iI 0,iI 0,iI 0,iI 0,nN,nN,nN,nN,iI 0,iI 0,nN,nN,uI 0,nN] 44)).grown g5 (Nat.le_trans P4.size (by simp)) (fun k e=>by injection e with e;have:=P4.size;omega)
 have Q5:=(Q4.alloc Q4.size (.cells #[iI 0,iI 0,iI 0,iI 0,uI 0,uI 0,iI 0,uI 0,iI 0,iI 0,iI 0,iI 0,iI 0,iI 0,iI 0,iI 0,iI 0,iI 0,iI 0,iI 0,nN,nN,nN,nN,iI 0,iI 0,nN,nN,uI 0,nN] 44)).grown g5 (Nat.le_trans Q4.size (by simp)) (fun k e=>by injection e with e;have:=Q4.size;omega)
 clear Z2 Y4a Y4 g5 P4 Q4;have hc28:=Y5.cellAt 28 _ hC.salt;have hf28:=Y5.frozen 28
 have hw:IntKind.u64.wrap ((s:Int)+1)=(((s+1) % 18446744073709551616:Nat):Int):=by
  rw [IntKind.wrap_u64];omega
 have hs':(s+1) % 18446744073709551616<18446744073709551616:=Nat.mod_lt _ (by omega)
 have hne:s≠(s+1) % 18446744073709551616:=next_ne;have hD:=hC.setSalt ((s+1) % 18446744073709551616);generalize (s+1) % 18446744073709551616=s1 at *;go_upto_region 5 with fail;have Y6:=Y5.set 28 (.int .u64 (s1:Int));have X6:=X5.far (p:=⟨w4.heap.size,28,none⟩) (Nat.ne_of_lt hs4) (.int .u64 (s1:Int));have P6:=P5.setCell (p:=⟨w4.heap.size,28,none⟩) (Nat.le_trans (Nat.le_trans P3.size (Nat.le_of_lt hs4)) (Nat.le_refl _)) (.int .u64 (s1:Int));have Q6:=Q5.setCell (p:=⟨w4.heap.size,28,none⟩) (Nat.le_of_lt hs4) (.int .u64 (s1:Int));have hD1:=one_set (i:=28) hC1 (v:=.int .u64 (s1:Int)) rfl;clear X5 Y5 P5 Q5 hw hc28 hf28;generalize w5.setCell ⟨w4.heap.size,28,none⟩ (.int .u64 (s1:Int))=w6 at *;generalize C.setIfInBounds 28 (.int .u64 (s1:Int))=D at *;generalize hb4:w4.heap.size=n4 at *;clear hb4 w4 w5;have hs6:=Y6.lt;have Z3:=Blk.new w6 44 #[iI 0,iI 0,iI 0,iI 0,uI 0,uI 0,iI 0,uI 0,iI 0,iI 0,iI 0,iI 0,iI 0,iI 0,iI 0,iI 0,iI 0,iI 0,iI 0,iI 0,nN,nN,nN,nN,iI 0,iI 0,nN,nN,uI 0,nN];have X6a:=X6.alloc (.cells #[iI 0,iI 0,iI 0,iI 0,uI 0,uI 0,iI 0,uI 0,iI 0,iI 0,iI 0,iI 0,iI 0,iI 0,iI 0,iI 0,iI 0,iI 0,iI 0,iI 0,nN,nN,nN,nN,iI 0,iI 0,nN,nN,uI 0,nN] 44);have Y6a:=Y6.alloc (.cells #[iI 0,iI 0,iI 0,iI 0,uI 0,uI 0,iI 0,uI 0,iI 0,iI 0,iI 0,iI 0,iI 0,iI 0,iI 0,iI 0,iI 0,iI 0,iI 0,iI 0,nN,nN,nN,nN,iI 0,iI 0,nN,nN,uI 0,nN] 44);go_upto_region 6 with (first | (refine wpList_loadK X6 hcs _ rfl rfl rfl ?_) | (refine wpList_storeW (T:=44) (n:=30) (by kernel_rfl) Z3 rfl _ _ rfl rfl rfl C rfl hcs hC1 ?_;intro w7 Y7 g7))
 have X7:=X6a.grown g7 (fun e=>by injection e with e;omega)
 have D7:=Y6a.grown g7 (fun e=>by injection e with e;omega)
 have P7:=(P6.alloc P6.size (.cells #[iI 0,iI 0,iI 0,iI 0,uI 0,uI 0,iI 0,uI 0,iI 0,iI 0,iI 0,iI 0,iI 0,iI 0,iI 0,iI 0,iI 0,iI 0,iI 0,iI 0,nN,nN,nN,nN,iI 0,iI 0,nN,nN,uI 0,nN] 44)).grown g7 (Nat.le_trans P6.size (by simp)) (fun k e=>by injection e with e;have:=P6.size;omega)
 have Q7:=(Q6.alloc Q6.size (.cells #[iI 0,iI 0,iI 0,iI 0,uI 0,uI 0,iI 0,uI 0,iI 0,iI 0,iI 0,iI 0,iI 0,iI 0,iI 0,iI 0,iI 0,iI 0,iI 0,iI 0,nN,nN,nN,nN,iI 0,iI 0,nN,nN,uI 0,nN] 44)).grown g7 (Nat.le_trans Q6.size (by simp)) (fun k e=>by injection e with e;have:=Q6.size;omega)
 have hs7:=Y7.lt;clear Z3 X6a Y6a X6 Y6 g7 P6 Q6;have hE:=hC.setOffice 2;have hc13:w7.cell? ⟨w6.heap.size,13,none⟩=some (.int .i64 liveF.office):=Y7.cellAt 13 _ (hC.act 4 _ rfl);have hf13:=Y7.frozen 13;go_upto_region 7 with fail;have Y8:=Y7.set 13 (.int .i64 2);have X8:=X7.far (p:=⟨w6.heap.size,13,none⟩) (by show w3.heap.size≠w6.heap.size;omega) (.int .i64 2)
 have D8:=D7.far (p:=⟨w6.heap.size,13,none⟩) (Nat.ne_of_lt hs6) (.int .i64 2);have P8:=P7.setCell (p:=⟨w6.heap.size,13,none⟩) (by have:=P3.size;show w.heap.size≤w6.heap.size;omega) (.int .i64 2)
 have Q8:=Q7.setCell (p:=⟨w6.heap.size,13,none⟩) (by show w3.heap.size≤w6.heap.size;omega) (.int .i64 2)
 clear X7 Y7 D7 P7 Q7 hc13 hf13;generalize w7.setCell ⟨w6.heap.size,13,none⟩ (.int .i64 2)=w8 at *;have hes:=hE.size;have hds:=hD.size;generalize C.setIfInBounds 13 (.int .i64 2)=E at *;have hFO:liveF.office=1:=rfl;have HKW:∀ W,Below w3.heap.size w3 W→W.cell? ⟨0,0,none⟩=some (.int .i64 655)∧0<W.heap.size∧w2.heap.size≤W.heap.size∧FilAt W w2.heap.size liveF dv cv ev:=fun W hW=>⟨(hW.cell (p:=⟨0,0,none⟩) h03).trans hG3,Nat.lt_of_lt_of_le h03 hW.size,Nat.le_trans hB3 hW.size,hf3.keep (fun p hp=>hW.cell (Nat.lt_of_lt_of_le hp hB3)) (Nat.le_refl _)⟩
 have RC:=Lib.hid (fun (W:World)=>real_any hC hone W)
 have RD:=Lib.hid (fun (W:World)=>real_any hD hone W)
 have RE:=Lib.hid (fun (W:World)=>real_any hE hone W)
 have hk1:(key+1) % 18446744073709551616<18446744073709551616:=Nat.mod_lt _ (by omega)
 have hkne:key≠(key+1) % 18446744073709551616:=next_ne
 have hwk:IntKind.u64.wrap ((key:Int)+1)=(((key+1) % 18446744073709551616:Nat):Int):=by
  rw [IntKind.wrap_u64];omega
 generalize (key+1) % 18446744073709551616=key1 at *;have CC:=Lib.hid (fun (W:World) (hW:Below w3.heap.size w3 W)=>ccheck_any (cop_is h 0 liveF dv cv ev s (.slice none 0 0)) liveF_ok key hklt hsz1 hkt hslt hll hmm hhd W (HKW W hW).1 (HKW W hW).2.1 w2.heap.size (HKW W hW).2.2.1 (HKW W hW).2.2.2)
 have CD:=Lib.hid (fun (W:World) (hW:Below w3.heap.size w3 W)=>ccheck_any (cop_is h 0 liveF dv cv ev s1 (.slice none 0 0)) liveF_ok key hklt hsz1 hkt hs' hll hmm hhd W (HKW W hW).1 (HKW W hW).2.1 w2.heap.size (HKW W hW).2.2.1 (HKW W hW).2.2.2)
 have CK:=Lib.hid (fun (W:World) (hW:Below w3.heap.size w3 W)=>ccheck_any (cop_is h 0 liveF dv cv ev s (.slice none 0 0)) liveF_ok key1 hk1 hsz1 hkt hslt hll hmm hhd W (HKW W hW).1 (HKW W hW).2.1 w2.heap.size (HKW W hW).2.2.1 (HKW W hW).2.2.2)
 have CE:=Lib.hid (fun (W:World) (hW:Below w3.heap.size w3 W)=>ccheck_any (cop_is h 0 { liveF with office:=2 } dv cv ev s (.slice none 0 0)) liveF2_ok key hklt hsz1 hkt hslt hll hmm hhd W (HKW W hW).1 (HKW W hW).2.1 w2.heap.size (HKW W hW).2.2.1 (HKW W hW).2.2.2)
 rw [fil_good liveF (hFO.trans hoff.symm),hd_good hsign,log_good hlog] at CC;rw [fil_good liveF (hFO.trans hoff.symm),hd_good hsign,log_bad hlog hslt hs' hne] at CD;rw [fil_good liveF (hFO.trans hoff.symm),hd_bad hsign hklt hk1 hll hmm hkne] at CK;rw [fil_bad { liveF with office:=2 } (fun e=>by rw [hoff] at e;cases e)] at CE
 unfold first3 at CC CD CK CE
 simp only [if_true,if_neg (show ¬ ((22:Int)=0) by decide),if_neg (show ¬ ((23:Int)=0) by decide)] at CC CD CK CE
 generalize cop h 0 { liveF with office:=2 } dv cv ev s (.slice none 0 0)=E1 at *
 generalize cop h 0 liveF dv cv ev s (.slice none 0 0)=C1 at *;generalize cop h 0 liveF dv cv ev s1 (.slice none 0 0)=D1 at *;have hp29:=hC.path;clear HKW hC hD hE hC1 hD1 hf3 hG3 h03 hB3 hone hsign hlog hoff hsz1 hkt hhd hll hmm hslt hs' hne hklt hk1 hkne hFO P3;go_upto_region 8 with (go_at_call 12;refine (HKEY.out _).mono ?_;rintro e wn ⟨rfl,hbn⟩;replace X8:=X8.keep hbn;replace D8:=D8.keep hbn;replace Y8:=Y8.keep hbn;replace P8:=below_up P8 hbn P8.size;replace Q8:=below_up Q8 hbn Q8.size;clear hbn)
 have hc29:∀ W,Blk W w3.heap.size 44 C→W.cell? ⟨w3.heap.size,29,none⟩=some (.slice none 0 0):=fun W hW=>hW.cellAt 29 _ hp29
 have hc:=hc29 _ X8;clear hc29;go_wp2_with (refine wpList_loadK X8 hcs _ rfl rfl rfl ?_)
 refine (RC.out _).mono ?_
 rintro e wn ⟨rfl,hbn⟩;replace X8:=X8.keep hbn;replace D8:=D8.keep hbn;replace Y8:=Y8.keep hbn;replace P8:=below_up P8 hbn P8.size;replace Q8:=below_up Q8 hbn Q8.size;clear hbn;go_wp2_with fail;refine (CC.out _ Q8).mono ?_
 rintro e wn ⟨rfl,hbn⟩;replace X8:=X8.keep hbn;replace D8:=D8.keep hbn;replace Y8:=Y8.keep hbn;replace P8:=below_up P8 hbn P8.size;replace Q8:=below_up Q8 hbn Q8.size;clear hbn;go_wp2_with (refine wpList_loadK D8 hds _ rfl rfl rfl ?_)
 refine (RD.out _).mono ?_
 rintro e wn ⟨rfl,hbn⟩;replace X8:=X8.keep hbn;replace D8:=D8.keep hbn;replace Y8:=Y8.keep hbn;replace P8:=below_up P8 hbn P8.size;replace Q8:=below_up Q8 hbn Q8.size;clear hbn;go_wp2_with fail;refine (CD.out _ Q8).mono ?_
 rintro e wn ⟨rfl,hbn⟩;replace X8:=X8.keep hbn;replace D8:=D8.keep hbn;replace Y8:=Y8.keep hbn;replace P8:=below_up P8 hbn P8.size;replace Q8:=below_up Q8 hbn Q8.size;clear hbn;go_wp2_with (refine wpList_loadK X8 hcs _ rfl rfl rfl ?_)
 refine (RC.out _).mono ?_
 rintro e wn ⟨rfl,hbn⟩;replace X8:=X8.keep hbn;replace D8:=D8.keep hbn;replace Y8:=Y8.keep hbn;replace P8:=below_up P8 hbn P8.size;replace Q8:=below_up Q8 hbn Q8.size;clear hbn;go_wp2_with fail;refine (CK.out _ Q8).mono ?_
 rintro e wn ⟨rfl,hbn⟩;replace X8:=X8.keep hbn;replace D8:=D8.keep hbn;replace Y8:=Y8.keep hbn;replace P8:=below_up P8 hbn P8.size;replace Q8:=below_up Q8 hbn Q8.size;clear hbn;go_wp2_with (refine wpList_loadK Y8 hes _ rfl rfl rfl ?_)
 refine (RE.out _).mono ?_
 rintro e wn ⟨rfl,hbn⟩;replace X8:=X8.keep hbn;replace D8:=D8.keep hbn;replace Y8:=Y8.keep hbn;replace P8:=below_up P8 hbn P8.size;replace Q8:=below_up Q8 hbn Q8.size;clear hbn;go_wp2_with fail;refine (CE.out _ Q8).mono ?_
 rintro e wn ⟨rfl,hbn⟩;replace X8:=X8.keep hbn;replace D8:=D8.keep hbn;replace Y8:=Y8.keep hbn;replace P8:=below_up P8 hbn P8.size;replace Q8:=below_up Q8 hbn Q8.size;clear hbn;go_wp2_with fail;go_ret;exact ⟨rfl,P8⟩
def setsA (cs:Array Value):Nat→List Value→Array Value
 | _,[]=>cs
 | o,v::r=>setsA (cs.setIfInBounds o v) (o+1) r
theorem Blk.sets {g:Nat} {t:TypeId}:∀ (vs:List Value) (o:Nat) {W:World} {cs:Array Value},Blk W g t cs→Blk (W.setCells g o vs) g t (setsA cs o vs)
 | [],_,_,_,h=>h
 | v::r,o,_,_,h=>Blk.sets r (o+1) (h.set o v)
theorem grown_sets (g:Nat):∀ (vs:List Value) (o:Nat) (W:World),W.grownBy (W.setCells g o vs) (some g)
 | [],_,_=>⟨rfl,rfl,rfl,Nat.le_refl _,fun _ _ _=>rfl⟩
 | v::r,o,W=>grown_up (grown_set W g o v) (grown_sets g r (o+1) _) (fun _ e _=>e)
structure HdRow (X:Array Value) (h:Hd) (n m:Nat):Prop where
 size:X.size=64
 at_:∀ (k j:Nat) (v:Value),k<8→(if k<m then hdBent h n k else h).vals[j]?=some v→X[8 * k+j]?=some v
def bentV (h:Hd) (n:Nat) (k:Nat):Value:=(hdBent h n k).vals.getD k undef
theorem bent_other (h:Hd) (n:Nat) {k j:Nat} (hk:k<8) (hne:j≠k):(hdBent h n k).vals[j]?=h.vals[j]?:=by
 have e:k=0∨k=1∨k=2∨k=3∨k=4∨k=5∨k=6∨k=7:=by omega
 by_cases hj:j<8
 ·have e2:j=0∨j=1∨j=2∨j=3∨j=4∨j=5∨j=6∨j=7:=by omega
  rcases e with rfl | rfl | rfl | rfl | rfl | rfl | rfl | rfl <;> rcases e2 with rfl | rfl | rfl | rfl | rfl | rfl | rfl | rfl <;> first | rfl | exact absurd rfl hne
 ·have s1:(hdBent h n k).vals.size=8:=rfl
  have s2:h.vals.size=8:=rfl;rw [Array.getElem?_eq_none (by omega),Array.getElem?_eq_none (by omega)]
theorem bent_same (h:Hd) (n:Nat) {k:Nat} (hk:k<8):(hdBent h n k).vals[k]?=some (bentV h n k):=by
 have e:k=0∨k=1∨k=2∨k=3∨k=4∨k=5∨k=6∨k=7:=by omega
 rcases e with rfl | rfl | rfl | rfl | rfl | rfl | rfl | rfl <;> rfl
theorem vals_lt {h:Hd} {j:Nat} {v:Value} (hj:h.vals[j]?=some v):j<8:=by
 have s2:h.vals.size=8:=rfl;rcases Nat.lt_or_ge j 8 with h1 | h1
 ·exact h1
 ·rw [Array.getElem?_eq_none (by omega)] at hj;cases hj
theorem HdRow.step {X:Array Value} {h:Hd} {n k:Nat} (hx:HdRow X h n k) (hk:k<8):HdRow (X.setIfInBounds (8 * k+k) (bentV h n k)) h n (k+1):=by
 obtain ⟨h1,h2⟩:=hx;refine ⟨by simp [h1],fun k2 j v hk2 hj=>?_⟩
 have hj8:=vals_lt hj;by_cases e:k2=k
 ·subst e
  rw [if_pos (by omega)] at hj
  by_cases e2:j=k2
  ·subst e2
   rw [bent_same h n hk] at hj;rw [Array.getElem?_setIfInBounds_self_of_lt (by omega)]
   exact hj
  ·rw [bent_other h n hk e2] at hj
   rw [Array.getElem?_setIfInBounds_ne (by omega)]
   refine h2 k2 j v hk2 ?_
   rw [if_neg (by omega)]
   exact hj
 ·rw [Array.getElem?_setIfInBounds_ne (by omega)]
  refine h2 k2 j v hk2 ?_
  by_cases e3:k2<k
  ·rw [if_pos (by omega)] at hj
   rw [if_pos e3];exact hj
  ·rw [if_neg (by omega)] at hj
   rw [if_neg e3];exact hj
theorem HdRow.range {W:World} {g:Nat} {t:TypeId} {X:Array Value} {h:Hd} {n:Nat} (hx:HdRow X h n 8) (hb:Blk W g t X) {k:Nat} (hk:k<8):W.rangeAt g (k * 8) (hdBent h n k).vals.toList:=fun j v hj=>by
 rw [Nat.mul_comm];refine hb.cellAt _ _ (hx.at_ k j v hk ?_)
 rw [if_pos hk,← Array.getElem?_toList]
 exact hj
theorem us_get {ps:List Nat} {k:Nat} (hk:k<ps.length):(us ps)[k]?=some (.int .u64 (ps[k]:Int)):=by simp [us,hk]
theorem own_blk {W:World} {base:Nat} {A:Option Addr} {c:Nat} {ps:List Nat} (h:W.ownsRow base 27 1 (.slice A ps.length c) ps.length (us ps)) (h0:0<ps.length):∃ g cur,A=some ⟨g,0,none⟩∧base≤g∧W.heap[g]?=some (.cells cur 27)∧ps.length≤c:=by
 rcases h.2 with ⟨_,e⟩ | ⟨g,cap,cur,e,hg,hb,hnc,_⟩
 ·omega
 ·injection e with e1 _ e3
  subst e1 e3;exact ⟨g,cur,rfl,hg,hb,hnc⟩
theorem clone_nil (w:World):Calls Tryz.prog 58 #[.slice none 0 0] w fun e w'=>e=.returned (.slice none 0 0)∧w'=w:=by
 have heq:∀ W:World,(binOp .eql 42 (.slice none 0 0) (.slice none 0 0)).run Tryz.prog W=.ok (.bool true) W:=fun W=>Lib.run_eql_slice_nil W _ _ none 0 0 0 0 Tryz.underlying42
 go_enter Tryz.func58,Tryz.ntmps58
 go_wp2_with fail;go_ret;exact ⟨rfl,rfl⟩
theorem results_CE {fn:Func} {p u:Tmp} (h:fn.results=#[.cell p 51,.tmp u]) (tmps:Array Value) {w:World} {g:Nat} {cs:Array Value} (hp:tmps.getD p undef=.pointer (some ⟨g,0,none⟩)) (hb:Blk w g 51 cs) (hs:cs.size=30) :
  (results fn tmps).run Tryz.prog w=.ok (.tuple #[.agg cs,tmps.getD u undef]) w:=by
 have hl:=run_loadVar_row w g 51 51 cs (0,0) _ hb Tryz.underlying51 rfl (by rw [hs];kernel_rfl)
 have hp':tmps[p]?.getD undef=.pointer (some ⟨g,0,none⟩):=by simpa using hp
 simp [results,h,hp',asAddr,hl]
theorem yieldsHv {S:World→Prop} {ops:Array Oper} {g:Nat} {cs:Array Value} (hs:cs.size=8) {o:Oper} {a:Act} (x:Operand) (ho:o.op=.load 49 x) (hx:a.eval x=.pointer (some ⟨g,0,none⟩)) (hS:∀ W,S W→Blk W g 49 cs) (hw:Region.wanted o (yielded ops a.tmps)=true):YieldsIf Tryz.prog ops S o (.agg cs) a:=by
 have h:=yieldsIf_load_mid (P:=Tryz.prog) (ops:=ops) (S:=S) hw 49 x ho g 0 hx cs.toList _ (fun w h j v hv=>by rw [Nat.zero_add,(hS w h).cell j,← Array.getElem?_toList];exact hv) Tryz.underlying49 rfl (by rw [Array.length_toList,hs];kernel_rfl)
 rwa [Array.toArray_toList] at h
theorem clone_own (base:Nat) (v:Value) (ps:List Nat) (hl:ps.length≤1000) (w:World) (h:w.ownsRow base 27 1 v ps.length (us ps)) :
  Calls Tryz.prog 58 #[v] w fun e w'=>∃ v',e=.returned v'∧w'.ownsRow w.heap.size 27 1 v' ps.length (us ps)∧Below w.heap.size w w':=by
 rcases h.2 with ⟨rfl,e0⟩ | ⟨b,c,cur,rfl,_⟩
 ·have hp:ps=[]:=List.eq_nil_of_length_eq_zero e0
  subst hp;refine (clone_nil w).mono ?_
  rintro e w' ⟨rfl,rfl⟩;exact ⟨_,rfl,World.ownsRow_nil _ _ _ _,Below.refl _ _⟩
 ·obtain ⟨i0,hi,hz0,hz1,hz2⟩:=info_parts Tryz.info27
  have heq:∀ W:World,(binOp .eql 42 (.slice (some ⟨b,0,none⟩) ps.length c) (.slice none 0 0)).run Tryz.prog W=.ok (.bool false) W:=fun W=>Lib.run_eql_slice_nil W _ _ (some ⟨b,0,none⟩) ps.length c 0 0 Tryz.underlying42
  have hus:=us_length ps
  have hnews:∀ j u,(us ps)[j]?=some u→(w.alloc (.cells #[] 27)).cell? ((⟨b,0,none⟩:Addr).add j)=some u:=fun j u hu=>by
   have hj:=lt_of_some hu;rw [Addr.add_lit,Nat.zero_add];exact Lib.cell?_alloc_some _ ((h.cellAt j (by omega)).trans hu)
  have HNW:=Lib.hid hnews;have HO:=World.ownsRow_made w #[] 0 (base:=w.heap.size) (e:=27) (size:=1) (Nat.le_refl _) (Nat.zero_le _) rfl;have P0:=below_new w (.cells #[] 27);clear hnews h;go_enter Tryz.func58,Tryz.ntmps58
  go_wp2_with (at_builtin;refine wpList_append_own _ rfl _ _ 42 rfl w.heap.size 27 i0 (.int .u64 0) 1 8 Tryz.underlying42 hi hz0 hz1 hz2 rfl (by decide) (.slice (some ⟨w.heap.size,0,none⟩) 0 0) 0 [] rfl HO ⟨b,0,none⟩ ps.length c (us ps) rfl (by rw [hus,Nat.mul_one]) HNW.out (fun u hu=>by obtain ⟨x,_,rfl⟩:=List.mem_map.1 hu;rfl) (by unfold maxLen;omega) (by omega) (by simp) ?_;intro v1 w1 hown1 hg1 _)
  rw [Nat.zero_add,List.nil_append] at hown1;go_ret;exact ⟨_,rfl,hown1,P0.grown hg1 P0.size (fun k e=>by injection e with e;have e:w.heap.size=k:=e;omega)⟩
theorem own_capV {w:World} {base:Nat} {A:Option Addr} {n c:Nat} {xs:List Value} (h:w.ownsRow base 27 1 (.slice A n c) n xs):n≤c:=by
 rcases h.2 with ⟨e,e0⟩ | ⟨g,cap,cur,e,_,_,hnc,_⟩
 ·omega
 ·injection e with _ _ e3
  omega
theorem own_monoV {w:World} {base base':Nat} {v:Value} {n:Nat} {xs:List Value} (h:w.ownsRow base 27 1 v n xs) (hb:base'≤base):w.ownsRow base' 27 1 v n xs :=
 ⟨h.1,h.2.imp id (fun ⟨g,cap,cur,e,hg,hr⟩=>⟨g,cap,cur,e,Nat.le_trans hb hg,hr⟩)⟩
theorem own_rowUV {w:World} {base:Nat} {A:Option Addr} {c:Nat} {ps:List Nat} (h:w.ownsRow base 27 1 (.slice A ps.length c) ps.length (us ps)):RowU w A ps:=fun k hk=>by
 obtain ⟨g,cur,rfl,_,_,_⟩:=own_blk h (by omega)
 exact ⟨g,0,rfl,by rw [Nat.zero_add,h.cellAt k (by omega)];exact us_get hk⟩
def MadeV (CF:Option Addr→Nat→Array Value) (ps:List Nat) (fr:Int) (base:Nat) (W:World) (Cr:Array Value):Prop :=
 (Cr.size=30∧Cr.all (·.oneCell')=true)∧(fr=0→∃ A c,Cr=CF A c∧W.ownsRow base 27 1 (.slice A ps.length c) ps.length (us ps))
theorem make_full (CF:Option Addr→Nat→Array Value) (hv fv:Array Value) (iv:Int) (salt:Nat) (ps:List Nat) (hvs:hv.size=8) (hfs:fv.size=19) (hp:ps.length≤1000) (hcs:∀ A c,(CF A c).size=30) (hC1:∀ A c,(CF A c).all (·.oneCell')=true)
  (k1 k3:Int) (HBD:Hid (∀ (d:Option Tmp) (ty:TypeId) (pos:String) (after:Array Edge) (gd:Option (Nat × Bool)) (r:Operand→Value) (x0 x1 x2 x3 x4:Operand) (A:Option Addr) (c:Nat),r x0=.agg hv→r x1=.int .i64 iv→r x2=.agg fv→r x3=.int .u64 (salt:Int)→r x4=.slice A ps.length c→∀ w:World,
   (execOp r ⟨d,.build 51 #[(0,x0),(1,x1),(2,x2),(3,x3),(4,x4)],ty,pos,after,gd⟩).run Tryz.prog w=.ok (.value (.agg (CF A c))) w))
  (base:Nat) (Ap:Option Addr) (cp:Nat) (w:World) (hpv:Hid (∀ W,Below w.heap.size w W→W.ownsRow base 27 1 (.slice Ap ps.length cp) ps.length (us ps)))
  (H1:Hid (∀ A c W,Below w.heap.size w W→Calls Tryz.prog 45 #[.agg (CF A c)] W fun e w'=>e=.returned (.int .i64 k1)∧Below W.heap.size W w'))
  (H3:Hid (k1=0→∀ A c W,Below w.heap.size w W→RowU W A ps→ps.length≤c→Calls Tryz.prog 48 #[.agg (CF A c)] W fun e w'=>e=.returned (.int .i64 k3)∧Below W.heap.size W w')) :
  Calls Tryz.prog 17 #[.agg hv,.int .i64 iv,.agg fv,.int .u64 (salt:Int),.slice Ap ps.length cp] w fun e w'=>(∃ Cr,e=.returned (.tuple #[.agg Cr,.int .i64 (first2 k1 k3)])∧MadeV CF ps (first2 k1 k3) w.heap.size w' Cr)∧Below w.heap.size w w':=by
 have HCL:=Lib.hid (fun (W:World) (hW:Below w.heap.size w W)=>clone_own base (.slice Ap ps.length cp) ps hp W (hpv.out W hW))
 have P0:=((below_new w (.cells hv 49)).alloc (by simp) (.cells fv 41)).alloc (by simp;omega) (.cells #[iI 0,iI 0,iI 0,iI 0,uI 0,uI 0,iI 0,uI 0,iI 0,iI 0,iI 0,iI 0,iI 0,iI 0,iI 0,iI 0,iI 0,iI 0,iI 0,iI 0,nN,nN,nN,nN,iI 0,iI 0,nN,nN,uI 0,nN] 51)
 have B0:=((Blk.new w 49 hv).alloc (.cells fv 41)).alloc (.cells #[iI 0,iI 0,iI 0,iI 0,uI 0,uI 0,iI 0,uI 0,iI 0,iI 0,iI 0,iI 0,iI 0,iI 0,iI 0,iI 0,iI 0,iI 0,iI 0,iI 0,nN,nN,nN,nN,iI 0,iI 0,nN,nN,uI 0,nN] 51);have B1:=(Blk.new (w.alloc (.cells hv 49)) 41 fv).alloc (.cells #[iI 0,iI 0,iI 0,iI 0,uI 0,uI 0,iI 0,uI 0,iI 0,iI 0,iI 0,iI 0,iI 0,iI 0,iI 0,iI 0,iI 0,iI 0,iI 0,iI 0,nN,nN,nN,nN,iI 0,iI 0,nN,nN,uI 0,nN] 51);have B2:=Blk.new ((w.alloc (.cells hv 49)).alloc (.cells fv 41)) 51 #[iI 0,iI 0,iI 0,iI 0,uI 0,uI 0,iI 0,uI 0,iI 0,iI 0,iI 0,iI 0,iI 0,iI 0,iI 0,iI 0,iI 0,iI 0,iI 0,iI 0,nN,nN,nN,nN,iI 0,iI 0,nN,nN,uI 0,nN];rw [World.size_alloc] at B1;rw [World.size_alloc,World.size_alloc] at B2;have HCS:=Lib.hid hcs;have HC1:=Lib.hid hC1;clear hcs hC1;go_enter Tryz.func17,Tryz.ntmps17
 go_upto_region 1 with fail;generalize ((w.alloc (.cells hv 49)).alloc (.cells fv 41)).alloc (.cells #[iI 0,iI 0,iI 0,iI 0,uI 0,uI 0,iI 0,uI 0,iI 0,iI 0,iI 0,iI 0,iI 0,iI 0,iI 0,iI 0,iI 0,iI 0,iI 0,iI 0,nN,nN,nN,nN,iI 0,iI 0,nN,nN,uI 0,nN] 51)=w3 at *;go_cut [12] (fun p wx=>∃ g A c,p=.pointer (some ⟨g,0,none⟩)∧Blk wx g 51 (CF A c)∧ps.length≤c∧wx.ownsRow (w.heap.size+1+1+1) 27 1 (.slice A ps.length c) ps.length (us ps)∧w.heap.size+1+1<g∧Blk wx (w.heap.size+1+1) 51 #[iI 0,iI 0,iI 0,iI 0,uI 0,uI 0,iI 0,uI 0,iI 0,iI 0,iI 0,iI 0,iI 0,iI 0,iI 0,iI 0,iI 0,iI 0,iI 0,iI 0,nN,nN,nN,nN,iI 0,iI 0,nN,nN,uI 0,nN]∧Below w.heap.size w wx)
 case first =>
  refine wp_region_held_drew (S:=(fun V=>Blk V w.heap.size 49 hv∧Blk V (w.heap.size+1) 41 fv∧Blk V (w.heap.size+1+1) 51 #[iI 0,iI 0,iI 0,iI 0,uI 0,uI 0,iI 0,uI 0,iI 0,iI 0,iI 0,iI 0,iI 0,iI 0,iI 0,iI 0,iI 0,iI 0,iI 0,iI 0,nN,nN,nN,nN,iI 0,iI 0,nN,nN,uI 0,nN]∧Below w.heap.size w V)) (by kernel_rfl) ?_ (fun hHeld=>?_)
  ·first | done | ((try dsimp only);exact ⟨B0.drew,B1.drew,B2.drew,P0.drew⟩)
  have SX:Blk w3.drew w.heap.size 49 hv∧Blk w3.drew (w.heap.size+1) 41 fv∧Blk w3.drew (w.heap.size+1+1) 51 #[iI 0,iI 0,iI 0,iI 0,uI 0,uI 0,iI 0,uI 0,iI 0,iI 0,iI 0,iI 0,iI 0,iI 0,iI 0,iI 0,iI 0,iI 0,iI 0,iI 0,nN,nN,nN,nN,iI 0,iI 0,nN,nN,uI 0,nN]∧Below w.heap.size w w3.drew:=⟨B0.drew,B1.drew,B2.drew,P0.drew⟩;clear B0 B1 B2 P0;generalize w3.drew=wd at *;refine ty 0 14 rfl (yieldsHv hvs _ rfl rfl (fun _ h=>h.1) rfl) ?_
  refine tq 1 15 rfl ?_
  refine ty 2 16 rfl (yieldsA hfs _ rfl rfl (fun _ h=>h.2.1) rfl) ?_
  refine tq 3 17 rfl ?_
  refine tq 4 18 rfl ?_
  have hgt0:=SX.2.2.1.lt;refine rd2 5 (some 19) 7 (some 12) (by kernel_rfl) rfl rfl (fun K hK=>?_) fun K hK=>?_
  ·skip
   go_simp
   (refine (HCL.out _ SX.2.2.2).mono ?_;rintro e w6 ⟨v6,rfl,o6,hb6⟩;obtain ⟨A6,c6,rfl⟩:=own_slice o6)
   refine hK.out _ _ (⟨SX.1.keep hb6,SX.2.1.keep hb6,SX.2.2.1.keep hb6,below_up SX.2.2.2 hb6 SX.2.2.2.size⟩) fun hHeld=>?_
   clear hK K;(try simp only [pS,pB,pZ,pC]);have S6:Blk w6 w.heap.size 49 hv∧Blk w6 (w.heap.size+1) 41 fv∧Blk w6 (w.heap.size+1+1) 51 #[iI 0,iI 0,iI 0,iI 0,uI 0,uI 0,iI 0,uI 0,iI 0,iI 0,iI 0,iI 0,iI 0,iI 0,iI 0,iI 0,iI 0,iI 0,iI 0,iI 0,nN,nN,nN,nN,iI 0,iI 0,nN,nN,uI 0,nN]∧Below w.heap.size w w6:=hHeld;have hc6:=own_capV o6;have hgt:w.heap.size+1+1<w6.heap.size:=S6.2.2.1.lt;have hcs:=HCS.out A6 c6;have hC1:=HC1.out A6 c6;clear hb6;refine tq 6 20 rfl ?_ (hy:=by intro w' hSw;(try dsimp only at hSw);refine HBD.out _ _ _ _ _ _ (.tmp 14) (.tmp 15) (.tmp 16) (.tmp 17) (.tmp 19) A6 c6 ?_ ?_ ?_ ?_ ?_ _ <;> rfl;try (with_reducible rfl))
   generalize hCC:CF A6 c6=C at *;have HCC:=Lib.hid hCC;clear hCC;refine rd 7 (some 12) rfl fun K hK=>?_
   go_simp;skip;refine hK.out _ _ (⟨S6.1.alloc _,S6.2.1.alloc _,S6.2.2.1.alloc _,S6.2.2.2.alloc S6.2.2.2.size _⟩) fun hHeld=>?_
   clear hK K;(try simp only [pS,pB,pZ,pC]);have YZ:=Blk.new w6 51 #[iI 0,iI 0,iI 0,iI 0,uI 0,uI 0,iI 0,uI 0,iI 0,iI 0,iI 0,iI 0,iI 0,iI 0,iI 0,iI 0,iI 0,iI 0,iI 0,iI 0,nN,nN,nN,nN,iI 0,iI 0,nN,nN,uI 0,nN];have SZ:=hHeld;refine rd 8 none rfl fun K hK=>?_
   rw [if_pos (by rfl)]
   refine wp_storeW (T:=51) (n:=30) (by kernel_rfl) YZ rfl _ _ rfl rfl C rfl hcs hC1 (fun w9 Y9 g9=>?_)
   have S9:Blk w9 w.heap.size 49 hv∧Blk w9 (w.heap.size+1) 41 fv∧Blk w9 (w.heap.size+1+1) 51 #[iI 0,iI 0,iI 0,iI 0,uI 0,uI 0,iI 0,uI 0,iI 0,iI 0,iI 0,iI 0,iI 0,iI 0,iI 0,iI 0,iI 0,iI 0,iI 0,iI 0,nN,nN,nN,nN,iI 0,iI 0,nN,nN,uI 0,nN]∧Below w.heap.size w w9:=⟨SZ.1.grown g9 (fun e=>by injection e with e;omega),SZ.2.1.grown g9 (fun e=>by injection e with e;omega),SZ.2.2.1.grown g9 (fun e=>by injection e with e;omega),SZ.2.2.2.grown g9 SZ.2.2.2.size (fun k e=>by injection e with e;omega)⟩
   have o9:=(o6.alloc (.cells #[iI 0,iI 0,iI 0,iI 0,uI 0,uI 0,iI 0,uI 0,iI 0,iI 0,iI 0,iI 0,iI 0,iI 0,iI 0,iI 0,iI 0,iI 0,iI 0,iI 0,nN,nN,nN,nN,iI 0,iI 0,nN,nN,uI 0,nN] 51)).kept g9 (by
    cases hv9:(Value.slice A6 ps.length c6).ownBlock with
    | none=>exact .inl rfl
    | some b=>exact .inr (fun e=>by injection e with e;have:=(o6.lt b hv9).2;omega))
   refine hK.out _ _ ?_ (fun hHeld=>?_)
   ·exact S9
   clear hK K;refine dn ?_
   go_wp2_with fail;go_meet;exact ⟨_,A6,c6,rfl,by rw [HCC.out];exact Y9,hc6,own_monoV o9 (by omega),hgt,S9.2.2.1,S9.2.2.2⟩
  ·skip
   go_simp;skip;refine hK.out _ _ (⟨SX.1.alloc _,SX.2.1.alloc _,SX.2.2.1.alloc _,SX.2.2.2.alloc SX.2.2.2.size _⟩) fun hHeld=>?_
   clear hK K;(try simp only [pS,pB,pZ,pC]);have YZ0:=Blk.new wd 51 #[iI 0,iI 0,iI 0,iI 0,uI 0,uI 0,iI 0,uI 0,iI 0,iI 0,iI 0,iI 0,iI 0,iI 0,iI 0,iI 0,iI 0,iI 0,iI 0,iI 0,nN,nN,nN,nN,iI 0,iI 0,nN,nN,uI 0,nN];have hgt:w.heap.size+1+1<wd.heap.size:=hgt0;have SZ0:Blk (wd.alloc (.cells #[iI 0,iI 0,iI 0,iI 0,uI 0,uI 0,iI 0,uI 0,iI 0,iI 0,iI 0,iI 0,iI 0,iI 0,iI 0,iI 0,iI 0,iI 0,iI 0,iI 0,nN,nN,nN,nN,iI 0,iI 0,nN,nN,uI 0,nN] 51)) w.heap.size 49 hv∧Blk (wd.alloc (.cells #[iI 0,iI 0,iI 0,iI 0,uI 0,uI 0,iI 0,uI 0,iI 0,iI 0,iI 0,iI 0,iI 0,iI 0,iI 0,iI 0,iI 0,iI 0,iI 0,iI 0,nN,nN,nN,nN,iI 0,iI 0,nN,nN,uI 0,nN] 51)) (w.heap.size+1) 41 fv∧Blk (wd.alloc (.cells #[iI 0,iI 0,iI 0,iI 0,uI 0,uI 0,iI 0,uI 0,iI 0,iI 0,iI 0,iI 0,iI 0,iI 0,iI 0,iI 0,iI 0,iI 0,iI 0,iI 0,nN,nN,nN,nN,iI 0,iI 0,nN,nN,uI 0,nN] 51)) (w.heap.size+1+1) 51 #[iI 0,iI 0,iI 0,iI 0,uI 0,uI 0,iI 0,uI 0,iI 0,iI 0,iI 0,iI 0,iI 0,iI 0,iI 0,iI 0,iI 0,iI 0,iI 0,iI 0,nN,nN,nN,nN,iI 0,iI 0,nN,nN,uI 0,nN]∧Below w.heap.size w (wd.alloc (.cells #[iI 0,iI 0,iI 0,iI 0,uI 0,uI 0,iI 0,uI 0,iI 0,iI 0,iI 0,iI 0,iI 0,iI 0,iI 0,iI 0,iI 0,iI 0,iI 0,iI 0,nN,nN,nN,nN,iI 0,iI 0,nN,nN,uI 0,nN] 51)):=hHeld;have hwz:(wd.alloc (.cells #[iI 0,iI 0,iI 0,iI 0,uI 0,uI 0,iI 0,uI 0,iI 0,iI 0,iI 0,iI 0,iI 0,iI 0,iI 0,iI 0,iI 0,iI 0,iI 0,iI 0,nN,nN,nN,nN,iI 0,iI 0,nN,nN,uI 0,nN] 51)).heap.size=wd.heap.size+1:=World.size_alloc ..;refine rd 5 (some 19) rfl fun K hK=>?_
   go_simp
   (refine (HCL.out _ SZ0.2.2.2).mono ?_;rintro e w6 ⟨v6,rfl,o6,hb6⟩;obtain ⟨A6,c6,rfl⟩:=own_slice o6)
   refine hK.out _ _ (⟨SZ0.1.keep hb6,SZ0.2.1.keep hb6,SZ0.2.2.1.keep hb6,below_up SZ0.2.2.2 hb6 SZ0.2.2.2.size⟩) fun hHeld=>?_
   clear hK K;(try simp only [pS,pB,pZ,pC]);have SZ:Blk w6 w.heap.size 49 hv∧Blk w6 (w.heap.size+1) 41 fv∧Blk w6 (w.heap.size+1+1) 51 #[iI 0,iI 0,iI 0,iI 0,uI 0,uI 0,iI 0,uI 0,iI 0,iI 0,iI 0,iI 0,iI 0,iI 0,iI 0,iI 0,iI 0,iI 0,iI 0,iI 0,nN,nN,nN,nN,iI 0,iI 0,nN,nN,uI 0,nN]∧Below w.heap.size w w6:=hHeld;have YZ:=YZ0.keep hb6;have hc6:=own_capV o6;have hcs:=HCS.out A6 c6;have hC1:=HC1.out A6 c6;clear hb6 YZ0 SZ0;refine tq 6 20 rfl ?_ (hy:=by intro w' hSw;(try dsimp only at hSw);refine HBD.out _ _ _ _ _ _ (.tmp 14) (.tmp 15) (.tmp 16) (.tmp 17) (.tmp 19) A6 c6 ?_ ?_ ?_ ?_ ?_ _ <;> rfl;try (with_reducible rfl))
   generalize hCC:CF A6 c6=C at *;have HCC:=Lib.hid hCC;clear hCC;refine rd 8 none rfl fun K hK=>?_
   rw [if_pos (by rfl)]
   refine wp_storeW (T:=51) (n:=30) (by kernel_rfl) YZ rfl _ _ rfl rfl C rfl hcs hC1 (fun w9 Y9 g9=>?_)
   have S9:Blk w9 w.heap.size 49 hv∧Blk w9 (w.heap.size+1) 41 fv∧Blk w9 (w.heap.size+1+1) 51 #[iI 0,iI 0,iI 0,iI 0,uI 0,uI 0,iI 0,uI 0,iI 0,iI 0,iI 0,iI 0,iI 0,iI 0,iI 0,iI 0,iI 0,iI 0,iI 0,iI 0,nN,nN,nN,nN,iI 0,iI 0,nN,nN,uI 0,nN]∧Below w.heap.size w w9:=⟨SZ.1.grown g9 (fun e=>by injection e with e;omega),SZ.2.1.grown g9 (fun e=>by injection e with e;omega),SZ.2.2.1.grown g9 (fun e=>by injection e with e;omega),SZ.2.2.2.grown g9 SZ.2.2.2.size (fun k e=>by injection e with e;omega)⟩
   have o9:=o6.kept g9 (by
    cases hv9:(Value.slice A6 ps.length c6).ownBlock with
    | none=>exact .inl rfl
    | some b=>exact .inr (fun e=>by injection e with e;have:=(o6.lt b hv9).1;omega))
   refine hK.out _ _ ?_ (fun hHeld=>?_)
   ·exact S9
   clear hK K;refine dn ?_
   go_wp2_with fail;go_meet;exact ⟨_,A6,c6,rfl,by rw [HCC.out];exact Y9,hc6,own_monoV o9 (by omega),hgt,S9.2.2.1,S9.2.2.2⟩
 case rest =>
  obtain ⟨g,A6,c6,rfl,Y4,hc6,O4,hgt,Z4,P4⟩:=hcut;obtain ⟨w4,rfl⟩:∃ z:World,z=wc:=⟨_,rfl⟩;have hcs:=HCS.out A6 c6;have hC1:=HC1.out A6 c6;have h1:=Lib.hid (H1.out A6 c6);have h3:=Lib.hid (fun z=>H3.out z A6 c6)
  have HR4:=Lib.hid (own_rowUV O4);have HO4:=Lib.hid O4;have hcf:∃ C,C=CF A6 c6:=⟨_,rfl⟩;obtain ⟨C,hC⟩:=hcf;rw [← hC] at hcs hC1 h1 h3 Y4;have HCC:=Lib.hid hC;clear B0 B1 B2 P0 H1 H3 HBD O4 hC HCS HC1;go_wp2_with (refine wpList_loadC Y4 hcs _ rfl rfl rfl ?_)
  have hF:=Blk.new w4 97 #[.func (.func 45) #[.agg C] #[],.func (.func 48) #[.agg C] #[]]
  have PF0:=below_new w4 (.cells #[.func (.func 45) #[.agg C] #[],.func (.func 48) #[.agg C] #[]] 97)
  have PF:=P4.alloc P4.size (.cells #[.func (.func 45) #[.agg C] #[],.func (.func 48) #[.agg C] #[]] 97)
  have YF:=Y4.alloc (.cells #[.func (.func 45) #[.agg C] #[],.func (.func 48) #[.agg C] #[]] 97)
  have ZF:=Z4.alloc (.cells #[.func (.func 45) #[.agg C] #[],.func (.func 48) #[.agg C] #[]] 97)
  refine (first2_any C k1 k3 _ _ hF (fun W hW=>h1.out W (PF.trans (hW.mono PF.size))) (fun z W hW=>h3.out z W (PF.trans (hW.mono PF.size)) ((HR4.out.keep PF0).keep hW) hc6)).mono ?_
  rintro e w5 ⟨rfl,hb5⟩;have P5:=PF.trans (hb5.mono PF.size);have Y5:=YF.keep hb5;have Z5:=ZF.keep hb5;have Q5:=below_up PF0 hb5 PF0.size;have hz4:w.heap.size+1+1<w4.heap.size:=Z4.lt;clear hF PF YF ZF Y4 Z4 P4 hb5 h1 h3 PF0
  have kn:∀ {W W':World} {row:Option Nat},W.ownsRow (w.heap.size+1+1+1) 27 1 (.slice A6 ps.length c6) ps.length (us ps)→W.grownBy W' row→(∀ k,row=some k→k<w.heap.size+1+1+1)→W'.ownsRow (w.heap.size+1+1+1) 27 1 (.slice A6 ps.length c6) ps.length (us ps):=fun {W W' row} ho hg hr=>ho.kept hg (by
   cases hv9:(Value.slice A6 ps.length c6).ownBlock with
   | none=>exact .inl rfl
   | some b=>exact .inr (fun e=>by have:=(ho.lt b hv9).1;have:=hr b e.symm;omega))
  have KN:=Lib.hid (fun (W:World) (hg:w5.grownBy W (some (w.heap.size+1+1)))=>own_monoV (kn (kn HO4.out (grown_of_below (row:=none) Q5) (fun _ e=>by cases e)) hg (fun k e=>by injection e with e;omega)) (show w.heap.size≤w.heap.size+1+1+1 by omega))
  clear kn;generalize hfr:first2 k1 k3=fr at *
  have HFR:=Lib.hid hfr;clear hfr;by_cases h0:fr=0
  ·subst h0
   go_wp2_with (first | (refine wpList_loadC Y5 hcs _ rfl rfl rfl ?_) | (refine wpList_storeW (T:=51) (n:=30) (by kernel_rfl) Z5 rfl _ _ rfl rfl rfl C rfl hcs hC1 ?_;intro w6 Y6 g6))
   exact bodyPost_ret (results_CE rfl _ rfl Y6 hcs) rfl ⟨⟨C,by first | rfl | (rw [HFR.out];rfl) | rw [HFR.out],And.intro ⟨hcs,hC1⟩ (fun _=>⟨A6,c6,HCC.out,KN.out _ g6⟩)⟩,P5.grown g6 P5.size (fun k e=>by injection e with e;omega)⟩
  ·have e0:(fr != 0)=true:=by simpa using h0
   have H0:=Lib.hid h0;clear h0;go_wp2_with (refine wpList_storeW (T:=51) (n:=30) (by kernel_rfl) Z5 rfl _ _ rfl rfl rfl #[iI 0,iI 0,iI 0,iI 0,uI 0,uI 0,iI 0,uI 0,iI 0,iI 0,iI 0,iI 0,iI 0,iI 0,iI 0,iI 0,iI 0,iI 0,iI 0,iI 0,nN,nN,nN,nN,iI 0,iI 0,nN,nN,uI 0,nN] rfl rfl (by kernel_rfl) ?_;intro w6 Y6 g6)
   exact bodyPost_ret (results_CE rfl _ rfl Y6 rfl) rfl ⟨⟨_,by first | rfl | (rw [HFR.out];rfl) | rw [HFR.out],And.intro ⟨rfl,by kernel_rfl⟩ (fun h=>absurd (HFR.out.symm.trans h) H0.out)⟩,P5.grown g6 P5.size (fun k e=>by injection e with e;omega)⟩
def halfG (n:Nat):Nat:=2 ^ Nat.log2 (n - 1)
theorem halfG_is {n j:Nat} (h0:2≤n) (h1:2 ^ j<n) (h2:¬ 2 * 2 ^ j<n):2 ^ j=halfG n:=by
 have a:j≤Nat.log2 (n - 1):=(Nat.le_log2 (by omega)).2 (by omega)
 have b:Nat.log2 (n - 1)<j+1:=(Nat.log2_lt (by omega)).2 (by rw [Nat.pow_succ];omega)
 have e:j=Nat.log2 (n - 1):=by omega
 unfold halfG;rw [← e]
theorem halfG_bd {n:Nat} (h:2≤n):1≤halfG n∧halfG n<n:=by
 have a:2 ^ Nat.log2 (n - 1)≤n - 1:=Nat.log2_self_le (by omega)
 have b:0<2 ^ Nat.log2 (n - 1):=Nat.two_pow_pos _;unfold halfG;omega
def climbG:Nat→Nat→Nat→Nat→List Nat→Nat
 | 0,_,_,_,_=>0
 | f+1,i,n,h,ps=>if n=1∨ps.length=0 then leafN h else if i<halfG n then nodeN (climbG f i (halfG n) h ps.dropLast) (ps.getD (ps.length - 1) 0) else nodeN (ps.getD (ps.length - 1) 0) (climbG f (i - halfG n) (n - halfG n) h ps.dropLast)
def fitG:Nat→Nat→Nat→Nat→Bool
 | 0,_,_,_=>false
 | f+1,i,n,m=>if n=1∨m=0 then decide (n=1∧m=0) else if i<halfG n then fitG f i (halfG n) (m - 1) else fitG f (i - halfG n) (n - halfG n) (m - 1)
theorem climbG_lt (f i n h:Nat) (ps:List Nat):climbG f i n h ps<18446744073709551616:=by
 cases f with
 | zero=>simp [climbG]
 | succ f =>
  unfold climbG;split
  ·exact lab_lt _ _
  ·split <;> exact lab_lt _ _
theorem half_gen (n:Nat) (h2:2≤n) (hn:n≤65536) (w:World) :
  Calls Tryz.prog 73 #[.int .i64 (n:Int)] w fun e w'=>e=.returned (.int .i64 (halfG n:Int))∧w'=w:=by
 have HS:=Lib.hid (fun (j:Nat) h1 h3=>halfG_is (n:=n) (j:=j) h2 h1 h3)
 go_enter Tryz.func73,Tryz.ntmps73
 go_wp2_with fail;go_loopw [3] (fun j W=>∃ k:Nat,j=.int .i64 (k:Int)∧(∃ q,k=2 ^ q)∧1≤k∧k<n∧w=W) (fun j _=>n - (intOf j).toNat)
 case atStart=>exact ⟨1,rfl,⟨0,rfl⟩,by omega,by omega,rfl⟩
 case round =>
  obtain ⟨k,rfl,hq,h1k,hkn,rfl⟩:=hrel;have HQ:=Lib.hid hq;clear hq;have hw2:IntKind.i64.wrap (2 * (k:Int))=((2 * k:Nat):Int):=by rw [IntKind.wrap_i64];omega
  have hw3:IntKind.i64.wrap ((k:Int) * 2)=((2 * k:Nat):Int):=by rw [IntKind.wrap_i64];omega
  by_cases hlt:2 * k<n
  ·have hd:decide (((2 * k:Nat):Int)<(n:Int))=true:=decide_eq_true (by omega)
   have HQ2:=Lib.hid (show ∃ q,2 * k=2 ^ q by
    obtain ⟨q,hq⟩:=HQ.out;exact ⟨q+1,by rw [Nat.pow_succ];omega⟩)
   generalize h2k:2 * k=k2 at *;go_wp2_with fail;go_roundw
   case rel=>exact ⟨k2,by go_num,HQ2.out,by omega,by omega,trivial⟩
   case measure=>simp [intOf];omega
  ·have hd:decide (((2 * k:Nat):Int)<(n:Int))=false:=decide_eq_false (by omega)
   have hf:k=halfG n:=by
    obtain ⟨q,rfl⟩:=HQ.out;exact HS.out q hkn hlt
   have HF:=Lib.hid hf;clear hf;generalize h2k:2 * k=k2 at *;go_wp2_with fail;go_ret;exact ⟨by rw [← HF.out];rfl,rfl⟩
theorem grown_setw {w w':World} {bg:Nat} {v:Value} (h:Below w.heap.size (w.setCell ⟨bg,0,none⟩ v) w'):w.grownBy w' (some bg) :=
 ⟨h.os,h.tape,h.output,Nat.le_trans (by simp [World.setCell]) h.size,fun k hk hne=>(h.block k hk).trans (Below.heap_setCell w ⟨bg,0,none⟩ v k (fun e=>hne (by rw [e])))⟩
theorem climb_leaf (h:Nat) (hh:h<18446744073709551616) (i n m:Nat) (hm:m≤100) (hnm:n=1∨m=0) (A:Option Addr) (c bg bh:Nat) (f:Value) (w:World) (hg:Blk w bg 4 #[.bool true]) (hb:Blk w bh 27 #[.int .u64 (h:Int)]) :
  Calls Tryz.prog 143 #[iI (i:Int),iI (n:Int),.slice A m c,.pointer (some ⟨bg,0,none⟩),.pointer (some ⟨bh,0,none⟩),f] w fun e w'=>e=.returned (.int .u64 (leafN h:Int))∧w.grownBy w' (some bg)∧Blk w' bg 4 #[.bool (decide (n=1∧m=0))]:=by
 have HL:=Lib.hid (fun W=>leaf_any h hh W)
 have hc:=hg.c1;have hd:=hb.c1;have hne:bh≠bg:=hb.ne hg (by decide)
 by_cases hn1:n=1
 ·subst hn1
  by_cases hm0:m=0
  ·subst hm0
   have hd2:=(hb.far (p:=⟨bg,0,none⟩) hne (.bool true)).c1;have HG:=Lib.hid (fun (W:World) (hW:Below w.heap.size (w.setCell ⟨bg,0,none⟩ (.bool true)) W)=>(hg.set1 (.bool true)).under hW (hg.lt))
   clear hh hg hb;go_enter Tryz.func143,Tryz.ntmps143
   go_wp2_with fail;refine (HL.out _).mono ?_
   rintro e w' ⟨rfl,hb⟩;have hb:Below w.heap.size (w.setCell ⟨bg,0,none⟩ (.bool true)) w':=by simpa using hb
   have HB:=Lib.hid hb;clear hb;go_wp2_with fail;go_ret;exact ⟨rfl,grown_setw HB.out,HG.out _ HB.out⟩
  ·have hd2:=(hb.far (p:=⟨bg,0,none⟩) hne (.bool false)).c1
   have HG:=Lib.hid (fun (W:World) (hW:Below w.heap.size (w.setCell ⟨bg,0,none⟩ (.bool false)) W)=>(hg.set1 (.bool false)).under hW (hg.lt))
   have hls:IntKind.i64.wrap ((m:Int) - 1)=((m - 1:Nat):Int):=by rw [IntKind.wrap_i64];omega
   have el:decide (((m - 1:Nat):Int)<0)=false:=decide_eq_false (by omega)
   have HD:=Lib.hid (show decide (1=1∧m=0)=false by simp [hm0])
   clear hh hg hb hm0 hnm;go_enter Tryz.func143,Tryz.ntmps143
   go_wp2_with fail;refine (HL.out _).mono ?_
   rintro e w' ⟨rfl,hb⟩;have hb:Below w.heap.size (w.setCell ⟨bg,0,none⟩ (.bool false)) w':=by simpa using hb
   have HB:=Lib.hid hb;clear hb;go_wp2_with fail;go_ret;exact ⟨rfl,grown_setw HB.out,by rw [HD.out];exact HG.out _ HB.out⟩
 ·have hm0:m=0:=by omega
  subst hm0;have hd2:=(hb.far (p:=⟨bg,0,none⟩) hne (.bool false)).c1;have HG:=Lib.hid (fun (W:World) (hW:Below w.heap.size (w.setCell ⟨bg,0,none⟩ (.bool false)) W)=>(hg.set1 (.bool false)).under hW (hg.lt))
  have en:((n:Int) == 1)=false:=by rw [beq_eq_false_iff_ne];omega
  have HD:=Lib.hid (show decide (n=1∧0=0)=false by simp [hn1])
  clear hh hg hb hn1 hnm;go_enter Tryz.func143,Tryz.ntmps143
  go_wp2_with fail;refine (HL.out _).mono ?_
  rintro e w' ⟨rfl,hb⟩;have hb:Below w.heap.size (w.setCell ⟨bg,0,none⟩ (.bool false)) w':=by simpa using hb
  have HB:=Lib.hid hb;clear hb;go_wp2_with fail;go_ret;exact ⟨rfl,grown_setw HB.out,by rw [HD.out];exact HG.out _ HB.out⟩
def RowN (W:World) (g:Nat) (A:Option Addr) (ps:List Nat):Prop:=∀ (k:Nat) (hk:k<ps.length),∃ b o,A=some ⟨b,o,none⟩∧b≠g∧W.cell? ⟨b,o+k,none⟩=some (.int .u64 (ps[k]:Int))
theorem RowN.keep {W W':World} {g:Nat} {A:Option Addr} {ps:List Nat} (h:RowN W g A ps) (hb:Below W.heap.size W W'):RowN W' g A ps:=fun k hk=>by
 obtain ⟨b,o,e,hne,hc⟩:=h k hk;exact ⟨b,o,e,hne,(hb.cell (World.block_lt_of_cell? _ _ hc)).trans hc⟩
theorem RowN.drop {W:World} {g:Nat} {A:Option Addr} {ps:List Nat} (h:RowN W g A ps):RowN W g A ps.dropLast:=fun k hk=>by
 rw [List.length_dropLast] at hk;obtain ⟨b,o,e,hne,hc⟩:=h k (by omega)
 exact ⟨b,o,e,hne,by rw [List.getElem_dropLast];exact hc⟩
theorem climb_gen (h:Nat) (hh:h<18446744073709551616) (bg bh bf:Nat) (f:Nat):∀ (i n:Nat) (ps:List Nat) (A:Option Addr) (c:Nat) (w:World),i<n→n≤65536→ps.length<f→ps.length≤100→ps.length≤c→Words ps→RowN w bg A ps→Climb w bg bh bf h →
  Calls Tryz.prog 143 #[iI (i:Int),iI (n:Int),.slice A ps.length c,.pointer (some ⟨bg,0,none⟩),.pointer (some ⟨bh,0,none⟩),.pointer (some ⟨bf,0,none⟩)] w fun e w'=>e=.returned (.int .u64 (climbG f i n h ps:Int))∧w.grownBy w' (some bg)∧Blk w' bg 4 #[.bool (fitG f i n ps.length)]:=by
 induction f with
 | zero=>intro i n ps A c w _ _ hf;omega
 | succ f ih =>
  intro i n ps A c w hi hn hpf hp hc hw hr hC;by_cases h1:n=1∨ps.length=0
  ·rw [climbG,if_pos h1,fitG,if_pos h1]
   exact climb_leaf h hh i n ps.length hp h1 A c bg bh _ w hC.1 hC.2.1
  ·obtain ⟨b,o,rfl,hbg,hlast⟩:=hr (ps.length - 1) (by omega)
   have hb:=halfG_bd (n:=n) (by omega)
   have hld:ps.dropLast.length=ps.length - 1:=List.length_dropLast;have HH:=Lib.hid (fun (W:World)=>half_gen n (by omega) hn W)
   have hgl:ps.getD (ps.length - 1) 0=ps[ps.length - 1]'(by omega):=by
    simp [List.getD,show ps.length - 1<ps.length by omega]
   have hx:=hw (ps[ps.length - 1]'(by omega)) (List.getElem_mem _)
   have e2:climbG (f+1) i n h ps=if i<halfG n then nodeN (climbG f i (halfG n) h ps.dropLast) (ps[ps.length - 1]'(by omega)) else nodeN (ps[ps.length - 1]'(by omega)) (climbG f (i - halfG n) (n - halfG n) h ps.dropLast):=by
    rw [climbG];rw [if_neg h1,hgl]
   have e3:fitG (f+1) i n ps.length=if i<halfG n then fitG f i (halfG n) (ps.length - 1) else fitG f (i - halfG n) (n - halfG n) (ps.length - 1):=by
    rw [fitG];rw [if_neg h1]
   have hwd:=words_drop hw;have hlc:∀ W,w.grownBy W (some bg)→W.cell? ⟨b,o+(ps.length - 1),none⟩=some (.int .u64 ((ps[ps.length - 1]'(by omega):Nat):Int)):=fun W hW=>(World.cell?_of_block (a:=⟨b,o+(ps.length - 1),none⟩) (hW.block b (World.block_lt_of_cell? _ _ hlast) (fun e=>hbg (by injection e)))).trans hlast
   have HL:=Lib.hid hlc;have en:((n:Int) == 1)=false:=by rw [beq_eq_false_iff_ne];omega
   have el:decide (((ps.length - 1:Nat):Int)<0)=false:=decide_eq_false (by omega)
   have hls:IntKind.i64.wrap ((ps.length:Int) - 1)=((ps.length - 1:Nat):Int):=by rw [IntKind.wrap_i64];omega
   have hfg:bf≠bg:=hC.2.2.ne hC.1 (by decide)
   have HCb:=Lib.hid (fun (W:World) (hW:w.grownBy W (some bg))=>(hC.2.2.grown hW (fun e=>hfg (by injection e))).c1)
   by_cases hk:i<halfG n
   ·rw [if_pos hk] at e2 e3
    have HI:=Lib.hid (fun (W:World) (hW:Below w.heap.size w W)=>ih i (halfG n) ps.dropLast (some ⟨b,o,none⟩) c W hk (by omega) (by omega) (by omega) (by omega) hwd (hr.drop.keep hW) (hC.keep hW))
    rw [hld] at HI;have HN:=Lib.hid (fun (W:World)=>node_any (climbG f i (halfG n) h ps.dropLast) (ps[ps.length - 1]'(by omega)) (climbG_lt _ _ _ _ _) hx W)
    rw [← e2] at HN;rw [← e3] at HI;have hdk:decide ((i:Int)<(halfG n:Int))=true:=decide_eq_true (by omega)
    have hm1:ps.length - 1<ps.length:=by omega
    clear e2 e3 hld hr hC hw hwd ih hlc hlast hgl hx hpf;generalize climbG (f+1) i n h ps=R at *;generalize climbG f i (halfG n) h ps.dropLast=RA at *;generalize fitG (f+1) i n ps.length=ft at *;generalize ps[ps.length - 1]'(by omega)=x at *
    generalize halfG n=k at *;generalize ps.length - 1=m at *;generalize ps.length=q at *;go_enter Tryz.func143,Tryz.ntmps143
    go_wp2_with fail;refine (HH.out _).mono ?_
    rintro e w1 ⟨rfl,rfl⟩;go_upto_region 7 with fail;refine wp_region_held_drew (S:=(fun V=>World.grownBy w1 V (some bg))) (by kernel_rfl) ?_ (fun hHeld=>?_)
    ·first | done | ((try dsimp only);exact grown_of_below (Below.refl w1.heap.size w1).drew)
    have PW:=(Below.refl w1.heap.size w1).drew;generalize w1.drew=wd at *;refine th 0 37 rfl (fun _ hSw=>HCb.out _ hSw) ?_
    refine tq 1 38 rfl ?_
    refine tq 2 39 rfl ?_
    refine tq 3 40 rfl ?_
    refine tq 4 41 rfl ?_
    refine tq 5 42 rfl ?_ (hy:=by intro w' hSw;(try dsimp only at hSw);refine exec_prefix Tryz.underlying42 sizeU64 _ _ _ _ _ _ (.tmp 40) (.tmp 41) b o q c m ?_ ?_ ?_ _;rfl;rfl;omega;try (with_reducible rfl))
    refine tq 7 44 rfl ?_
    refine tq 8 45 rfl ?_
    refine tq 9 46 rfl ?_
    refine th 10 47 rfl (fun _ hSw=>HL.out _ hSw) ?_
    refine rd 6 (some 43) rfl fun K hK=>?_
    go_simp
    (refine (HI.out _ PW).mono ?_;rintro e w2 ⟨rfl,hg2,hB2⟩)
    refine hK.out _ _ (grown_up (grown_of_below PW) hg2 (fun k e _=>e)) fun hHeld=>?_
    clear hK K;(try simp only [pS,pB,pZ,pC]);refine rd 11 (some 48) rfl fun K hK=>?_
    go_simp
    (refine (HN.out _).mono ?_;rintro e w3 ⟨rfl,hb3⟩)
    refine hK.out _ _ ?_ (fun hHeld=>?_)
    ·first | done | ((try dsimp only);exact grown_up hHeld (grown_of_below (row:=none) hb3) (fun k e _=>by cases e))
    clear hK K;(try simp only [pS,pB,pZ,pC]);have hB3:=hB2.keep hb3;refine tq 12 9 rfl ?_
    refine dn ?_
    go_wp2_with fail;go_ret;exact ⟨rfl,hHeld,hB3⟩
   ·rw [if_neg hk] at e2 e3
    have HI:=Lib.hid (fun (W:World) (hW:Below w.heap.size w W)=>ih (i - halfG n) (n - halfG n) ps.dropLast (some ⟨b,o,none⟩) c W (by omega) (by omega) (by omega) (by omega) (by omega) hwd (hr.drop.keep hW) (hC.keep hW))
    rw [hld] at HI;have HN:=Lib.hid (fun (W:World)=>node_any (ps[ps.length - 1]'(by omega)) (climbG f (i - halfG n) (n - halfG n) h ps.dropLast) hx (climbG_lt _ _ _ _ _) W)
    rw [← e2] at HN;rw [← e3] at HI;have hdk:decide ((i:Int)<(halfG n:Int))=false:=decide_eq_false (by omega)
    have hm1:ps.length - 1<ps.length:=by omega
    have hsi:IntKind.i64.wrap ((i:Int) - (halfG n:Int))=((i - halfG n:Nat):Int):=by rw [IntKind.wrap_i64];omega
    have hsn:IntKind.i64.wrap ((n:Int) - (halfG n:Int))=((n - halfG n:Nat):Int):=by rw [IntKind.wrap_i64];omega
    clear e2 e3 hld hr hC hw hwd ih hlc hlast hgl hx hpf;generalize climbG (f+1) i n h ps=R at *;generalize fitG (f+1) i n ps.length=ft at *;generalize i - halfG n=i2 at *;generalize n - halfG n=n2 at *;generalize climbG f i2 n2 h ps.dropLast=RA at *;generalize ps[ps.length - 1]'(by omega)=x at *
    generalize halfG n=k at *;generalize ps.length - 1=m at *;generalize ps.length=q at *;go_enter Tryz.func143,Tryz.ntmps143
    go_wp2_with fail;refine (HH.out _).mono ?_
    rintro e w1 ⟨rfl,rfl⟩;go_upto_region 8 with fail;refine wp_region_held_drew (S:=(fun V=>World.grownBy w1 V (some bg))) (by kernel_rfl) ?_ (fun hHeld=>?_)
    ·first | done | ((try dsimp only);exact grown_of_below (Below.refl w1.heap.size w1).drew)
    have PW:=(Below.refl w1.heap.size w1).drew;generalize w1.drew=wd at *;refine tq 0 49 rfl ?_
    refine tq 1 50 rfl ?_
    refine tq 2 51 rfl ?_
    refine th 3 52 rfl (fun _ hSw=>HL.out _ hSw) ?_
    refine th 4 53 rfl (fun _ hSw=>HCb.out _ hSw) ?_
    refine tq 5 54 rfl ?_
    refine tq 6 55 rfl ?_
    refine tq 7 56 rfl ?_
    refine tq 8 57 rfl ?_
    refine tq 9 58 rfl ?_
    refine tq 10 59 rfl ?_
    refine tq 11 60 rfl ?_
    refine tq 12 61 rfl ?_
    refine tq 13 62 rfl ?_ (hy:=by intro w' hSw;(try dsimp only at hSw);refine exec_prefix Tryz.underlying42 sizeU64 _ _ _ _ _ _ (.tmp 60) (.tmp 61) b o q c m ?_ ?_ ?_ _;rfl;rfl;omega;try (with_reducible rfl))
    refine rd 14 (some 63) rfl fun K hK=>?_
    go_simp
    (refine (HI.out _ PW).mono ?_;rintro e w2 ⟨rfl,hg2,hB2⟩)
    refine hK.out _ _ (grown_up (grown_of_below PW) hg2 (fun k e _=>e)) fun hHeld=>?_
    clear hK K;(try simp only [pS,pB,pZ,pC]);refine rd 15 (some 64) rfl fun K hK=>?_
    go_simp
    (refine (HN.out _).mono ?_;rintro e w3 ⟨rfl,hb3⟩)
    refine hK.out _ _ ?_ (fun hHeld=>?_)
    ·first | done | ((try dsimp only);exact grown_up hHeld (grown_of_below (row:=none) hb3) (fun k e _=>by cases e))
    clear hK K;(try simp only [pS,pB,pZ,pC]);have hB3:=hB2.keep hb3;refine tq 16 9 rfl ?_
    refine dn ?_
    go_wp2_with fail;go_ret;exact ⟨rfl,hHeld,hB3⟩
def logC (root:Nat) (i n:Int) (h:Nat) (ps:List Nat):Int :=
 if n<1∨65536<n∨i<0∨n≤i then 5 else if root=climbG (ps.length+1) i.toNat n.toNat h ps∧fitG (ps.length+1) i.toNat n.toNat ps.length=true then 0 else 10
theorem RowU.out {W W':World} {A:Option Addr} {ps:List Nat} (h:RowU W A ps) (hb:Below W.heap.size W W') {g:Nat} (hg:W.heap.size≤g):RowN W' g A ps:=fun k hk=>by
 obtain ⟨b,o,e,hc⟩:=h k hk;have hl:=World.block_lt_of_cell? _ _ hc;exact ⟨b,o,e,by have:b<W.heap.size:=hl;omega,(hb.cell hl).trans hc⟩
theorem logcheck_out (root h:Nat) (i n:Int) (hd:n<1∨65536<n∨i<0∨n≤i) (A:Option Addr) (m c:Nat) (w:World) :
  Calls Tryz.prog 98 #[.int .u64 (root:Int),.int .i64 i,.int .i64 n,.int .u64 (h:Int),.slice A m c] w fun e w'=>e=.returned (.int .i64 5)∧Below w.heap.size w w':=by
 have P0:=below_new w (.cells #[.int .u64 (h:Int)] 27);by_cases h1:n<1
 ·have e1:decide (n<1)=true:=decide_eq_true h1
  clear hd;go_enter Tryz.func98,Tryz.ntmps98
  go_wp2_with fail;go_ret;exact ⟨rfl,P0⟩
 have e1:decide (n<1)=false:=decide_eq_false h1;by_cases h2:65536<n
 ·have e2:decide (65536<n)=true:=decide_eq_true h2
  clear hd;go_enter Tryz.func98,Tryz.ntmps98
  go_wp2_with fail;go_ret;exact ⟨rfl,P0⟩
 have e2:decide (65536<n)=false:=decide_eq_false h2;by_cases h3:i<0
 ·have e3:decide (i<0)=true:=decide_eq_true h3
  clear hd;go_enter Tryz.func98,Tryz.ntmps98
  go_wp2_with fail;go_ret;exact ⟨rfl,P0⟩
 have e3:decide (i<0)=false:=decide_eq_false h3;have e4:decide (n≤i)=true:=decide_eq_true (by omega)
 clear hd h1 h2 h3;go_enter Tryz.func98,Tryz.ntmps98
 go_wp2_with fail;go_ret;exact ⟨rfl,P0⟩
theorem logcheck_in (root:Nat) (i n h:Nat) (hi:i<n) (hn:n≤65536) (hh:h<18446744073709551616) (ps:List Nat) (hp:ps.length≤100) (hw:Words ps) (A:Option Addr) (c:Nat) (hc:ps.length≤c) (w:World) (hr:RowU w A ps) :
  Calls Tryz.prog 98 #[.int .u64 (root:Int),.int .i64 (i:Int),.int .i64 (n:Int),.int .u64 (h:Int),.slice A ps.length c] w fun e w'=>e=.returned (.int .i64 (if root=climbG (ps.length+1) i n h ps∧fitG (ps.length+1) i n ps.length=true then 0 else 10))∧Below w.heap.size w w':=by
 obtain ⟨ans,hans⟩:∃ z:Int,z=if root=climbG (ps.length+1) i n h ps∧fitG (ps.length+1) i n ps.length=true then 0 else 10:=⟨_,rfl⟩
 rw [← hans];have HANS:=Lib.hid hans;clear hans;have X0:=(Blk.new w 27 #[.int .u64 (h:Int)]).alloc (.cells #[.bool true] 4);have G0:=Blk.new (w.alloc (.cells #[.int .u64 (h:Int)] 27)) 4 #[.bool true];rw [World.size_alloc] at G0;have P0:=(below_new w (.cells #[.int .u64 (h:Int)] 27)).alloc (by simp) (.cells #[.bool true] 4)
 have X1:=X0.alloc (.cells #[.func (.func 143) #[] #[.pointer (some ⟨w.heap.size+1,0,none⟩),.pointer (some ⟨w.heap.size,0,none⟩),.pointer (some ⟨w.heap.size+1+1,0,none⟩)]] 196)
 have G1:=G0.alloc (.cells #[.func (.func 143) #[] #[.pointer (some ⟨w.heap.size+1,0,none⟩),.pointer (some ⟨w.heap.size,0,none⟩),.pointer (some ⟨w.heap.size+1+1,0,none⟩)]] 196)
 have P1:=P0.alloc (by simp;omega) (.cells #[.func (.func 143) #[] #[.pointer (some ⟨w.heap.size+1,0,none⟩),.pointer (some ⟨w.heap.size,0,none⟩),.pointer (some ⟨w.heap.size+1+1,0,none⟩)]] 196)
 have F1:=Blk.new ((w.alloc (.cells #[.int .u64 (h:Int)] 27)).alloc (.cells #[.bool true] 4)) 196 #[.func (.func 143) #[] #[.pointer (some ⟨w.heap.size+1,0,none⟩),.pointer (some ⟨w.heap.size,0,none⟩),.pointer (some ⟨w.heap.size+1+1,0,none⟩)]]
 rw [World.size_alloc,World.size_alloc] at F1;have HC:=Lib.hid (climb_gen h hh (w.heap.size+1) w.heap.size (w.heap.size+1+1) (ps.length+1) i n ps A c _ hi hn (by omega) hp hc hw (hr.out P1 (by omega)) ⟨G1,X1,F1⟩)
 generalize climbG (ps.length+1) i n h ps=R at *;generalize fitG (ps.length+1) i n ps.length=ft at *;have e1:decide ((n:Int)<1)=false:=decide_eq_false (by omega)
 have e2:decide ((65536:Int)<(n:Int))=false:=decide_eq_false (by omega)
 have e3:decide ((i:Int)<0)=false:=decide_eq_false (by omega)
 have e4:decide ((n:Int)≤(i:Int))=false:=decide_eq_false (by omega)
 clear hh X0 G0 P0 F1 hw hr hp hc;by_cases hR:root=R
 ·have hne:((R:Int) != (root:Int))=false:=by rw [hR];simp
  have HR:=Lib.hid hR;clear hR;go_enter Tryz.func98,Tryz.ntmps98
  go_wp2_with fail;refine HC.out.mono ?_
  rintro e w1 ⟨rfl,hg1,G2⟩;have hc2:=G2.c1;have P2:=P1.grown hg1 P1.size (fun q e=>by injection e with e;omega)
  clear G1 X1 P1 hg1
  cases ft with
  | true =>
   go_wp2_with fail;go_ret;exact ⟨by have e:=HANS.out;have r:=HR.out;simp [r] at e;subst e;rfl,P2⟩
  | false =>
   go_wp2_with fail;go_ret;exact ⟨by have e:=HANS.out;simp at e;subst e;rfl,P2⟩
 ·have hne:((R:Int) != (root:Int))=true:=by
   simp only [bne_iff_ne,ne_eq];omega
  have HR:=Lib.hid hR;clear hR;go_enter Tryz.func98,Tryz.ntmps98
  go_wp2_with fail;refine HC.out.mono ?_
  rintro e w1 ⟨rfl,hg1,G2⟩;have P2:=P1.grown hg1 P1.size (fun q e=>by injection e with e;omega)
  clear G1 X1 P1 hg1;go_wp2_with fail;go_ret;exact ⟨by have e:=HANS.out;have r:=HR.out;simp [r] at e;subst e;rfl,P2⟩
theorem logcheck_all (root h:Nat) (i n:Int) (hh:h<18446744073709551616) (ps:List Nat) (hp:ps.length≤100) (hw:Words ps) (A:Option Addr) (c:Nat) (hc:ps.length≤c) (w:World) (hr:RowU w A ps) :
  Calls Tryz.prog 98 #[.int .u64 (root:Int),.int .i64 i,.int .i64 n,.int .u64 (h:Int),.slice A ps.length c] w fun e w'=>e=.returned (.int .i64 (logC root i n h ps))∧Below w.heap.size w w':=by
 unfold logC;by_cases hd:n<1∨65536<n∨i<0∨n≤i
 ·rw [if_pos hd]
  exact logcheck_out root h i n hd A ps.length c w
 ·rw [if_neg hd]
  obtain ⟨n',rfl⟩:=Int.eq_ofNat_of_zero_le (a:=n) (by omega)
  obtain ⟨i',rfl⟩:=Int.eq_ofNat_of_zero_le (a:=i) (by omega)
  exact logcheck_in root i' n' h (by omega) (by omega) hh ps hp hw A c hc w hr
end Go.Proofs.YtbeaijjaecaidaaGreatDoor
