/- The disclosures of a text, and that it is valid, in the program. The disclosures of a text, and that it is valid, in the reference. The encoding of a text, in the program. Acts of the reference: bare and clean, of filings. The maker's numbers: Pick and next. What the proofs of the statements share: the start that fits, the one variable that is read, a slice of ints as it comes in. The words of bytes, in the reference. Sum of the reference. Sums with labels in the reference: bytes, commitments, nodes, keys, signatures. Heads: signature, Sign. -/
import Derived.Test.YtbeaijjaecaidaaGreatDoorM09
import Derived.Test.YtbeaijjaecaidaaGreatDoorM02
import Derived.Test.YtbeaijjaecaidaaGreatDoorM01
import Derived.WalkKit
import Derived.ProofKit
import Derived.OpenShut
import Derived.Deep.DeepHandedRow
import Derived.Lay
import Derived.MakeChecks
import Derived.Lib.LaidTab
import Derived.ChangeSlices
import Derived.Test.YtbeaijjaecaidaaGreatDoorRows
import Derived.Lib.ConvBytes
import Derived.Deep.RegionHeld
import Derived.Deep.DrawnRows
import Derived.Deep.DeepCutAuto
import Derived.Outline
set_option maxRecDepth 100000
set_option maxHeartbeats 16000000
namespace Go.Proofs.YtbeaijjaecaidaaGreatDoor
open Go.RowKit Go.Shelf
attribute [local go_sem] Oper.semAt_some
def sumA (l:List Cl):Nat→Nat
 | 0=>0
 | k+1=>sumA l k+((altsL l (k+1)).getD k []).length
theorem sumA_le (l:List Cl) (k m:Nat) (h:k≤m):sumA l k≤sumA l m:=by
 induction m with
 | zero =>
  obtain rfl:k=0:=by omega
  exact Nat.le_refl _
 | succ m ih =>
  by_cases hk:k≤m
  ·have:=ih hk
   rw [sumA];omega
  ·obtain rfl:k=m+1:=by omega
   exact Nat.le_refl _
def OkTx (d:List F) (c:List Cl):Prop:=d.length≤16∧(∀ f∈d,OkF f)∧OkCl c∧AltsOk c∧(d.flatMap F.tops).length+sumA c c.length≤128
theorem okTx_size {d:List F} (h:∀ f∈d,OkF f):sizeL d≤d.length * 96:=by
 induction d with
 | nil=>simp [sizeL]
 | cons a d ih =>
  have h1:=(h a List.mem_cons_self).1;have h2:=ih (fun f hf=>h f (List.mem_cons_of_mem _ hf))
  rw [sizeL,List.length_cons];omega
theorem OwnN.box {W W':World} {base n g:Nat} {v:Value} {t:TypeId} {cs:Array Value} (hX:Blk W g t cs) (h:OwnN W base v n) (hg:W.grownBy W' v.ownBlock) (hb:g<base):Blk W' g t cs :=
 hX.grown hg (fun e=>by have:=h.lt _ e.symm;omega)
theorem disclosed_any (d:List F) (c:List Cl) (hok:OkTx d c) (dv cv:Value) (w:World) (B:Nat) (hBw:B≤w.heap.size) (hd:Rep w B dv (.s 4 (d.flatMap F.cells))) (hc:Rep w B cv (.s 5 (c.flatMap Cl.cells))) :
  Calls Tryz.prog 149 #[.agg #[dv,cv]] w fun e w'=>∃ u,e=.returned (.tuple #[u,.int .i64 0])∧Below w.heap.size w w':=by
 obtain ⟨hd16,hof,hcl,hal,h128⟩:=hok;have HP:=Lib.hid (fun (W:World) (hW:Below w.heap.size w W)=>disparts_any (sizeL d) d (Nat.le_refl _) (by have:=okTx_size hof;omega) dv W B (Nat.le_trans hBw hW.size) (hd.keep (fun p hp=>hW.cell (Nat.lt_of_lt_of_le hp hBw)) (Nat.le_refl _)))
 have HV:=Lib.hid (fun (W:World) (hW:Below w.heap.size w W)=>cvalid_any c hcl cv W B (Nat.le_trans hBw hW.size) (hc.keep (fun p hp=>hW.cell (Nat.lt_of_lt_of_le hp hBw)) (Nat.le_refl _)))
 have HA:=Lib.hid (fun (i:Nat) (hi:i<c.length) (W:World) (hW:Below w.heap.size w W)=>alts_any c hcl hal i hi cv W B (Nat.le_trans hBw hW.size) (hc.keep (fun p hp=>hW.cell (Nat.lt_of_lt_of_le hp hBw)) (Nat.le_refl _)))
 obtain ⟨A,q,rfl,_,hcell⟩:=hd.formulas;obtain ⟨A2,q2,rfl,_,_⟩:=hc.claims;have HCELL:=Lib.hid hcell;have HOF:=Lib.hid hof;have hc32:=hcl.1;have HS:=Lib.hid (fun k (hk:k≤c.length)=>sumA_le c k c.length hk)
 have dd0:decide ((16:Int)<(d.length:Int))=false:=by simp;omega
 have X0:=Blk.new w 35 #[.slice A d.length q,.slice A2 c.length q2];have P0:=below_new w (.cells #[.slice A d.length q,.slice A2 c.length q2] 35);clear hd hc hcell hof hcl hal;have hcx:=X0.c2;go_enter Tryz.func149,Tryz.ntmps149
 go_wp2_with fail;clear hcx;generalize w.alloc (.cells #[.slice A d.length q,.slice A2 c.length q2] 35)=w0 at *;go_loopw [19] (fun i wr=>∃ k:Nat,i=.int .i64 (k:Int)∧k≤d.length∧Below w.heap.size w wr∧Blk wr w.heap.size 35 #[.slice A d.length q,.slice A2 c.length q2]) (fun i _=>d.length - (intOf i).toNat)
 case atStart=>exact ⟨0,rfl,Nat.zero_le _,P0,X0⟩
 case round =>
  obtain ⟨k,rfl,hk,hB,hX⟩:=hrel;by_cases hlt:k<d.length
  ·obtain ⟨b,o,y,rfl,hb,hy,c0,c1,c2,c3⟩:=HCELL.out k hlt
   have hb':b<w.heap.size:=Nat.lt_of_lt_of_le hb hBw;have e0:=(hB.cell (p:=⟨b,o+k * 4,none⟩) hb').trans c0;have e1:=(hB.cell (p:=⟨b,o+k * 4+1,none⟩) hb').trans c1;have e2:=(hB.cell (p:=⟨b,o+k * 4+2,none⟩) hb').trans c2;have e3:=(hB.cell (p:=⟨b,o+k * 4+3,none⟩) hb').trans c3;have hof:=HOF.out _ (List.getElem_mem hlt);rw [← hy] at hof;have HF:=Lib.hid (fun (W:World) (hW:Below w.heap.size w W)=>valid_any W B (Nat.le_trans hBw hW.size) (y.up (fun p hp=>hW.cell (Nat.lt_of_lt_of_le hp hBw)) (Nat.le_refl _)) hof)
   obtain ⟨A3,n3,q3,A4,n4,q4,f1,f2,f3,f4⟩:=node_form y.h;dsimp only [FNode.up] at HF;rw [f1,f2,f3,f4] at HF;rw [f1] at e0;rw [f2] at e1;rw [f3] at e2;rw [f4] at e3;clear c0 c1 c2 c3 f1 f2 f3 f4 hy hof;generalize y.t.op=op at *;generalize y.t.n=nn at *;have Q0:=hB.alloc hB.size (.cells #[.int .i64 op,.int .i64 nn,.slice A3 n3 q3,.slice A4 n4 q4] 39);have XX:=hX.alloc (.cells #[.int .i64 op,.int .i64 nn,.slice A3 n3 q3,.slice A4 n4 q4] 39);go_wp2_with fail;refine (HF.out _ Q0).mono ?_
   rintro e w2 ⟨rfl,hb2⟩;have Q2:=below_up Q0 hb2 Q0.size;have X2:=XX.keep hb2;clear e0 e1 e2 e3;go_wp2_with fail;go_roundw
   case rel=>exact ⟨k+1,by go_num,by omega,Q2,X2⟩
   case measure=>simp [intOf];omega
  ·obtain rfl:k=d.length:=by omega
   have hcx:=hX.c2;go_wp2_with fail;refine (HV.out _ hB).mono ?_
   rintro e w2 ⟨rfl,hb2⟩;have Q2:=below_up hB hb2 hB.size;have X2:=hX.keep hb2;have hcx2:=X2.c2;clear hcx;go_wp2_with fail;refine (HP.out _ Q2).mono ?_
   rintro e w3 ⟨v3,rfl,o3,hb3⟩;have Q3:=below_up Q2 hb3 Q2.size;have X3:=X2.keep hb3;have o3:=o3.mono (base':=w.heap.size+1) X2.lt;have hcx3:=X3.c2;clear hcx2;go_wp2_with fail;generalize hnt:(d.flatMap F.tops).length=nt at *;clear hcx3 hnt;go_loopw [8,41] (fun u i wr=>∃ k:Nat,i=.int .i64 (k:Int)∧k≤c.length∧OwnN wr (w.heap.size+1) u (nt+sumA c k)∧Below w.heap.size w wr∧Blk wr w.heap.size 35 #[.slice A d.length q,.slice A2 c.length q2]) (fun _ i _=>c.length - (intOf i).toNat)
   case atStart=>exact ⟨0,rfl,Nat.zero_le _,o3,Q3,X3⟩
   case round =>
    obtain ⟨k,rfl,hk,hor,hB,hX⟩:=hrel;have hcx:=hX.c2;have hsk:=HS.out k hk;by_cases hlt:k<c.length
    ·have hA:=HA.out k hlt wr hB
     have hs2:=HS.out (k+1) hlt;have hsu:sumA c (k+1)=sumA c k+((altsL c (k+1)).getD k []).length:=rfl;rw [hsu] at hs2;have HSU:=Lib.hid hsu;have hA:=Lib.hid hA;clear hsu;generalize (altsL c (k+1)).getD k []=al at *;generalize sumA c k=sk at *;go_wp2_with fail;refine hA.out.mono ?_
     rintro e w5 ⟨v5,rfl,r5,hb5⟩;have s5:=r5.srcN (Nat.le_refl _);have O5:=hor.below hb5;have Q5:=below_up hB hb5 hB.size;have X5:=hX.keep hb5;have hs5:=X5.lt;clear r5 hcx;go_wp2_with (at_builtin;refine wpList_appN rfl _ _ rfl (w.heap.size+1) _ (nt+sk) rfl O5 _ al.length rfl s5 (by omega) hs5 ?_;intro v6 w6 ho6 hg6)
     have Q6:=Q5.grown hg6 Q5.size (fun q hq=>Nat.le_of_succ_le (O5.lt q hq))
     have X6:=O5.box X5 hg6 (Nat.lt_succ_self _);rw [Nat.add_assoc,← HSU.out] at ho6;go_roundw
     case rel=>exact ⟨k+1,by go_num,by omega,ho6,Q6,X6⟩
     case measure=>simp [intOf];omega
    ·obtain rfl:k=c.length:=by omega
     obtain ⟨A6,c6,rfl⟩:=hor.slice;have dd1:decide ((128:Int)<((nt+sumA c c.length:Nat):Int))=false:=by simp;omega
     generalize nt+sumA c c.length=nz at *;clear hor;go_wp2_with fail;exact bodyPost_ret (results_tmp2 rfl _ _ _) rfl ⟨_,rfl,hB⟩
theorem textvalid_any (d:List F) (c:List Cl) (hok:OkTx d c) (dv cv:Value) (w:World) (B:Nat) (hBw:B≤w.heap.size) (hd:Rep w B dv (.s 4 (d.flatMap F.cells))) (hc:Rep w B cv (.s 5 (c.flatMap Cl.cells))) :
  Calls Tryz.prog 104 #[.agg #[dv,cv]] w fun e w'=>e=.returned (.int .i64 0)∧Below w.heap.size w w':=by
 have HD:=Lib.hid (fun (W:World) (hW:Below w.heap.size w W)=>disclosed_any d c hok dv cv W B (Nat.le_trans hBw hW.size) (hd.keep (fun p hp=>hW.cell (Nat.lt_of_lt_of_le hp hBw)) (Nat.le_refl _)) (hc.keep (fun p hp=>hW.cell (Nat.lt_of_lt_of_le hp hBw)) (Nat.le_refl _)))
 obtain ⟨A,q,rfl,_,_⟩:=hd.formulas;obtain ⟨A2,q2,rfl,_,_⟩:=hc.claims;have P0:=below_new w (.cells #[.slice A d.length q,.slice A2 c.length q2] 35);clear hd hc hok;go_enter Tryz.func104,Tryz.ntmps104
 go_wp2_with fail;refine (HD.out _ P0).mono ?_
 rintro e w2 ⟨u,rfl,hb2⟩;have Q2:=below_up P0 hb2 P0.size;go_wp2_with fail;go_ret;exact ⟨rfl,Q2⟩
theorem refdisclosed_any (d:List F) (c:List Cl) (hok:OkTx d c) (dv cv:Value) (w:World) (B:Nat) (hBw:B≤w.heap.size) (hd:Rep w B dv (.s 4 (d.flatMap F.cells))) (hc:Rep w B cv (.s 5 (c.flatMap Cl.cells))) :
  Calls Tryz.prog 180 #[.agg #[dv,cv]] w fun e w'=>∃ u,e=.returned (.tuple #[u,.int .i64 0])∧Below w.heap.size w w':=by
 obtain ⟨hd16,hof,hcl,hal,h128⟩:=hok;have HV:=Lib.hid (fun (W:World) (hW:Below w.heap.size w W)=>refcvalid_any c hcl cv W B (Nat.le_trans hBw hW.size) (hc.keep (fun p hp=>hW.cell (Nat.lt_of_lt_of_le hp hBw)) (Nat.le_refl _)))
 have HA:=Lib.hid (fun (i:Nat) (hi:i<c.length) (W:World) (hW:Below w.heap.size w W)=>refAlts_any c hcl hal i hi cv W B (Nat.le_trans hBw hW.size) (hc.keep (fun p hp=>hW.cell (Nat.lt_of_lt_of_le hp hBw)) (Nat.le_refl _)))
 obtain ⟨A,q,rfl,_,hcell⟩:=hd.formulas;obtain ⟨A2,q2,rfl,_,_⟩:=hc.claims;have HCELL:=Lib.hid hcell;have HOF:=Lib.hid hof;have hc32:=hcl.1;have HS:=Lib.hid (fun k (hk:k≤c.length)=>sumA_le c k c.length hk)
 have HT:=Lib.hid (fun k (hk:k<d.length)=>tops_take d k hk)
 have HL:=Lib.hid (fun k (hk:k<d.length)=>tops_take_le d k hk)
 have dd0:decide ((16:Int)<(d.length:Int))=false:=by simp;omega
 have X0:=Blk.new w 35 #[.slice A d.length q,.slice A2 c.length q2];have P0:=below_new w (.cells #[.slice A d.length q,.slice A2 c.length q2] 35);clear hd hc hcell hof hcl hal;have hcx:=X0.c2;go_enter Tryz.func180,Tryz.ntmps180
 go_wp2_with fail;clear hcx;generalize w.alloc (.cells #[.slice A d.length q,.slice A2 c.length q2] 35)=w0 at *;go_loopw [4,5] (fun u i wr=>∃ k:Nat,i=.int .i64 (k:Int)∧k≤d.length∧OwnN wr (w.heap.size+1) u ((d.take k).flatMap F.tops).length∧Below w.heap.size w wr∧Blk wr w.heap.size 35 #[.slice A d.length q,.slice A2 c.length q2]) (fun _ i _=>d.length - (intOf i).toNat)
 case atStart=>exact ⟨0,rfl,Nat.zero_le _,OwnN.nil _ _,P0,X0⟩
 case round =>
  obtain ⟨k,rfl,hk,hor,hB,hX⟩:=hrel;have hcx:=hX.c2;by_cases hlt:k<d.length
  ·obtain ⟨b,o,y,rfl,hb,hy,c0,c1,c2,c3⟩:=HCELL.out k hlt
   have hb':b<w.heap.size:=Nat.lt_of_lt_of_le hb hBw;have e0:=(hB.cell (p:=⟨b,o+k * 4,none⟩) hb').trans c0;have e1:=(hB.cell (p:=⟨b,o+k * 4+1,none⟩) hb').trans c1;have e2:=(hB.cell (p:=⟨b,o+k * 4+2,none⟩) hb').trans c2;have e3:=(hB.cell (p:=⟨b,o+k * 4+3,none⟩) hb').trans c3;have hof:=HOF.out _ (List.getElem_mem hlt);have hT1:=congrArg List.length (HT.out k hlt);have hL1:=HL.out k hlt;rw [← hy] at hof hT1 hL1;rw [List.length_append] at hT1;have hT2:=Lib.hid hT1;have HF:=Lib.hid (fun (W:World) (hW:Below w.heap.size w W)=>refvalid_any W B (Nat.le_trans hBw hW.size) (y.up (fun p hp=>hW.cell (Nat.lt_of_lt_of_le hp hBw)) (Nat.le_refl _)) hof)
   have HP:=Lib.hid (fun (W:World) (hW:Below w.heap.size w W)=>refParts_any y.t.size W B (y.up (fun p hp=>hW.cell (Nat.lt_of_lt_of_le hp hBw)) (Nat.le_refl _)) (Nat.le_trans hBw hW.size) (Nat.le_refl _) (by have:=hof.1;omega))
   obtain ⟨A3,n3,q3,A4,n4,q4,f1,f2,f3,f4⟩:=node_form y.h;dsimp only [FNode.up] at HF HP;rw [f1,f2,f3,f4] at HF HP;rw [f1] at e0;rw [f2] at e1;rw [f3] at e2;rw [f4] at e3;clear c0 c1 c2 c3 f1 f2 f3 f4 hy hof hT1;have hm:=F.tops_le y.t;generalize y.t.op=op at *;generalize y.t.n=nn at *;generalize y.t.tops=tp at *;generalize ((d.take k).flatMap F.tops).length=nk at *;go_wp2_with fail;refine (HF.out _ hB).mono ?_
   rintro e w2 ⟨rfl,hb2⟩;have Q2:=below_up hB hb2 hB.size;have X2:=hX.keep hb2;have hcx2:=X2.c2;have O2:=hor.below hb2;have g0:=(hb2.cell (p:=⟨b,o+k * 4,none⟩) (Nat.lt_of_lt_of_le hb' hB.size)).trans e0;have g1:=(hb2.cell (p:=⟨b,o+k * 4+1,none⟩) (Nat.lt_of_lt_of_le hb' hB.size)).trans e1;have g2:=(hb2.cell (p:=⟨b,o+k * 4+2,none⟩) (Nat.lt_of_lt_of_le hb' hB.size)).trans e2;have g3:=(hb2.cell (p:=⟨b,o+k * 4+3,none⟩) (Nat.lt_of_lt_of_le hb' hB.size)).trans e3;clear hcx e0 e1 e2 e3 hor;go_wp2_with fail;refine (HP.out _ Q2).mono ?_
   rintro e w3 ⟨v3,rfl,o3,hb3⟩;have Q3:=below_up Q2 hb3 Q2.size;have X3:=X2.keep hb3;have O3:=O2.below hb3;have s3:=o3.srcN;have hs3:=X3.lt;clear g0 g1 g2 g3 hcx2 o3;go_wp2_with (at_builtin;refine wpList_appN rfl _ _ rfl (w.heap.size+1) _ nk rfl O3 _ tp.length rfl s3 (by omega) hs3 ?_;intro v6 w6 ho6 hg6)
   have Q6:=Q3.grown hg6 Q3.size (fun q hq=>Nat.le_of_succ_le (O3.lt q hq))
   have X6:=O3.box X3 hg6 (Nat.lt_succ_self _);rw [← hT2.out] at ho6;go_roundw
   case rel=>exact ⟨k+1,by go_num,by omega,ho6,Q6,X6⟩
   case measure=>simp [intOf];omega
  ·obtain rfl:k=d.length:=by omega
   rw [List.take_length] at hor;generalize (d.flatMap F.tops).length=nt at *;go_wp2_with fail;refine (HV.out _ hB).mono ?_
   rintro e w2 ⟨rfl,hb2⟩;have Q2:=below_up hB hb2 hB.size;have X2:=hX.keep hb2;have O2:=hor.below hb2;clear hcx hor;go_wp2_with fail;go_loopw [4,8] (fun u i wr=>∃ k:Nat,i=.int .i64 (k:Int)∧k≤c.length∧OwnN wr (w.heap.size+1) u (nt+sumA c k)∧Below w.heap.size w wr∧Blk wr w.heap.size 35 #[.slice A d.length q,.slice A2 c.length q2]) (fun _ i _=>c.length - (intOf i).toNat)
   case atStart=>exact ⟨0,rfl,Nat.zero_le _,O2,Q2,X2⟩
   case round =>
    obtain ⟨k,rfl,hk,hor,hB,hX⟩:=hrel;have hcx:=hX.c2;have hsk:=HS.out k hk;by_cases hlt:k<c.length
    ·have hA:=HA.out k hlt wr hB
     have hs2:=HS.out (k+1) hlt;have hsu:sumA c (k+1)=sumA c k+((altsL c (k+1)).getD k []).length:=rfl;rw [hsu] at hs2;have HSU:=Lib.hid hsu;have hA:=Lib.hid hA;clear hsu;generalize ((altsL c (k+1)).getD k []).length=al at *;generalize sumA c k=sk at *;go_wp2_with fail;refine hA.out.mono ?_
     rintro e w5 ⟨v5,rfl,s5,hb5⟩;have O5:=hor.below hb5;have Q5:=below_up hB hb5 hB.size;have X5:=hX.keep hb5;have hs5:=X5.lt;clear hcx;go_wp2_with (at_builtin;refine wpList_appN rfl _ _ rfl (w.heap.size+1) _ (nt+sk) rfl O5 _ al rfl s5 (by omega) hs5 ?_;intro v6 w6 ho6 hg6)
     have Q6:=Q5.grown hg6 Q5.size (fun q hq=>Nat.le_of_succ_le (O5.lt q hq))
     have X6:=O5.box X5 hg6 (Nat.lt_succ_self _);rw [Nat.add_assoc,← HSU.out] at ho6;go_roundw
     case rel=>exact ⟨k+1,by go_num,by omega,ho6,Q6,X6⟩
     case measure=>simp [intOf];omega
    ·obtain rfl:k=c.length:=by omega
     obtain ⟨A6,c6,rfl⟩:=hor.slice;have dd1:decide ((128:Int)<((nt+sumA c c.length:Nat):Int))=false:=by simp;omega
     generalize nt+sumA c c.length=nz at *;clear hor;go_wp2_with fail;exact bodyPost_ret (results_tmp2 rfl _ _ _) rfl ⟨_,rfl,hB⟩
theorem reftextvalid_any (d:List F) (c:List Cl) (hok:OkTx d c) (dv cv:Value) (w:World) (B:Nat) (hBw:B≤w.heap.size) (hd:Rep w B dv (.s 4 (d.flatMap F.cells))) (hc:Rep w B cv (.s 5 (c.flatMap Cl.cells))) :
  Calls Tryz.prog 160 #[.agg #[dv,cv]] w fun e w'=>e=.returned (.int .i64 0)∧Below w.heap.size w w':=by
 have HD:=Lib.hid (fun (W:World) (hW:Below w.heap.size w W)=>refdisclosed_any d c hok dv cv W B (Nat.le_trans hBw hW.size) (hd.keep (fun p hp=>hW.cell (Nat.lt_of_lt_of_le hp hBw)) (Nat.le_refl _)) (hc.keep (fun p hp=>hW.cell (Nat.lt_of_lt_of_le hp hBw)) (Nat.le_refl _)))
 obtain ⟨A,q,rfl,_,_⟩:=hd.formulas;obtain ⟨A2,q2,rfl,_,_⟩:=hc.claims;have P0:=below_new w (.cells #[.slice A d.length q,.slice A2 c.length q2] 35);clear hd hc hok;go_enter Tryz.func160,Tryz.ntmps160
 go_wp2_with fail;refine (HD.out _ P0).mono ?_
 rintro e w2 ⟨u,rfl,hb2⟩;have Q2:=below_up P0 hb2 P0.size;go_wp2_with fail;go_ret;exact ⟨rfl,Q2⟩
def encT (d:List F) (c:List Cl):List Nat:=intL (d.length:Int)++d.flatMap (fun f=>rawL (encF f))++rawL (encCl c)
theorem encCl_len {c:List Cl} (h:OkCl c):(encCl c).length≤621000:=by
 have h1:=h.take_len c.length;rw [List.take_length] at h1;have h2:=intL_len (n:=(c.length:Int)) (by omega) (by have:=h.1;omega)
 unfold encCl;rw [List.length_append];omega
theorem descs_len {d:List F} (h:∀ f∈d,OkF f):(d.flatMap (fun f=>rawL (encF f))).length≤19300 * d.length:=by
 induction d with
 | nil=>simp
 | cons a d ih =>
  have h1:=OkN.len (t:=a) ⟨(h a List.mem_cons_self).1,(h a List.mem_cons_self).2.2⟩;have h2:=ih (fun f hf=>h f (List.mem_cons_of_mem _ hf))
  have h3:=uv_len10 (n:=(encF a).length) (by omega)
  have h4:(rawL (encF a)).length≤19300:=by
   unfold rawL;rw [List.length_append];omega
  rw [List.flatMap_cons,List.length_append,List.length_cons];omega
theorem encT_bytes (d:List F) (c:List Cl):Bytes (encT d c):=((int_bytes _).app (Bytes.flat fun _ _=>raw_bytes (encF_bytes _))).app (raw_bytes (encCl_bytes _))
theorem encT_len {d:List F} {c:List Cl} (h:OkTx d c):(encT d c).length≤940000:=by
 have h1:=descs_len h.2.1;have h2:=encCl_len h.2.2.1;have h3:=h.1;have h4:=intL_len (n:=(d.length:Int)) (by omega) (by omega)
 have h5:=uv_len10 (n:=(encCl c).length) (by omega)
 have h6:(rawL (encCl c)).length≤621100:=by
  unfold rawL;rw [List.length_append];omega
 unfold encT;simp only [List.length_append];omega
theorem textenc_own (d:List F) (c:List Cl) (hok:OkTx d c) (dv cv:Value) (w:World) (B:Nat) (hBw:B≤w.heap.size) (hd:Rep w B dv (.s 4 (d.flatMap F.cells))) (hc:Rep w B cv (.s 5 (c.flatMap Cl.cells))) :
  Calls Tryz.prog 51 #[.agg #[dv,cv]] w fun e w'=>∃ u,e=.returned (.tuple #[u,.int .i64 0])∧OwnB w' w.heap.size u (encT d c)∧Below w.heap.size w w':=by
 have HV:=Lib.hid (fun (W:World) (hW:Below w.heap.size w W)=>textvalid_any d c hok dv cv W B (Nat.le_trans hBw hW.size) (hd.keep (fun p hp=>hW.cell (Nat.lt_of_lt_of_le hp hBw)) (Nat.le_refl _)) (hc.keep (fun p hp=>hW.cell (Nat.lt_of_lt_of_le hp hBw)) (Nat.le_refl _)))
 have HC:=Lib.hid (fun (W:World) (hW:Below w.heap.size w W)=>cenc_own c hok.2.2.1 cv W B (Nat.le_trans hBw hW.size) (hc.keep (fun p hp=>hW.cell (Nat.lt_of_lt_of_le hp hBw)) (Nat.le_refl _)))
 obtain ⟨A,q,rfl,_,hcell⟩:=hd.formulas;obtain ⟨A2,q2,rfl,_,_⟩:=hc.claims;have HCELL:=Lib.hid hcell;have HOF:=Lib.hid hok.2.1;have hc32:=hok.2.2.1.1;have hd16:=hok.1;have hcl:=encCl_len hok.2.2.1;have hcb:=Lib.hid (encCl_bytes c);have HDL:=Lib.hid (fun k=>descs_len (d:=d.take k) (fun f hf=>hok.2.1 f (List.mem_of_mem_take hf)))
 have X0:=Blk.new w 35 #[.slice A d.length q,.slice A2 c.length q2];have P0:=below_new w (.cells #[.slice A d.length q,.slice A2 c.length q2] 35);clear hd hc hcell hok;have hcx:=X0.c2;go_enter Tryz.func51,Tryz.ntmps51
 go_wp2_with fail;refine (HV.out _ P0).mono ?_
 rintro e w1 ⟨rfl,hb1⟩;have P1:=below_up P0 hb1 P0.size;have X1:=X0.keep hb1;have hg1:=P1.size;have G1:=Blk.new w1 101 #[.slice none 0 0];have P2:=P1.alloc P1.size (.cells #[.slice none 0 0] 101);have X2:=X1.alloc (.cells #[.slice none 0 0] 101);have W1:WrAt (w1.alloc (.cells #[.slice none 0 0] 101)) w.heap.size w1.heap.size []:=⟨hg1,_,0,G1,World.ownsRow_nil _ _ _ _⟩;have hcx2:=X2.c2;clear hcx;go_wp2_with fail;clear hcx2;generalize w1.heap.size=g at *;generalize w1.alloc (.cells #[.slice none 0 0] 101)=w2 at *;refine (wint_any g w.heap.size [] (d.length:Int) w2 (by omega) (by omega) W1 (by simp)).mono ?_
 rintro e w3 ⟨⟨v3,rfl⟩,W3,k3⟩;rw [List.nil_append] at W3;have P3:=P2.trans k3.1;have X3:=k3.blk X2 (by decide) (by decide)
 have hcx3:=X3.c2;have hil:=intL_len (n:=(d.length:Int)) (by omega) (by omega)
 clear W1 G1 P1 hb1 k3 X2 P2 X1 X0 P0;go_wp2_with fail;clear hcx3;go_loopw [24] (fun j wr=>∃ k:Nat,j=.int .i64 (k:Int)∧k≤d.length∧WrAt wr w.heap.size g (intL (d.length:Int)++(d.take k).flatMap (fun f=>rawL (encF f)))∧Below w.heap.size w wr∧Blk wr w.heap.size 35 #[.slice A d.length q,.slice A2 c.length q2]) (fun j _=>d.length - (intOf j).toNat)
 case atStart=>exact ⟨0,rfl,Nat.zero_le _,by simpa using W3,P3,X3⟩
 case round =>
  obtain ⟨k,rfl,hk,hW,hB,hX⟩:=hrel;have hdl:=HDL.out k;have htl:=List.length_take_le k d;have hbl:(intL (d.length:Int)++(d.take k).flatMap (fun f=>rawL (encF f))).length≤309000:=by rw [List.length_append];omega
  by_cases hlt:k<d.length
  ·obtain ⟨b,o,y,rfl,hb,hy,c0,c1,c2,c3⟩:=HCELL.out k hlt
   have hb':b<w.heap.size:=Nat.lt_of_lt_of_le hb hBw;have e0:=(hB.cell (p:=⟨b,o+k * 4,none⟩) hb').trans c0;have e1:=(hB.cell (p:=⟨b,o+k * 4+1,none⟩) hb').trans c1;have e2:=(hB.cell (p:=⟨b,o+k * 4+2,none⟩) hb').trans c2;have e3:=(hB.cell (p:=⟨b,o+k * 4+3,none⟩) hb').trans c3;have hof:=HOF.out _ (List.getElem_mem hlt)
   have HT:intL (d.length:Int)++(d.take (k+1)).flatMap (fun f=>rawL (encF f))=intL (d.length:Int)++(d.take k).flatMap (fun f=>rawL (encF f))++rawL (encF d[k]):=by
    rw [List.take_add_one,List.getElem?_eq_getElem hlt,List.flatMap_append]
    simp
   rw [← hy] at hof HT;have HTH:=Lib.hid HT;have HE:=Lib.hid (fun (W:World) (hW:Below w.heap.size w W)=>enc_own W B (Nat.le_trans hBw hW.size) (y.up (fun p hp=>hW.cell (Nat.lt_of_lt_of_le hp hBw)) (Nat.le_refl _)) hof)
   have hel:=OkN.len (t:=y.t) ⟨hof.1,hof.2.2⟩;have heb:=Lib.hid (encF_bytes y.t);obtain ⟨A3,n3,q3,A4,n4,q4,f1,f2,f3,f4⟩:=node_form y.h;dsimp only [FNode.up] at HE;rw [f1,f2,f3,f4] at HE;rw [f1] at e0;rw [f2] at e1;rw [f3] at e2;rw [f4] at e3;clear c0 c1 c2 c3 f1 f2 f3 f4 hy hof HT W3 P3 X3;generalize encF y.t=fb at *;generalize y.t.op=op at *;generalize y.t.n=nn at *;generalize intL (d.length:Int)++(d.take k).flatMap (fun f=>rawL (encF f))=bs at *
   have Q0:=hB.alloc hB.size (.cells #[.int .i64 op,.int .i64 nn,.slice A3 n3 q3,.slice A4 n4 q4] 39);have X0:=hX.alloc (.cells #[.int .i64 op,.int .i64 nn,.slice A3 n3 q3,.slice A4 n4 q4] 39);have W0:=hW.alloc (.cells #[.int .i64 op,.int .i64 nn,.slice A3 n3 q3,.slice A4 n4 q4] 39);go_wp2_with fail;refine (HE.out _ Q0).mono ?_
   rintro e w4 ⟨v4,rfl,o4,hb4⟩;have Q4:=below_up Q0 hb4 Q0.size;have W4:=W0.grown hb4;have X4:=X0.keep hb4;clear e0 e1 e2 e3 X0 W0 Q0;go_wp2_with fail;refine (wraw_any g w.heap.size _ fb v4 w4 W4 (by omega) (by omega) heb.out o4.rep).mono ?_
   rintro e w6 ⟨⟨v6,rfl⟩,W6,k6⟩;have Q6:=Q4.trans k6.1;have X6:=k6.blk X4 (by decide) (by decide)
   rw [← HTH.out] at W6;clear W4 Q4 k6 o4;go_wp2_with fail;go_roundw
   case rel=>exact ⟨k+1,by go_num,by omega,W6,Q6,X6⟩
   case measure=>simp [intOf];omega
  ·obtain rfl:k=d.length:=by omega
   rw [List.take_length] at hW hbl;have hcx:=hX.c2;clear W3 P3 X3;go_wp2_with fail;refine (HC.out _ hB).mono ?_
   rintro e w4 ⟨v4,rfl,o4,hb4⟩;have Q4:=below_up hB hb4 hB.size;have W4:=hW.grown hb4;clear hcx hW;generalize hE0:intL (d.length:Int)++d.flatMap (fun f=>rawL (encF f))=bs at *
   go_wp2_with fail;refine (wraw_any g w.heap.size _ (encCl c) v4 w4 W4 (by omega) (by omega) hcb.out o4.rep).mono ?_
   rintro e w6 ⟨⟨v6,rfl⟩,W6,k6⟩;have Q6:=Q4.trans k6.1
   have hrl:(bs++rawL (encCl c)).length≤940000:=by
    have:=uv_len10 (n:=(encCl c).length) (by omega)
    unfold rawL;simp only [List.length_append];omega
   clear W4 Q4 k6 o4;go_wp2_with fail;refine (wdone_own g w.heap.size _ w6 W6 (by omega)).mono ?_
   rintro e w7 ⟨v7,rfl,o7,hb7⟩;have HE:encT d c=bs++rawL (encCl c):=by unfold encT;rw [hE0]
   have HE:=Lib.hid HE;go_wp2_with fail;exact bodyPost_ret (results_tmp2 rfl _ _ _) rfl ⟨_,rfl,by rw [HE.out];exact o7.mono Q6.size,below_up Q6 hb7 Q6.size⟩
theorem reftextenc_own (d:List F) (c:List Cl) (hok:OkTx d c) (dv cv:Value) (w:World) (B:Nat) (hBw:B≤w.heap.size) (hd:Rep w B dv (.s 4 (d.flatMap F.cells))) (hc:Rep w B cv (.s 5 (c.flatMap Cl.cells))) :
  Calls Tryz.prog 120 #[.agg #[dv,cv]] w fun e w'=>∃ u,e=.returned (.tuple #[u,.int .i64 0])∧OwnB w' w.heap.size u (encT d c)∧Below w.heap.size w w':=by
 have HV:=Lib.hid (fun (W:World) (hW:Below w.heap.size w W)=>reftextvalid_any d c hok dv cv W B (Nat.le_trans hBw hW.size) (hd.keep (fun p hp=>hW.cell (Nat.lt_of_lt_of_le hp hBw)) (Nat.le_refl _)) (hc.keep (fun p hp=>hW.cell (Nat.lt_of_lt_of_le hp hBw)) (Nat.le_refl _)))
 have HC:=Lib.hid (fun (W:World) (hW:Below w.heap.size w W)=>refcenc_any c hok.2.2.1 cv W B (Nat.le_trans hBw hW.size) (hc.keep (fun p hp=>hW.cell (Nat.lt_of_lt_of_le hp hBw)) (Nat.le_refl _)))
 obtain ⟨A,q,rfl,_,hcell⟩:=hd.formulas;obtain ⟨A2,q2,rfl,_,_⟩:=hc.claims;have HCELL:=Lib.hid hcell;have HOF:=Lib.hid hok.2.1;have hc32:=hok.2.2.1.1;have hd16:=hok.1;have hcl:=encCl_len hok.2.2.1;have HDL:=Lib.hid (fun k=>descs_len (d:=d.take k) (fun f hf=>hok.2.1 f (List.mem_of_mem_take hf)))
 have HIL:=Lib.hid (fun W=>refint_any (d.length:Int) (by omega) (by omega) W)
 have X0:=Blk.new w 35 #[.slice A d.length q,.slice A2 c.length q2];have P0:=below_new w (.cells #[.slice A d.length q,.slice A2 c.length q2] 35);have hil:=intL_len (n:=(d.length:Int)) (by omega) (by omega)
 clear hd hc hcell hok;have hcx:=X0.c2;go_enter Tryz.func120,Tryz.ntmps120
 go_wp2_with fail;refine (HV.out _ P0).mono ?_
 rintro e w1 ⟨rfl,hb1⟩;have P1:=below_up P0 hb1 P0.size;have X1:=X0.keep hb1;have hcx1:=X1.c2;clear hcx;go_wp2_with fail;refine (HIL.out _).mono ?_
 rintro e w2 ⟨v2,rfl,o2,hb2⟩;have W2:Writ w w2 35 #[.slice A d.length q,.slice A2 c.length q2] v2 (intL (d.length:Int)):=⟨X1.keep hb2,below_up P1 hb2 P1.size,o2.mono X1.lt⟩;clear hcx1 X1 P1 hb1 hb2 o2 X0 P0;go_wp2_with fail;go_loopw [5,6] (fun u j wr=>∃ k:Nat,j=.int .i64 (k:Int)∧k≤d.length∧Writ w wr 35 #[.slice A d.length q,.slice A2 c.length q2] u (intL (d.length:Int)++(d.take k).flatMap (fun f=>rawL (encF f)))) (fun _ j _=>d.length - (intOf j).toNat)
 case atStart=>exact ⟨0,rfl,Nat.zero_le _,by simpa using W2⟩
 case round =>
  obtain ⟨k,rfl,hk,hW⟩:=hrel;have hcx:=hW.1.c2;have hB:=hW.2.1;have hdl:=HDL.out k;have htl:=List.length_take_le k d;have hbl:(intL (d.length:Int)++(d.take k).flatMap (fun f=>rawL (encF f))).length≤309000:=by rw [List.length_append];omega
  by_cases hlt:k<d.length
  ·obtain ⟨b,o,y,rfl,hb,hy,c0,c1,c2,c3⟩:=HCELL.out k hlt
   have hb':b<w.heap.size:=Nat.lt_of_lt_of_le hb hBw;have e0:=(hB.cell (p:=⟨b,o+k * 4,none⟩) hb').trans c0;have e1:=(hB.cell (p:=⟨b,o+k * 4+1,none⟩) hb').trans c1;have e2:=(hB.cell (p:=⟨b,o+k * 4+2,none⟩) hb').trans c2;have e3:=(hB.cell (p:=⟨b,o+k * 4+3,none⟩) hb').trans c3;have hof:=HOF.out _ (List.getElem_mem hlt)
   have HT:intL (d.length:Int)++(d.take (k+1)).flatMap (fun f=>rawL (encF f))=intL (d.length:Int)++(d.take k).flatMap (fun f=>rawL (encF f))++rawL (encF d[k]):=by
    rw [List.take_add_one,List.getElem?_eq_getElem hlt,List.flatMap_append]
    simp
   rw [← hy] at hof HT;have HTH:=Lib.hid HT;have HE:=Lib.hid (fun (W:World) (hW:Below w.heap.size w W)=>refencf_any W B (Nat.le_trans hBw hW.size) (y.up (fun p hp=>hW.cell (Nat.lt_of_lt_of_le hp hBw)) (Nat.le_refl _)) hof)
   have hel:=OkN.len (t:=y.t) ⟨hof.1,hof.2.2⟩;have hul:=uv_len10 (n:=(encF y.t).length) (by omega)
   have hrl:(rawL (encF y.t)).length≤19300:=by
    unfold rawL;rw [List.length_append];omega
   obtain ⟨A3,n3,q3,A4,n4,q4,f1,f2,f3,f4⟩:=node_form y.h;dsimp only [FNode.up] at HE;rw [f1,f2,f3,f4] at HE;rw [f1] at e0;rw [f2] at e1;rw [f3] at e2;rw [f4] at e3;clear c0 c1 c2 c3 f1 f2 f3 f4 hy hof HT W2;generalize encF y.t=fb at *;generalize y.t.op=op at *;generalize y.t.n=nn at *;generalize intL (d.length:Int)++(d.take k).flatMap (fun f=>rawL (encF f))=bs at *
   go_wp2_with fail;refine (HE.out _ hB).mono ?_
   rintro e w4 ⟨v4,rfl,o4,hb4⟩;have W4:=hW.call hb4;have hcx4:=W4.1.c2;clear e0 e1 e2 e3 hcx
   go_wp2_with (first
    | (go_at_call 86;refine (refraw_any v4 fb _ (by omega) o4.rep).mono ?_;rintro e w5 ⟨v5,rfl,o5,k5⟩)
    | (at_builtin;refine wpList_appB rfl _ _ rfl (w.heap.size+1) _ bs rfl (W4.call k5).2.2 _ (rawL fb) rfl o5.rep (by omega) (W4.call k5).size ?_;intro v7 w7 o7 g7))
   have W7:=(W4.call k5).app o7 g7;rw [← HTH.out] at W7;go_roundw
   case rel=>exact ⟨k+1,by go_num,by omega,W7⟩
   case measure=>simp [intOf];omega
  ·obtain rfl:k=d.length:=by omega
   rw [List.take_length] at hW hbl;clear W2;have hul:=uv_len10 (n:=(encCl c).length) (by omega)
   have hrl:(rawL (encCl c)).length≤621100:=by
    unfold rawL;rw [List.length_append];omega
   generalize hE0:intL (d.length:Int)++d.flatMap (fun f=>rawL (encF f))=bs at *
   have HE:encT d c=bs++rawL (encCl c):=by unfold encT;rw [hE0]
   have HE:=Lib.hid HE;clear hE0;generalize hcb:encCl c=ec at *;clear hcb;go_wp2_with fail;refine (HC.out _ hB).mono ?_
   rintro e w4 ⟨v4,rfl,o4,hb4⟩;have W4:=hW.call hb4;clear hcx
   go_wp2_with (first
    | (go_at_call 86;refine (refraw_any v4 ec _ (by omega) o4.rep).mono ?_;rintro e w5 ⟨v5,rfl,o5,k5⟩)
    | (at_builtin;refine wpList_appB rfl _ _ rfl (w.heap.size+1) _ bs rfl (W4.call k5).2.2 _ (rawL ec) rfl o5.rep (by omega) (W4.call k5).size ?_;intro v7 w7 o7 g7))
   have W7:=(W4.call k5).app o7 g7;exact bodyPost_ret (results_tmp2 rfl _ _ _) rfl ⟨_,rfl,by rw [HE.out];exact W7.2.2.mono (Nat.le_succ _),W7.2.1⟩
theorem Blk.c19 {W:World} {g:Nat} {t:TypeId} {a0 a1 a2 a3 a4 a5 a6 a7 a8 a9 a10 a11 a12 a13 a14 a15 a16 a17 a18:Value} (h:Blk W g t #[a0,a1,a2,a3,a4,a5,a6,a7,a8,a9,a10,a11,a12,a13,a14,a15,a16,a17,a18]) :
  W.cell? ⟨g,0,none⟩=some a0∧W.cell? ⟨g,1,none⟩=some a1∧W.cell? ⟨g,2,none⟩=some a2∧W.cell? ⟨g,3,none⟩=some a3∧W.cell? ⟨g,4,none⟩=some a4∧W.cell? ⟨g,5,none⟩=some a5∧W.cell? ⟨g,6,none⟩=some a6∧W.cell? ⟨g,7,none⟩=some a7∧W.cell? ⟨g,8,none⟩=some a8∧W.cell? ⟨g,9,none⟩=some a9 ∧
  W.cell? ⟨g,10,none⟩=some a10∧W.cell? ⟨g,11,none⟩=some a11∧W.cell? ⟨g,12,none⟩=some a12∧W.cell? ⟨g,13,none⟩=some a13∧W.cell? ⟨g,14,none⟩=some a14∧W.cell? ⟨g,15,none⟩=some a15∧W.cell? ⟨g,16,none⟩=some a16∧W.cell? ⟨g,17,none⟩=some a17∧W.cell? ⟨g,18,none⟩=some a18 :=
 ⟨h.cell 0,h.cell 1,h.cell 2,h.cell 3,h.cell 4,h.cell 5,h.cell 6,h.cell 7,h.cell 8,h.cell 9,h.cell 10,h.cell 11,h.cell 12,h.cell 13,h.cell 14,h.cell 15,h.cell 16,h.cell 17,h.cell 18⟩
theorem refwithin_any (n lo hi:Int) (h0:lo≤n) (h1:n≤hi) (w:World) :
  Calls Tryz.prog 126 #[.int .i64 n,.int .i64 lo,.int .i64 hi] w fun e w'=>e=.returned (.bool true)∧w'=w:=by
 have d0:decide (lo≤n)=true:=decide_eq_true h0;have d1:decide (n≤hi)=true:=decide_eq_true h1;go_enter Tryz.func126,Tryz.ntmps126
 go_wp2_with fail;go_ret;exact ⟨rfl,rfl⟩
theorem ofFile_zero (w:World) :
  Calls Tryz.prog 140 #[.int .i64 0] w fun e w'=>e=.returned (.bool true)∧w'=w:=by
 go_enter Tryz.func140,Tryz.ntmps140
 go_wp2_with fail;go_ret;exact ⟨rfl,rfl⟩
def IntsAt (W:World) (A:Option Addr) (n:Nat):Prop:=∀ k,k<n→∃ b o x,A=some ⟨b,o,none⟩∧b<W.heap.size∧W.cell? ⟨b,o+k,none⟩=some (.int .i64 x)∧-9223372036854775808≤x∧x≤9223372036854775807
theorem IntsAt.grown {W W':World} {A:Option Addr} {n:Nat} {row:Option Nat} (h:IntsAt W A n) (hb:W.grownBy W' row) (hB:∀ a,A=some a→row≠some a.block):IntsAt W' A n:=by
 intro k hk;obtain ⟨b,o,x,rfl,h1,h2,h3⟩:=h k hk;exact ⟨b,o,x,rfl,Nat.lt_of_lt_of_le h1 hb.size,(World.cell?_of_block (a:=⟨b,o+k,none⟩) (hb.block b h1 (fun e=>hB _ rfl e.symm))).trans h2,h3⟩
theorem pick_any (A:Option Addr) (n c:Nat) (i most:Int) (hm:1≤most) (hm2:most≤1000000) (w:World) (hA:IntsAt w A n) :
  Calls Tryz.prog 137 #[.slice A n c,.int .i64 i,.int .i64 most] w fun e w'=>(∃ r:Int,e=.returned (.int .i64 r)∧0≤r∧r<most)∧∃ m,w'=w.drewN m:=by
 by_cases h0:i<0
 ·clear hA
  go_enter Tryz.func137,Tryz.ntmps137
  go_wp2_with fail;go_ret;exact ⟨⟨0,rfl,by omega,by omega⟩,0,rfl⟩
 by_cases h1:(n:Int)≤i
 ·clear hA
  go_enter Tryz.func137,Tryz.ntmps137
  go_wp2_with fail;go_ret;exact ⟨⟨0,rfl,by omega,by omega⟩,0,rfl⟩
 obtain ⟨k,rfl⟩:∃ k:Nat,i=(k:Int):=⟨i.toNat,by omega⟩
 obtain ⟨b,o,x,rfl,hb,hc,hx0,hx1⟩:=hA k (by omega)
 have HA:=Lib.hid (fun W=>around_any x most W hx0 hx1 hm (by omega))
 have hr0:=arN_nonneg x most hm;have hr1:=arN_lt x most hm;generalize arN x most=r at *;clear hA;go_enter Tryz.func137,Tryz.ntmps137
 go_wp2_with fail;refine (HA.out _).mono ?_
 rintro e w2 ⟨rfl,rfl⟩;go_wp2_with fail;go_ret;exact ⟨⟨r,rfl,hr0,hr1⟩,0,rfl⟩
def Mk (w:World) (base g:Nat) (A:Option Addr) (n c:Nat) (day:Int) (fv:Value):Prop :=
 (∃ at_:Int,Blk w g 144 #[.slice A n c,.int .i64 at_,.int .i64 day,fv])∧IntsAt w A n∧(∀ a,A=some a→a.block<base)∧base≤g
theorem Mk.lt {w:World} {base g:Nat} {A:Option Addr} {n c:Nat} {day:Int} {fv:Value} (h:Mk w base g A n c day fv):g<w.heap.size:=h.1.elim fun _ h=>h.lt
theorem Mk.base {w:World} {base g:Nat} {A:Option Addr} {n c:Nat} {day:Int} {fv:Value} (h:Mk w base g A n c day fv):base≤g:=h.2.2.2
theorem Mk.step {w w':World} {base g:Nat} {A:Option Addr} {n c:Nat} {day:Int} {fv:Value} (h:Mk w base g A n c day fv) {row:Option Nat} (hg:w.grownBy w' row) (hr:∀ k,row=some k→base≤k∧k≠g):Mk w' base g A n c day fv:=by
 obtain ⟨⟨a,h1⟩,h2,h3,h4⟩:=h;exact ⟨⟨a,h1.grown hg (fun e=>(hr g e.symm).2 rfl)⟩,h2.grown hg (fun a e e2=>by have:=(hr _ e2).1;have:=h3 a e;omega),h3,h4⟩
theorem Mk.hidden {ts:List TypeId} {w:World} {base g:Nat} {A:Option Addr} {n c:Nat} {day:Int} {fv:Value} (h:Mk w base g A n c day fv) (ht:144∈ts):Hidden ts w g:=h.1.elim fun _ h=>h.hidden ht
theorem next_any {w:World} {base g:Nat} {A:Option Addr} {n c:Nat} {day:Int} {fv:Value} (h:Mk w base g A n c day fv) (k:Int) (hk1:1≤k) (hk2:k≤1000000) :
  Calls Tryz.prog 90 #[.pointer (some ⟨g,0,none⟩),.int .i64 k] w fun e w'=>(∃ r:Int,e=.returned (.int .i64 r)∧0≤r∧r<k)∧w.grownBy w' (some g)∧Mk w' base g A n c day fv:=by
 obtain ⟨⟨at_,hg⟩,hA,hb,hbase⟩:=h;have HP:=Lib.hid (fun (i:Int) (W:World) (hW:IntsAt W A n)=>pick_any A n c i k hk1 hk2 W hW)
 have hc:=hg.c4;have hf:=hg.f4;have HG:=Lib.hid hg;have HA:=Lib.hid hA;have HB:=Lib.hid hb;clear hg hA hb hk1 hk2;go_enter Tryz.func90,Tryz.ntmps90
 go_upto_region 2 with fail;have G1:=HG.out.set 1 (.int .i64 (wrap64 (at_+1)));simp only [pB,pZ,pC] at G1;have P1:=grown_set w g 1 (.int .i64 (wrap64 (at_+1)))
 have A1:IntsAt (w.setCell ⟨g,1,none⟩ (.int .i64 (wrap64 (at_+1)))) A n:=HA.out.grown P1 (fun a e e2=>by
  cases e2
  have:=HB.out a e;omega)
 clear hc hf HG HA;generalize wrap64 (at_+1)=at1 at *;generalize w.setCell ⟨g,1,none⟩ (.int .i64 at1)=w1 at *;refine wp_region_held_drew (S:=(fun W=>Blk W g 144 #[.slice A n c,.int .i64 at1,.int .i64 day,fv]∧IntsAt W A n∧w.grownBy W (some g))) (by kernel_rfl) ?_ (fun hHeld=>?_)
 ·first | done | ((try dsimp only);exact ⟨G1.drew,A1.grown (grown_drew w1 none) (fun _ _ e=>by cases e),grown_up P1 (grown_drew w1 none) (fun _ e=>by cases e)⟩)
 clear G1 P1 A1;refine tq 0 12 rfl ?_
 refine tq 1 13 rfl ?_
 refine tq 2 14 rfl ?_
 refine th 3 15 rfl (fun _ hSw=>hSw.1.c4) ?_
 refine tq 4 16 rfl ?_
 refine tq 5 17 rfl ?_
 refine tq 6 18 rfl ?_
 refine th 7 19 rfl (fun _ hSw=>hSw.1.c4) ?_
 refine tq 8 20 rfl ?_
 refine tq 9 21 rfl ?_
 refine rd 10 (some 22) rfl fun K hK=>?_
 go_simp
 (refine (HP.out _ _ hHeld.2.1).mono ?_;rintro e w5 ⟨⟨r,rfl,hr0,hr1⟩,⟨m,rfl⟩⟩)
 refine hK.out _ _ ?_ (fun hHeld=>?_)
 ·first | done | ((try dsimp only);exact ⟨hHeld.1.drewN m,hHeld.2.1.grown (grown_drewN _ m none) (fun _ _ e=>by cases e),grown_up hHeld.2.2 (grown_drewN _ m none) (fun _ e=>by cases e)⟩)
 clear hK K;(try simp only [pS,pB,pZ,pC]);refine tq 11 4 rfl ?_
 refine dn ?_
 obtain ⟨q1,q2,q3⟩:=hHeld;go_wp2_with fail;go_ret;exact ⟨⟨r,rfl,hr0,hr1⟩,q3,⟨_,q1⟩,q2,HB.out,hbase⟩
open Go.ChangeShapes Go.WideShapes Go.ChangeAt Go.RowKit
theorem laid_out:laidOutB Tryz.prog=true:=by kernel_rfl
theorem own:ownKnob Tryz.prog.godebug=none:=by kernel_rfl
def laid7:List (String × DataW Unit):=Rows.copiesSaltsRow.laid
theorem world_shaped (os:Os) (args:Array Value):((World.laidAll Tryz.prog os laid7).forCall (fun _ _=>0) ⟨#[],args,[]⟩).Shaped Tryz.prog :=
 World.shaped_of_ZipB (by kernel_rfl) (by kernel_rfl)
theorem world_met (os:Os) (args:Array Value):laidMetH Tryz.prog laid7 ((World.laidAll Tryz.prog os laid7).forCall (fun _ _=>0) ⟨#[],args,[]⟩).memory:=by
 rw [MakeChecks.laidMetH_plain _ _ _ (by kernel_rfl)]
 exact laidMet_laidAll _ (by kernel_rfl) (by kernel_rfl)
def fieldsTab:List Int:=[655,1,1,257,61,20,17,17,49,17,1,1,5,281,5,257,77,29,17,1024,18,50]
theorem fields_data:(Rows.laid_priorart_acts_fields:DataW Unit)=Lib.tabData .i64 fieldsTab:=by kernel_rfl
theorem fields_cell {W:World} (hlaid:laidMetH Tryz.prog laid7 W):W.cell? ⟨0,0,none⟩=some (.int .i64 655)∧0<W.heap.size:=by
 rw [MakeChecks.laidMetH_plain _ _ _ (by kernel_rfl)] at hlaid
 have hL : laidMet Tryz.prog [("priorart/acts.fields", Rows.laid_priorart_acts_fields)] W := hlaid;rw [fields_data] at hL;have hT := Lib.tabIs_of_head (g := 0) (t := 156) (e := 3) (n := 22) (by kernel_rfl) (by kernel_rfl) Tryz.underlying156 Tryz.underlying3 (by kernel_rfl) (by kernel_rfl) hL
 have hc:=hT.cell (g:=0) (by kernel_rfl) 0 (by decide)
 exact ⟨hc,World.block_lt_of_cell? W _ hc⟩
theorem int_bd {x:Int} (h:(Lit.int .i64 x).wf=true):-9223372036854775808≤x∧x≤9223372036854775807:=by
 simpa [Lit.wf,IntKind.min,IntKind.max,IntKind.signed,IntKind.bits] using h
theorem ints_arg {H:Type} {enc:TypeId × Value→H} {W:World} {base:Nat} {v:Value} {d:DataW H} {p:List MemPlace} (hv:Value.okWide Tryz.prog W .any base 22 v) (h:DataW.Trod enc Tryz.prog W 0 (fun _=>true) true 22 v d p) :
  ∃ A n c,v=.slice A n c∧IntsAt W A n∧(∀ a,A=some a→a.block<W.heap.size):=by
 obtain ⟨A,n,c,rfl⟩:=okWide_slice Tryz.underlying22 hv
 have hA:∀ a,A=some a→a.block<W.heap.size:=fun a e=>by
  subst e
  have h1:Cell.okWide Tryz.prog W .any base 22 (.slice (some a) n c):=by
   unfold Value.okWide at hv;rw [Tryz.underlying22] at hv;exact hv
  have h2:Cell.ok Tryz.prog W .any base 22 (.slice (some a) n c):=by
   unfold Cell.okWide at h1;rw [Tryz.underlying22] at h1;exact h1
  have h3:W.has Tryz.prog .any base a 3 c:=by
   unfold Cell.ok at h2;rw [Tryz.underlying22] at h2;exact h2.2.2
  obtain ⟨_,_,row,cells,hs,_⟩:=h3;unfold World.shape? at hs;rcases Nat.lt_or_ge a.block W.heap.size with h | h
  ·exact h
  ·rw [Array.getElem?_eq_none h] at hs
   cases hs
 obtain ⟨fuel,hf⟩:=h;refine ⟨A,n,c,rfl,?_,hA⟩
 rcases open_ints Tryz.underlying22 Tryz.underlying3 (by kernel_rfl) hf with ⟨hcs,hx⟩ | ⟨a,len',cap',zs,hcs,_,hl,hm,hz,hx,hcell,hwz⟩
 ·simp [Value.cells] at hcs
  obtain ⟨rfl,rfl,rfl⟩:=hcs;exact fun k hk=>absurd hk (Nat.not_lt_zero k)
 ·simp [Value.cells] at hcs
  obtain ⟨rfl,rfl,rfl⟩:=hcs;simp only [if_true] at hz;intro k hk;have hk2:k<zs.length:=by omega
  obtain ⟨b,off,spot⟩:=a;have hspot:spot=none:=by simpa [Addr.add] using World.cell?_spot (hcell 0 (by omega))
  subst hspot;refine ⟨b,off,zs.getD k 0,rfl,hA _ rfl,by rw [← add_plain];exact hcell k hk2,?_⟩
  have:zs.getD k 0=zs[k]:=by simp [List.getD,hk2]
  rw [this];exact int_bd (hwz _ (List.getElem_mem hk2))
theorem Tryz.info27:(Tryz.prog.info? 27).map (fun i=>(i.zero,i.size,i.bytes))=some (some (.int .u64 0),1,8):=by kernel_rfl
def w64s (l:List Nat):List Value:=l.map fun (x:Nat)=>.int .u64 (x:Int)
theorem lw_down {l:List Nat} {k m:Nat} (h1:0<k) (h2:k≤m) (h3:m≤l.length):lw ((l.drop (k - 1)).take (m - (k - 1)))=l[k - 1]'(by omega)+256 * lw ((l.drop k).take (m - k)):=by
 rw [List.drop_eq_getElem_cons (i:=k - 1) (by omega),show m - (k - 1)=(m - k)+1 from by omega,List.take_succ_cons,lw,show k - 1+1=k from by omega]
theorem refwords_any (v:Value) (bs:List Nat) (hbb:Bytes bs) (hn:bs.length≤1000000000) (w:World) (hr:Rep w w.heap.size v (.s 1 (valD (bys bs)))) :
  Calls Tryz.prog 118 #[v] w fun e w'=>∃ u,e=.returned u∧w'.ownsRow w.heap.size 27 1 u (wordsL bs).length (w64s (wordsL bs))∧Below w.heap.size w w':=by
 obtain ⟨A,c,rfl,hc,hcell⟩:=hr.row;rw [bys_length] at hc ⊢;obtain ⟨i0,hi,hz0,hz1,hz2⟩:=info_parts Tryz.info27;have HCELL:=Lib.hid hcell;have HBB:=Lib.hid hbb;clear hr hcell hbb;go_enter Tryz.func118,Tryz.ntmps118
 go_wp2_with fail;go_loopw [3,4] (fun u i wr=>∃ (q:Nat) (ws:List Nat),i=.int .i64 (q:Int)∧q≤bs.length+8∧ws.length≤q∧wr.ownsRow w.heap.size 27 1 u ws.length (w64s ws)∧Below w.heap.size w wr∧wordsL bs=ws++wordsL (bs.drop q)) (fun _ i _=>bs.length+8 - (intOf i).toNat)
 case atStart=>exact ⟨0,[],rfl,Nat.zero_le _,Nat.le_refl _,World.ownsRow_nil _ _ _ _,Below.refl _ _,rfl⟩
 case round =>
  obtain ⟨q,ws,rfl,hq,hwl,hown,hb,hws⟩:=hrel;have HWS:=Lib.hid hws;clear hws;by_cases hlt:q<bs.length
  ·obtain ⟨wo,hwo⟩:∃ z:World,z=wr:=⟨_,rfl⟩
   subst hwo;by_cases h8:q+8≤bs.length
   ·have h8i:(q:Int)+8≤(bs.length:Int):=by omega
    have HEND:=Lib.hid (lw_end (l:=bs) (i:=q) (k:=q+8) (by omega) (by omega))
    go_wp2_with fail;go_loopw [5,6] (fun x j wr=>∃ k:Nat,j=.int .i64 ((k:Int) - 1)∧q≤k∧k≤(q+8)∧x=.int .u64 (lw ((bs.drop k).take ((q+8) - k)):Int)∧wo=wr) (fun _ j _=>(intOf j+1).toNat - q)
    case atStart=>exact ⟨(q+8),by first | rfl | (congr 1;push_cast;omega) | (congr 1;omega),by omega,Nat.le_refl _,by rw [Nat.sub_self,List.take_zero];rfl,rfl⟩
    case round =>
     obtain ⟨k,rfl,hk1,hk2,rfl,rfl⟩:=hrel;have HX:=lw_part HBB.out k (q+8) (by omega) (by omega)
     by_cases hkq:q<k
     ·have hx7:lw ((bs.drop k).take ((q+8) - k))<72057594037927936:=Nat.lt_of_lt_of_le HX (Nat.pow_le_pow_right (n:=256) (by omega) (show (q+8) - k≤7 by omega))
      have hdn:=lw_down (l:=bs) (k:=k) (m:=(q+8)) (by omega) hk2 (by omega)
      obtain ⟨b,o,rfl,hbl,hcw⟩:=HCELL.out (k - 1) _ (bys_get bs (k - 1) (by omega))
      have hcr:=(hb.cell (p:=⟨b,o+(k - 1),none⟩) hbl).trans hcw;have hby:=HBB.out _ (List.getElem_mem (show k - 1<bs.length by omega))
      have HDN:=Lib.hid hdn;clear hdn hcw HX;generalize lw ((bs.drop k).take ((q+8) - k))=X at *;generalize bs[k - 1]=B at *;obtain ⟨k,rfl⟩:∃ z,k=z+1:=⟨k - 1,by omega⟩
      rw [Nat.add_sub_cancel] at hcr HDN;have hki:((k+1:Nat):Int) - 1=(k:Int):=by omega
      rw [hki];go_wp2_with fail;go_roundw
      case rel=>exact ⟨k,by go_num,by omega,by omega,by rw [HDN.out];congr 1;omega,trivial⟩
      case measure=>simp [intOf];omega
     ·obtain rfl:k=q:=by omega
      clear HX;rw [HEND.out];have hLW:=lw8_lt (l:=bs.drop k) (bytes_sub HBB.out (fun x hx=>List.mem_of_mem_drop hx))
      have HNX:=words_cons (l:=bs.drop k) (by intro e;have:=congrArg List.length e;rw [List.length_drop] at this;simp at this;omega)
      rw [List.drop_drop] at HNX;have HWN:wordsL bs=(ws++[lw ((bs.drop k).take 8)])++wordsL (bs.drop (k+8)):=by rw [HWS.out,HNX,List.append_assoc];rfl
      have HWN:=Lib.hid HWN;clear HNX;generalize lw ((bs.drop k).take 8)=X at *;have HS:w.heap.size≤(wo.alloc (.cells #[.int .u64 (X:Int)] 27)).heap.size:=Nat.le_trans (Nat.le_succ_of_le hb.size) (Nat.le_of_eq (by simp))
      have hfl:ws.length+1≤maxLen:=by unfold maxLen;omega
      have hfb:(ws.length+1) * 8≤140737488355328:=by omega
      go_wp2_with (at_builtin;refine wpList_append_own _ rfl _ _ 42 rfl w.heap.size 27 i0 (.int .u64 0) 1 8 Tryz.underlying42 hi hz0 hz1 hz2 rfl (by decide) _ _ _ rfl (hown.alloc _) ⟨wo.heap.size,0,none⟩ 1 1 [.int .u64 (X:Int)] rfl rfl (cell_one_new _ _ _) (by intro u hu;rw [List.mem_singleton.mp hu];rfl) hfl hfb HS ?_;intro v1 w1 hown1 hg1 _)
      have HB:Below w.heap.size w w1:=(hb.alloc hb.size _).grown hg1 HS (owns_ge hown);have E:w64s ws++[Value.int .u64 (X:Int)]=w64s (ws++[X]):=by unfold w64s;rw [List.map_append];rfl
      have L:ws.length+1=(ws++[X]).length:=by simp
      rw [E,L] at hown1;go_roundw
      case rel=>exact ⟨k+8,ws++[X],by go_num,by omega,by rw [← L];omega,hown1,HB,HWN.out⟩
      case measure=>simp [intOf];omega
   ·have h8i:¬ ((q:Int)+8≤(bs.length:Int)):=by omega
    have HEND:=Lib.hid (lw_end (l:=bs) (i:=q) (k:=bs.length) (by omega) (by omega))
    go_wp2_with fail;go_loopw [5,6] (fun x j wr=>∃ k:Nat,j=.int .i64 ((k:Int) - 1)∧q≤k∧k≤bs.length∧x=.int .u64 (lw ((bs.drop k).take (bs.length - k)):Int)∧wo=wr) (fun _ j _=>(intOf j+1).toNat - q)
    case atStart=>exact ⟨bs.length,by first | rfl | (congr 1;push_cast;omega) | (congr 1;omega),by omega,Nat.le_refl _,by rw [Nat.sub_self,List.take_zero];rfl,rfl⟩
    case round =>
     obtain ⟨k,rfl,hk1,hk2,rfl,rfl⟩:=hrel;have HX:=lw_part HBB.out k bs.length (by omega) (by omega)
     by_cases hkq:q<k
     ·have hx7:lw ((bs.drop k).take (bs.length - k))<72057594037927936:=Nat.lt_of_lt_of_le HX (Nat.pow_le_pow_right (n:=256) (by omega) (show bs.length - k≤7 by omega))
      have hdn:=lw_down (l:=bs) (k:=k) (m:=bs.length) (by omega) hk2 (by omega)
      obtain ⟨b,o,rfl,hbl,hcw⟩:=HCELL.out (k - 1) _ (bys_get bs (k - 1) (by omega))
      have hcr:=(hb.cell (p:=⟨b,o+(k - 1),none⟩) hbl).trans hcw;have hby:=HBB.out _ (List.getElem_mem (show k - 1<bs.length by omega))
      have HDN:=Lib.hid hdn;clear hdn hcw HX;generalize lw ((bs.drop k).take (bs.length - k))=X at *;generalize bs[k - 1]=B at *;obtain ⟨k,rfl⟩:∃ z,k=z+1:=⟨k - 1,by omega⟩
      rw [Nat.add_sub_cancel] at hcr HDN;have hki:((k+1:Nat):Int) - 1=(k:Int):=by omega
      rw [hki];go_wp2_with fail;go_roundw
      case rel=>exact ⟨k,by go_num,by omega,by omega,by rw [HDN.out];congr 1;omega,trivial⟩
      case measure=>simp [intOf];omega
     ·obtain rfl:k=q:=by omega
      clear HX;rw [HEND.out];have hLW:=lw8_lt (l:=bs.drop k) (bytes_sub HBB.out (fun x hx=>List.mem_of_mem_drop hx))
      have HNX:=words_cons (l:=bs.drop k) (by intro e;have:=congrArg List.length e;rw [List.length_drop] at this;simp at this;omega)
      rw [List.drop_drop] at HNX;have HWN:wordsL bs=(ws++[lw ((bs.drop k).take 8)])++wordsL (bs.drop (k+8)):=by rw [HWS.out,HNX,List.append_assoc];rfl
      have HWN:=Lib.hid HWN;clear HNX;generalize lw ((bs.drop k).take 8)=X at *;have HS:w.heap.size≤(wo.alloc (.cells #[.int .u64 (X:Int)] 27)).heap.size:=Nat.le_trans (Nat.le_succ_of_le hb.size) (Nat.le_of_eq (by simp))
      have hfl:ws.length+1≤maxLen:=by unfold maxLen;omega
      have hfb:(ws.length+1) * 8≤140737488355328:=by omega
      go_wp2_with (at_builtin;refine wpList_append_own _ rfl _ _ 42 rfl w.heap.size 27 i0 (.int .u64 0) 1 8 Tryz.underlying42 hi hz0 hz1 hz2 rfl (by decide) _ _ _ rfl (hown.alloc _) ⟨wo.heap.size,0,none⟩ 1 1 [.int .u64 (X:Int)] rfl rfl (cell_one_new _ _ _) (by intro u hu;rw [List.mem_singleton.mp hu];rfl) hfl hfb HS ?_;intro v1 w1 hown1 hg1 _)
      have HB:Below w.heap.size w w1:=(hb.alloc hb.size _).grown hg1 HS (owns_ge hown);have E:w64s ws++[Value.int .u64 (X:Int)]=w64s (ws++[X]):=by unfold w64s;rw [List.map_append];rfl
      have L:ws.length+1=(ws++[X]).length:=by simp
      rw [E,L] at hown1;go_roundw
      case rel=>exact ⟨k+8,ws++[X],by go_num,by omega,by rw [← L];omega,hown1,HB,HWN.out⟩
      case measure=>simp [intOf];omega
  ·have hd:bs.drop q=[]:=List.drop_eq_nil_of_le (by omega)
   have hE:wordsL bs=ws:=by rw [HWS.out,hd,words_nil,List.append_nil]
   have HE:=Lib.hid hE;have HO:=Lib.hid hown;clear hown hE hd;go_wp2_with fail;go_ret;exact ⟨_,rfl,by rw [HE.out];exact HO.out,hb⟩
theorem below_bytesWorld (w:World) (e:TypeId) (s:ByteArray):Below w.heap.size w (Lib.bytesWorld w e s) :=
 ⟨rfl,rfl,rfl,by rw [Lib.bytesWorld_size];omega,fun i hi=>Lib.bytesWorld_at_old w e s i hi⟩
theorem rep_bytesWorld (w:World) (e:TypeId) (s:ByteArray) (c:Nat) (hc:s.size≤c):Rep (Lib.bytesWorld w e s) (Lib.bytesWorld w e s).heap.size (.slice (some ⟨w.heap.size,0,none⟩) s.size c) (.s 1 (valD (bys (sb s)))):=by
 refine Rep.mk (by rw [valD_length,bys_length,sb_length,Nat.mul_one]) hc (by rw [Lib.bytesWorld_size];omega) (RepL.of_plain _ _ (bys (sb s))) (fun j u hu=>?_)
 have hj:j<(sb s).length:=by
  rcases Nat.lt_or_ge j (sb s).length with h | h
  ·exact h
  ·rw [List.getElem?_eq_none (by rw [bys_length];exact h)] at hu
   cases hu
 rw [bys_get (sb s) j hj] at hu;cases hu
 have hj2:j<s.size:=by rw [← sb_length];exact hj
 rw [Nat.zero_add,Lib.bytesWorld_cell w e s j hj2];congr 3
 have h3:s.data.toList[j]?=some (s[j]'hj2):=by
  rw [Array.getElem?_toList]
  exact Array.getElem?_eq_getElem hj2
 rw [sb_get s j hj2 hj,List.getD_eq_getElem?_getD,h3]
 rfl
theorem run_take (s:Nat) (l:List Nat) (k:Nat) (h:k<l.length):mixN (runN s (l.take k)) l[k]=runN s (l.take (k+1)):=by
 rw [List.take_add_one,List.getElem?_eq_getElem h,Option.toList_some,run_snoc]
theorem refsum_any (s:ByteArray) (hsz:s.size≤1000000) (v:Value) (l:List Int) (w:World) (hr:Rep w w.heap.size v (.s 1 (valD (ints l)))) (hl:l.length≤1000000000) :
  Calls Tryz.prog 67 #[.string s,v] w fun e w'=>e=.returned (.int .u64 (sumN (wordsL (sb s)) s.size (u64L l):Int))∧Below w.heap.size w w':=by
 obtain ⟨A,c,rfl,hc,hcell⟩:=hr.row;rw [ints_length] at hc ⊢;have HCELL:=Lib.hid hcell;clear hr hcell;go_enter Tryz.func67,Tryz.ntmps67
 have hcv:=Lib.run_convert_string_bytes (P:=Tryz.prog) w 9 55 5 s Tryz.underlying9 Tryz.underlying55 Tryz.underlying5;have hR:=rep_bytesWorld w 5 s (grownCap w s.size 0 5) (grownCap_ge w _ _ _);have hB:=below_bytesWorld w 5 s;have hsl:=sb_length s;have HW:=Lib.hid (refwords_any _ (sb s) (sb_bytes s) (by omega) _ hR)
 clear hR;go_wp2_with fail;clear hcv;generalize Lib.bytesWorld w 5 s=w0 at *;refine HW.out.mono ?_
 rintro e w1 ⟨u,rfl,hrow,hb1⟩;have hB1:=below_up hB hb1 hB.size;have hwo:=words_ok (sb_bytes s);have hwl:=words_length (sb s);have HRO:=Lib.hid hrow;obtain ⟨Au,cu,rfl⟩:=own_slice hrow
 have hcellU:∀ k (hk:k<(wordsL (sb s)).length),∃ g,Au=some ⟨g,0,none⟩∧w1.cell? ⟨g,0+k,none⟩=some (.int .u64 (((wordsL (sb s))[k]:Nat):Int)):=fun k hk=>by
  rcases hrow.2 with ⟨e,hn⟩ | ⟨g,cap,cur,e,_⟩
  ·omega
  ·cases e
   refine ⟨g,rfl,?_⟩
   rw [Nat.zero_add,hrow.cellAt k (by omega)]
   unfold w64s;rw [List.getElem?_map,List.getElem?_eq_getElem hk]
   rfl
 have HCU:=Lib.hid hcellU;have HWO:=Lib.hid hwo;clear hrow hcellU hwo HW;generalize hwl0:wordsL (sb s)=wl at *;have HWL:=Lib.hid hwl0;clear hwl0;go_wp2_with fail;go_loopw [5,7] (fun x i wr=>∃ k:Nat,i=.int .i64 (k:Int)∧k≤wl.length∧x=.int .u64 (runN 0 (wl.take k):Int)∧w1=wr) (fun _ i _=>wl.length - (intOf i).toNat)
 case atStart=>exact ⟨0,rfl,Nat.zero_le _,rfl,rfl⟩
 case round =>
  obtain ⟨k,rfl,hk,rfl,rfl⟩:=hrel;have hrl:=run_lt (wl.take k) 0 (by decide)
  by_cases hlt:k<wl.length
  ·obtain ⟨g,rfl,hcw⟩:=HCU.out k hlt
   rw [Nat.zero_add] at hcw;have hwk:=HWO.out _ (List.getElem_mem hlt);have HT:=Lib.hid (run_take 0 wl k hlt);generalize wl[k]=x at *;generalize runN 0 (wl.take k)=S at *;go_wp2_with (go_at_call 119;refine (refmix_any _ _ _ hrl hwk).mono ?_;rintro e w' ⟨rfl,rfl⟩)
   go_roundw
   case rel=>exact ⟨k+1,by go_num,by omega,by rw [HT.out],trivial⟩
   case measure=>simp [intOf];omega
  ·obtain rfl:k=wl.length:=by omega
   rw [List.take_length] at hrl ⊢;generalize hS:runN 0 wl=S at *;have HS0:=Lib.hid (mix_lt (mixN S s.size) l.length);have HM1:=mix_lt S s.size
   have HE:sumN wl s.size (u64L l)=mixN (runN (mixN (mixN S s.size) l.length) (u64L l)) 0:=by
    unfold sumN;rw [hS];unfold u64L;rw [List.length_map]
   have HE:=Lib.hid HE;clear hS;go_wp2_with (go_at_call 119;refine (refmix_any _ _ _ (by first | exact hrl | exact HM1) (by omega)).mono ?_;rintro e w' ⟨rfl,rfl⟩)
   generalize mixN (mixN S s.size) l.length=S0 at *;go_loopw [5,8] (fun x i wr=>∃ k:Nat,i=.int .i64 (k:Int)∧k≤l.length∧x=.int .u64 (runN S0 ((u64L l).take k):Int)∧w1=wr) (fun _ i _=>l.length - (intOf i).toNat)
   case atStart=>exact ⟨0,rfl,Nat.zero_le _,rfl,rfl⟩
   case round =>
    obtain ⟨k,rfl,hk,rfl,rfl⟩:=hrel;have HR:=Lib.hid (run_lt ((u64L l).take k) S0 HS0.out);by_cases hlt:k<l.length
    ·obtain ⟨b,o,rfl,hb,hcw⟩:=HCELL.out k _ (ints_get l k hlt)
     have hcr:=(hB1.cell (p:=⟨b,o+k,none⟩) hb).trans hcw;have hu:=wrap_u64' l[k];have HU:=Lib.hid (u64_lt l[k]);have HT:=Lib.hid (run_step (s:=S0) hlt);clear hcw;generalize l[k]=n at *;generalize runN S0 ((u64L l).take k)=S at *;go_wp2_with (go_at_call 119;refine (refmix_any _ _ _ HR.out HU.out).mono ?_;rintro e w' ⟨rfl,rfl⟩)
     go_roundw
     case rel=>exact ⟨k+1,by go_num,by omega,by rw [HT.out],trivial⟩
     case measure=>simp [intOf];omega
    ·obtain rfl:k=l.length:=by omega
     have hlt0:=HR.out;rw [show List.take l.length (u64L l)=u64L l from List.take_of_length_le (by unfold u64L;rw [List.length_map];exact Nat.le_refl _)] at hlt0 ⊢
     generalize runN S0 (u64L l)=S at *;go_wp2_with (go_at_call 119;refine (refmix_any S 0 _ hlt0 (by decide)).mono ?_;rintro e w' ⟨rfl,rfl⟩)
     go_ret;refine ⟨?_,hB1⟩
     show Ending.returned (.int .u64 ((mixN S 0:Nat):Int))=_
     rw [HWL.out,HE.out]
theorem refsum_fresh (s:ByteArray) (hsz:s.size≤1000000) (l:List Int) (m:List Nat) (n:Nat) (cs:Array Value) (w:World) (H:Nat) (hH:w.heap.size=H) (hcs:cs=(ints l).toArray) (hn:l.length=n) (hm:u64L l=m) (hl:l.length≤1000000000) :
  Calls Tryz.prog 67 #[.string s,.slice (some ⟨H,0,none⟩) n n] (w.alloc (.cells cs 3)) fun e w'=>e=.returned (.int .u64 (labN s m:Int))∧Below w.heap.size w w':=by
 subst hcs hH;have hr:=Rep.fresh_plain (w:=w) (n:=n) (e:=3) (cs:=(ints l).toArray) (by simp [ints_length,hn])
 refine (refsum_any s hsz _ l _ hr hl).mono ?_
 rintro e w' ⟨rfl,hb⟩;rw [sum_vals hm];exact ⟨rfl,((Below.refl w.heap.size w).alloc (Nat.le_refl _) _).trans (hb.mono (by simp))⟩
theorem refleaf_any (h:Nat) (hh:h<18446744073709551616) (w:World) :
  Calls Tryz.prog 68 #[.int .u64 (h:Int)] w fun e w'=>e=.returned (.int .u64 (leafN h:Int))∧Below w.heap.size w w':=by
 have HU:=Lib.hid (u64_wordI hh);clear hh;have HX:IntKind.i64.wrap (h:Int)=wordI h:=rfl;go_enter Tryz.func68,Tryz.ntmps68
 go_wp2_with (go_at_call 67;refine (refsum_fresh sLeaf (by decide) [wordI h] [h] 1 _ w _ rfl rfl rfl (by unfold u64L;rw [List.map_cons,List.map_nil,HU.out]) (Nat.le_of_ble_eq_true rfl)).mono ?_;rintro e w' ⟨rfl,hb⟩)
 go_ret;exact ⟨rfl,hb⟩
theorem refkey_any (s:Nat) (hh:s<18446744073709551616) (w:World) :
  Calls Tryz.prog 94 #[.int .u64 (s:Int)] w fun e w'=>e=.returned (.int .u64 (keyN s:Int))∧Below w.heap.size w w':=by
 have HU:=Lib.hid (u64_wordI hh);clear hh;have HX:IntKind.i64.wrap (s:Int)=wordI s:=rfl;go_enter Tryz.func94,Tryz.ntmps94
 go_wp2_with (go_at_call 67;refine (refsum_fresh sKey (by decide) [wordI s] [s] 1 _ w _ rfl rfl rfl (by unfold u64L;rw [List.map_cons,List.map_nil,HU.out]) (Nat.le_of_ble_eq_true rfl)).mono ?_;rintro e w' ⟨rfl,hb⟩)
 go_ret;exact ⟨rfl,hb⟩
theorem refnode_any (a b:Nat) (ha:a<18446744073709551616) (hb:b<18446744073709551616) (w:World) :
  Calls Tryz.prog 70 #[.int .u64 (a:Int),.int .u64 (b:Int)] w fun e w'=>e=.returned (.int .u64 (nodeN a b:Int))∧Below w.heap.size w w':=by
 have HA:=Lib.hid (u64_wordI ha);have HB:=Lib.hid (u64_wordI hb);clear ha hb;have HX:IntKind.i64.wrap (a:Int)=wordI a:=rfl;have HY:IntKind.i64.wrap (b:Int)=wordI b:=rfl;go_enter Tryz.func70,Tryz.ntmps70
 go_wp2_with (go_at_call 67;refine (refsum_fresh sNode (by decide) [wordI a,wordI b] [a,b] 2 _ w _ rfl rfl rfl (by unfold u64L;rw [List.map_cons,List.map_cons,List.map_nil,HA.out,HB.out]) (Nat.le_of_ble_eq_true rfl)).mono ?_;rintro e w' ⟨rfl,hb⟩)
 go_ret;exact ⟨rfl,hb⟩
theorem refbytesum_any (s:ByteArray) (hsz:s.size≤1000000) (v:Value) (bs:List Nat) (hbb:Bytes bs) (hn:bs.length≤900000000) (w:World) (hr:Rep w w.heap.size v (.s 1 (valD (bys bs)))) :
  Calls Tryz.prog 123 #[.string s,v] w fun e w'=>e=.returned (.int .u64 (bytesN s bs:Int))∧Below w.heap.size w w':=by
 have HW:=Lib.hid (refwords_any v bs hbb (by omega) w hr)
 obtain ⟨A,c,rfl,hc,_⟩:=hr.row;rw [bys_length] at hc HW ⊢;obtain ⟨i0,hi,hz0,hz1,hz2⟩:=info_parts Tryz.info3;have HV:=Lib.hid (bytes_val s bs hbb (by omega))
 have hwl:=words_length bs;clear hr hbb;go_enter Tryz.func123,Tryz.ntmps123
 go_wp2_with fail;refine HW.out.mono ?_
 rintro e w1 ⟨u,rfl,hrow,hb1⟩;obtain ⟨Au,cu,rfl⟩:=own_slice hrow
 have hcellU:∀ k (hk:k<(wordsL bs).length),∃ g,Au=some ⟨g,0,none⟩∧g<w1.heap.size∧w1.cell? ⟨g,k,none⟩=some (.int .u64 (((wordsL bs)[k]:Nat):Int)):=fun k hk=>by
  rcases hrow.2 with ⟨e,hn⟩ | ⟨g,cap,cur,e,_⟩
  ·omega
  ·cases e
   refine ⟨g,rfl,(hrow.lt g rfl).2,?_⟩
   rw [hrow.cellAt k (by omega)]
   unfold w64s;rw [List.getElem?_map,List.getElem?_eq_getElem hk]
   rfl
 have HCU:=Lib.hid hcellU;clear hrow hcellU HW;generalize wordsL bs=wl at *;have hs1:=hb1.size;go_wp2_with fail;go_loopw [6,7] (fun x i wr=>∃ k:Nat,i=.int .i64 (k:Int)∧k≤wl.length∧wr.ownsRow w1.heap.size 3 1 x k (ints ((wl.take k).map wordI))∧Below w1.heap.size w1 wr) (fun _ i _=>wl.length - (intOf i).toNat)
 case atStart=>exact ⟨0,rfl,Nat.zero_le _,World.ownsRow_nil _ _ _ _,Below.refl _ _⟩
 case round =>
  obtain ⟨k,rfl,hk,hown,hb⟩:=hrel;have hfl:k+1≤maxLen:=by unfold maxLen;omega
  have hfb:(k+1) * 8≤140737488355328:=by omega
  by_cases hlt:k<wl.length
  ·obtain ⟨g,rfl,hg,hcw⟩:=HCU.out k hlt
   have hcr:=(hb.cell (p:=⟨g,k,none⟩) hg).trans hcw
   have HT:ints ((wl.take (k+1)).map wordI)=ints ((wl.take k).map wordI)++[.int .i64 (wordI wl[k])]:=by
    rw [List.take_add_one,List.getElem?_eq_getElem hlt,Option.toList_some,List.map_append]
    unfold ints;rw [List.map_append];rfl
   have HT:=Lib.hid HT;clear hcw;generalize wl[k]=x at *;have HX:IntKind.i64.wrap (x:Int)=wordI x:=rfl;have HS:w1.heap.size≤(wr.alloc (.cells #[.int .i64 (wordI x)] 3)).heap.size:=Nat.le_trans (Nat.le_succ_of_le hb.size) (Nat.le_of_eq (by simp))
   go_wp2_with (at_builtin;refine wpList_append_own _ rfl _ _ 22 rfl w1.heap.size 3 i0 (.int .i64 0) 1 8 Tryz.underlying22 hi hz0 hz1 hz2 rfl (by decide) _ _ _ rfl (hown.alloc _) ⟨wr.heap.size,0,none⟩ 1 1 [.int .i64 (wordI x)] rfl rfl (cell_one_new _ _ _) (by intro u hu;rw [List.mem_singleton.mp hu];rfl) hfl hfb HS ?_;intro v1 w2 hown1 hg1 _)
   have HB:Below w1.heap.size w1 w2:=(hb.alloc hb.size _).grown hg1 HS (owns_ge hown);rw [← HT.out] at hown1;go_roundw
   case rel=>exact ⟨k+1,by go_num,by omega,hown1,HB⟩
   case measure=>simp [intOf];omega
  ·obtain rfl:k=wl.length:=by omega
   rw [List.take_length] at hown;have HS:w1.heap.size≤(wr.alloc (.cells #[.int .i64 (bs.length:Int)] 3)).heap.size:=Nat.le_trans (Nat.le_succ_of_le hb.size) (Nat.le_of_eq (by simp))
   go_wp2_with (at_builtin;refine wpList_append_own _ rfl _ _ 22 rfl w1.heap.size 3 i0 (.int .i64 0) 1 8 Tryz.underlying22 hi hz0 hz1 hz2 rfl (by decide) _ _ _ rfl (hown.alloc _) ⟨wr.heap.size,0,none⟩ 1 1 [.int .i64 (bs.length:Int)] rfl rfl (cell_one_new _ _ _) (by intro u hu;rw [List.mem_singleton.mp hu];rfl) hfl hfb HS ?_;intro v1 w2 hown1 hg1 _)
   have HB:Below w1.heap.size w1 w2:=(hb.alloc hb.size _).grown hg1 HS (owns_ge hown);have HI:ints (wl.map wordI)++[Value.int .i64 (bs.length:Int)]=ints (wl.map wordI++[(bs.length:Int)]):=by unfold ints;rw [List.map_append];rfl
   rw [HI] at hown1;refine (refsum_any s hsz v1 (wl.map wordI++[(bs.length:Int)]) w2 (Rep.of_own_plain hown1) (by rw [List.length_append,List.length_map];simp;omega)).mono ?_
   rintro e w3 ⟨rfl,hb3⟩;rw [HV.out];have hBB:=below_up (below_up hb1 HB hb1.size) hb3 (Nat.le_trans hb1.size HB.size);go_wp2_with fail;go_ret;exact ⟨rfl,hBB⟩
theorem refcommit_any (v:Value) (bs:List Nat) (hbb:Bytes bs) (hn:bs.length≤900000000) (salt:Nat) (hs:salt<18446744073709551616) (w:World) (hr:Rep w w.heap.size v (.s 1 (valD (bys bs)))) :
  Calls Tryz.prog 72 #[v,.int .u64 (salt:Int)] w fun e w'=>e=.returned (.int .u64 (commitN bs salt:Int))∧Below w.heap.size w w':=by
 have HA:=Lib.hid (u64_wordI hs);have HB:=Lib.hid (u64_wordI (bytesN_lt sSealed bs));clear hs;have HX:IntKind.i64.wrap (salt:Int)=wordI salt:=rfl;have HY:IntKind.i64.wrap (bytesN sSealed bs:Int)=wordI (bytesN sSealed bs):=rfl;obtain ⟨A,c,rfl,hc,hcell⟩:=hr.row;have HR:=Lib.hid hr;clear hr hcell;go_enter Tryz.func72,Tryz.ntmps72
 go_wp2_with (go_at_call 123;refine (refbytesum_any sSealed (by decide) _ bs hbb hn w HR.out).mono ?_;rintro e w1 ⟨rfl,hb1⟩)
 go_wp2_with (go_at_call 67;refine (refsum_fresh sSeal (by decide) [wordI salt,wordI (bytesN sSealed bs)] [salt,bytesN sSealed bs] 2 _ w1 _ rfl rfl rfl (by unfold u64L;rw [List.map_cons,List.map_cons,List.map_nil,HA.out,HB.out]) (Nat.le_of_ble_eq_true rfl)).mono ?_;rintro e w' ⟨rfl,hb⟩)
 go_ret;exact ⟨rfl,hb1.trans (hb.mono hb1.size)⟩
attribute [local go_sem ↓] Go.wp_at_zero Go.wp_at_succ
structure Hd where
 office:Int
 tick:Int
 day:Int
 size:Int
 log:Nat
 map:Nat
 sld:Int
 sign:Nat
def Hd.vals (h:Hd):Array Value:=#[iI h.office,iI h.tick,iI h.day,iI h.size,uI (h.log:Int),uI (h.map:Int),iI h.sld,uI (h.sign:Int)]
def sigN (key:Nat) (h:Hd):Nat:=labN sSign [key,u64 h.office,u64 h.tick,u64 h.day,u64 h.size,h.log,h.map,u64 h.sld]
theorem signature_any (key:Nat) (hk:key<18446744073709551616) (o t d s:Int) (l m:Nat) (hl:l<18446744073709551616) (hm:m<18446744073709551616) (sl:Int) (sg:Nat) (w:World) :
  Calls Tryz.prog 66 #[.int .u64 (key:Int),.agg #[iI o,iI t,iI d,iI s,uI (l:Int),uI (m:Int),iI sl,uI (sg:Int)]] w fun e w'=>e=.returned (.int .u64 (sigN key ⟨o,t,d,s,l,m,sl,sg⟩:Int))∧Below w.heap.size w w':=by
 have HA:=Lib.hid (u64_wordI hk);have HB:=Lib.hid (u64_wordI hl);have HC:=Lib.hid (u64_wordI hm);clear hk hl hm;have HX:IntKind.i64.wrap (key:Int)=wordI key:=rfl;have HY:IntKind.i64.wrap (l:Int)=wordI l:=rfl;have HZ:IntKind.i64.wrap (m:Int)=wordI m:=rfl;go_enter Tryz.func66,Tryz.ntmps66
 go_wp2_with (go_at_call 43;refine (sum_fresh sSign (by decide) [wordI key,o,t,d,s,wordI l,wordI m,sl] [key,u64 o,u64 t,u64 d,u64 s,l,m,u64 sl] 8 _ (w.alloc (.cells #[iI o,iI t,iI d,iI s,uI (l:Int),uI (m:Int),iI sl,uI (sg:Int)] 49)) _ (by simp) rfl rfl (by unfold u64L;simp only [List.map_cons,List.map_nil,HA.out,HB.out,HC.out]) (Nat.le_of_ble_eq_true rfl)).mono ?_;rintro e w' ⟨rfl,hb⟩)
 go_ret;exact ⟨rfl,below_up (below_new _ _) hb (by simp)⟩
end Go.Proofs.YtbeaijjaecaidaaGreatDoor
