/- The maker's other acts. Written by mko.py. A script's acts. -/
import Derived.Test.YtbeaijjaecaidaaGreatDoorM15
import Derived.Test.YtbeaijjaecaidaaGreatDoorM10
import Derived.Test.YtbeaijjaecaidaaGreatDoorM01
set_option maxRecDepth 100000
set_option maxHeartbeats 16000000
namespace Go.Proofs.YtbeaijjaecaidaaGreatDoor
open Go.RowKit Go.Shelf
attribute [local go_sem] Oper.semAt_some
def OthV (kind:Int) (vs:Array Value):Prop:=vs.size=19∧(∀ u∈vs.toList,u.oneCell'=true)∧vs[0]?=some (.int .i64 kind)∧(∃ x,vs[7]?=some (.int .i64 x))∧(∃ x,vs[5]?=some (.int .i64 x))
theorem OthV.set {kind:Int} {vs:Array Value} (h:OthV kind vs) (i:Nat) (v:Value) (hv:v.oneCell'=true) (hi:i≠0) (h7:i=7→∃ x,v=.int .i64 x) (h5:i=5→∃ x,v=.int .i64 x):OthV kind (vs.setIfInBounds i v):=by
 obtain ⟨q1,q2,q3,⟨x7,q4⟩,x5,q5⟩:=h;refine ⟨by simp [q1],?_,?_,?_,?_⟩
 ·intro u hu
  rw [Array.toList_setIfInBounds] at hu;rcases List.mem_or_eq_of_mem_set hu with hu | rfl
  ·exact q2 u hu
  ·exact hv
 ·rw [Array.getElem?_setIfInBounds_ne (fun e=>hi e)]
  exact q3
 ·by_cases e:i=7
  ·subst e
   obtain ⟨x,rfl⟩:=h7 rfl;exact ⟨x,by rw [Array.getElem?_setIfInBounds_self_of_lt (by omega)]⟩
  ·exact ⟨x7,by rw [Array.getElem?_setIfInBounds_ne e];exact q4⟩
 ·by_cases e:i=5
  ·subst e
   obtain ⟨x,rfl⟩:=h5 rfl;exact ⟨x,by rw [Array.getElem?_setIfInBounds_self_of_lt (by omega)]⟩
  ·exact ⟨x5,by rw [Array.getElem?_setIfInBounds_ne e];exact q5⟩
theorem OthV.all {kind:Int} {vs:Array Value} (h:OthV kind vs):vs.all (·.oneCell')=true:=Array.all_eq_true_iff_forall_mem.2 (fun v hv=>h.2.1 v (by simpa using hv))
def OSt (w W:World) (base g:Nat) (A:Option Addr) (n c:Nat) (day:Int) (fv:Value) (ab:Nat) (kind:Int):Prop :=
 Blk W w.heap.size 41 zeroA∧(∃ vs,Blk W ab 41 vs∧OthV kind vs)∧w.grownBy W (some g)∧Mk W base g A n c day fv
section
variable {w W w':World} {base g:Nat} {A:Option Addr} {n c:Nat} {day:Int} {fv:Value} {ab:Nat} {kind:Int}
theorem OSt.step (h:OSt w W base g A n c day fv ab kind) {row:Option Nat} (hg:W.grownBy w' row) (hr:∀ i,row=some i→w.heap.size<i∧i≠ab∧i≠g∧base≤i):OSt w w' base g A n c day fv ab kind:=by
 obtain ⟨h1,⟨vs,h2,h3⟩,h4,h5⟩:=h;exact ⟨h1.grown hg (fun e=>by have:=hr _ e.symm;omega),⟨vs,h2.grown hg (fun e=>by have:=hr _ e.symm;omega),h3⟩,grown_up h4 hg (fun i e hi=>by have:=hr i e;omega),h5.step hg (fun i e=>by have:=hr i e;omega)⟩
theorem OSt.call (h:OSt w W base g A n c day fv ab kind) (hg:W.grownBy w' (some g)) (hM:Mk w' base g A n c day fv) (hne:g<w.heap.size) (hab:g<ab):OSt w w' base g A n c day fv ab kind:=by
 obtain ⟨h1,⟨vs,h2,h3⟩,h4,h5⟩:=h;exact ⟨h1.grown hg (fun e=>by injection e with e;omega),⟨vs,h2.grown hg (fun e=>by injection e with e;omega),h3⟩,grown_up h4 hg (fun _ e _=>e),hM⟩
theorem OSt.put (h:OSt w W base g A n c day fv ab kind) (i:Nat) (v:Value) (hv:v.oneCell'=true) (hi:i≠0) (h7:i=7→∃ x,v=.int .i64 x) (h5:i=5→∃ x,v=.int .i64 x) (hab:w.heap.size<ab) (hgab:g<ab):OSt w (W.setCell ⟨ab,i,none⟩ v) base g A n c day fv ab kind:=by
 obtain ⟨q1,⟨vs,q2,q3⟩,q4,q5⟩:=h;have gs:=grown_set W ab i v;exact ⟨q1.far (by simp;omega) _,⟨_,q2.set i v,q3.set i v hv hi h7 h5⟩,grown_up q4 gs (fun k e hk=>by injection e with e;omega),q5.step gs (fun k e=>by injection e with e;have:=q5.base;omega)⟩
theorem OSt.cell (h:OSt w W base g A n c day fv ab kind) (i:Nat) (hi:i<19):∃ u,W.cell? ⟨ab,i,none⟩=some u:=by
 obtain ⟨_,⟨vs,q2,q3⟩,_⟩:=h;have:i<vs.size:=by rw [q3.1];exact hi
 exact ⟨vs[i],q2.cellAt i _ (Array.getElem?_eq_getElem this)⟩
theorem OSt.frozen (h:OSt w W base g A n c day fv ab kind) (i:Nat):W.frozen? ⟨ab,i,none⟩=false:=by
 obtain ⟨_,⟨vs,q2,_⟩,_⟩:=h;exact q2.frozen i
theorem OSt.lt_ab (h:OSt w W base g A n c day fv ab kind):ab<W.heap.size:=by
 obtain ⟨_,⟨vs,q2,_⟩,_⟩:=h;exact q2.lt
theorem OSt.int7 (h:OSt w W base g A n c day fv ab kind):∃ x,W.cell? ⟨ab,7,none⟩=some (.int .i64 x):=by
 obtain ⟨_,⟨vs,q2,q3⟩,_⟩:=h;obtain ⟨x,hx⟩:=q3.2.2.2.1;exact ⟨x,q2.cellAt 7 _ hx⟩
theorem OSt.int5 (h:OSt w W base g A n c day fv ab kind):∃ x,W.cell? ⟨ab,5,none⟩=some (.int .i64 x):=by
 obtain ⟨_,⟨vs,q2,q3⟩,_⟩:=h;obtain ⟨x,hx⟩:=q3.2.2.2.2;exact ⟨x,q2.cellAt 5 _ hx⟩
end
theorem ofFile_any (k:Int) (hk:1≤k∧k≤21) (w:World) :
  Calls Tryz.prog 140 #[.int .i64 k] w fun e w'=>(∃ b,e=.returned (.bool b))∧w'=w:=by
 have:k=1∨k=2∨k=3∨k=4∨k=5∨k=6∨k=7∨k=8∨k=9∨k=10∨k=11∨k=12∨k=13∨k=14∨k=15∨k=16∨k=17∨k=18∨k=19∨k=20∨k=21:=by omega
 rcases this with rfl | rfl | rfl | rfl | rfl | rfl | rfl | rfl | rfl | rfl | rfl | rfl | rfl | rfl | rfl | rfl | rfl | rfl | rfl | rfl | rfl
 ·go_enter Tryz.func140,Tryz.ntmps140
  go_wp2_with fail;go_ret;exact ⟨⟨_,rfl⟩,rfl⟩
 ·go_enter Tryz.func140,Tryz.ntmps140
  go_wp2_with fail;go_ret;exact ⟨⟨_,rfl⟩,rfl⟩
 ·go_enter Tryz.func140,Tryz.ntmps140
  go_wp2_with fail;go_ret;exact ⟨⟨_,rfl⟩,rfl⟩
 ·go_enter Tryz.func140,Tryz.ntmps140
  go_wp2_with fail;go_ret;exact ⟨⟨_,rfl⟩,rfl⟩
 ·go_enter Tryz.func140,Tryz.ntmps140
  go_wp2_with fail;go_ret;exact ⟨⟨_,rfl⟩,rfl⟩
 ·go_enter Tryz.func140,Tryz.ntmps140
  go_wp2_with fail;go_ret;exact ⟨⟨_,rfl⟩,rfl⟩
 ·go_enter Tryz.func140,Tryz.ntmps140
  go_wp2_with fail;go_ret;exact ⟨⟨_,rfl⟩,rfl⟩
 ·go_enter Tryz.func140,Tryz.ntmps140
  go_wp2_with fail;go_ret;exact ⟨⟨_,rfl⟩,rfl⟩
 ·go_enter Tryz.func140,Tryz.ntmps140
  go_wp2_with fail;go_ret;exact ⟨⟨_,rfl⟩,rfl⟩
 ·go_enter Tryz.func140,Tryz.ntmps140
  go_wp2_with fail;go_ret;exact ⟨⟨_,rfl⟩,rfl⟩
 ·go_enter Tryz.func140,Tryz.ntmps140
  go_wp2_with fail;go_ret;exact ⟨⟨_,rfl⟩,rfl⟩
 ·go_enter Tryz.func140,Tryz.ntmps140
  go_wp2_with fail;go_ret;exact ⟨⟨_,rfl⟩,rfl⟩
 ·go_enter Tryz.func140,Tryz.ntmps140
  go_wp2_with fail;go_ret;exact ⟨⟨_,rfl⟩,rfl⟩
 ·go_enter Tryz.func140,Tryz.ntmps140
  go_wp2_with fail;go_ret;exact ⟨⟨_,rfl⟩,rfl⟩
 ·go_enter Tryz.func140,Tryz.ntmps140
  go_wp2_with fail;go_ret;exact ⟨⟨_,rfl⟩,rfl⟩
 ·go_enter Tryz.func140,Tryz.ntmps140
  go_wp2_with fail;go_ret;exact ⟨⟨_,rfl⟩,rfl⟩
 ·go_enter Tryz.func140,Tryz.ntmps140
  go_wp2_with fail;go_ret;exact ⟨⟨_,rfl⟩,rfl⟩
 ·go_enter Tryz.func140,Tryz.ntmps140
  go_wp2_with fail;go_ret;exact ⟨⟨_,rfl⟩,rfl⟩
 ·go_enter Tryz.func140,Tryz.ntmps140
  go_wp2_with fail;go_ret;exact ⟨⟨_,rfl⟩,rfl⟩
 ·go_enter Tryz.func140,Tryz.ntmps140
  go_wp2_with fail;go_ret;exact ⟨⟨_,rfl⟩,rfl⟩
 ·go_enter Tryz.func140,Tryz.ntmps140
  go_wp2_with fail;go_ret;exact ⟨⟨_,rfl⟩,rfl⟩
def OthRet (w:World) (base g:Nat) (A:Option Addr) (n c:Nat) (day:Int) (fv:Value) (kind:Int) (e:Ending) (w':World):Prop :=
 (∃ vs,e=.returned (.agg vs)∧OthV kind vs)∧w.grownBy w' (some g)∧Mk w' base g A n c day fv
theorem mkother_any {w:World} {base g:Nat} {A:Option Addr} {n c:Nat} {day:Int} {fv:Value} {fl:List Fil} (h:Mk w base g A n c day fv) (hf:OwnM TA [] w base 41 19 fv (fl.flatMap Fil.cells)) (hl13:fl.length≤14) (kind:Int) (hkind:1≤kind∧kind≤21) :
  Calls Tryz.prog 92 #[.pointer (some ⟨g,0,none⟩),.int .i64 kind] w (OthRet w base g A n c day fv kind):=by
 have hlt:=h.lt;have hbase:=h.base;obtain ⟨Af,nf,cf,rfl,hnf,_⟩:=hf.slice;have hfl:=flat_length (l:=fl) (f:=Fil.cells) (k:=19) (fun x _=>x.cells_length)
 obtain rfl:nf=fl.length:=by omega
 have hfg:(Value.slice Af fl.length cf).ownBlock≠some g:=fun e2=>by
  obtain ⟨n',xs,q1,q2⟩:=hf;obtain ⟨⟨at_,hg⟩,_⟩:=h;rcases q1.2 with ⟨e3,_⟩ | ⟨k,cap,cur,e3,_,hb,_⟩
  ·rw [e3] at e2
   cases e2
  ·rw [e3] at e2
   injection e2 with e2
   have e2:k=g:=e2;subst e2;unfold Blk at hg;rw [hb] at hg;injection hg with hg
   injection hg with _ ht
   exact absurd ht (by decide)
 have HPK:=Lib.hid (fil_pick hf (h.hidden (by decide)) hfg)
 have Z0:=Blk.new w 41 zeroA;have G0:=World.grownBy_alloc w (.cells zeroA 41) (some g);have M0:=h.step (World.grownBy_alloc w (.cells zeroA 41) none) (fun _ e=>by cases e)
 have hs0:(w.alloc (.cells zeroA 41)).heap.size=w.heap.size+1:=World.size_alloc ..;clear h hf hfl hfg;go_enter Tryz.func92,Tryz.ntmps92
 go_upto_region 1 with fail;unfold zeroA at Z0 G0 M0 hs0;generalize w.alloc (.cells #[iI 0,iI 0,iI 0,iI 0,iI 0,iI 0,iI 0,iI 0,iI 0,iI 0,iI 0,nN,nN,nN,nN,iI 0,iI 0,nN,nN] 41)=w0 at *;have Yz:=Blk.newAt (t:=41) (cs:=#[iI 0,iI 0,iI 0,iI 0,iI 0,iI 0,iI 0,iI 0,iI 0,iI 0,iI 0,nN,nN,nN,nN,iI 0,iI 0,nN,nN]) hs0;have ga:=World.grownBy_alloc w0 (.cells #[iI 0,iI 0,iI 0,iI 0,iI 0,iI 0,iI 0,iI 0,iI 0,iI 0,iI 0,nN,nN,nN,nN,iI 0,iI 0,nN,nN] 41) none;have Z1:=Z0.grown ga (by simp)
 have G1:=grown_up G0 ga (fun _ e=>by cases e)
 have M1:=M0.step ga (fun _ e=>by cases e)
 clear Z0 G0 M0 ga;go_upto_region 2 with (refine wpList_storeA Yz rfl _ _ rfl rfl rfl _ rfl rfl (by kernel_rfl) ?_;intro w1 Y1 g1)
 have O1:OSt w w1 base g A n c day (.slice Af fl.length cf) (w.heap.size+1) kind :=
  ⟨Z1.grown g1 (fun e=>by injection e with e;omega),⟨_,Y1,rfl,by simp [Value.oneCell'],rfl,⟨0,rfl⟩,⟨0,rfl⟩⟩,grown_up G1 g1 (fun i e hi=>by injection e with e;omega),M1.step g1 (fun i e=>by injection e with e;omega)⟩
 have hab:w.heap.size<w.heap.size+1:=by omega
 clear Z1 G1 M1 Y1 g1 Yz hs0;generalize w.heap.size+1=ab at *;have hgab:g<ab:=by omega
 simp only [Act.put];go_cut [17] (fun u wx=>(∃ bb:Bool,u=.bool bb∧(bb=true→0<fl.length))∧OSt w wx base g A n c day (.slice Af fl.length cf) ab kind)
 case first =>
  have HO1:=Lib.hid O1;obtain ⟨at1,hm1⟩:=O1.2.2.2.1;have hcm:w1.cell? ⟨g,3,none⟩=some (.slice Af fl.length cf):=hm1.cell 3;clear O1 hm1;go_wp2_with fail;refine (ofFile_any kind hkind w1).mono ?_
  rintro e w' ⟨⟨bb,rfl⟩,hw'⟩;have hw':=hw'.symm;subst hw'
  cases bb with
  | false =>
   go_wp2_with fail;go_meet;exact ⟨⟨_,rfl,fun h=>by cases h⟩,HO1.out⟩
  | true =>
   by_cases hn0:0<fl.length
   ·have e0:decide (0<(fl.length:Int))=true:=decide_eq_true (by omega)
    go_wp2_with fail;go_meet;exact ⟨⟨_,rfl,fun _=>hn0⟩,HO1.out⟩
   ·have e0:decide (0<(fl.length:Int))=false:=decide_eq_false (by omega)
    go_wp2_with fail;go_meet;exact ⟨⟨_,rfl,fun h=>by cases h⟩,HO1.out⟩
 case rest =>
  obtain ⟨⟨bb,rfl,hbb⟩,O2⟩:=hcut;obtain ⟨w2,rfl⟩:∃ z:World,z=wc:=⟨_,rfl⟩;clear O1;rename_i hKK;refine hKK _ _ ?_
  clear hKK;go_cut [] (fun wx=>OSt w wx base g A n c day (.slice Af fl.length cf) ab kind)
  case first =>
   cases bb with
   | false =>
    go_wp2_with fail;go_meet;exact O2
   | true =>
    have hn0:=hbb rfl;go_upto_region 3 with fail;refine wp_region_held_drew (S:=(fun W=>OSt w W base g A n c day (.slice Af fl.length cf) ab kind)) (by kernel_rfl) ?_ (fun hHeld=>?_)
    ·first | done | ((try dsimp only);exact O2.step (grown_drew w2 none) (fun _ e=>by cases e))
    clear O2;refine tq 0 18 rfl ?_
    refine tq 1 19 rfl ?_
    refine tq 2 20 rfl ?_
    refine tq 3 21 rfl ?_ (hy:=by intro w' hSw;(try dsimp only at hSw);obtain ⟨at_,hg⟩:=hSw.2.2.2.1;have hc:=hg.c4;go_simp;try (with_reducible rfl))
    refine tq 4 22 rfl ?_
    refine tq 5 23 rfl ?_
    refine tq 6 24 rfl ?_
    refine tq 7 25 rfl ?_
    refine tq 8 26 rfl ?_ (hy:=by intro w' hSw;(try dsimp only at hSw);obtain ⟨at_,hg⟩:=hSw.2.2.2.1;have hc:=hg.c4;go_simp;try (with_reducible rfl))
    refine tq 9 27 rfl ?_
    refine rd 10 (some 28) rfl fun K hK=>?_
    go_simp
    (refine (next_any hHeld.2.2.2 (fl.length:Int) (by omega) (by omega)).mono ?_;rintro e w6 ⟨⟨r,rfl,hr0,hr1⟩,g6,M6⟩)
    refine hK.out _ _ (hHeld.call g6 M6 hlt hgab) fun hHeld=>?_
    clear hK K;(try simp only [pS,pB,pZ,pC]);obtain ⟨kk,rfl⟩:∃ kk:Nat,r=(kk:Int):=⟨r.toNat,by omega⟩
    have hkk:kk<fl.length:=by omega
    obtain ⟨fb,fc2,pd,pc,pe,hfe,hfp⟩:=HPK.out kk hkk;injection hfe with hfe _ _
    subst hfe;have HP:=Lib.hid hfp;clear hfp hr0 hr1;refine tq 11 29 rfl ?_
    refine tq 12 30 rfl ?_
    refine tq 13 31 rfl ?_ (hy:=by intro w' hSw;(try dsimp only at hSw);have hc:w'.cell? ⟨fb,kk * 19+3,none⟩=some (.int .i64 fl[kk].file):=(HP.out w' hSw.2.2.1).1 3 _ rfl;go_simp;try (with_reducible rfl))
    refine tq 14 32 rfl ?_
    obtain ⟨uo,hco⟩:=hHeld.cell 3 (by omega)
    have hfo:=hHeld.frozen 3;refine rd 15 none rfl fun K hK=>?_
    go_simp;refine hK.out _ _ ?_ (fun hHeld=>?_)
    ·exact hHeld.put 3 _ rfl (by omega) (by omega) (by omega) hab hgab
    clear hK K hco hfo;(try simp only [Act.put]);refine dn ?_
    go_wp2_with fail;go_meet;exact hHeld
  case rest =>
   have O3:=hcut;obtain ⟨w3,rfl⟩:∃ z:World,z=wc:=⟨_,rfl⟩;have HO:=Lib.hid O3;clear hcut O2 O3 hbb;have hcases:kind=1∨kind=2∨kind=3∨kind=4∨kind=5∨kind=6∨kind=7∨kind=8∨kind=9∨kind=10∨kind=11∨kind=12∨kind=13∨kind=14∨kind=15∨kind=16∨kind=17∨kind=18∨kind=19∨kind=20∨kind=21:=by omega
   clear hkind;rcases hcases with rfl | rfl | rfl | rfl | rfl | rfl | rfl | rfl | rfl | rfl | rfl | rfl | rfl | rfl | rfl | rfl | rfl | rfl | rfl | rfl | rfl
   ·skip
    go_upto_region 52 with fail;obtain ⟨ZR,⟨vs,YA,hv⟩,G9,M9⟩:=HO.out;clear HO;have hvs:=hv.1;have hva:=hv.all;go_wp2_with (first | (refine wpList_loadA YA hvs _ rfl rfl rfl ?_) | (refine wpList_storeA ZR rfl _ _ rfl rfl rfl _ rfl hvs hva ?_;intro wz Yz gz))
    exact bodyPost_ret (results_A rfl _ rfl Yz hvs) rfl ⟨⟨vs,rfl,hv⟩,grown_up G9 gz (fun i e hi=>by injection e with e;omega),M9.step gz (fun i e=>by injection e with e;omega)⟩
   ·skip
    go_upto_region 52 with fail;obtain ⟨ZR,⟨vs,YA,hv⟩,G9,M9⟩:=HO.out;clear HO;have hvs:=hv.1;have hva:=hv.all;go_wp2_with (first | (refine wpList_loadA YA hvs _ rfl rfl rfl ?_) | (refine wpList_storeA ZR rfl _ _ rfl rfl rfl _ rfl hvs hva ?_;intro wz Yz gz))
    exact bodyPost_ret (results_A rfl _ rfl Yz hvs) rfl ⟨⟨vs,rfl,hv⟩,grown_up G9 gz (fun i e hi=>by injection e with e;omega),M9.step gz (fun i e=>by injection e with e;omega)⟩
   ·skip
    go_upto_region 7 with fail;go_wp2_with fail;refine (mkclaims_any HO.out.2.2.2).mono ?_
    rintro e v1 ⟨⟨u,clm,rfl,hrep,hgen⟩,gN,MN⟩;obtain ⟨Ac,cc,rfl,_,_⟩:=hrep.out.claims;have HO:=Lib.hid (HO.out.call gN MN hlt hgab);clear gN MN hrep hgen;obtain ⟨uo13,hco13⟩:=HO.out.cell 13 (by omega)
    have hfo13:=HO.out.frozen 13;go_upto_region 52 with fail;clear hco13 hfo13;have HO:=Lib.hid (HO.out.put 13 (.slice Ac clm.length cc) rfl (by omega) (by omega) (by omega) hab hgab)
    generalize v1.setCell ⟨ab,13,none⟩ (.slice Ac clm.length cc)=v2 at *;obtain ⟨ZR,⟨vs,YA,hv⟩,G9,M9⟩:=HO.out;clear HO;have hvs:=hv.1;have hva:=hv.all;go_wp2_with (first | (refine wpList_loadA YA hvs _ rfl rfl rfl ?_) | (refine wpList_storeA ZR rfl _ _ rfl rfl rfl _ rfl hvs hva ?_;intro wz Yz gz))
    exact bodyPost_ret (results_A rfl _ rfl Yz hvs) rfl ⟨⟨vs,rfl,hv⟩,grown_up G9 gz (fun i e hi=>by injection e with e;omega),M9.step gz (fun i e=>by injection e with e;omega)⟩
   ·skip
    go_upto_region 9 with fail;go_wp2_with fail;refine (next_any HO.out.2.2.2 2 (by omega) (by omega)).mono ?_
    rintro e v3 ⟨⟨r,rfl,hr0,hr1⟩,gN,MN⟩;have HO:=Lib.hid (HO.out.call gN MN hlt hgab);clear gN MN;obtain ⟨uo5,hco5⟩:=HO.out.cell 5 (by omega)
    have hfo5:=HO.out.frozen 5;go_upto_region 10 with fail;clear hco5 hfo5;have HO:=Lib.hid (HO.out.put 5 (.int .i64 (1+r)) rfl (by omega) (by omega) (fun _=>⟨_,rfl⟩) hab hgab)
    generalize v3.setCell ⟨ab,5,none⟩ (.int .i64 (1+r))=v4 at *;have RL:=Blk.new v4 3 (ints [0,1,2,3,4,5,9,10,11]).toArray;have gl:=World.grownBy_alloc v4 (.cells (ints [0,1,2,3,4,5,9,10,11]).toArray 3) none;have HOl:=Lib.hid (HO.out.step gl (fun _ e=>by cases e))
    have hgl:g<v4.heap.size:=HO.out.2.2.2.lt;clear HO gl;go_wp2_with fail;refine (next_any HOl.out.2.2.2 9 (by omega) (by omega)).mono ?_
    rintro e v5 ⟨⟨r,rfl,hr0,hr1⟩,gN,MN⟩;obtain ⟨ii,rfl⟩:∃ ii:Nat,r=(ii:Int):=⟨r.toNat,by omega⟩
    have hii:ii<([0,1,2,3,4,5,9,10,11]:List Int).length:=by show ii<9;omega
    have RL:=RL.grown gN (fun e=>by injection e with e;omega)
    have hcl:v5.cell? ⟨v4.heap.size,ii,none⟩=some (.int .i64 ([0,1,2,3,4,5,9,10,11]:List Int)[ii]):=RL.cellAt ii _ (by rw [List.getElem?_toArray];exact ints_get [0,1,2,3,4,5,9,10,11] ii hii)
    have HO:=Lib.hid (HOl.out.call gN MN hlt hgab);clear gN MN HOl RL;generalize ([0,1,2,3,4,5,9,10,11]:List Int)[ii]=xv at *;obtain ⟨uo7,hco7⟩:=HO.out.cell 7 (by omega)
    have hfo7:=HO.out.frozen 7;go_upto_region 11 with fail;clear hco7 hfo7;clear hcl hii hgl hr0 hr1;have HO:=Lib.hid (HO.out.put 7 (.int .i64 xv) rfl (by omega) (fun _=>⟨_,rfl⟩) (by omega) hab hgab)
    generalize v5.setCell ⟨ab,7,none⟩ (.int .i64 xv)=v6 at *;have RL:=Blk.new v6 3 (ints [100,50,200,150,30,1000]).toArray;have gl:=World.grownBy_alloc v6 (.cells (ints [100,50,200,150,30,1000]).toArray 3) none;have HOl:=Lib.hid (HO.out.step gl (fun _ e=>by cases e))
    have hgl:g<v6.heap.size:=HO.out.2.2.2.lt;clear HO gl;go_wp2_with fail;refine (next_any HOl.out.2.2.2 6 (by omega) (by omega)).mono ?_
    rintro e v7 ⟨⟨r,rfl,hr0,hr1⟩,gN,MN⟩;obtain ⟨ii,rfl⟩:∃ ii:Nat,r=(ii:Int):=⟨r.toNat,by omega⟩
    have hii:ii<([100,50,200,150,30,1000]:List Int).length:=by show ii<6;omega
    have RL:=RL.grown gN (fun e=>by injection e with e;omega)
    have hcl:v7.cell? ⟨v6.heap.size,ii,none⟩=some (.int .i64 ([100,50,200,150,30,1000]:List Int)[ii]):=RL.cellAt ii _ (by rw [List.getElem?_toArray];exact ints_get [100,50,200,150,30,1000] ii hii)
    have HO:=Lib.hid (HOl.out.call gN MN hlt hgab);clear gN MN HOl RL;generalize ([100,50,200,150,30,1000]:List Int)[ii]=xv at *;obtain ⟨uo8,hco8⟩:=HO.out.cell 8 (by omega)
    have hfo8:=HO.out.frozen 8;go_upto_region 12 with fail;clear hco8 hfo8;clear hcl hii hgl hr0 hr1;have HO:=Lib.hid (HO.out.put 8 (.int .i64 xv) rfl (by omega) (by omega) (by omega) hab hgab)
    generalize v7.setCell ⟨ab,8,none⟩ (.int .i64 xv)=v8 at *;go_wp2_with fail;refine (next_any HO.out.2.2.2 9 (by omega) (by omega)).mono ?_
    rintro e v9 ⟨⟨r,rfl,hr0,hr1⟩,gN,MN⟩;have HO:=Lib.hid (HO.out.call gN MN hlt hgab);clear gN MN;by_cases hr:r=0
    ·subst hr
     obtain ⟨uo6,hco6⟩:=HO.out.cell 6 (by omega)
     have hfo6:=HO.out.frozen 6;go_upto_region 52 with fail;clear hco6 hfo6;have HO:=Lib.hid (HO.out.put 6 (.int .i64 1) rfl (by omega) (by omega) (by omega) hab hgab)
     generalize v9.setCell ⟨ab,6,none⟩ (.int .i64 1)=v10 at *;obtain ⟨ZR,⟨vs,YA,hv⟩,G9,M9⟩:=HO.out;clear HO;have hvs:=hv.1;have hva:=hv.all;go_wp2_with (first | (refine wpList_loadA YA hvs _ rfl rfl rfl ?_) | (refine wpList_storeA ZR rfl _ _ rfl rfl rfl _ rfl hvs hva ?_;intro wz Yz gz))
     exact bodyPost_ret (results_A rfl _ rfl Yz hvs) rfl ⟨⟨vs,rfl,hv⟩,grown_up G9 gz (fun i e hi=>by injection e with e;omega),M9.step gz (fun i e=>by injection e with e;omega)⟩
    ·have e1:(r == 0)=false:=by simpa using hr
     go_upto_region 52 with fail;obtain ⟨ZR,⟨vs,YA,hv⟩,G9,M9⟩:=HO.out;clear HO;have hvs:=hv.1;have hva:=hv.all;go_wp2_with (first | (refine wpList_loadA YA hvs _ rfl rfl rfl ?_) | (refine wpList_storeA ZR rfl _ _ rfl rfl rfl _ rfl hvs hva ?_;intro wz Yz gz))
     exact bodyPost_ret (results_A rfl _ rfl Yz hvs) rfl ⟨⟨vs,rfl,hv⟩,grown_up G9 gz (fun i e hi=>by injection e with e;omega),M9.step gz (fun i e=>by injection e with e;omega)⟩
   ·skip
    go_upto_region 15 with fail;go_wp2_with fail;refine (next_any HO.out.2.2.2 2 (by omega) (by omega)).mono ?_
    rintro e v11 ⟨⟨r,rfl,hr0,hr1⟩,gN,MN⟩;have HO:=Lib.hid (HO.out.call gN MN hlt hgab);clear gN MN;obtain ⟨uo5,hco5⟩:=HO.out.cell 5 (by omega)
    have hfo5:=HO.out.frozen 5;go_upto_region 16 with fail;clear hco5 hfo5;have HO:=Lib.hid (HO.out.put 5 (.int .i64 (1+r)) rfl (by omega) (by omega) (fun _=>⟨_,rfl⟩) hab hgab)
    generalize v11.setCell ⟨ab,5,none⟩ (.int .i64 (1+r))=v12 at *;go_wp2_with fail;refine (next_any HO.out.2.2.2 2 (by omega) (by omega)).mono ?_
    rintro e v13 ⟨⟨r,rfl,hr0,hr1⟩,gN,MN⟩;have HO:=Lib.hid (HO.out.call gN MN hlt hgab);clear gN MN;obtain ⟨uo7,hco7⟩:=HO.out.cell 7 (by omega)
    have hfo7:=HO.out.frozen 7;go_upto_region 52 with fail;clear hco7 hfo7;have HO:=Lib.hid (HO.out.put 7 (.int .i64 r) rfl (by omega) (fun _=>⟨_,rfl⟩) (by omega) hab hgab)
    generalize v13.setCell ⟨ab,7,none⟩ (.int .i64 r)=v14 at *;obtain ⟨ZR,⟨vs,YA,hv⟩,G9,M9⟩:=HO.out;clear HO;have hvs:=hv.1;have hva:=hv.all;go_wp2_with (first | (refine wpList_loadA YA hvs _ rfl rfl rfl ?_) | (refine wpList_storeA ZR rfl _ _ rfl rfl rfl _ rfl hvs hva ?_;intro wz Yz gz))
    exact bodyPost_ret (results_A rfl _ rfl Yz hvs) rfl ⟨⟨vs,rfl,hv⟩,grown_up G9 gz (fun i e hi=>by injection e with e;omega),M9.step gz (fun i e=>by injection e with e;omega)⟩
   ·skip
    go_upto_region 19 with fail;go_wp2_with fail;refine (next_any HO.out.2.2.2 3 (by omega) (by omega)).mono ?_
    rintro e v15 ⟨⟨r,rfl,hr0,hr1⟩,gN,MN⟩;have HO:=Lib.hid (HO.out.call gN MN hlt hgab);clear gN MN;obtain ⟨uo7,hco7⟩:=HO.out.cell 7 (by omega)
    have hfo7:=HO.out.frozen 7;go_upto_region 52 with fail;clear hco7 hfo7;have HO:=Lib.hid (HO.out.put 7 (.int .i64 r) rfl (by omega) (fun _=>⟨_,rfl⟩) (by omega) hab hgab)
    generalize v15.setCell ⟨ab,7,none⟩ (.int .i64 r)=v16 at *;obtain ⟨ZR,⟨vs,YA,hv⟩,G9,M9⟩:=HO.out;clear HO;have hvs:=hv.1;have hva:=hv.all;go_wp2_with (first | (refine wpList_loadA YA hvs _ rfl rfl rfl ?_) | (refine wpList_storeA ZR rfl _ _ rfl rfl rfl _ rfl hvs hva ?_;intro wz Yz gz))
    exact bodyPost_ret (results_A rfl _ rfl Yz hvs) rfl ⟨⟨vs,rfl,hv⟩,grown_up G9 gz (fun i e hi=>by injection e with e;omega),M9.step gz (fun i e=>by injection e with e;omega)⟩
   ·skip
    go_upto_region 19 with fail;go_wp2_with fail;refine (next_any HO.out.2.2.2 3 (by omega) (by omega)).mono ?_
    rintro e v17 ⟨⟨r,rfl,hr0,hr1⟩,gN,MN⟩;have HO:=Lib.hid (HO.out.call gN MN hlt hgab);clear gN MN;obtain ⟨uo7,hco7⟩:=HO.out.cell 7 (by omega)
    have hfo7:=HO.out.frozen 7;go_upto_region 52 with fail;clear hco7 hfo7;have HO:=Lib.hid (HO.out.put 7 (.int .i64 r) rfl (by omega) (fun _=>⟨_,rfl⟩) (by omega) hab hgab)
    generalize v17.setCell ⟨ab,7,none⟩ (.int .i64 r)=v18 at *;obtain ⟨ZR,⟨vs,YA,hv⟩,G9,M9⟩:=HO.out;clear HO;have hvs:=hv.1;have hva:=hv.all;go_wp2_with (first | (refine wpList_loadA YA hvs _ rfl rfl rfl ?_) | (refine wpList_storeA ZR rfl _ _ rfl rfl rfl _ rfl hvs hva ?_;intro wz Yz gz))
    exact bodyPost_ret (results_A rfl _ rfl Yz hvs) rfl ⟨⟨vs,rfl,hv⟩,grown_up G9 gz (fun i e hi=>by injection e with e;omega),M9.step gz (fun i e=>by injection e with e;omega)⟩
   ·skip
    go_upto_region 21 with fail;go_wp2_with fail;refine (next_any HO.out.2.2.2 3 (by omega) (by omega)).mono ?_
    rintro e v19 ⟨⟨r,rfl,hr0,hr1⟩,gN,MN⟩;have HO:=Lib.hid (HO.out.call gN MN hlt hgab);clear gN MN;obtain ⟨uo7,hco7⟩:=HO.out.cell 7 (by omega)
    have hfo7:=HO.out.frozen 7;go_upto_region 22 with fail;clear hco7 hfo7;have HO:=Lib.hid (HO.out.put 7 (.int .i64 r) rfl (by omega) (fun _=>⟨_,rfl⟩) (by omega) hab hgab)
    generalize v19.setCell ⟨ab,7,none⟩ (.int .i64 r)=v20 at *;go_wp2_with fail;refine (next_any HO.out.2.2.2 4 (by omega) (by omega)).mono ?_
    rintro e v21 ⟨⟨r,rfl,hr0,hr1⟩,gN,MN⟩;have HO:=Lib.hid (HO.out.call gN MN hlt hgab);clear gN MN;obtain ⟨uo8,hco8⟩:=HO.out.cell 8 (by omega)
    have hfo8:=HO.out.frozen 8;go_upto_region 52 with fail;clear hco8 hfo8;have HO:=Lib.hid (HO.out.put 8 (.int .i64 (1+r)) rfl (by omega) (by omega) (by omega) hab hgab)
    generalize v21.setCell ⟨ab,8,none⟩ (.int .i64 (1+r))=v22 at *;obtain ⟨ZR,⟨vs,YA,hv⟩,G9,M9⟩:=HO.out;clear HO;have hvs:=hv.1;have hva:=hv.all;go_wp2_with (first | (refine wpList_loadA YA hvs _ rfl rfl rfl ?_) | (refine wpList_storeA ZR rfl _ _ rfl rfl rfl _ rfl hvs hva ?_;intro wz Yz gz))
    exact bodyPost_ret (results_A rfl _ rfl Yz hvs) rfl ⟨⟨vs,rfl,hv⟩,grown_up G9 gz (fun i e hi=>by injection e with e;omega),M9.step gz (fun i e=>by injection e with e;omega)⟩
   ·skip
    go_upto_region 24 with fail;go_wp2_with fail;refine (next_any HO.out.2.2.2 60 (by omega) (by omega)).mono ?_
    rintro e v23 ⟨⟨r,rfl,hr0,hr1⟩,gN,MN⟩;have HO:=Lib.hid (HO.out.call gN MN hlt hgab);clear gN MN;obtain ⟨uo7,hco7⟩:=HO.out.cell 7 (by omega)
    have hfo7:=HO.out.frozen 7;go_upto_region 52 with fail;clear hco7 hfo7;have HO:=Lib.hid (HO.out.put 7 (.int .i64 r) rfl (by omega) (fun _=>⟨_,rfl⟩) (by omega) hab hgab)
    generalize v23.setCell ⟨ab,7,none⟩ (.int .i64 r)=v24 at *;obtain ⟨ZR,⟨vs,YA,hv⟩,G9,M9⟩:=HO.out;clear HO;have hvs:=hv.1;have hva:=hv.all;go_wp2_with (first | (refine wpList_loadA YA hvs _ rfl rfl rfl ?_) | (refine wpList_storeA ZR rfl _ _ rfl rfl rfl _ rfl hvs hva ?_;intro wz Yz gz))
    exact bodyPost_ret (results_A rfl _ rfl Yz hvs) rfl ⟨⟨vs,rfl,hv⟩,grown_up G9 gz (fun i e hi=>by injection e with e;omega),M9.step gz (fun i e=>by injection e with e;omega)⟩
   ·skip
    go_upto_region 52 with fail;obtain ⟨ZR,⟨vs,YA,hv⟩,G9,M9⟩:=HO.out;clear HO;have hvs:=hv.1;have hva:=hv.all;go_wp2_with (first | (refine wpList_loadA YA hvs _ rfl rfl rfl ?_) | (refine wpList_storeA ZR rfl _ _ rfl rfl rfl _ rfl hvs hva ?_;intro wz Yz gz))
    exact bodyPost_ret (results_A rfl _ rfl Yz hvs) rfl ⟨⟨vs,rfl,hv⟩,grown_up G9 gz (fun i e hi=>by injection e with e;omega),M9.step gz (fun i e=>by injection e with e;omega)⟩
   ·skip
    go_upto_region 52 with fail;obtain ⟨ZR,⟨vs,YA,hv⟩,G9,M9⟩:=HO.out;clear HO;have hvs:=hv.1;have hva:=hv.all;go_wp2_with (first | (refine wpList_loadA YA hvs _ rfl rfl rfl ?_) | (refine wpList_storeA ZR rfl _ _ rfl rfl rfl _ rfl hvs hva ?_;intro wz Yz gz))
    exact bodyPost_ret (results_A rfl _ rfl Yz hvs) rfl ⟨⟨vs,rfl,hv⟩,grown_up G9 gz (fun i e hi=>by injection e with e;omega),M9.step gz (fun i e=>by injection e with e;omega)⟩
   ·skip
    go_upto_region 27 with fail;go_wp2_with fail;refine (next_any HO.out.2.2.2 4 (by omega) (by omega)).mono ?_
    rintro e v25 ⟨⟨r,rfl,hr0,hr1⟩,gN,MN⟩;have HO:=Lib.hid (HO.out.call gN MN hlt hgab);clear gN MN;obtain ⟨uo5,hco5⟩:=HO.out.cell 5 (by omega)
    have hfo5:=HO.out.frozen 5;go_upto_region 52 with fail;clear hco5 hfo5;have HO:=Lib.hid (HO.out.put 5 (.int .i64 (1+r)) rfl (by omega) (by omega) (fun _=>⟨_,rfl⟩) hab hgab)
    generalize v25.setCell ⟨ab,5,none⟩ (.int .i64 (1+r))=v26 at *;obtain ⟨ZR,⟨vs,YA,hv⟩,G9,M9⟩:=HO.out;clear HO;have hvs:=hv.1;have hva:=hv.all;go_wp2_with (first | (refine wpList_loadA YA hvs _ rfl rfl rfl ?_) | (refine wpList_storeA ZR rfl _ _ rfl rfl rfl _ rfl hvs hva ?_;intro wz Yz gz))
    exact bodyPost_ret (results_A rfl _ rfl Yz hvs) rfl ⟨⟨vs,rfl,hv⟩,grown_up G9 gz (fun i e hi=>by injection e with e;omega),M9.step gz (fun i e=>by injection e with e;omega)⟩
   ·skip
    go_upto_region 29 with fail;go_wp2_with fail;refine (next_any HO.out.2.2.2 3 (by omega) (by omega)).mono ?_
    rintro e v27 ⟨⟨r,rfl,hr0,hr1⟩,gN,MN⟩;have HO:=Lib.hid (HO.out.call gN MN hlt hgab);clear gN MN;obtain ⟨uo7,hco7⟩:=HO.out.cell 7 (by omega)
    have hfo7:=HO.out.frozen 7;go_upto_region 30 with fail;clear hco7 hfo7;have HO:=Lib.hid (HO.out.put 7 (.int .i64 r) rfl (by omega) (fun _=>⟨_,rfl⟩) (by omega) hab hgab)
    generalize v27.setCell ⟨ab,7,none⟩ (.int .i64 r)=v28 at *;go_wp2_with fail;refine (next_any HO.out.2.2.2 2 (by omega) (by omega)).mono ?_
    rintro e v29 ⟨⟨r,rfl,hr0,hr1⟩,gN,MN⟩;have HO:=Lib.hid (HO.out.call gN MN hlt hgab);clear gN MN;obtain ⟨uo6,hco6⟩:=HO.out.cell 6 (by omega)
    have hfo6:=HO.out.frozen 6;go_upto_region 31 with fail;clear hco6 hfo6;have HO:=Lib.hid (HO.out.put 6 (.int .i64 r) rfl (by omega) (by omega) (by omega) hab hgab)
    generalize v29.setCell ⟨ab,6,none⟩ (.int .i64 r)=v30 at *;obtain ⟨x7,hx7⟩:=HO.out.int7;by_cases h2:x7=2
    ·subst h2
     go_upto_region 32 with fail;clear hx7;go_wp2_with fail;refine (mkclaims_any HO.out.2.2.2).mono ?_
     rintro e v31 ⟨⟨u,clm,rfl,hrep,hgen⟩,gN,MN⟩;obtain ⟨Ac,cc,rfl,_,_⟩:=hrep.out.claims;have HO:=Lib.hid (HO.out.call gN MN hlt hgab);clear gN MN hrep hgen;obtain ⟨uo13,hco13⟩:=HO.out.cell 13 (by omega)
     have hfo13:=HO.out.frozen 13;go_upto_region 52 with fail;clear hco13 hfo13;have HO:=Lib.hid (HO.out.put 13 (.slice Ac clm.length cc) rfl (by omega) (by omega) (by omega) hab hgab)
     generalize v31.setCell ⟨ab,13,none⟩ (.slice Ac clm.length cc)=v32 at *;obtain ⟨ZR,⟨vs,YA,hv⟩,G9,M9⟩:=HO.out;clear HO;have hvs:=hv.1;have hva:=hv.all;go_wp2_with (first | (refine wpList_loadA YA hvs _ rfl rfl rfl ?_) | (refine wpList_storeA ZR rfl _ _ rfl rfl rfl _ rfl hvs hva ?_;intro wz Yz gz))
     exact bodyPost_ret (results_A rfl _ rfl Yz hvs) rfl ⟨⟨vs,rfl,hv⟩,grown_up G9 gz (fun i e hi=>by injection e with e;omega),M9.step gz (fun i e=>by injection e with e;omega)⟩
    ·have e1:(x7 == 2)=false:=by simpa using h2
     go_upto_region 52 with fail;obtain ⟨ZR,⟨vs,YA,hv⟩,G9,M9⟩:=HO.out;clear HO;have hvs:=hv.1;have hva:=hv.all;go_wp2_with (first | (refine wpList_loadA YA hvs _ rfl rfl rfl ?_) | (refine wpList_storeA ZR rfl _ _ rfl rfl rfl _ rfl hvs hva ?_;intro wz Yz gz))
     exact bodyPost_ret (results_A rfl _ rfl Yz hvs) rfl ⟨⟨vs,rfl,hv⟩,grown_up G9 gz (fun i e hi=>by injection e with e;omega),M9.step gz (fun i e=>by injection e with e;omega)⟩
   ·skip
    go_upto_region 27 with fail;go_wp2_with fail;refine (next_any HO.out.2.2.2 4 (by omega) (by omega)).mono ?_
    rintro e v33 ⟨⟨r,rfl,hr0,hr1⟩,gN,MN⟩;have HO:=Lib.hid (HO.out.call gN MN hlt hgab);clear gN MN;obtain ⟨uo5,hco5⟩:=HO.out.cell 5 (by omega)
    have hfo5:=HO.out.frozen 5;go_upto_region 52 with fail;clear hco5 hfo5;have HO:=Lib.hid (HO.out.put 5 (.int .i64 (1+r)) rfl (by omega) (by omega) (fun _=>⟨_,rfl⟩) hab hgab)
    generalize v33.setCell ⟨ab,5,none⟩ (.int .i64 (1+r))=v34 at *;obtain ⟨ZR,⟨vs,YA,hv⟩,G9,M9⟩:=HO.out;clear HO;have hvs:=hv.1;have hva:=hv.all;go_wp2_with (first | (refine wpList_loadA YA hvs _ rfl rfl rfl ?_) | (refine wpList_storeA ZR rfl _ _ rfl rfl rfl _ rfl hvs hva ?_;intro wz Yz gz))
    exact bodyPost_ret (results_A rfl _ rfl Yz hvs) rfl ⟨⟨vs,rfl,hv⟩,grown_up G9 gz (fun i e hi=>by injection e with e;omega),M9.step gz (fun i e=>by injection e with e;omega)⟩
   ·skip
    go_upto_region 7 with fail;go_wp2_with fail;refine (mkclaims_any HO.out.2.2.2).mono ?_
    rintro e v35 ⟨⟨u,clm,rfl,hrep,hgen⟩,gN,MN⟩;obtain ⟨Ac,cc,rfl,_,_⟩:=hrep.out.claims;have HO:=Lib.hid (HO.out.call gN MN hlt hgab);clear gN MN hrep hgen;obtain ⟨uo13,hco13⟩:=HO.out.cell 13 (by omega)
    have hfo13:=HO.out.frozen 13;go_upto_region 52 with fail;clear hco13 hfo13;have HO:=Lib.hid (HO.out.put 13 (.slice Ac clm.length cc) rfl (by omega) (by omega) (by omega) hab hgab)
    generalize v35.setCell ⟨ab,13,none⟩ (.slice Ac clm.length cc)=v36 at *;obtain ⟨ZR,⟨vs,YA,hv⟩,G9,M9⟩:=HO.out;clear HO;have hvs:=hv.1;have hva:=hv.all;go_wp2_with (first | (refine wpList_loadA YA hvs _ rfl rfl rfl ?_) | (refine wpList_storeA ZR rfl _ _ rfl rfl rfl _ rfl hvs hva ?_;intro wz Yz gz))
    exact bodyPost_ret (results_A rfl _ rfl Yz hvs) rfl ⟨⟨vs,rfl,hv⟩,grown_up G9 gz (fun i e hi=>by injection e with e;omega),M9.step gz (fun i e=>by injection e with e;omega)⟩
   ·skip
    go_upto_region 34 with fail;go_wp2_with fail;refine (next_any HO.out.2.2.2 3 (by omega) (by omega)).mono ?_
    rintro e v37 ⟨⟨r,rfl,hr0,hr1⟩,gN,MN⟩;have HO:=Lib.hid (HO.out.call gN MN hlt hgab);clear gN MN;obtain ⟨uo5,hco5⟩:=HO.out.cell 5 (by omega)
    have hfo5:=HO.out.frozen 5;go_upto_region 35 with fail;clear hco5 hfo5;have HO:=Lib.hid (HO.out.put 5 (.int .i64 (1+r)) rfl (by omega) (by omega) (fun _=>⟨_,rfl⟩) hab hgab)
    generalize v37.setCell ⟨ab,5,none⟩ (.int .i64 (1+r))=v38 at *;go_cut [] (fun wx=>OSt w wx base g A n c day (.slice Af fl.length cf) ab 16)
    case first =>
     obtain ⟨x5,hx5⟩:=HO.out.int5;refine wp_region_held_drew (S:=(fun W=>OSt w W base g A n c day (.slice Af fl.length cf) ab 16∧W.cell? ⟨ab,5,none⟩=some (.int .i64 x5))) (by kernel_rfl) ?_ (fun hHeld=>?_)
     ·first | done | ((try dsimp only);exact ⟨HO.out.step (grown_drew v38 none) (fun _ e=>by cases e),hx5⟩)
     clear HO hx5;refine tq 0 118 rfl ?_
     refine th 1 119 rfl (fun _ hSw=>hSw.2) ?_
     refine tq 2 120 rfl ?_
     refine tq 3 121 rfl ?_
     have hab3:=hHeld.1.lt_ab;refine rd 4 (some 122) rfl fun K hK=>?_
     go_simp
     (refine (next_any hHeld.1.2.2.2 2 (by omega) (by omega)).mono ?_;rintro e v39 ⟨⟨r,rfl,hr0,hr1⟩,gN,MN⟩)
     refine hK.out _ _ ?_ (fun hHeld=>?_)
     ·first | done | ((try dsimp only);exact ⟨hHeld.1.call gN MN hlt hgab,(World.cell?_of_block (a:=⟨ab,5,none⟩) (gN.block ab hab3 (fun e=>by injection e with e;omega))).trans hHeld.2⟩)
     clear hK K;(try simp only [pS,pB,pZ,pC]);refine tq 5 123 rfl ?_
     refine tq 6 124 rfl ?_
     obtain ⟨uo6,hco6⟩:=hHeld.1.cell 6 (by omega)
     have hfo6:=hHeld.1.frozen 6;refine rd 7 none rfl fun K hK=>?_
     go_simp;refine hK.out _ _ ?_ (fun hHeld=>?_)
     ·exact ⟨hHeld.1.put 6 _ rfl (by omega) (by omega) (by omega) hab hgab,(World.cell?_setCell_other _ _ _ _ (fun e=>by injection e with _ e _;omega)).trans hHeld.2⟩
     clear hK K hco6 hfo6;(try simp only [Act.put]);refine dn ?_
     go_wp2_with fail;go_meet;exact hHeld.1
    case rest =>
     clear HO;have HO:=Lib.hid hcut;obtain ⟨vP,rfl⟩:∃ z:World,z=wc:=⟨_,rfl⟩;clear hcut;go_upto_region 36 with fail;have RL:=Blk.new vP 31 (ints [1,1,1,2,1,3,2,3]).toArray;have gl:=World.grownBy_alloc vP (.cells (ints [1,1,1,2,1,3,2,3]).toArray 31) none;have HOl:=Lib.hid (HO.out.step gl (fun _ e=>by cases e))
     have hgl:g<vP.heap.size:=HO.out.2.2.2.lt;clear HO gl;go_wp2_with fail;refine (next_any HOl.out.2.2.2 4 (by omega) (by omega)).mono ?_
     rintro e v40 ⟨⟨r,rfl,hr0,hr1⟩,gN,MN⟩;obtain ⟨ii,rfl⟩:∃ ii:Nat,r=(ii:Int):=⟨r.toNat,by omega⟩
     have RL:=RL.grown gN (fun e=>by injection e with e;omega)
     have hii:ii<4:=by omega
     have hcl0:v40.cell? ⟨vP.heap.size,ii * 2,none⟩=some (.int .i64 (([1,1,1,2,1,3,2,3]:List Int)[ii * 2]'(by show ii * 2<8;omega))):=RL.cellAt (ii * 2) _ (by rw [List.getElem?_toArray];exact ints_get [1,1,1,2,1,3,2,3] (ii * 2) (by show ii * 2<8;omega))
     have hcl1:v40.cell? ⟨vP.heap.size,ii * 2+1,none⟩=some (.int .i64 (([1,1,1,2,1,3,2,3]:List Int)[ii * 2+1]'(by show ii * 2+1<8;omega))):=RL.cellAt (ii * 2+1) _ (by rw [List.getElem?_toArray];exact ints_get [1,1,1,2,1,3,2,3] (ii * 2+1) (by show ii * 2+1<8;omega))
     have HO:=Lib.hid (HOl.out.call gN MN hlt hgab);clear gN MN HOl RL;generalize ([1,1,1,2,1,3,2,3]:List Int)[ii * 2]'(by show ii * 2<8;omega)=xa at *
     generalize ([1,1,1,2,1,3,2,3]:List Int)[ii * 2+1]'(by show ii * 2+1<8;omega)=xb at *
     obtain ⟨uo9,hco9⟩:=HO.out.cell 9 (by omega)
     have hfo9:=HO.out.frozen 9;obtain ⟨uo10,hco10⟩:=HO.out.cell 10 (by omega)
     have hfo10:=HO.out.frozen 10;go_upto_region 52 with fail;clear hco9 hfo9 hco10 hfo10;clear hcl0 hcl1 hii hgl hr0 hr1;have HO:=Lib.hid ((HO.out.put 9 (.int .i64 xa) rfl (by omega) (by omega) (by omega) hab hgab).put 10 (.int .i64 xb) rfl (by omega) (by omega) (by omega) hab hgab)
     generalize ((v40.setCell ⟨ab,9,none⟩ (.int .i64 xa)).setCell ⟨ab,10,none⟩ (.int .i64 xb))=v41 at *;obtain ⟨ZR,⟨vs,YA,hv⟩,G9,M9⟩:=HO.out;clear HO;have hvs:=hv.1;have hva:=hv.all;go_wp2_with (first | (refine wpList_loadA YA hvs _ rfl rfl rfl ?_) | (refine wpList_storeA ZR rfl _ _ rfl rfl rfl _ rfl hvs hva ?_;intro wz Yz gz))
     exact bodyPost_ret (results_A rfl _ rfl Yz hvs) rfl ⟨⟨vs,rfl,hv⟩,grown_up G9 gz (fun i e hi=>by injection e with e;omega),M9.step gz (fun i e=>by injection e with e;omega)⟩
   ·skip
    go_upto_region 38 with fail;go_wp2_with fail;refine (next_any HO.out.2.2.2 3 (by omega) (by omega)).mono ?_
    rintro e v42 ⟨⟨r,rfl,hr0,hr1⟩,gN,MN⟩;have HO:=Lib.hid (HO.out.call gN MN hlt hgab);clear gN MN;obtain ⟨uo5,hco5⟩:=HO.out.cell 5 (by omega)
    have hfo5:=HO.out.frozen 5;go_upto_region 39 with fail;clear hco5 hfo5;have HO:=Lib.hid (HO.out.put 5 (.int .i64 (1+r)) rfl (by omega) (by omega) (fun _=>⟨_,rfl⟩) hab hgab)
    generalize v42.setCell ⟨ab,5,none⟩ (.int .i64 (1+r))=v43 at *;go_cut [] (fun wx=>OSt w wx base g A n c day (.slice Af fl.length cf) ab 17)
    case first =>
     obtain ⟨x5,hx5⟩:=HO.out.int5;refine wp_region_held_drew (S:=(fun W=>OSt w W base g A n c day (.slice Af fl.length cf) ab 17∧W.cell? ⟨ab,5,none⟩=some (.int .i64 x5))) (by kernel_rfl) ?_ (fun hHeld=>?_)
     ·first | done | ((try dsimp only);exact ⟨HO.out.step (grown_drew v43 none) (fun _ e=>by cases e),hx5⟩)
     clear HO hx5;refine tq 0 141 rfl ?_
     refine th 1 142 rfl (fun _ hSw=>hSw.2) ?_
     refine tq 2 143 rfl ?_
     refine tq 3 144 rfl ?_
     have hab3:=hHeld.1.lt_ab;refine rd 4 (some 145) rfl fun K hK=>?_
     go_simp
     (refine (next_any hHeld.1.2.2.2 2 (by omega) (by omega)).mono ?_;rintro e v44 ⟨⟨r,rfl,hr0,hr1⟩,gN,MN⟩)
     refine hK.out _ _ ?_ (fun hHeld=>?_)
     ·first | done | ((try dsimp only);exact ⟨hHeld.1.call gN MN hlt hgab,(World.cell?_of_block (a:=⟨ab,5,none⟩) (gN.block ab hab3 (fun e=>by injection e with e;omega))).trans hHeld.2⟩)
     clear hK K;(try simp only [pS,pB,pZ,pC]);refine tq 5 146 rfl ?_
     refine tq 6 147 rfl ?_
     obtain ⟨uo6,hco6⟩:=hHeld.1.cell 6 (by omega)
     have hfo6:=hHeld.1.frozen 6;refine rd 7 none rfl fun K hK=>?_
     go_simp;refine hK.out _ _ ?_ (fun hHeld=>?_)
     ·exact ⟨hHeld.1.put 6 _ rfl (by omega) (by omega) (by omega) hab hgab,(World.cell?_setCell_other _ _ _ _ (fun e=>by injection e with _ e _;omega)).trans hHeld.2⟩
     clear hK K hco6 hfo6;(try simp only [Act.put]);refine dn ?_
     go_wp2_with fail;go_meet;exact hHeld.1
    case rest =>
     clear HO;have HO:=Lib.hid hcut;obtain ⟨vP,rfl⟩:∃ z:World,z=wc:=⟨_,rfl⟩;clear hcut;go_upto_region 40 with fail;go_wp2_with fail;refine (next_any HO.out.2.2.2 2000 (by omega) (by omega)).mono ?_
     rintro e v45 ⟨⟨r,rfl,hr0,hr1⟩,gN,MN⟩;have HO:=Lib.hid (HO.out.call gN MN hlt hgab);clear gN MN;obtain ⟨uo7,hco7⟩:=HO.out.cell 7 (by omega)
     have hfo7:=HO.out.frozen 7;go_upto_region 52 with fail;clear hco7 hfo7;have HO:=Lib.hid (HO.out.put 7 (.int .i64 r) rfl (by omega) (fun _=>⟨_,rfl⟩) (by omega) hab hgab)
     generalize v45.setCell ⟨ab,7,none⟩ (.int .i64 r)=v46 at *;obtain ⟨ZR,⟨vs,YA,hv⟩,G9,M9⟩:=HO.out;clear HO;have hvs:=hv.1;have hva:=hv.all;go_wp2_with (first | (refine wpList_loadA YA hvs _ rfl rfl rfl ?_) | (refine wpList_storeA ZR rfl _ _ rfl rfl rfl _ rfl hvs hva ?_;intro wz Yz gz))
     exact bodyPost_ret (results_A rfl _ rfl Yz hvs) rfl ⟨⟨vs,rfl,hv⟩,grown_up G9 gz (fun i e hi=>by injection e with e;omega),M9.step gz (fun i e=>by injection e with e;omega)⟩
   ·skip
    go_upto_region 42 with fail;go_wp2_with fail;refine (next_any HO.out.2.2.2 2 (by omega) (by omega)).mono ?_
    rintro e v47 ⟨⟨r,rfl,hr0,hr1⟩,gN,MN⟩;have HO:=Lib.hid (HO.out.call gN MN hlt hgab);clear gN MN;obtain ⟨uo7,hco7⟩:=HO.out.cell 7 (by omega)
    have hfo7:=HO.out.frozen 7;go_upto_region 52 with fail;clear hco7 hfo7;have HO:=Lib.hid (HO.out.put 7 (.int .i64 r) rfl (by omega) (fun _=>⟨_,rfl⟩) (by omega) hab hgab)
    generalize v47.setCell ⟨ab,7,none⟩ (.int .i64 r)=v48 at *;obtain ⟨ZR,⟨vs,YA,hv⟩,G9,M9⟩:=HO.out;clear HO;have hvs:=hv.1;have hva:=hv.all;go_wp2_with (first | (refine wpList_loadA YA hvs _ rfl rfl rfl ?_) | (refine wpList_storeA ZR rfl _ _ rfl rfl rfl _ rfl hvs hva ?_;intro wz Yz gz))
    exact bodyPost_ret (results_A rfl _ rfl Yz hvs) rfl ⟨⟨vs,rfl,hv⟩,grown_up G9 gz (fun i e hi=>by injection e with e;omega),M9.step gz (fun i e=>by injection e with e;omega)⟩
   ·skip
    go_upto_region 44 with fail;go_wp2_with fail;refine (mkfeature_any HO.out.2.2.2).mono ?_
    rintro e v49 ⟨⟨fa,fb,fc',fd,t,rfl,hrep,hft⟩,gN,MN⟩;obtain ⟨A1,n1,q1,A2,n2,q2,rfl,rfl,rfl,rfl⟩:=node_form (hrep [] (fun _ h=>by cases h)).out
    have HO:=Lib.hid (HO.out.call gN MN hlt hgab);clear gN MN hrep hft;generalize t.op=op at *;generalize t.n=tn at *;obtain ⟨uo15,hco15⟩:=HO.out.cell 15 (by omega)
    have hfo15:=HO.out.frozen 15;obtain ⟨uo16,hco16⟩:=HO.out.cell 16 (by omega)
    have hfo16:=HO.out.frozen 16;obtain ⟨uo17,hco17⟩:=HO.out.cell 17 (by omega)
    have hfo17:=HO.out.frozen 17;obtain ⟨uo18,hco18⟩:=HO.out.cell 18 (by omega)
    have hfo18:=HO.out.frozen 18;go_upto_region 52 with fail;clear hco15 hfo15 hco16 hfo16 hco17 hfo17 hco18 hfo18;have HO:=Lib.hid ((((HO.out.put 15 (.int .i64 op) rfl (by omega) (by omega) (by omega) hab hgab).put 16 (.int .i64 tn) rfl (by omega) (by omega) (by omega) hab hgab).put 17 (.slice A1 n1 q1) rfl (by omega) (by omega) (by omega) hab hgab).put 18 (.slice A2 n2 q2) rfl (by omega) (by omega) (by omega) hab hgab)
    generalize ((((v49.setCell ⟨ab,15,none⟩ (.int .i64 op)).setCell ⟨ab,16,none⟩ (.int .i64 tn)).setCell ⟨ab,17,none⟩ (.slice A1 n1 q1)).setCell ⟨ab,18,none⟩ (.slice A2 n2 q2))=v50 at *;obtain ⟨ZR,⟨vs,YA,hv⟩,G9,M9⟩:=HO.out;clear HO;have hvs:=hv.1;have hva:=hv.all;go_wp2_with (first | (refine wpList_loadA YA hvs _ rfl rfl rfl ?_) | (refine wpList_storeA ZR rfl _ _ rfl rfl rfl _ rfl hvs hva ?_;intro wz Yz gz))
    exact bodyPost_ret (results_A rfl _ rfl Yz hvs) rfl ⟨⟨vs,rfl,hv⟩,grown_up G9 gz (fun i e hi=>by injection e with e;omega),M9.step gz (fun i e=>by injection e with e;omega)⟩
   ·skip
    go_upto_region 46 with fail;go_wp2_with fail;refine (next_any HO.out.2.2.2 2 (by omega) (by omega)).mono ?_
    rintro e v51 ⟨⟨r,rfl,hr0,hr1⟩,gN,MN⟩;have HO:=Lib.hid (HO.out.call gN MN hlt hgab);clear gN MN;obtain ⟨uo4,hco4⟩:=HO.out.cell 4 (by omega)
    have hfo4:=HO.out.frozen 4;go_upto_region 47 with fail;clear hco4 hfo4;have HO:=Lib.hid (HO.out.put 4 (.int .i64 r) rfl (by omega) (by omega) (by omega) hab hgab)
    generalize v51.setCell ⟨ab,4,none⟩ (.int .i64 r)=v52 at *;go_wp2_with fail;refine (next_any HO.out.2.2.2 20 (by omega) (by omega)).mono ?_
    rintro e v53 ⟨⟨r,rfl,hr0,hr1⟩,gN,MN⟩;have HO:=Lib.hid (HO.out.call gN MN hlt hgab);clear gN MN;obtain ⟨uo7,hco7⟩:=HO.out.cell 7 (by omega)
    have hfo7:=HO.out.frozen 7;go_upto_region 52 with fail;clear hco7 hfo7;have HO:=Lib.hid (HO.out.put 7 (.int .i64 r) rfl (by omega) (fun _=>⟨_,rfl⟩) (by omega) hab hgab)
    generalize v53.setCell ⟨ab,7,none⟩ (.int .i64 r)=v54 at *;obtain ⟨ZR,⟨vs,YA,hv⟩,G9,M9⟩:=HO.out;clear HO;have hvs:=hv.1;have hva:=hv.all;go_wp2_with (first | (refine wpList_loadA YA hvs _ rfl rfl rfl ?_) | (refine wpList_storeA ZR rfl _ _ rfl rfl rfl _ rfl hvs hva ?_;intro wz Yz gz))
    exact bodyPost_ret (results_A rfl _ rfl Yz hvs) rfl ⟨⟨vs,rfl,hv⟩,grown_up G9 gz (fun i e hi=>by injection e with e;omega),M9.step gz (fun i e=>by injection e with e;omega)⟩
   ·skip
    go_upto_region 49 with fail;go_wp2_with fail;refine (next_any HO.out.2.2.2 2 (by omega) (by omega)).mono ?_
    rintro e v55 ⟨⟨r,rfl,hr0,hr1⟩,gN,MN⟩;have HO:=Lib.hid (HO.out.call gN MN hlt hgab);clear gN MN;obtain ⟨uo4,hco4⟩:=HO.out.cell 4 (by omega)
    have hfo4:=HO.out.frozen 4;go_upto_region 50 with fail;clear hco4 hfo4;have HO:=Lib.hid (HO.out.put 4 (.int .i64 r) rfl (by omega) (by omega) (by omega) hab hgab)
    generalize v55.setCell ⟨ab,4,none⟩ (.int .i64 r)=v56 at *;go_wp2_with fail;refine (next_any HO.out.2.2.2 19 (by omega) (by omega)).mono ?_
    rintro e v57 ⟨⟨r,rfl,hr0,hr1⟩,gN,MN⟩;have HO:=Lib.hid (HO.out.call gN MN hlt hgab);clear gN MN;obtain ⟨uo7,hco7⟩:=HO.out.cell 7 (by omega)
    have hfo7:=HO.out.frozen 7;go_upto_region 51 with fail;clear hco7 hfo7;have HO:=Lib.hid (HO.out.put 7 (.int .i64 r) rfl (by omega) (fun _=>⟨_,rfl⟩) (by omega) hab hgab)
    generalize v57.setCell ⟨ab,7,none⟩ (.int .i64 r)=v58 at *;have RL:=Blk.new v58 3 (ints [1,2,3,6,12,18,20,50]).toArray;have gl:=World.grownBy_alloc v58 (.cells (ints [1,2,3,6,12,18,20,50]).toArray 3) none;have HOl:=Lib.hid (HO.out.step gl (fun _ e=>by cases e))
    have hgl:g<v58.heap.size:=HO.out.2.2.2.lt;clear HO gl;go_wp2_with fail;refine (next_any HOl.out.2.2.2 8 (by omega) (by omega)).mono ?_
    rintro e v59 ⟨⟨r,rfl,hr0,hr1⟩,gN,MN⟩;obtain ⟨ii,rfl⟩:∃ ii:Nat,r=(ii:Int):=⟨r.toNat,by omega⟩
    have hii:ii<([1,2,3,6,12,18,20,50]:List Int).length:=by show ii<8;omega
    have RL:=RL.grown gN (fun e=>by injection e with e;omega)
    have hcl:v59.cell? ⟨v58.heap.size,ii,none⟩=some (.int .i64 ([1,2,3,6,12,18,20,50]:List Int)[ii]):=RL.cellAt ii _ (by rw [List.getElem?_toArray];exact ints_get [1,2,3,6,12,18,20,50] ii hii)
    have HO:=Lib.hid (HOl.out.call gN MN hlt hgab);clear gN MN HOl RL;generalize ([1,2,3,6,12,18,20,50]:List Int)[ii]=xv at *;obtain ⟨uo8,hco8⟩:=HO.out.cell 8 (by omega)
    have hfo8:=HO.out.frozen 8;go_upto_region 52 with fail;clear hco8 hfo8;clear hcl hii hgl hr0 hr1;have HO:=Lib.hid (HO.out.put 8 (.int .i64 xv) rfl (by omega) (by omega) (by omega) hab hgab)
    generalize v59.setCell ⟨ab,8,none⟩ (.int .i64 xv)=v60 at *;obtain ⟨ZR,⟨vs,YA,hv⟩,G9,M9⟩:=HO.out;clear HO;have hvs:=hv.1;have hva:=hv.all;go_wp2_with (first | (refine wpList_loadA YA hvs _ rfl rfl rfl ?_) | (refine wpList_storeA ZR rfl _ _ rfl rfl rfl _ rfl hvs hva ?_;intro wz Yz gz))
    exact bodyPost_ret (results_A rfl _ rfl Yz hvs) rfl ⟨⟨vs,rfl,hv⟩,grown_up G9 gz (fun i e hi=>by injection e with e;omega),M9.step gz (fun i e=>by injection e with e;omega)⟩
inductive Item where
 | fil (f:Fil)
 | oth (kind:Int) (vs:Array Value)
def Item.cells:Item→List D
 | .fil f=>f.cells
 | .oth _ vs=>valD vs.toList
def Item.ok:Item→Prop
 | .fil _=>True
 | .oth kind vs=>1≤kind∧kind≤21∧OthV kind vs
theorem Item.cells_length {x:Item} (h:x.ok):x.cells.length=19:=by
 cases x with
 | fil f=>rfl
 | oth k vs=>exact (valD_length _).trans ((Array.length_toList).trans h.2.2.1)
def filsOf:List Item→List Fil
 | []=>[]
 | .fil f::l=>f::filsOf l
 | .oth _ _::l=>filsOf l
theorem filsOf_app (a b:List Item):filsOf (a++b)=filsOf a++filsOf b:=by
 induction a with
 | nil=>rfl
 | cons x a ih=>cases x <;> simp [filsOf,ih]
theorem filsOf_le (a:List Item):(filsOf a).length≤a.length:=by
 induction a with
 | nil=>exact Nat.le_refl _
 | cons x a ih=>cases x <;> simp [filsOf] <;> omega
def GenS (l:List Item):Prop:=l.length≤14∧(∀ x∈l,x.ok)∧GenL (filsOf l)
theorem genS_nil:GenS []:=⟨Nat.zero_le _,(fun _ h=>by cases h),Nat.zero_le _,fun i h=>absurd h (Nat.not_lt_zero i)⟩
theorem GenS.cells {l:List Item} (h:GenS l):(l.flatMap Item.cells).length=l.length * 19:=flat_length (fun x hx=>Item.cells_length (h.2.1 x hx))
end Go.Proofs.YtbeaijjaecaidaaGreatDoor
