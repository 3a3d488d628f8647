import Derived.Test.YtglkadmfjaecmaaGreatDoorD15
set_option maxRecDepth 100000
set_option maxHeartbeats 16000000
namespace Go.Proofs.YtglkadmfjaecmaaGreatDoor
open Go.RowKit Go.Shelf _root_.Go.Proofs.Tryz
open Go.Value renaming int->I, slice->G
open Go.IntKind renaming i64->Z
open Go.Obj renaming cells->O
attribute [local go_sem] Oper.semAt_some
def Ycz (kind:Int) (vs:Array Value):Prop:=vs.size=19/\(∀ u∈vs.toList,u.oneCell'=true)/\vs[0]?=some (I Z kind)/\(∃ x,vs[7]?=some (I Z x))/\(∃ x,vs[5]?=some (I Z x))/\vs[14]?=some (G none 0 0)
theorem Ycz.set {kind:Int} {vs:Array Value} (h:Ycz kind vs) (i:Nat) (v:Value) (o:v.oneCell'=true) (hi:i≠0) (d:i=7->∃ x,v=I Z x) (p:i=5->∃ x,v=I Z x) (b:i≠14:=by omega):Ycz kind (vs.setIfInBounds i v):=by
 obtain ⟨s,r,q,⟨m,k⟩,⟨l,j⟩,f⟩:=h;refine ⟨by simp [s],?_,?_,?_,?_,?_⟩
 ·intro u a;rw [Array.toList_setIfInBounds] at a;rcases List.mem_or_eq_of_mem_set a with a | rfl
  ·exact r u a
  ·exact o
 ·rw [bw (fun e=>hi e)];exact q
 ·by_cases e:i=7
  ·subst e;obtain ⟨x,rfl⟩:=d rfl;exact ⟨x,by rw [eu (by omega)]⟩
  ·exact ⟨m,by rw [bw e];exact k⟩
 ·by_cases e:i=5
  ·subst e;obtain ⟨x,rfl⟩:=p rfl;exact ⟨x,by rw [eu (by omega)]⟩
  ·exact ⟨l,by rw [bw e];exact j⟩
 ·rw [bw b];exact f
theorem Ycz.all {kind:Int} {vs:Array Value} (h:Ycz kind vs):vs.all (·.oneCell')=true:=Array.all_eq_true_iff_forall_mem.2 (fun v a=>h.2.1 v (by simpa using a))
def OSt (w W:World) (base g:Nat) (A:Option Addr) (n c:Nat) (day:Int) (fv:Value) (ab:Nat) (kind:Int):Prop :=
 Blk W w.heap.size 48 Zch/\(∃ vs,Blk W ab 48 vs/\Ycz kind vs)/\w.grownBy W (some g)/\Mk W base g A n c day fv
section
variable {w W w':World} {base g:Nat} {A:Option Addr} {n c:Nat} {day:Int} {fv:Value} {ab:Nat} {kind:Int}
theorem OSt.step (h:OSt w W base g A n c day fv ab kind) {row:Option Nat} (a:W.grownBy w' row) (hr:∀ i,row=some i->w.heap.size<i/\i≠ab/\i≠g/\base<=i):OSt w w' base g A n c day fv ab kind:=by
 obtain ⟨h1,⟨vs,b,j⟩,d,f⟩:=h;exact ⟨h1.grown a (fun e=>by have:=hr _ e.symm;omega),⟨vs,b.grown a (fun e=>by have:=hr _ e.symm;omega),j⟩,Zac d a (fun i e hi=>by have:=hr i e;omega),f.step a (fun i e=>by have:=hr i e;omega)⟩
theorem OSt.call (h:OSt w W base g A n c day fv ab kind) (a:W.grownBy w' (some g)) (d:Mk w' base g A n c day fv) (j:g<w.heap.size) (i:g<ab):OSt w w' base g A n c day fv ab kind:=by
 obtain ⟨h1,⟨vs,b,k⟩,f,l⟩:=h;exact ⟨h1.grown a (fun e=>by injection e with e;omega),⟨vs,b.grown a (fun e=>by injection e with e;omega),k⟩,Zac f a (fun _ e _=>e),d⟩
theorem OSt.put (h:OSt w W base g A n c day fv ab kind) (i:Nat) (v:Value) (o:v.oneCell'=true) (hi:i≠0) (j:i=7->∃ x,v=I Z x) (p:i=5->∃ x,v=I Z x) (m:w.heap.size<ab) (d:g<ab) (a:i≠14:=by omega):OSt w (W.setCell ⟨ab,i,none⟩ v) base g A n c day fv ab kind:=by
 obtain ⟨s,⟨vs,r,q⟩,l,b⟩:=h;have f:=Zaj W ab i v;exact ⟨s.far (by simp;omega) _,⟨_,r.set i v,q.set i v o hi j p a⟩,Zac l f (fun k e t=>by injection e with e;omega),b.step f (fun k e=>by injection e with e;have:=b.base;omega)⟩
theorem OSt.cell (h:OSt w W base g A n c day fv ab kind) (i:Nat) (hi:i<19):∃ u,W.cell? ⟨ab,i,none⟩=some u:=by
 obtain ⟨_,⟨vs,b,a⟩,_⟩:=h;have:i<vs.size:=by rw [a.1];exact hi
 exact ⟨vs[i],b.cellAt i _ (eh this)⟩
theorem OSt.frozen (h:OSt w W base g A n c day fv ab kind) (i:Nat):W.frozen? ⟨ab,i,none⟩=false:=by
 obtain ⟨_,⟨vs,a,_⟩,_⟩:=h;exact a.frozen i
theorem OSt.lt_ab (h:OSt w W base g A n c day fv ab kind):ab<W.heap.size:=by
 obtain ⟨_,⟨vs,a,_⟩,_⟩:=h;exact a.lt
theorem OSt.int7 (h:OSt w W base g A n c day fv ab kind):∃ x,W.cell? ⟨ab,7,none⟩=some (I Z x):=by
 obtain ⟨_,⟨vs,d,b⟩,_⟩:=h;obtain ⟨x,a⟩:=b.2.2.2.1;exact ⟨x,d.cellAt 7 _ a⟩
theorem OSt.int5 (h:OSt w W base g A n c day fv ab kind):∃ x,W.cell? ⟨ab,5,none⟩=some (I Z x):=by
 obtain ⟨_,⟨vs,d,b⟩,_⟩:=h;obtain ⟨x,a⟩:=b.2.2.2.2.1;exact ⟨x,d.cellAt 5 _ a⟩
end
theorem Zx7 (k:Int) (a:1<=k/\k<=21) (w:World) :
  Calls prog 63 #[I Z k] w fun e w'=>(∃ b,e=.returned (.bool b))/\w'=w:=by
 have:k=1∨k=2∨k=3∨k=4∨k=5∨k=6∨k=7∨k=8∨k=9∨k=10∨k=11∨k=12∨k=13∨k=14∨k=15∨k=16∨k=17∨k=18∨k=19∨k=20∨k=21:=by omega
 rcases this with rfl | rfl | rfl | rfl | rfl | rfl | rfl | rfl | rfl | rfl | rfl | rfl | rfl | rfl | rfl | rfl | rfl | rfl | rfl | rfl | rfl
 ·go_enter func63,ntmps63;go_wp2_with fail;go_ret;exact ⟨⟨_,rfl⟩,rfl⟩
 ·go_enter func63,ntmps63;go_wp2_with fail;go_ret;exact ⟨⟨_,rfl⟩,rfl⟩
 ·go_enter func63,ntmps63;go_wp2_with fail;go_ret;exact ⟨⟨_,rfl⟩,rfl⟩
 ·go_enter func63,ntmps63;go_wp2_with fail;go_ret;exact ⟨⟨_,rfl⟩,rfl⟩
 ·go_enter func63,ntmps63;go_wp2_with fail;go_ret;exact ⟨⟨_,rfl⟩,rfl⟩
 ·go_enter func63,ntmps63;go_wp2_with fail;go_ret;exact ⟨⟨_,rfl⟩,rfl⟩
 ·go_enter func63,ntmps63;go_wp2_with fail;go_ret;exact ⟨⟨_,rfl⟩,rfl⟩
 ·go_enter func63,ntmps63;go_wp2_with fail;go_ret;exact ⟨⟨_,rfl⟩,rfl⟩
 ·go_enter func63,ntmps63;go_wp2_with fail;go_ret;exact ⟨⟨_,rfl⟩,rfl⟩
 ·go_enter func63,ntmps63;go_wp2_with fail;go_ret;exact ⟨⟨_,rfl⟩,rfl⟩
 ·go_enter func63,ntmps63;go_wp2_with fail;go_ret;exact ⟨⟨_,rfl⟩,rfl⟩
 ·go_enter func63,ntmps63;go_wp2_with fail;go_ret;exact ⟨⟨_,rfl⟩,rfl⟩
 ·go_enter func63,ntmps63;go_wp2_with fail;go_ret;exact ⟨⟨_,rfl⟩,rfl⟩
 ·go_enter func63,ntmps63;go_wp2_with fail;go_ret;exact ⟨⟨_,rfl⟩,rfl⟩
 ·go_enter func63,ntmps63;go_wp2_with fail;go_ret;exact ⟨⟨_,rfl⟩,rfl⟩
 ·go_enter func63,ntmps63;go_wp2_with fail;go_ret;exact ⟨⟨_,rfl⟩,rfl⟩
 ·go_enter func63,ntmps63;go_wp2_with fail;go_ret;exact ⟨⟨_,rfl⟩,rfl⟩
 ·go_enter func63,ntmps63;go_wp2_with fail;go_ret;exact ⟨⟨_,rfl⟩,rfl⟩
 ·go_enter func63,ntmps63;go_wp2_with fail;go_ret;exact ⟨⟨_,rfl⟩,rfl⟩
 ·go_enter func63,ntmps63;go_wp2_with fail;go_ret;exact ⟨⟨_,rfl⟩,rfl⟩
 ·go_enter func63,ntmps63;go_wp2_with fail;go_ret;exact ⟨⟨_,rfl⟩,rfl⟩
def Yin (w:World) (base g:Nat) (A:Option Addr) (n c:Nat) (day:Int) (fv:Value) (kind:Int) (e:Ending) (w':World):Prop :=
 (∃ vs,e=.returned (.agg vs)/\Ycz kind vs)/\w.grownBy w' (some g)/\Mk w' base g A n c day fv
theorem Zt5 {w:World} {base g:Nat} {A:Option Addr} {n c:Nat} {day:Int} {fv:Value} {fl:List Fil} (h:Mk w base g A n c day fv) (hf:Zbv TA [] w base 48 19 fv (fl.flatMap Fil.cells)) (ej:fl.length<=14) (kind:Int) (a4:1<=kind/\kind<=21) :
  Calls prog 27 #[.pointer (some ⟨g,0,none⟩),I Z kind] w (Yin w base g A n c day fv kind):=by
 have E:=h.lt;have d6:=h.base;obtain ⟨Af,nf,cf,rfl,fr,_⟩:=hf.slice;have d1:=Zai (l:=fl) (f:=Fil.cells) (k:=19) (fun x _=>x.cells_length);obtain rfl:nf=fl.length:=by omega
 have b9:(Value.slice Af fl.length cf).ownBlock≠some g:=fun e2=>by
  obtain ⟨n',xs,q1,q2⟩:=hf;obtain ⟨⟨at_,hg⟩,_⟩:=h;rcases q1.2 with ⟨e3,_⟩ | ⟨k,cap,fm,e3,_,hb,_⟩
  ·rw [e3] at e2;cases e2
  ·rw [e3] at e2;injection e2 with e2;have e2:k=g:=e2;subst e2;unfold Blk at hg;rw [hb] at hg;injection hg with hg;injection hg with _ ht;exact absurd ht (by decide)
 have cx:=ae (Zv4 hf (h.hidden (by decide)) b9);have Z0:=Blk.new w 48 Zch;have G0:=ao w (O Zch 48) (some g);have M0:=h.step (ao w (O Zch 48) none) (fun _ e=>by cases e);have b3:(w.alloc (O Zch 48)).heap.size=w.heap.size+1:=ax ..;clear h hf d1 b9;go_enter func27,ntmps27;go_upto_region 1 with fail;unfold Zch at Z0 G0 M0 b3;generalize w.alloc _=w0 at *;have M:=Blk.newAt (t:=48) (cs:=#[iI 0,iI 0,iI 0,iI 0,iI 0,iI 0,iI 0,iI 0,iI 0,iI 0,iI 0,nN,nN,nN,nN,iI 0,iI 0,nN,nN]) b3;have ga:=ao w0 (O #[iI 0,iI 0,iI 0,iI 0,iI 0,iI 0,iI 0,iI 0,iI 0,iI 0,iI 0,nN,nN,nN,nN,iI 0,iI 0,nN,nN] 48) none;have Z1:=Z0.grown ga (by simp);have G1:=Zac G0 ga (fun _ e=>by cases e);have M1:=M0.step ga (fun _ e=>by cases e);clear Z0 G0 M0 ga;go_upto_region 2 with (refine Zae M rfl _ _ rfl rfl rfl _ rfl rfl (by kernel_rfl) ?_;intro w1 Y1 g1)
 have O1:OSt w w1 base g A n c day (G Af fl.length cf) (w.heap.size+1) kind :=
  ⟨Z1.grown g1 (fun e=>by injection e with e;omega),⟨_,Y1,rfl,by simp [Value.oneCell'],rfl,⟨0,rfl⟩,⟨0,rfl⟩,rfl⟩,Zac G1 g1 (fun i e hi=>by injection e with e;omega),M1.step g1 (fun i e=>by injection e with e;omega)⟩
 have v:w.heap.size<w.heap.size+1:=by omega
 clear Z1 G1 M1 Y1 g1 M b3;generalize w.heap.size+1=ab at *;have d:g<ab:=by omega
 simp only [Act.put];go_cut [17] (fun u wx=>(∃ bb:Bool,u=.bool bb/\(bb=true->0<fl.length))/\OSt w wx base g A n c day (G Af fl.length cf) ab kind)
 case first =>
  have bz:=ae O1;obtain ⟨f0,cd⟩:=O1.2.2.2.1;have ev:w1.cell? ⟨g,3,none⟩=some (G Af fl.length cf):=cd.cell 3;clear O1 cd;go_wp2_with fail;refine (Zx7 kind a4 w1).mono ?_;rintro e w' ⟨⟨bb,rfl⟩,bn⟩;have bn:=bn.symm;subst bn;cases bb with
  | false =>
   go_wp2_with fail;go_meet;exact ⟨⟨_,rfl,fun h=>by cases h⟩,bz.out⟩
  | true =>
   by_cases ce:0<fl.length
   ·have e0:decide (0<(fl.length:Int))=true:=decide_eq_true (by omega);go_wp2_with fail;go_meet;exact ⟨⟨_,rfl,fun _=>ce⟩,bz.out⟩
   ·have e0:decide (0<(fl.length:Int))=false:=decide_eq_false (by omega);go_wp2_with fail;go_meet;exact ⟨⟨_,rfl,fun h=>by cases h⟩,bz.out⟩
 case rest =>
  obtain ⟨⟨bb,rfl,ch⟩,O2⟩:=hcut;obtain ⟨w2,rfl⟩:∃ z:World,z=wc:=⟨_,rfl⟩;clear O1;rename_i cb;refine cb _ _ ?_;clear cb;go_cut [] (fun wx=>OSt w wx base g A n c day (G Af fl.length cf) ab kind)
  case first =>
   cases bb with
   | false =>
    go_wp2_with fail;go_meet;exact O2
   | true =>
    have ce:=ch rfl;go_upto_region 3 with fail;refine wp_region_held_drew (S:=(fun W=>OSt w W base g A n c day (G Af fl.length cf) ab kind)) (by kernel_rfl) ?_ (fun m=>?_)
    ·first | done | ((try dsimp only);exact O2.step (Zat w2 none) (fun _ e=>by cases e))
    clear O2;refine tq 0 18 rfl ?_;refine tq 1 19 rfl ?_;refine tq 2 20 rfl ?_;refine tq 3 21 rfl ?_ (hy:=by intro w' Y;(try dsimp only at Y);obtain ⟨at_,hg⟩:=Y.2.2.2.1;have hc:=hg.c4;go_simp;try (with_reducible rfl));refine tq 4 22 rfl ?_;refine tq 5 23 rfl ?_;refine tq 6 24 rfl ?_;refine tq 7 25 rfl ?_;refine tq 8 26 rfl ?_ (hy:=by intro w' Y;(try dsimp only at Y);obtain ⟨at_,hg⟩:=Y.2.2.2.1;have hc:=hg.c4;go_simp;try (with_reducible rfl));refine tq 9 27 rfl ?_;refine rd 10 (some 28) rfl fun K hK=>?_;go_simp;(refine (Zak m.2.2.2 (fl.length:Int) (by omega) (by omega)).mono ?_;rintro e w6 ⟨⟨r,rfl,J,B⟩,g6,M6⟩);refine hK.out _ _ (m.call g6 M6 E d) fun m=>?_;clear hK K;(try simp only [pS,pB,pZ,pC]);obtain ⟨kk,rfl⟩:∃ kk:Nat,r=(kk:Int):=⟨r.toNat,by omega⟩
    have d3:kk<fl.length:=by omega
    obtain ⟨fb,fe,pd,pc,pe,bx,b6⟩:=cx.out kk d3;injection bx with bx _ _;subst bx;have HP:=ae b6;clear b6 J B;refine tq 11 29 rfl ?_;refine tq 12 30 rfl ?_;refine tq 13 31 rfl ?_ (hy:=by intro w' Y;(try dsimp only at Y);have hc:w'.cell? ⟨fb,kk * 19+3,none⟩=some (I Z fl[kk].file):=(HP.out w' Y.2.2.1).1 3 _ rfl;go_simp;try (with_reducible rfl));refine tq 14 32 rfl ?_;obtain ⟨uo,dy⟩:=m.cell 3 (by omega);have c0:=m.frozen 3;refine rd 15 none rfl fun K hK=>?_;go_simp;refine hK.out _ _ ?_ (fun m=>?_)
    ·exact m.put 3 _ rfl (by omega) (by omega) (by omega) v d
    clear hK K dy c0;(try simp only [Act.put]);refine dn ?_;go_wp2_with fail;go_meet;exact m
  case rest =>
   have O3:=hcut;obtain ⟨w3,rfl⟩:∃ z:World,z=wc:=⟨_,rfl⟩;have b:=ae O3;clear hcut O2 O3 ch;have be:kind=1∨kind=2∨kind=3∨kind=4∨kind=5∨kind=6∨kind=7∨kind=8∨kind=9∨kind=10∨kind=11∨kind=12∨kind=13∨kind=14∨kind=15∨kind=16∨kind=17∨kind=18∨kind=19∨kind=20∨kind=21:=by omega
   clear a4;rcases be with rfl | rfl | rfl | rfl | rfl | rfl | rfl | rfl | rfl | rfl | rfl | rfl | rfl | rfl | rfl | rfl | rfl | rfl | rfl | rfl | rfl
   ·skip;go_upto_region 52 with fail;obtain ⟨N,⟨vs,P,q⟩,R,Q⟩:=b.out;clear b;have j:=q.1;have p:=q.all;go_wp2_with (first | (refine Zad P j _ rfl rfl rfl ?_) | (refine Zae N rfl _ _ rfl rfl rfl _ rfl j p ?_;intro wz M y));exact bodyPost_ret (Zah rfl _ rfl M j) rfl ⟨⟨vs,rfl,q⟩,Zac R y (fun i e hi=>by injection e with e;omega),Q.step y (fun i e=>by injection e with e;omega)⟩
   ·skip;go_upto_region 52 with fail;obtain ⟨N,⟨vs,P,q⟩,R,Q⟩:=b.out;clear b;have j:=q.1;have p:=q.all;go_wp2_with (first | (refine Zad P j _ rfl rfl rfl ?_) | (refine Zae N rfl _ _ rfl rfl rfl _ rfl j p ?_;intro wz M y));exact bodyPost_ret (Zah rfl _ rfl M j) rfl ⟨⟨vs,rfl,q⟩,Zac R y (fun i e hi=>by injection e with e;omega),Q.step y (fun i e=>by injection e with e;omega)⟩
   ·skip;go_upto_region 7 with fail;go_wp2_with fail;refine (Zfb b.out.2.2.2).mono ?_;rintro e v1 ⟨⟨u,aq,rfl,V,a1⟩,o,s⟩;obtain ⟨Ac,cc,rfl,_,_⟩:=V.out.claims;have b:=ae (b.out.call o s E d);clear o s V a1;obtain ⟨bf,ad⟩:=b.out.cell 13 (by omega);have af:=b.out.frozen 13;go_upto_region 52 with fail;clear ad af;have b:=ae (b.out.put 13 (G Ac aq.length cc) rfl (by omega) (by omega) (by omega) v d);generalize v1.setCell ⟨ab,13,none⟩ (G Ac aq.length cc)=v2 at *;obtain ⟨N,⟨vs,P,q⟩,R,Q⟩:=b.out;clear b;have j:=q.1;have p:=q.all;go_wp2_with (first | (refine Zad P j _ rfl rfl rfl ?_) | (refine Zae N rfl _ _ rfl rfl rfl _ rfl j p ?_;intro wz M y));exact bodyPost_ret (Zah rfl _ rfl M j) rfl ⟨⟨vs,rfl,q⟩,Zac R y (fun i e hi=>by injection e with e;omega),Q.step y (fun i e=>by injection e with e;omega)⟩
   ·skip;go_upto_region 9 with fail;go_wp2_with fail;refine (Zak b.out.2.2.2 2 (by omega) (by omega)).mono ?_;rintro e v3 ⟨⟨r,rfl,J,B⟩,o,s⟩;have b:=ae (b.out.call o s E d);clear o s;obtain ⟨a8,U⟩:=b.out.cell 5 (by omega);have T:=b.out.frozen 5;go_upto_region 10 with fail;clear U T;have b:=ae (b.out.put 5 (I Z (1+r)) rfl (by omega) (by omega) (fun _=>⟨_,rfl⟩) v d);generalize v3.setCell ⟨ab,5,none⟩ (I Z (1+r))=v4 at *;have RL:=Blk.new v4 3 (Zdj [0,1,2,3,4,5,9,10,11]).toArray;have gl:=ao v4 (O (Zdj [0,1,2,3,4,5,9,10,11]).toArray 3) none;have X:=ae (b.out.step gl (fun _ e=>by cases e));have a2:g<v4.heap.size:=b.out.2.2.2.lt;clear b gl;go_wp2_with fail;refine (Zak X.out.2.2.2 9 (by omega) (by omega)).mono ?_;rintro e v5 ⟨⟨r,rfl,J,B⟩,o,s⟩;obtain ⟨L,rfl⟩:∃ L:Nat,r=(L:Int):=⟨r.toNat,by omega⟩
    have am:L<([0,1,2,3,4,5,9,10,11]:List Int).length:=by show L<9;omega
    have RL:=RL.grown o (fun e=>by injection e with e;omega);have a5:v5.cell? ⟨v4.heap.size,L,none⟩=some (I Z ([0,1,2,3,4,5,9,10,11]:List Int)[L]):=RL.cellAt L _ (by rw [ep];exact Zbx [0,1,2,3,4,5,9,10,11] L am);have b:=ae (X.out.call o s E d);clear o s X RL;generalize ([0,1,2,3,4,5,9,10,11]:List Int)[L]=xv at *;obtain ⟨an,H⟩:=b.out.cell 7 (by omega);have C:=b.out.frozen 7;go_upto_region 11 with fail;clear H C;clear a5 am a2 J B;have b:=ae (b.out.put 7 (I Z xv) rfl (by omega) (fun _=>⟨_,rfl⟩) (by omega) v d);generalize v5.setCell ⟨ab,7,none⟩ (I Z xv)=v6 at *;have RL:=Blk.new v6 3 (Zdj [100,50,200,150,30,1000]).toArray;have gl:=ao v6 (O (Zdj [100,50,200,150,30,1000]).toArray 3) none;have X:=ae (b.out.step gl (fun _ e=>by cases e));have a2:g<v6.heap.size:=b.out.2.2.2.lt;clear b gl;go_wp2_with fail;refine (Zak X.out.2.2.2 6 (by omega) (by omega)).mono ?_;rintro e v7 ⟨⟨r,rfl,J,B⟩,o,s⟩;obtain ⟨L,rfl⟩:∃ L:Nat,r=(L:Int):=⟨r.toNat,by omega⟩
    have am:L<([100,50,200,150,30,1000]:List Int).length:=by show L<6;omega
    have RL:=RL.grown o (fun e=>by injection e with e;omega);have a5:v7.cell? ⟨v6.heap.size,L,none⟩=some (I Z ([100,50,200,150,30,1000]:List Int)[L]):=RL.cellAt L _ (by rw [ep];exact Zbx [100,50,200,150,30,1000] L am);have b:=ae (X.out.call o s E d);clear o s X RL;generalize ([100,50,200,150,30,1000]:List Int)[L]=xv at *;obtain ⟨cg,a0⟩:=b.out.cell 8 (by omega);have av:=b.out.frozen 8;go_upto_region 12 with fail;clear a0 av;clear a5 am a2 J B;have b:=ae (b.out.put 8 (I Z xv) rfl (by omega) (by omega) (by omega) v d);generalize v7.setCell ⟨ab,8,none⟩ (I Z xv)=v8 at *;go_wp2_with fail;refine (Zak b.out.2.2.2 9 (by omega) (by omega)).mono ?_;rintro e v9 ⟨⟨r,rfl,J,B⟩,o,s⟩;have b:=ae (b.out.call o s E d);clear o s;by_cases hr:r=0
    ·subst hr;obtain ⟨b2,aa⟩:=b.out.cell 6 (by omega);have al:=b.out.frozen 6;go_upto_region 52 with fail;clear aa al;have b:=ae (b.out.put 6 (I Z 1) rfl (by omega) (by omega) (by omega) v d);generalize v9.setCell ⟨ab,6,none⟩ (I Z 1)=e5 at *;obtain ⟨N,⟨vs,P,q⟩,R,Q⟩:=b.out;clear b;have j:=q.1;have p:=q.all;go_wp2_with (first | (refine Zad P j _ rfl rfl rfl ?_) | (refine Zae N rfl _ _ rfl rfl rfl _ rfl j p ?_;intro wz M y));exact bodyPost_ret (Zah rfl _ rfl M j) rfl ⟨⟨vs,rfl,q⟩,Zac R y (fun i e hi=>by injection e with e;omega),Q.step y (fun i e=>by injection e with e;omega)⟩
    ·have e1:(r == 0)=false:=by simpa using hr
     go_upto_region 52 with fail;obtain ⟨N,⟨vs,P,q⟩,R,Q⟩:=b.out;clear b;have j:=q.1;have p:=q.all;go_wp2_with (first | (refine Zad P j _ rfl rfl rfl ?_) | (refine Zae N rfl _ _ rfl rfl rfl _ rfl j p ?_;intro wz M y));exact bodyPost_ret (Zah rfl _ rfl M j) rfl ⟨⟨vs,rfl,q⟩,Zac R y (fun i e hi=>by injection e with e;omega),Q.step y (fun i e=>by injection e with e;omega)⟩
   ·skip;go_upto_region 15 with fail;go_wp2_with fail;refine (Zak b.out.2.2.2 2 (by omega) (by omega)).mono ?_;rintro e c3 ⟨⟨r,rfl,J,B⟩,o,s⟩;have b:=ae (b.out.call o s E d);clear o s;obtain ⟨a8,U⟩:=b.out.cell 5 (by omega);have T:=b.out.frozen 5;go_upto_region 16 with fail;clear U T;have b:=ae (b.out.put 5 (I Z (1+r)) rfl (by omega) (by omega) (fun _=>⟨_,rfl⟩) v d);generalize c3.setCell ⟨ab,5,none⟩ (I Z (1+r))=es at *;go_wp2_with fail;refine (Zak b.out.2.2.2 2 (by omega) (by omega)).mono ?_;rintro e cq ⟨⟨r,rfl,J,B⟩,o,s⟩;have b:=ae (b.out.call o s E d);clear o s;obtain ⟨an,H⟩:=b.out.cell 7 (by omega);have C:=b.out.frozen 7;go_upto_region 52 with fail;clear H C;have b:=ae (b.out.put 7 (I Z r) rfl (by omega) (fun _=>⟨_,rfl⟩) (by omega) v d);generalize cq.setCell ⟨ab,7,none⟩ (I Z r)=ex at *;obtain ⟨N,⟨vs,P,q⟩,R,Q⟩:=b.out;clear b;have j:=q.1;have p:=q.all;go_wp2_with (first | (refine Zad P j _ rfl rfl rfl ?_) | (refine Zae N rfl _ _ rfl rfl rfl _ rfl j p ?_;intro wz M y));exact bodyPost_ret (Zah rfl _ rfl M j) rfl ⟨⟨vs,rfl,q⟩,Zac R y (fun i e hi=>by injection e with e;omega),Q.step y (fun i e=>by injection e with e;omega)⟩
   ·skip;go_upto_region 19 with fail;go_wp2_with fail;refine (Zak b.out.2.2.2 3 (by omega) (by omega)).mono ?_;rintro e ds ⟨⟨r,rfl,J,B⟩,o,s⟩;have b:=ae (b.out.call o s E d);clear o s;obtain ⟨an,H⟩:=b.out.cell 7 (by omega);have C:=b.out.frozen 7;go_upto_region 52 with fail;clear H C;have b:=ae (b.out.put 7 (I Z r) rfl (by omega) (fun _=>⟨_,rfl⟩) (by omega) v d);generalize ds.setCell ⟨ab,7,none⟩ (I Z r)=ey at *;obtain ⟨N,⟨vs,P,q⟩,R,Q⟩:=b.out;clear b;have j:=q.1;have p:=q.all;go_wp2_with (first | (refine Zad P j _ rfl rfl rfl ?_) | (refine Zae N rfl _ _ rfl rfl rfl _ rfl j p ?_;intro wz M y));exact bodyPost_ret (Zah rfl _ rfl M j) rfl ⟨⟨vs,rfl,q⟩,Zac R y (fun i e hi=>by injection e with e;omega),Q.step y (fun i e=>by injection e with e;omega)⟩
   ·skip;go_upto_region 19 with fail;go_wp2_with fail;refine (Zak b.out.2.2.2 3 (by omega) (by omega)).mono ?_;rintro e dz ⟨⟨r,rfl,J,B⟩,o,s⟩;have b:=ae (b.out.call o s E d);clear o s;obtain ⟨an,H⟩:=b.out.cell 7 (by omega);have C:=b.out.frozen 7;go_upto_region 52 with fail;clear H C;have b:=ae (b.out.put 7 (I Z r) rfl (by omega) (fun _=>⟨_,rfl⟩) (by omega) v d);generalize dz.setCell ⟨ab,7,none⟩ (I Z r)=fi at *;obtain ⟨N,⟨vs,P,q⟩,R,Q⟩:=b.out;clear b;have j:=q.1;have p:=q.all;go_wp2_with (first | (refine Zad P j _ rfl rfl rfl ?_) | (refine Zae N rfl _ _ rfl rfl rfl _ rfl j p ?_;intro wz M y));exact bodyPost_ret (Zah rfl _ rfl M j) rfl ⟨⟨vs,rfl,q⟩,Zac R y (fun i e hi=>by injection e with e;omega),Q.step y (fun i e=>by injection e with e;omega)⟩
   ·skip;go_upto_region 21 with fail;go_wp2_with fail;refine (Zak b.out.2.2.2 3 (by omega) (by omega)).mono ?_;rintro e dd ⟨⟨r,rfl,J,B⟩,o,s⟩;have b:=ae (b.out.call o s E d);clear o s;obtain ⟨an,H⟩:=b.out.cell 7 (by omega);have C:=b.out.frozen 7;go_upto_region 22 with fail;clear H C;have b:=ae (b.out.put 7 (I Z r) rfl (by omega) (fun _=>⟨_,rfl⟩) (by omega) v d);generalize dd.setCell ⟨ab,7,none⟩ (I Z r)=e6 at *;go_wp2_with fail;refine (Zak b.out.2.2.2 4 (by omega) (by omega)).mono ?_;rintro e cu ⟨⟨r,rfl,J,B⟩,o,s⟩;have b:=ae (b.out.call o s E d);clear o s;obtain ⟨cg,a0⟩:=b.out.cell 8 (by omega);have av:=b.out.frozen 8;go_upto_region 52 with fail;clear a0 av;have b:=ae (b.out.put 8 (I Z (1+r)) rfl (by omega) (by omega) (by omega) v d);generalize cu.setCell ⟨ab,8,none⟩ (I Z (1+r))=ez at *;obtain ⟨N,⟨vs,P,q⟩,R,Q⟩:=b.out;clear b;have j:=q.1;have p:=q.all;go_wp2_with (first | (refine Zad P j _ rfl rfl rfl ?_) | (refine Zae N rfl _ _ rfl rfl rfl _ rfl j p ?_;intro wz M y));exact bodyPost_ret (Zah rfl _ rfl M j) rfl ⟨⟨vs,rfl,q⟩,Zac R y (fun i e hi=>by injection e with e;omega),Q.step y (fun i e=>by injection e with e;omega)⟩
   ·skip;go_upto_region 24 with fail;go_wp2_with fail;refine (Zak b.out.2.2.2 60 (by omega) (by omega)).mono ?_;rintro e cp ⟨⟨r,rfl,J,B⟩,o,s⟩;have b:=ae (b.out.call o s E d);clear o s;obtain ⟨an,H⟩:=b.out.cell 7 (by omega);have C:=b.out.frozen 7;go_upto_region 52 with fail;clear H C;have b:=ae (b.out.put 7 (I Z r) rfl (by omega) (fun _=>⟨_,rfl⟩) (by omega) v d);generalize cp.setCell ⟨ab,7,none⟩ (I Z r)=e7 at *;obtain ⟨N,⟨vs,P,q⟩,R,Q⟩:=b.out;clear b;have j:=q.1;have p:=q.all;go_wp2_with (first | (refine Zad P j _ rfl rfl rfl ?_) | (refine Zae N rfl _ _ rfl rfl rfl _ rfl j p ?_;intro wz M y));exact bodyPost_ret (Zah rfl _ rfl M j) rfl ⟨⟨vs,rfl,q⟩,Zac R y (fun i e hi=>by injection e with e;omega),Q.step y (fun i e=>by injection e with e;omega)⟩
   ·skip;go_upto_region 52 with fail;obtain ⟨N,⟨vs,P,q⟩,R,Q⟩:=b.out;clear b;have j:=q.1;have p:=q.all;go_wp2_with (first | (refine Zad P j _ rfl rfl rfl ?_) | (refine Zae N rfl _ _ rfl rfl rfl _ rfl j p ?_;intro wz M y));exact bodyPost_ret (Zah rfl _ rfl M j) rfl ⟨⟨vs,rfl,q⟩,Zac R y (fun i e hi=>by injection e with e;omega),Q.step y (fun i e=>by injection e with e;omega)⟩
   ·skip;go_upto_region 52 with fail;obtain ⟨N,⟨vs,P,q⟩,R,Q⟩:=b.out;clear b;have j:=q.1;have p:=q.all;go_wp2_with (first | (refine Zad P j _ rfl rfl rfl ?_) | (refine Zae N rfl _ _ rfl rfl rfl _ rfl j p ?_;intro wz M y));exact bodyPost_ret (Zah rfl _ rfl M j) rfl ⟨⟨vs,rfl,q⟩,Zac R y (fun i e hi=>by injection e with e;omega),Q.step y (fun i e=>by injection e with e;omega)⟩
   ·skip;go_upto_region 27 with fail;go_wp2_with fail;refine (Zak b.out.2.2.2 4 (by omega) (by omega)).mono ?_;rintro e dv ⟨⟨r,rfl,J,B⟩,o,s⟩;have b:=ae (b.out.call o s E d);clear o s;obtain ⟨a8,U⟩:=b.out.cell 5 (by omega);have T:=b.out.frozen 5;go_upto_region 52 with fail;clear U T;have b:=ae (b.out.put 5 (I Z (1+r)) rfl (by omega) (by omega) (fun _=>⟨_,rfl⟩) v d);generalize dv.setCell ⟨ab,5,none⟩ (I Z (1+r))=f3 at *;obtain ⟨N,⟨vs,P,q⟩,R,Q⟩:=b.out;clear b;have j:=q.1;have p:=q.all;go_wp2_with (first | (refine Zad P j _ rfl rfl rfl ?_) | (refine Zae N rfl _ _ rfl rfl rfl _ rfl j p ?_;intro wz M y));exact bodyPost_ret (Zah rfl _ rfl M j) rfl ⟨⟨vs,rfl,q⟩,Zac R y (fun i e hi=>by injection e with e;omega),Q.step y (fun i e=>by injection e with e;omega)⟩
   ·skip;go_upto_region 29 with fail;go_wp2_with fail;refine (Zak b.out.2.2.2 3 (by omega) (by omega)).mono ?_;rintro e d7 ⟨⟨r,rfl,J,B⟩,o,s⟩;have b:=ae (b.out.call o s E d);clear o s;obtain ⟨an,H⟩:=b.out.cell 7 (by omega);have C:=b.out.frozen 7;go_upto_region 30 with fail;clear H C;have b:=ae (b.out.put 7 (I Z r) rfl (by omega) (fun _=>⟨_,rfl⟩) (by omega) v d);generalize d7.setCell ⟨ab,7,none⟩ (I Z r)=fo at *;go_wp2_with fail;refine (Zak b.out.2.2.2 2 (by omega) (by omega)).mono ?_;rintro e cr ⟨⟨r,rfl,J,B⟩,o,s⟩;have b:=ae (b.out.call o s E d);clear o s;obtain ⟨b2,aa⟩:=b.out.cell 6 (by omega);have al:=b.out.frozen 6;go_upto_region 31 with fail;clear aa al;have b:=ae (b.out.put 6 (I Z r) rfl (by omega) (by omega) (by omega) v d);generalize cr.setCell ⟨ab,6,none⟩ (I Z r)=fg at *;obtain ⟨x7,cv⟩:=b.out.int7;by_cases h2:x7=2
    ·subst h2;go_upto_region 32 with fail;clear cv;go_wp2_with fail;refine (Zfb b.out.2.2.2).mono ?_;rintro e co ⟨⟨u,aq,rfl,V,a1⟩,o,s⟩;obtain ⟨Ac,cc,rfl,_,_⟩:=V.out.claims;have b:=ae (b.out.call o s E d);clear o s V a1;obtain ⟨bf,ad⟩:=b.out.cell 13 (by omega);have af:=b.out.frozen 13;go_upto_region 52 with fail;clear ad af;have b:=ae (b.out.put 13 (G Ac aq.length cc) rfl (by omega) (by omega) (by omega) v d);generalize co.setCell ⟨ab,13,none⟩ (G Ac aq.length cc)=e4 at *;obtain ⟨N,⟨vs,P,q⟩,R,Q⟩:=b.out;clear b;have j:=q.1;have p:=q.all;go_wp2_with (first | (refine Zad P j _ rfl rfl rfl ?_) | (refine Zae N rfl _ _ rfl rfl rfl _ rfl j p ?_;intro wz M y));exact bodyPost_ret (Zah rfl _ rfl M j) rfl ⟨⟨vs,rfl,q⟩,Zac R y (fun i e hi=>by injection e with e;omega),Q.step y (fun i e=>by injection e with e;omega)⟩
    ·have e1:(x7 == 2)=false:=by simpa using h2
     go_upto_region 52 with fail;obtain ⟨N,⟨vs,P,q⟩,R,Q⟩:=b.out;clear b;have j:=q.1;have p:=q.all;go_wp2_with (first | (refine Zad P j _ rfl rfl rfl ?_) | (refine Zae N rfl _ _ rfl rfl rfl _ rfl j p ?_;intro wz M y));exact bodyPost_ret (Zah rfl _ rfl M j) rfl ⟨⟨vs,rfl,q⟩,Zac R y (fun i e hi=>by injection e with e;omega),Q.step y (fun i e=>by injection e with e;omega)⟩
   ·skip;go_upto_region 27 with fail;go_wp2_with fail;refine (Zak b.out.2.2.2 4 (by omega) (by omega)).mono ?_;rintro e d2 ⟨⟨r,rfl,J,B⟩,o,s⟩;have b:=ae (b.out.call o s E d);clear o s;obtain ⟨a8,U⟩:=b.out.cell 5 (by omega);have T:=b.out.frozen 5;go_upto_region 52 with fail;clear U T;have b:=ae (b.out.put 5 (I Z (1+r)) rfl (by omega) (by omega) (fun _=>⟨_,rfl⟩) v d);generalize d2.setCell ⟨ab,5,none⟩ (I Z (1+r))=fx at *;obtain ⟨N,⟨vs,P,q⟩,R,Q⟩:=b.out;clear b;have j:=q.1;have p:=q.all;go_wp2_with (first | (refine Zad P j _ rfl rfl rfl ?_) | (refine Zae N rfl _ _ rfl rfl rfl _ rfl j p ?_;intro wz M y));exact bodyPost_ret (Zah rfl _ rfl M j) rfl ⟨⟨vs,rfl,q⟩,Zac R y (fun i e hi=>by injection e with e;omega),Q.step y (fun i e=>by injection e with e;omega)⟩
   ·skip;go_upto_region 7 with fail;go_wp2_with fail;refine (Zfb b.out.2.2.2).mono ?_;rintro e dp ⟨⟨u,aq,rfl,V,a1⟩,o,s⟩;obtain ⟨Ac,cc,rfl,_,_⟩:=V.out.claims;have b:=ae (b.out.call o s E d);clear o s V a1;obtain ⟨bf,ad⟩:=b.out.cell 13 (by omega);have af:=b.out.frozen 13;go_upto_region 52 with fail;clear ad af;have b:=ae (b.out.put 13 (G Ac aq.length cc) rfl (by omega) (by omega) (by omega) v d);generalize dp.setCell ⟨ab,13,none⟩ (G Ac aq.length cc)=fh at *;obtain ⟨N,⟨vs,P,q⟩,R,Q⟩:=b.out;clear b;have j:=q.1;have p:=q.all;go_wp2_with (first | (refine Zad P j _ rfl rfl rfl ?_) | (refine Zae N rfl _ _ rfl rfl rfl _ rfl j p ?_;intro wz M y));exact bodyPost_ret (Zah rfl _ rfl M j) rfl ⟨⟨vs,rfl,q⟩,Zac R y (fun i e hi=>by injection e with e;omega),Q.step y (fun i e=>by injection e with e;omega)⟩
   ·skip;go_upto_region 34 with fail;go_wp2_with fail;refine (Zak b.out.2.2.2 3 (by omega) (by omega)).mono ?_;rintro e d5 ⟨⟨r,rfl,J,B⟩,o,s⟩;have b:=ae (b.out.call o s E d);clear o s;obtain ⟨a8,U⟩:=b.out.cell 5 (by omega);have T:=b.out.frozen 5;go_upto_region 35 with fail;clear U T;have b:=ae (b.out.put 5 (I Z (1+r)) rfl (by omega) (by omega) (fun _=>⟨_,rfl⟩) v d);generalize d5.setCell ⟨ab,5,none⟩ (I Z (1+r))=c9 at *;go_cut [] (fun wx=>OSt w wx base g A n c day (G Af fl.length cf) ab 16)
    case first =>
     obtain ⟨x5,a3⟩:=b.out.int5;refine wp_region_held_drew (S:=(fun W=>OSt w W base g A n c day (G Af fl.length cf) ab 16/\W.cell? ⟨ab,5,none⟩=some (I Z x5))) (by kernel_rfl) ?_ (fun m=>?_)
     ·first | done | ((try dsimp only);exact ⟨b.out.step (Zat c9 none) (fun _ e=>by cases e),a3⟩)
     clear b a3;refine tq 0 118 rfl ?_;refine th 1 119 rfl (fun _ Y=>Y.2) ?_;refine tq 2 120 rfl ?_;refine tq 3 121 rfl ?_;have a6:=m.1.lt_ab;refine rd 4 (some 122) rfl fun K hK=>?_;go_simp;(refine (Zak m.1.2.2.2 2 (by omega) (by omega)).mono ?_;rintro e en ⟨⟨r,rfl,J,B⟩,o,s⟩);refine hK.out _ _ ?_ (fun m=>?_)
     ·first | done | ((try dsimp only);exact ⟨m.1.call o s E d,(dc (a:=⟨ab,5,none⟩) (o.block ab a6 (fun e=>by injection e with e;omega))).trans m.2⟩)
     clear hK K;(try simp only [pS,pB,pZ,pC]);refine tq 5 123 rfl ?_;refine tq 6 124 rfl ?_;obtain ⟨b2,aa⟩:=m.1.cell 6 (by omega);have al:=m.1.frozen 6;refine rd 7 none rfl fun K hK=>?_;go_simp;refine hK.out _ _ ?_ (fun m=>?_)
     ·exact ⟨m.1.put 6 _ rfl (by omega) (by omega) (by omega) v d,(World.cell?_setCell_other _ _ _ _ (fun e=>by injection e with _ e _;omega)).trans m.2⟩
     clear hK K aa al;(try simp only [Act.put]);refine dn ?_;go_wp2_with fail;go_meet;exact m.1
    case rest =>
     clear b;have b:=ae hcut;obtain ⟨vP,rfl⟩:∃ z:World,z=wc:=⟨_,rfl⟩;clear hcut;go_upto_region 36 with fail;have RL:=Blk.new vP 38 (Zdj [1,1,1,2,1,3,2,3]).toArray;have gl:=ao vP (O (Zdj [1,1,1,2,1,3,2,3]).toArray 38) none;have X:=ae (b.out.step gl (fun _ e=>by cases e));have a2:g<vP.heap.size:=b.out.2.2.2.lt;clear b gl;go_wp2_with fail;refine (Zak X.out.2.2.2 4 (by omega) (by omega)).mono ?_;rintro e bs ⟨⟨r,rfl,J,B⟩,o,s⟩;obtain ⟨L,rfl⟩:∃ L:Nat,r=(L:Int):=⟨r.toNat,by omega⟩
     have RL:=RL.grown o (fun e=>by injection e with e;omega);have am:L<4:=by omega
     have ca:bs.cell? ⟨vP.heap.size,L * 2,none⟩=some (I Z (([1,1,1,2,1,3,2,3]:List Int)[L * 2]'(by show L * 2<8;omega))):=RL.cellAt (L * 2) _ (by rw [ep];exact Zbx [1,1,1,2,1,3,2,3] (L * 2) (by show L * 2<8;omega));have b5:bs.cell? ⟨vP.heap.size,L * 2+1,none⟩=some (I Z (([1,1,1,2,1,3,2,3]:List Int)[L * 2+1]'(by show L * 2+1<8;omega))):=RL.cellAt (L * 2+1) _ (by rw [ep];exact Zbx [1,1,1,2,1,3,2,3] (L * 2+1) (by show L * 2+1<8;omega));have b:=ae (X.out.call o s E d);clear o s X RL;generalize ([1,1,1,2,1,3,2,3]:List Int)[L * 2]'(by show L * 2<8;omega)=xa at *;generalize ([1,1,1,2,1,3,2,3]:List Int)[L * 2+1]'(by show L * 2+1<8;omega)=xb at *;obtain ⟨f6,b7⟩:=b.out.cell 9 (by omega);have b8:=b.out.frozen 9;obtain ⟨eg,bp⟩:=b.out.cell 10 (by omega);have bk:=b.out.frozen 10;go_upto_region 52 with fail;clear b7 b8 bp bk;clear ca b5 am a2 J B;have b:=ae ((b.out.put 9 (I Z xa) rfl (by omega) (by omega) (by omega) v d).put 10 (I Z xb) rfl (by omega) (by omega) (by omega) v d);generalize ((bs.setCell ⟨ab,9,none⟩ (I Z xa)).setCell ⟨ab,10,none⟩ (I Z xb))=ft at *;obtain ⟨N,⟨vs,P,q⟩,R,Q⟩:=b.out;clear b;have j:=q.1;have p:=q.all;go_wp2_with (first | (refine Zad P j _ rfl rfl rfl ?_) | (refine Zae N rfl _ _ rfl rfl rfl _ rfl j p ?_;intro wz M y));exact bodyPost_ret (Zah rfl _ rfl M j) rfl ⟨⟨vs,rfl,q⟩,Zac R y (fun i e hi=>by injection e with e;omega),Q.step y (fun i e=>by injection e with e;omega)⟩
   ·skip;go_upto_region 38 with fail;go_wp2_with fail;refine (Zak b.out.2.2.2 3 (by omega) (by omega)).mono ?_;rintro e c6 ⟨⟨r,rfl,J,B⟩,o,s⟩;have b:=ae (b.out.call o s E d);clear o s;obtain ⟨a8,U⟩:=b.out.cell 5 (by omega);have T:=b.out.frozen 5;go_upto_region 39 with fail;clear U T;have b:=ae (b.out.put 5 (I Z (1+r)) rfl (by omega) (by omega) (fun _=>⟨_,rfl⟩) v d);generalize c6.setCell ⟨ab,5,none⟩ (I Z (1+r))=cn at *;go_cut [] (fun wx=>OSt w wx base g A n c day (G Af fl.length cf) ab 17)
    case first =>
     obtain ⟨x5,a3⟩:=b.out.int5;refine wp_region_held_drew (S:=(fun W=>OSt w W base g A n c day (G Af fl.length cf) ab 17/\W.cell? ⟨ab,5,none⟩=some (I Z x5))) (by kernel_rfl) ?_ (fun m=>?_)
     ·first | done | ((try dsimp only);exact ⟨b.out.step (Zat cn none) (fun _ e=>by cases e),a3⟩)
     clear b a3;refine tq 0 141 rfl ?_;refine th 1 142 rfl (fun _ Y=>Y.2) ?_;refine tq 2 143 rfl ?_;refine tq 3 144 rfl ?_;have a6:=m.1.lt_ab;refine rd 4 (some 145) rfl fun K hK=>?_;go_simp;(refine (Zak m.1.2.2.2 2 (by omega) (by omega)).mono ?_;rintro e eo ⟨⟨r,rfl,J,B⟩,o,s⟩);refine hK.out _ _ ?_ (fun m=>?_)
     ·first | done | ((try dsimp only);exact ⟨m.1.call o s E d,(dc (a:=⟨ab,5,none⟩) (o.block ab a6 (fun e=>by injection e with e;omega))).trans m.2⟩)
     clear hK K;(try simp only [pS,pB,pZ,pC]);refine tq 5 146 rfl ?_;refine tq 6 147 rfl ?_;obtain ⟨b2,aa⟩:=m.1.cell 6 (by omega);have al:=m.1.frozen 6;refine rd 7 none rfl fun K hK=>?_;go_simp;refine hK.out _ _ ?_ (fun m=>?_)
     ·exact ⟨m.1.put 6 _ rfl (by omega) (by omega) (by omega) v d,(World.cell?_setCell_other _ _ _ _ (fun e=>by injection e with _ e _;omega)).trans m.2⟩
     clear hK K aa al;(try simp only [Act.put]);refine dn ?_;go_wp2_with fail;go_meet;exact m.1
    case rest =>
     clear b;have b:=ae hcut;obtain ⟨vP,rfl⟩:∃ z:World,z=wc:=⟨_,rfl⟩;clear hcut;go_upto_region 40 with fail;go_wp2_with fail;refine (Zak b.out.2.2.2 2000 (by omega) (by omega)).mono ?_;rintro e cl ⟨⟨r,rfl,J,B⟩,o,s⟩;have b:=ae (b.out.call o s E d);clear o s;obtain ⟨an,H⟩:=b.out.cell 7 (by omega);have C:=b.out.frozen 7;go_upto_region 52 with fail;clear H C;have b:=ae (b.out.put 7 (I Z r) rfl (by omega) (fun _=>⟨_,rfl⟩) (by omega) v d);generalize cl.setCell ⟨ab,7,none⟩ (I Z r)=f1 at *;obtain ⟨N,⟨vs,P,q⟩,R,Q⟩:=b.out;clear b;have j:=q.1;have p:=q.all;go_wp2_with (first | (refine Zad P j _ rfl rfl rfl ?_) | (refine Zae N rfl _ _ rfl rfl rfl _ rfl j p ?_;intro wz M y));exact bodyPost_ret (Zah rfl _ rfl M j) rfl ⟨⟨vs,rfl,q⟩,Zac R y (fun i e hi=>by injection e with e;omega),Q.step y (fun i e=>by injection e with e;omega)⟩
   ·skip;go_upto_region 42 with fail;go_wp2_with fail;refine (Zak b.out.2.2.2 2 (by omega) (by omega)).mono ?_;rintro e eb ⟨⟨r,rfl,J,B⟩,o,s⟩;have b:=ae (b.out.call o s E d);clear o s;obtain ⟨an,H⟩:=b.out.cell 7 (by omega);have C:=b.out.frozen 7;go_upto_region 52 with fail;clear H C;have b:=ae (b.out.put 7 (I Z r) rfl (by omega) (fun _=>⟨_,rfl⟩) (by omega) v d);generalize eb.setCell ⟨ab,7,none⟩ (I Z r)=fn at *;obtain ⟨N,⟨vs,P,q⟩,R,Q⟩:=b.out;clear b;have j:=q.1;have p:=q.all;go_wp2_with (first | (refine Zad P j _ rfl rfl rfl ?_) | (refine Zae N rfl _ _ rfl rfl rfl _ rfl j p ?_;intro wz M y));exact bodyPost_ret (Zah rfl _ rfl M j) rfl ⟨⟨vs,rfl,q⟩,Zac R y (fun i e hi=>by injection e with e;omega),Q.step y (fun i e=>by injection e with e;omega)⟩
   ·skip;go_upto_region 44 with fail;go_wp2_with fail;refine (Zey b.out.2.2.2).mono ?_;rintro e c7 ⟨⟨fa,fb,f5,fd,t,rfl,V,dr⟩,o,s⟩;obtain ⟨A1,n1,q1,A2,n2,q2,rfl,rfl,rfl,rfl⟩:=Zaq (V [] (fun _ h=>by cases h)).out;have b:=ae (b.out.call o s E d);clear o s V dr;generalize t.op=op at *;generalize t.n=tn at *;obtain ⟨ec,bq⟩:=b.out.cell 15 (by omega);have bg:=b.out.frozen 15;obtain ⟨ek,bo⟩:=b.out.cell 16 (by omega);have bh:=b.out.frozen 16;obtain ⟨el,b4⟩:=b.out.cell 17 (by omega);have bl:=b.out.frozen 17;obtain ⟨em,b0⟩:=b.out.cell 18 (by omega);have b1:=b.out.frozen 18;go_upto_region 52 with fail;clear bq bg bo bh b4 bl b0 b1;have b:=ae ((((b.out.put 15 (I Z op) rfl (by omega) (by omega) (by omega) v d).put 16 (I Z tn) rfl (by omega) (by omega) (by omega) v d).put 17 (G A1 n1 q1) rfl (by omega) (by omega) (by omega) v d).put 18 (G A2 n2 q2) rfl (by omega) (by omega) (by omega) v d);generalize ((((c7.setCell ⟨ab,15,none⟩ (I Z op)).setCell ⟨ab,16,none⟩ (I Z tn)).setCell ⟨ab,17,none⟩ (G A1 n1 q1)).setCell ⟨ab,18,none⟩ (G A2 n2 q2))=f7 at *;obtain ⟨N,⟨vs,P,q⟩,R,Q⟩:=b.out;clear b;have j:=q.1;have p:=q.all;go_wp2_with (first | (refine Zad P j _ rfl rfl rfl ?_) | (refine Zae N rfl _ _ rfl rfl rfl _ rfl j p ?_;intro wz M y));exact bodyPost_ret (Zah rfl _ rfl M j) rfl ⟨⟨vs,rfl,q⟩,Zac R y (fun i e hi=>by injection e with e;omega),Q.step y (fun i e=>by injection e with e;omega)⟩
   ·skip;go_upto_region 46 with fail;go_wp2_with fail;refine (Zak b.out.2.2.2 2 (by omega) (by omega)).mono ?_;rintro e d4 ⟨⟨r,rfl,J,B⟩,o,s⟩;have b:=ae (b.out.call o s E d);clear o s;obtain ⟨ea,a9⟩:=b.out.cell 4 (by omega);have a7:=b.out.frozen 4;go_upto_region 47 with fail;clear a9 a7;have b:=ae (b.out.put 4 (I Z r) rfl (by omega) (by omega) (by omega) v d);generalize d4.setCell ⟨ab,4,none⟩ (I Z r)=fy at *;go_wp2_with fail;refine (Zak b.out.2.2.2 20 (by omega) (by omega)).mono ?_;rintro e ck ⟨⟨r,rfl,J,B⟩,o,s⟩;have b:=ae (b.out.call o s E d);clear o s;obtain ⟨an,H⟩:=b.out.cell 7 (by omega);have C:=b.out.frozen 7;go_upto_region 52 with fail;clear H C;have b:=ae (b.out.put 7 (I Z r) rfl (by omega) (fun _=>⟨_,rfl⟩) (by omega) v d);generalize ck.setCell ⟨ab,7,none⟩ (I Z r)=e8 at *;obtain ⟨N,⟨vs,P,q⟩,R,Q⟩:=b.out;clear b;have j:=q.1;have p:=q.all;go_wp2_with (first | (refine Zad P j _ rfl rfl rfl ?_) | (refine Zae N rfl _ _ rfl rfl rfl _ rfl j p ?_;intro wz M y));exact bodyPost_ret (Zah rfl _ rfl M j) rfl ⟨⟨vs,rfl,q⟩,Zac R y (fun i e hi=>by injection e with e;omega),Q.step y (fun i e=>by injection e with e;omega)⟩
   ·skip;go_upto_region 49 with fail;go_wp2_with fail;refine (Zak b.out.2.2.2 2 (by omega) (by omega)).mono ?_;rintro e cm ⟨⟨r,rfl,J,B⟩,o,s⟩;have b:=ae (b.out.call o s E d);clear o s;obtain ⟨ea,a9⟩:=b.out.cell 4 (by omega);have a7:=b.out.frozen 4;go_upto_region 50 with fail;clear a9 a7;have b:=ae (b.out.put 4 (I Z r) rfl (by omega) (by omega) (by omega) v d);generalize cm.setCell ⟨ab,4,none⟩ (I Z r)=e9 at *;go_wp2_with fail;refine (Zak b.out.2.2.2 19 (by omega) (by omega)).mono ?_;rintro e d0 ⟨⟨r,rfl,J,B⟩,o,s⟩;have b:=ae (b.out.call o s E d);clear o s;obtain ⟨an,H⟩:=b.out.cell 7 (by omega);have C:=b.out.frozen 7;go_upto_region 51 with fail;clear H C;have b:=ae (b.out.put 7 (I Z r) rfl (by omega) (fun _=>⟨_,rfl⟩) (by omega) v d);generalize d0.setCell ⟨ab,7,none⟩ (I Z r)=bc at *;have RL:=Blk.new bc 3 (Zdj [1,2,3,6,12,18,20,50]).toArray;have gl:=ao bc (O (Zdj [1,2,3,6,12,18,20,50]).toArray 3) none;have X:=ae (b.out.step gl (fun _ e=>by cases e));have a2:g<bc.heap.size:=b.out.2.2.2.lt;clear b gl;go_wp2_with fail;refine (Zak X.out.2.2.2 8 (by omega) (by omega)).mono ?_;rintro e ci ⟨⟨r,rfl,J,B⟩,o,s⟩;obtain ⟨L,rfl⟩:∃ L:Nat,r=(L:Int):=⟨r.toNat,by omega⟩
    have am:L<([1,2,3,6,12,18,20,50]:List Int).length:=by show L<8;omega
    have RL:=RL.grown o (fun e=>by injection e with e;omega);have a5:ci.cell? ⟨bc.heap.size,L,none⟩=some (I Z ([1,2,3,6,12,18,20,50]:List Int)[L]):=RL.cellAt L _ (by rw [ep];exact Zbx [1,2,3,6,12,18,20,50] L am);have b:=ae (X.out.call o s E d);clear o s X RL;generalize ([1,2,3,6,12,18,20,50]:List Int)[L]=xv at *;obtain ⟨cg,a0⟩:=b.out.cell 8 (by omega);have av:=b.out.frozen 8;go_upto_region 52 with fail;clear a0 av;clear a5 am a2 J B;have b:=ae (b.out.put 8 (I Z xv) rfl (by omega) (by omega) (by omega) v d);generalize ci.setCell ⟨ab,8,none⟩ (I Z xv)=fs at *;obtain ⟨N,⟨vs,P,q⟩,R,Q⟩:=b.out;clear b;have j:=q.1;have p:=q.all;go_wp2_with (first | (refine Zad P j _ rfl rfl rfl ?_) | (refine Zae N rfl _ _ rfl rfl rfl _ rfl j p ?_;intro wz M y));exact bodyPost_ret (Zah rfl _ rfl M j) rfl ⟨⟨vs,rfl,q⟩,Zac R y (fun i e hi=>by injection e with e;omega),Q.step y (fun i e=>by injection e with e;omega)⟩
inductive Zdi where
 | fil (f:Fil)
 | oth (kind:Int) (vs:Array Value)
def Zdi.cells:Zdi->List D
 | .fil f=>f.cells
 | .oth _ vs=>Zdv vs.toList
def Zdi.ok:Zdi->Prop
 | .fil _=>True
 | .oth kind vs=>1<=kind/\kind<=21/\Ycz kind vs
theorem Zdi.cells_length {x:Zdi} (h:x.ok):x.cells.length=19:=by
 cases x with
 | fil f=>rfl
 | oth k vs=>exact (Zdo _).trans ((br).trans h.2.2.1)
def Zav:List Zdi->List Fil
 | []=>[]
 | .fil f::l=>f::Zav l
 | .oth _ _::l=>Zav l
theorem Zjz (a b:List Zdi):Zav (a++b)=Zav a++Zav b:=by
 induction a with
 | nil=>rfl
 | cons x a ih=>cases x <;> simp [Zav,ih]
theorem Zi0 (a:List Zdi):(Zav a).length<=a.length:=by
 induction a with
 | nil=>exact ag _
 | cons x a ih=>cases x <;> simp [Zav] <;> omega
def Zx8 (l:List Zdi):Prop:=l.length<=14/\(∀ x∈l,x.ok)/\Yi4 (Zav l)
theorem Yen:Zx8 []:=⟨bi _,(fun _ h=>by cases h),bi _,fun i h=>absurd h (jf i)⟩
theorem Zx8.cells {l:List Zdi} (h:Zx8 l):(l.flatMap Zdi.cells).length=l.length * 19:=Zai (fun x a=>Zdi.cells_length (h.2.1 x a))
end Go.Proofs.YtglkadmfjaecmaaGreatDoor
