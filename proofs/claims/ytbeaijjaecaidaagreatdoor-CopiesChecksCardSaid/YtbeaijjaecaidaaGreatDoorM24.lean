/- ref37.Bent of a copy: a copy again. Written by mkbnt.py. The copy of a filing of a log, under the head of its first entries. Equality of equal ones: ref01.SameBytes, ref32.Same, ref18.Same, ref37.Same; law37.plain. Written by mksam.py. ref37.Same of two copies that are equal. law37.plain: a copy of the program, as one of the reference. Written by mksam.py. -/
import Derived.Test.YtbeaijjaecaidaaGreatDoorM20
import Derived.Test.YtbeaijjaecaidaaGreatDoorM23
import Derived.Test.YtbeaijjaecaidaaGreatDoorM18
import Derived.Test.YtbeaijjaecaidaaGreatDoorM01
set_option maxRecDepth 100000
set_option maxHeartbeats 16000000
namespace Go.Proofs.YtbeaijjaecaidaaGreatDoor
open Go.RowKit Go.Shelf
attribute [local go_sem] Oper.semAt_some
structure CyAt (w:World) (base:Nat) (C:Array Value) (m k:Nat) (h:Hd) (i:Int) (V:Array Value) (x:Ac) (s:Nat) (A:Option Addr) (c:Nat) (ps:List Nat):Prop where
 cop:C=copA h i V s (.slice A ps.length c)
 vs:V.size=19
 one:V.all (·.oneCell')=true
 ok:AcOk x
 el:x.e.length≤m
 act:AcAt w w.heap.size V x
 len:ps.length≤k
 wds:Words ps
 row:w.ownsRow base 27 1 (.slice A ps.length c) ps.length (us ps)
 log:h.log<18446744073709551616
 map:h.map<18446744073709551616
 salt:s<18446744073709551616
def Cy (w:World) (C:Array Value) (m k:Nat):Prop:=∃ base h i V x s A c ps,CyAt w base C m k h i V x s A c ps
theorem own_below {w W:World} {base:Nat} {e:TypeId} {sz n:Nat} {v:Value} {xs:List Value} (h:w.ownsRow base e sz v n xs) (hW:Below w.heap.size w W):W.ownsRow base e sz v n xs :=
 h.kept (grown_of_below (row:=none) hW) (by
  cases hv:v.ownBlock with
  | none=>exact .inl rfl
  | some b=>exact .inr (fun e=>by cases e))
theorem Cy.keep {w W:World} {C:Array Value} {m k:Nat} (h:Cy w C m k) (hW:Below w.heap.size w W):Cy W C m k:=by
 obtain ⟨base,h,i,V,x,s,A,c,ps,g⟩:=h;exact ⟨base,h,i,V,x,s,A,c,ps,⟨g.cop,g.vs,g.one,g.ok,g.el,g.act.keep (fun p hp=>hW.cell hp) hW.size,g.len,g.wds,own_below g.row hW,g.log,g.map,g.salt⟩⟩
theorem Cy.more {w:World} {C:Array Value} {m k m' k':Nat} (h:Cy w C m k) (hm:m≤m') (hk:k≤k'):Cy w C m' k':=by
 obtain ⟨base,h,i,V,x,s,A,c,ps,g⟩:=h;exact ⟨base,h,i,V,x,s,A,c,ps,⟨g.cop,g.vs,g.one,g.ok,Nat.le_trans g.el hm,g.act,Nat.le_trans g.len hk,g.wds,g.row,g.log,g.map,g.salt⟩⟩
theorem us_one (ps:List Nat):∀ u∈us ps,u.oneCell'=true:=fun u hu=>by
 obtain ⟨x,_,rfl⟩:=List.mem_map.1 hu;rfl
theorem words_snoc {ps:List Nat} {x:Nat} (h:Words ps) (hx:x<18446744073709551616):Words (ps++[x]):=fun y hy=>by
 rcases List.mem_append.1 hy with hy | hy
 ·exact h y hy
 ·rw [List.mem_singleton.1 hy];exact hx
theorem words_set {ps:List Nat} {x:Nat} (h:Words ps) (hx:x<18446744073709551616) (j:Nat):Words (ps.set j x):=fun y hy=>by
 rcases List.mem_or_eq_of_mem_set hy with hy | hy
 ·exact h y hy
 ·rw [hy];exact hx
def prLen (W:World) (g:Nat):Nat:=match W.cell? ⟨g,29,none⟩ with
 | some (.slice _ n _)=>n
 | _=>0
theorem AcM.known {H:List Nat} {w:World} {V:Array Value} {x:Ac} (h:AcM H w V x) {n:Int}:AcM H w (V.setIfInBounds 2 (.int .i64 n)) { x with known:=n }:=by
 obtain ⟨dv,cv,lv,ev,rfl,h1,h2,h3,h4⟩:=h;exact ⟨dv,cv,lv,ev,rfl,h1,h2,h3,h4⟩
theorem AcM.office {H:List Nat} {w:World} {V:Array Value} {x:Ac} (h:AcM H w V x) {n:Int}:AcM H w (V.setIfInBounds 4 (.int .i64 n)) { x with office:=n }:=by
 obtain ⟨dv,cv,lv,ev,rfl,h1,h2,h3,h4⟩:=h;exact ⟨dv,cv,lv,ev,rfl,h1,h2,h3,h4⟩
theorem own_set {w:World} {base g n c:Nat} {xs:List Value} (h:w.ownsRow base 27 1 (.slice (some ⟨g,0,none⟩) n c) n xs) (k:Nat) (u:Value):(w.setCell ⟨g,k,none⟩ u).ownsRow base 27 1 (.slice (some ⟨g,0,none⟩) n c) n (xs.set k u):=by
 refine ⟨by rw [List.length_set];exact h.1,?_⟩
 rcases h.2 with ⟨e,_⟩ | ⟨g',cap,cur,e,hg,hb,hnc,hcap,hcur,hx⟩
 ·cases e
 ·injection e with e1 e2 e3
  injection e1 with e1
  injection e1 with e1
  subst e1 e3;refine .inr ⟨g,c,cur.setIfInBounds k u,rfl,hg,(show Blk w g 27 cur from hb).set k u,hnc,hcap,by simp [hcur],?_⟩
  rw [← hx,Array.toList_setIfInBounds,List.take_set]
theorem sets_size:∀ (vs:List Value) (o:Nat) (C:Array Value),(setsA C o vs).size=C.size
 | [],_,_=>rfl
 | v::r,o,C=>by rw [setsA,sets_size r,Array.size_setIfInBounds]
theorem sets_out:∀ (vs:List Value) (o:Nat) (C:Array Value) (k:Nat),(k<o∨o+vs.length≤k)→(setsA C o vs)[k]?=C[k]?
 | [],_,_,_,_=>rfl
 | v::r,o,C,k,h=>by
  rw [List.length_cons] at h;rw [setsA,sets_out r (o+1) _ k (by omega),Array.getElem?_setIfInBounds_ne (by omega)]
theorem sets_in:∀ (vs:List Value) (o:Nat) (C:Array Value) (j:Nat) (v:Value),vs[j]?=some v→o+vs.length≤C.size→(setsA C o vs)[o+j]?=some v
 | [],_,_,_,_,h,_=>by simp at h
 | u::r,o,C,0,v,h,hs=>by
  rw [List.length_cons] at hs;have e:u=v:=by simpa using h
  rw [setsA,sets_out r (o+1) _ _ (by omega),Nat.add_zero,Array.getElem?_setIfInBounds_self_of_lt (by omega),e]
 | u::r,o,C,j+1,v,h,hs=>by
  rw [List.length_cons] at hs;have h2:r[j]?=some v:=by simpa using h
  have e:=sets_in r (o+1) (C.setIfInBounds o u) j v h2 (by rw [Array.size_setIfInBounds];omega)
  rw [setsA,show o+(j+1)=o+1+j by omega]
  exact e
section
variable {h:Hd} {i:Int} {V:Array Value} {s:Nat} {p:Value}
theorem copA_head (hV:V.size=19) (h':Hd):setsA (copA h i V s p) 0 h'.vals.toList=copA h' i V s p:=by
 have hC:=copA_is (h:=h) (i:=i) (salt:=s) (p:=p) hV;have hcs:=hC.size;have h8:h'.vals.toList.length=8:=rfl;have out:∀ k,8≤k→(setsA (copA h i V s p) 0 h'.vals.toList)[k]?=(copA h i V s p)[k]?:=fun k hk=>sets_out _ _ _ _ (.inr (by omega))
 refine CopV.eq ⟨by rw [sets_size];exact hcs,hV,fun j v hj=>?_,fun j v hj=>?_,?_,?_,?_⟩
 ·rw [out _ (by omega)]
  exact hC.act j v hj
 ·have e:=sets_in h'.vals.toList 0 (copA h i V s p) j v hj (by omega)
  rw [Nat.zero_add] at e;exact e
 ·rw [out _ (by omega)];exact hC.idx
 ·rw [out _ (by omega)];exact hC.salt
 ·rw [out _ (by omega)];exact hC.path
theorem copA_act (hV:V.size=19) {V':Array Value} (hV':V'.size=19):setsA (copA h i V s p) 9 V'.toList=copA h i V' s p:=by
 have hC:=copA_is (h:=h) (i:=i) (salt:=s) (p:=p) hV;have hcs:=hC.size;have h19:V'.toList.length=19:=by rw [Array.length_toList,hV']
 have out:∀ k,(k<9∨28≤k)→(setsA (copA h i V s p) 9 V'.toList)[k]?=(copA h i V s p)[k]?:=fun k hk=>sets_out _ _ _ _ (by omega)
 refine CopV.eq ⟨by rw [sets_size];exact hcs,hV',fun j v hj=>?_,fun j v hj=>?_,?_,?_,?_⟩
 ·exact sets_in V'.toList 9 (copA h i V s p) j v hj (by omega)
 ·have hlt:j<8:=lt_of_some hj
  rw [out _ (by omega)]
  exact hC.hd j v hj
 ·rw [out _ (by omega)];exact hC.idx
 ·rw [out _ (by omega)];exact hC.salt
 ·rw [out _ (by omega)];exact hC.path
theorem copA_idx (hV:V.size=19) (j:Int):(copA h i V s p).setIfInBounds 8 (.int .i64 j)=copA h j V s p:=by
 obtain ⟨v0,v1,v2,v3,v4,v5,v6,v7,v8,v9,v10,v11,v12,v13,v14,v15,v16,v17,v18,rfl⟩:=arr19 hV;rfl
theorem copA_salt (hV:V.size=19) (s':Nat):(copA h i V s p).setIfInBounds 28 (.int .u64 (s':Int))=copA h i V s' p:=by
 obtain ⟨v0,v1,v2,v3,v4,v5,v6,v7,v8,v9,v10,v11,v12,v13,v14,v15,v16,v17,v18,rfl⟩:=arr19 hV;rfl
theorem copA_path (hV:V.size=19) (q:Value):(copA h i V s p).setIfInBounds 29 q=copA h i V s q:=by
 obtain ⟨v0,v1,v2,v3,v4,v5,v6,v7,v8,v9,v10,v11,v12,v13,v14,v15,v16,v17,v18,rfl⟩:=arr19 hV;rfl
theorem copA_known (hV:V.size=19) (q:Value):(copA h i V s p).setIfInBounds 11 q=copA h i (V.setIfInBounds 2 q) s p:=by
 obtain ⟨v0,v1,v2,v3,v4,v5,v6,v7,v8,v9,v10,v11,v12,v13,v14,v15,v16,v17,v18,rfl⟩:=arr19 hV;rfl
theorem copA_office (hV:V.size=19) (q:Value):(copA h i V s p).setIfInBounds 13 q=copA h i (V.setIfInBounds 4 q) s p:=by
 obtain ⟨v0,v1,v2,v3,v4,v5,v6,v7,v8,v9,v10,v11,v12,v13,v14,v15,v16,v17,v18,rfl⟩:=arr19 hV;rfl
end
theorem prLen_at {T:TypeId} {W:World} {g:Nat} {h:Hd} {i:Int} {V:Array Value} {s:Nat} {A:Option Addr} {n c:Nat} (hX:Blk W g T (copA h i V s (.slice A n c))) (hV:V.size=19):prLen W g=n:=by
 unfold prLen;rw [hX.cellAt 29 _ (copA_is hV).path]
theorem bnt_fin {w w6 wz:World} {b2 m k:Nat} {h:Hd} {i:Int} {V:Array Value} {x:Ac} {s:Nat} {A:Option Addr} {c:Nat} {ps:List Nat} (hV:V.size=19) (hV1:V.all (·.oneCell')=true) (hok:AcOk x) (hel:x.e.length≤m) (hA:AcM [w.heap.size,w.heap.size+1] w6 V x) (hlen:ps.length≤k) (hw:Words ps) (ho:w6.ownsRow b2 27 1 (.slice A ps.length c) ps.length (us ps)) (hb2:w.heap.size+1<b2) (hl:h.log<18446744073709551616) (hm:h.map<18446744073709551616) (hs:s<18446744073709551616) (P6:Below w.heap.size w w6) (gz:w6.grownBy wz (some (w.heap.size+1))) :
  (∃ C',Ending.returned (.agg (copA h i V s (.slice A ps.length c)))=.returned (.agg C')∧Cy wz C' m k)∧Below w.heap.size w wz :=
 ⟨⟨_,rfl,b2,h,i,V,x,s,A,c,ps,⟨rfl,hV,hV1,hok,hel,(hA.step gz (fun g e=>by injection e with e;subst e;simp)).out,hlen,hw,ho.kept gz (.inr (fun e=>by have:=(ho.lt _ e).1;omega)),hl,hm,hs⟩⟩,P6.grown gz P6.size (fun k e=>by injection e with e;omega)⟩
theorem bent37_any {w:World} {C:Array Value} {m k:Nat} (hC:Cy w C m k) (hm6:m≤6) (hk:18≤k) (hk2:k≤60) (how by_:Int) (hhow:-9223372036854775808≤how∧how≤9223372036854775807) (hby:I64 by_) :
  Calls Tryz.prog 16 #[.agg C,.int .i64 how,.int .i64 by_] w fun r w'=>(∃ C',r=.returned (.agg C')∧Cy w' C' (m+2) (k+1))∧Below w.heap.size w w':=by
 obtain ⟨base,h,i,V,x,s,A,c,ps,hy⟩:=hC;obtain ⟨rfl,hvs,hv1,hok,hel,hact,hlen,hwds,hrow,hlog,hmap,hsalt⟩:=hy;have hcs:=(copA_is (h:=h) (i:=i) (salt:=s) (p:=.slice A ps.length c) hvs).size;have HAC:=Lib.hid (fun (W:World) (hW:Below w.heap.size w W)=>AcM.of (H:=[w.heap.size,w.heap.size+1]) hact hW (by simp))
 have HVS:=Lib.hid hvs;have HV1:=Lib.hid hv1;have HOK:=Lib.hid hok;have HEL:=Lib.hid hel;have HLEN:=Lib.hid hlen;have HWD:=Lib.hid hwds;have HLOG:=Lib.hid hlog;have HMAP:=Lib.hid hmap;have HSALT:=Lib.hid hsalt;have HM6:=Lib.hid hm6;have HK:=Lib.hid hk;have HBY:=Lib.hid hby;have hbnd:ps.length≤60:=Nat.le_trans hlen hk2;have HCP:=Lib.hid (copA_is (h:=h) (i:=i) (salt:=s) (p:=.slice A ps.length c) hvs);have HSRC:=Lib.hid (fun (W:World) (hW:Below w.heap.size w W)=>(SrcP.of_own hrow).keep hW)
 obtain ⟨q,hq,hqb⟩:∃ q,IntKind.i64.wrap (Int.tdiv how 9)=q∧(-9223372036854775808≤q∧q≤9223372036854775807):=⟨_,rfl,by rw [IntKind.wrap_i64];omega⟩
 have HQB:=Lib.hid hqb;have hwb:=wrap_u64' by_;have hnb:=u64_lt by_;generalize u64 by_=nb at *;have HNB:=Lib.hid hnb;clear hvs hv1 hok hel hact hlen hwds hrow hlog hmap hsalt hm6 hk hk2 hby hqb hnb;have X0:=(Blk.new w 44 (copA h i V s (.slice A ps.length c))).alloc (.cells #[iI 0,iI 0,iI 0,iI 0,uI 0,uI 0,iI 0,uI 0,iI 0,iI 0,iI 0,iI 0,iI 0,iI 0,iI 0,iI 0,iI 0,iI 0,iI 0,iI 0,nN,nN,nN,nN,iI 0,iI 0,nN,nN,uI 0,nN] 44);have Y0:=Blk.new (w.alloc (.cells (copA h i V s (.slice A ps.length c)) 44)) 44 #[iI 0,iI 0,iI 0,iI 0,uI 0,uI 0,iI 0,uI 0,iI 0,iI 0,iI 0,iI 0,iI 0,iI 0,iI 0,iI 0,iI 0,iI 0,iI 0,iI 0,nN,nN,nN,nN,iI 0,iI 0,nN,nN,uI 0,nN];rw [World.size_alloc] at Y0;have P0:=(below_new w (.cells (copA h i V s (.slice A ps.length c)) 44)).alloc (by simp) (.cells #[iI 0,iI 0,iI 0,iI 0,uI 0,uI 0,iI 0,uI 0,iI 0,iI 0,iI 0,iI 0,iI 0,iI 0,iI 0,iI 0,iI 0,iI 0,iI 0,iI 0,nN,nN,nN,nN,iI 0,iI 0,nN,nN,uI 0,nN] 44)
 go_enter Tryz.func16,Tryz.ntmps16
 go_upto_region 1 with fail;generalize (w.alloc (.cells (copA h i V s (.slice A ps.length c)) 44)).alloc (.cells #[iI 0,iI 0,iI 0,iI 0,uI 0,uI 0,iI 0,uI 0,iI 0,iI 0,iI 0,iI 0,iI 0,iI 0,iI 0,iI 0,iI 0,iI 0,iI 0,iI 0,nN,nN,nN,nN,iI 0,iI 0,nN,nN,uI 0,nN] 44)=w2 at *;have hb2:w.heap.size+1<w2.heap.size:=Y0.lt;have XA:=X0.alloc (.cells #[] 27);have YA:=Y0.alloc (.cells #[] 27);have PA:=P0.alloc P0.size (.cells #[] 27);have OA:=World.ownsRow_made w2 #[] 0 (base:=w2.heap.size) (e:=27) (size:=1) (Nat.le_refl _) (Nat.zero_le _) rfl;have SA:=HSRC.out _ PA;have hcx:=XA.cellAt 29 _ HCP.out.path;clear X0 Y0 P0;go_upto_region 2 with (at_builtin;refine wpList_appP Tryz.underlying42 Tryz.info27 rfl (by omega) (by omega) OA SA (us_one ps) (by omega) (by omega) (by simp) rfl _ _ rfl rfl rfl ?_;intro v4 w4 O4 g4 l4;rw [Nat.zero_add,List.nil_append] at O4;obtain ⟨A5,c5,rfl⟩:=own_slice O4;have X4:=XA.grown g4 (fun e=>by injection e with e;have e:w.heap.size=w2.heap.size:=e;omega);have Y4:=YA.grown g4 (fun e=>by injection e with e;have e:w.heap.size+1=w2.heap.size:=e;omega);have P4:=PA.grown g4 PA.size (fun k e=>by injection e with e;have e:w2.heap.size=k:=e;omega);have gs4:=g4.size;rw [World.size_alloc] at gs4;have gs4:=Nat.le_trans (Nat.le_succ _) gs4;have hcy:=X4.cellAt 29 _ HCP.out.path;have hfy:=X4.frozen 29)
 have X5:=X4.set 29 (.slice A5 ps.length c5);rw [copA_path HVS.out] at X5;have Y5:=Y4.far (p:=⟨w.heap.size,29,none⟩) (Nat.succ_ne_self _) (.slice A5 ps.length c5);have P5:=P4.setCell (p:=⟨w.heap.size,29,none⟩) (Nat.le_refl _) (.slice A5 ps.length c5);have O5:=O4.kept (grown_set w4 w.heap.size 29 (.slice A5 ps.length c5)) (.inr (fun e=>by have:=(O4.lt _ e).1;omega))
 have HB2:=Lib.hid hb2;clear hcx hcy hfy X4 Y4 P4 O4 XA YA PA OA SA g4 l4 hcs HSRC HCP;have hbs5:w2.heap.size≤(w4.setCell ⟨w.heap.size,29,none⟩ (.slice A5 ps.length c5)).heap.size:=by have h1:=gs4;simp [World.setCell];exact h1
 clear gs4;generalize w2.heap.size=b2 at *;generalize w4.setCell ⟨w.heap.size,29,none⟩ (.slice A5 ps.length c5)=w5 at *;have hcp:=copA_is (h:=h) (i:=i) (salt:=s) (p:=.slice A5 ps.length c5) HVS.out;have HCP:=Lib.hid hcp;have HBS:=Lib.hid hbs5;clear hcp hbs5;go_wp2_with fail;refine (around_any how 9 _ hhow.1 hhow.2 (by omega) (by omega)).mono ?_
 rintro r w' ⟨rfl,rfl⟩;have k0:=arN_nonneg how 9 (by omega)
 have k1:=arN_lt how 9 (by omega)
 generalize arN how 9=kk at *;clear hhow;obtain rfl | rfl | rfl | rfl | rfl | rfl | rfl | rfl | rfl:kk=0∨kk=1∨kk=2∨kk=3∨kk=4∨kk=5∨kk=6∨kk=7∨kk=8:=by omega
 ·clear k0 k1
  have hrg:=HCP.out.hrange X5;go_upto_region 23 with (first | (refine wpList_loadRV hrg _ rfl rfl rfl ?_) | (go_at_call 56;refine (hdbent_any h HLOG.out HMAP.out q by_ HQB.out _).mono ?_;rintro r w5b ⟨⟨h',rfl,hl',hm'⟩,hb5⟩;have X5b:=X5.keep hb5;have Y5b:=Y5.keep hb5;have P5b:=below_up P5 hb5 P5.size;have O5b:=own_below O5 hb5;have hth:w5b.there w.heap.size 0 h'.vals.size:=fun j hj=>⟨by rw [Nat.zero_add,X5b.cell j];have:j<8:=hj;simp [(copA_is HVS.out).size];omega,X5b.frozen _⟩) | (refine wpList_store_mid rfl 29 _ _ rfl w.heap.size 0 h'.vals rfl rfl hth (by kernel_rfl) (by kernel_rfl) ?_))
  have X6:=Blk.sets h'.vals.toList 0 X5b;rw [copA_head HVS.out] at X6;have hgs:=grown_sets w.heap.size h'.vals.toList 0 w5b;have Y6:=Y5b.grown hgs (fun e=>by injection e with e;omega)
  have P6:=P5b.grown hgs P5b.size (fun k e=>by injection e with e;omega)
  have O6:=O5b.kept hgs (.inr (fun e=>by have:=(O5b.lt _ e).1;have:=HB2.out;omega))
  have HL':=Lib.hid hl';have HM':=Lib.hid hm';clear hrg hth hgs X5 Y5 P5 O5 X5b Y5b P5b O5b hb5 hl' hm' hq hwb;generalize w5b.setCells w.heap.size 0 h'.vals.toList=w6 at *;go_wp2_with (first | (refine wpList_loadK X6 (copA_is HVS.out).size _ rfl rfl rfl ?_) | (refine wpList_storeW (T:=44) (n:=30) (by kernel_rfl) Y6 rfl _ _ rfl rfl rfl _ rfl (copA_is HVS.out).size (copA_one HV1.out) ?_;intro wz Yz gz))
  exact bodyPost_ret (results_K rfl _ rfl Yz (copA_is HVS.out).size) rfl (bnt_fin (x:=x) HVS.out HV1.out HOK.out (Nat.le_trans HEL.out (by omega)) (HAC.out _ P6) (Nat.le_trans HLEN.out (by omega)) HWD.out O6 HB2.out HL'.out HM'.out HSALT.out P6 gz)
 ·clear k0 k1
  have c8:=X5.cellAt 8 _ HCP.out.idx;have f8:=X5.frozen 8;go_upto_region 23 with fail;have X6:=X5.set 8 (.int .i64 by_);rw [copA_idx HVS.out] at X6;have Y6:=Y5.far (p:=⟨w.heap.size,8,none⟩) (Nat.succ_ne_self _) (.int .i64 by_);have P6:=P5.setCell (p:=⟨w.heap.size,8,none⟩) (Nat.le_refl _) (.int .i64 by_);have O6:=O5.kept (grown_set w5 w.heap.size 8 (.int .i64 by_)) (.inr (fun e=>by have:=(O5.lt _ e).1;have:=HB2.out;omega))
  clear c8 f8 X5 Y5 P5 O5 hq hwb;generalize w5.setCell ⟨w.heap.size,8,none⟩ (.int .i64 by_)=w6 at *;go_wp2_with (first | (refine wpList_loadK X6 (copA_is HVS.out).size _ rfl rfl rfl ?_) | (refine wpList_storeW (T:=44) (n:=30) (by kernel_rfl) Y6 rfl _ _ rfl rfl rfl _ rfl (copA_is HVS.out).size (copA_one HV1.out) ?_;intro wz Yz gz))
  exact bodyPost_ret (results_K rfl _ rfl Yz (copA_is HVS.out).size) rfl (bnt_fin (x:=x) HVS.out HV1.out HOK.out (Nat.le_trans HEL.out (by omega)) (HAC.out _ P6) (Nat.le_trans HLEN.out (by omega)) HWD.out O6 HB2.out HLOG.out HMAP.out HSALT.out P6 gz)
 ·clear k0 k1
  have HA5:=Lib.hid (HAC.out _ P5);go_upto_region 23 with (first | (refine wpList_loadCV HCP.out X5 _ rfl rfl rfl ?_) | (go_at_call 57;refine (spoilt_any HOK.out HA5.out (by have:=X5.lt;have:=Y5.lt;simp;omega) m HEL.out HM6.out q by_ HQB.out HBY.out).mono ?_;rintro r w5b ⟨⟨V',x',rfl,hok',hel',hA',hvs',hv1'⟩,hb5⟩;have X5b:=X5.keep hb5;have Y5b:=Y5.keep hb5;have P5b:=below_up P5 hb5 P5.size;have O5b:=own_below O5 hb5;have hth:w5b.there w.heap.size 9 V'.size:=fun j hj=>⟨by rw [X5b.cell (9+j)];rw [hvs'] at hj;simp [(copA_is HVS.out).size];omega,X5b.frozen _⟩) | (refine wpList_store_mid rfl 41 _ _ rfl w.heap.size 9 V' rfl rfl hth (by rw [hvs'];kernel_rfl) hv1' ?_))
  have X6:=Blk.sets V'.toList 9 X5b;rw [copA_act HVS.out hvs'] at X6;have hgs:=grown_sets w.heap.size V'.toList 9 w5b;have Y6:=Y5b.grown hgs (fun e=>by injection e with e;omega)
  have P6:=P5b.grown hgs P5b.size (fun k e=>by injection e with e;omega)
  have O6:=O5b.kept hgs (.inr (fun e=>by have:=(O5b.lt _ e).1;have:=HB2.out;omega))
  have HA6:=Lib.hid (hA'.step hgs (fun g e=>by injection e with e;subst e;simp))
  have HOK':=Lib.hid hok';have HEL':=Lib.hid hel';have HVS':=Lib.hid hvs';have HV1':=Lib.hid hv1';clear hth hgs X5 Y5 P5 O5 X5b Y5b P5b O5b hb5 hA' hok' hel' hvs' hv1' hq hwb;generalize w5b.setCells w.heap.size 9 V'.toList=w6 at *;go_wp2_with (first | (refine wpList_loadK X6 (copA_is HVS'.out).size _ rfl rfl rfl ?_) | (refine wpList_storeW (T:=44) (n:=30) (by kernel_rfl) Y6 rfl _ _ rfl rfl rfl _ rfl (copA_is HVS'.out).size (copA_one HV1'.out) ?_;intro wz Yz gz))
  exact bodyPost_ret (results_K rfl _ rfl Yz (copA_is HVS'.out).size) rfl (bnt_fin (x:=x') HVS'.out HV1'.out HOK'.out HEL'.out HA6.out (Nat.le_trans HLEN.out (by omega)) HWD.out O6 HB2.out HLOG.out HMAP.out HSALT.out P6 gz)
 ·clear k0 k1
  have c28:=X5.cellAt 28 _ HCP.out.salt;have f28:=X5.frozen 28;go_upto_region 23 with fail;have X6:=X5.set 28 (.int .u64 (nb:Int));rw [copA_salt HVS.out] at X6;have Y6:=Y5.far (p:=⟨w.heap.size,28,none⟩) (Nat.succ_ne_self _) (.int .u64 (nb:Int));have P6:=P5.setCell (p:=⟨w.heap.size,28,none⟩) (Nat.le_refl _) (.int .u64 (nb:Int));have O6:=O5.kept (grown_set w5 w.heap.size 28 (.int .u64 (nb:Int))) (.inr (fun e=>by have:=(O5.lt _ e).1;have:=HB2.out;omega))
  clear c28 f28 X5 Y5 P5 O5 hq hwb;generalize w5.setCell ⟨w.heap.size,28,none⟩ (.int .u64 (nb:Int))=w6 at *;go_wp2_with (first | (refine wpList_loadK X6 (copA_is HVS.out).size _ rfl rfl rfl ?_) | (refine wpList_storeW (T:=44) (n:=30) (by kernel_rfl) Y6 rfl _ _ rfl rfl rfl _ rfl (copA_is HVS.out).size (copA_one HV1.out) ?_;intro wz Yz gz))
  exact bodyPost_ret (results_K rfl _ rfl Yz (copA_is HVS.out).size) rfl (bnt_fin (x:=x) HVS.out HV1.out HOK.out (Nat.le_trans HEL.out (by omega)) (HAC.out _ P6) (Nat.le_trans HLEN.out (by omega)) HWD.out O6 HB2.out HLOG.out HMAP.out HNB.out P6 gz)
 ·clear k0 k1
  have c29:=X5.cellAt 29 _ HCP.out.path;have X6a:=X5.alloc (.cells #[.int .u64 (nb:Int)] 27);have Y6a:=Y5.alloc (.cells #[.int .u64 (nb:Int)] 27);have P6a:=P5.alloc P5.size (.cells #[.int .u64 (nb:Int)] 27);have O6a:=O5.alloc (.cells #[.int .u64 (nb:Int)] 27);have S6:=SrcP.of_new (m:=1) (c:=1) (size:=1) (Blk.new w5 27 #[.int .u64 (nb:Int)]) rfl;have hbs:b2≤(w5.alloc (.cells #[.int .u64 (nb:Int)] 27)).heap.size:=by rw [World.size_alloc];have:=HBS.out;omega
  go_upto_region 23 with (at_builtin;refine wpList_appP Tryz.underlying42 Tryz.info27 rfl (by omega) (by omega) O6a S6 (by simp [Value.oneCell']) (by omega) (by omega) hbs rfl _ _ rfl rfl rfl ?_;intro v6 w6 O6b g6 l6;obtain ⟨A6,c6,rfl⟩:=own_slice O6b;have X6b:=X6a.grown g6 (fun e=>by have:=(O6a.lt _ e.symm).1;have:=HB2.out;omega);have Y6b:=Y6a.grown g6 (fun e=>by have:=(O6a.lt _ e.symm).1;have:=HB2.out;omega);have P6b:=P6a.grown g6 P6a.size (fun k e=>by have:=(O6a.lt _ e).1;have:=HB2.out;omega);have c29b:=X6b.cellAt 29 _ HCP.out.path;have f29b:=X6b.frozen 29)
  have X6:=X6b.set 29 (.slice A6 (ps.length+1) c6);rw [copA_path HVS.out] at X6;have Y6:=Y6b.far (p:=⟨w.heap.size,29,none⟩) (Nat.succ_ne_self _) (.slice A6 (ps.length+1) c6);have P6:=P6b.setCell (p:=⟨w.heap.size,29,none⟩) (Nat.le_refl _) (.slice A6 (ps.length+1) c6);have O6:=O6b.kept (grown_set w6 w.heap.size 29 (.slice A6 (ps.length+1) c6)) (.inr (fun e=>by have:=(O6b.lt _ e).1;have:=HB2.out;omega))
  have e1:us ps++[.int .u64 (nb:Int)]=us (ps++[nb]):=by simp [us]
  have e2:ps.length+1=(ps++[nb]).length:=by simp
  have HW2:=Lib.hid (words_snoc HWD.out HNB.out);have HL2:=Lib.hid (show (ps++[nb]).length≤k+1 by have:=HLEN.out;simp;omega)
  change World.ownsRow _ _ _ _ _ _ (us ps++[.int .u64 (nb:Int)]) at O6;rw [e1] at O6;clear c29 X6a Y6a P6a O6a S6 hbs X6b Y6b P6b O6b g6 l6 c29b f29b X5 Y5 P5 O5 hq hwb e1;generalize w6.setCell ⟨w.heap.size,29,none⟩ (.slice A6 (ps.length+1) c6)=w7 at *;rw [e2] at O6 X6;clear e2;go_wp2_with (first | (refine wpList_loadK X6 (copA_is HVS.out).size _ rfl rfl rfl ?_) | (refine wpList_storeW (T:=44) (n:=30) (by kernel_rfl) Y6 rfl _ _ rfl rfl rfl _ rfl (copA_is HVS.out).size (copA_one HV1.out) ?_;intro wz Yz gz))
  exact bodyPost_ret (results_K rfl _ rfl Yz (copA_is HVS.out).size) rfl (bnt_fin (x:=x) HVS.out HV1.out HOK.out (Nat.le_trans HEL.out (by omega)) (HAC.out _ P6) HL2.out HW2.out O6 HB2.out HLOG.out HMAP.out HSALT.out P6 gz)
 ·clear k0 k1
  have c29:=X5.cellAt 29 _ HCP.out.path;by_cases h0:ps.length=0
  ·have hd:decide (0<ps.length)=false:=decide_eq_false (by omega)
   clear h0;go_upto_region 23 with fail;clear hd hq hwb c29;go_wp2_with (first | (refine wpList_loadK X5 (copA_is HVS.out).size _ rfl rfl rfl ?_) | (refine wpList_storeW (T:=44) (n:=30) (by kernel_rfl) Y5 rfl _ _ rfl rfl rfl _ rfl (copA_is HVS.out).size (copA_one HV1.out) ?_;intro wz Yz gz))
   exact bodyPost_ret (results_K rfl _ rfl Yz (copA_is HVS.out).size) rfl (bnt_fin (x:=x) HVS.out HV1.out HOK.out (Nat.le_trans HEL.out (by omega)) (HAC.out _ P5) (Nat.le_trans HLEN.out (by omega)) HWD.out O5 HB2.out HLOG.out HMAP.out HSALT.out P5 gz)
  ·have hd:decide (0<ps.length)=true:=decide_eq_true (by omega)
   obtain ⟨g,cur,rfl,hbg,hbk,hcap⟩:=own_blk O5 (by omega)
   obtain ⟨j,hj,hjl⟩:∃ j:Nat,arN q (ps.length:Int)=(j:Int)∧j<ps.length:=by
    have h1:=arN_nonneg q (ps.length:Int) (by omega)
    have h2:=arN_lt q (ps.length:Int) (by omega)
    exact ⟨(arN q (ps.length:Int)).toNat,by omega,by omega⟩
   have HAR:=Lib.hid (fun W=>around_any q (ps.length:Int) W HQB.out.1 HQB.out.2 (by omega) (by omega))
   rw [hj] at HAR;clear hj h0;go_upto_region 15 with fail;clear c29 hd;refine wp_region_held_drew (S:=(fun W=>Blk W w.heap.size 44 (copA h i V s (.slice (some ⟨g,0,none⟩) ps.length c5)))) (by kernel_rfl) ?_ (fun hHeld=>?_)
   ·first | done | ((try dsimp only);exact X5.drew)
   have Xd:=X5.drew;have Yd:=Y5.drew;have Pd:=P5.drew;have Od:=O5.kept (grown_drew w5 none) (.inr (fun e=>by cases e))
   have hck:=(Od.cellAt j (by omega)).trans (us_get hjl)
   have hfk:=(show Blk w5.drew g 27 cur from hbk).frozen j
   clear X5 Y5 P5 O5 hbk;generalize w5.drew=wd at *;refine tq 0 56 rfl ?_
   refine th 1 57 rfl (fun _ hSw=>hSw.cellAt 29 _ HCP.out.path) ?_
   refine tq 2 58 rfl ?_
   refine tq 3 59 rfl ?_
   refine tq 4 60 rfl ?_
   refine th 5 61 rfl (fun _ hSw=>hSw.cellAt 29 _ HCP.out.path) ?_
   refine tq 6 62 rfl ?_
   refine tq 8 64 rfl ?_
   refine tq 9 65 rfl ?_
   refine rd 7 (some 63) rfl fun K hK=>?_
   go_simp
   (refine (HAR.out _).mono ?_;rintro e w' ⟨rfl,rfl⟩)
   refine hK.out _ _ (hHeld) fun hHeld=>?_
   clear hK K;(try simp only [pS,pB,pZ,pC]);refine tq 10 66 rfl ?_
   refine rd 11 none rfl fun K hK=>?_
   go_simp;refine hK.out _ _ ?_ (fun hHeld=>?_)
   ·exact Xd.far (p:=⟨g,j,none⟩) (show w.heap.size≠g by have:=HB2.out;omega) _
   clear hK K hck hfk hHeld;(try simp only [Act.put]);refine dn ?_
   have X6:=Xd.far (p:=⟨g,j,none⟩) (show w.heap.size≠g by have:=HB2.out;omega) (.int .u64 (nb:Int))
   have Y6:=Yd.far (p:=⟨g,j,none⟩) (show w.heap.size+1≠g by have:=HB2.out;omega) (.int .u64 (nb:Int))
   have P6:=Pd.setCell (p:=⟨g,j,none⟩) (show w.heap.size≤g by have:=HB2.out;omega) (.int .u64 (nb:Int))
   have O6:=own_set Od j (.int .u64 (nb:Int));have e1:(us ps).set j (.int .u64 (nb:Int))=us (ps.set j nb):=by unfold us;rw [List.map_set]
   have e2:ps.length=(ps.set j nb).length:=List.length_set.symm;rw [e1] at O6;have HW2:=Lib.hid (words_set HWD.out HNB.out j);have HL2:=Lib.hid (show (ps.set j nb).length≤k+1 by have:=HLEN.out;rw [← e2];omega)
   clear Xd Yd Pd Od e1 hq hwb hcap hjl;generalize wd.setCell ⟨g,j,none⟩ (.int .u64 (nb:Int))=w6 at *;rw [e2] at O6 X6;clear e2;generalize ps.set j nb=qs at *;go_upto_region 23 with fail;go_wp2_with (first | (refine wpList_loadK X6 (copA_is HVS.out).size _ rfl rfl rfl ?_) | (refine wpList_storeW (T:=44) (n:=30) (by kernel_rfl) Y6 rfl _ _ rfl rfl rfl _ rfl (copA_is HVS.out).size (copA_one HV1.out) ?_;intro wz Yz gz))
   exact bodyPost_ret (results_K rfl _ rfl Yz (copA_is HVS.out).size) rfl (bnt_fin (x:=x) HVS.out HV1.out HOK.out (Nat.le_trans HEL.out (by omega)) (HAC.out _ P6) HL2.out HW2.out O6 HB2.out HLOG.out HMAP.out HSALT.out P6 gz)
 ·clear k0 k1
  obtain ⟨va,hva⟩:∃ u,V.toList[2]?=some u:=⟨_,List.getElem?_eq_getElem (by rw [Array.length_toList,HVS.out];omega)⟩
  have c11:=X5.cellAt 11 _ (HCP.out.act 2 va hva);have f11:=X5.frozen 11;have HVA:=Lib.hid hva;clear hva;go_upto_region 23 with fail;have X6:=X5.set 11 (.int .i64 by_);rw [copA_known HVS.out] at X6;have Y6:=Y5.far (p:=⟨w.heap.size,11,none⟩) (Nat.succ_ne_self _) (.int .i64 by_);have P6:=P5.setCell (p:=⟨w.heap.size,11,none⟩) (Nat.le_refl _) (.int .i64 by_);have O6:=O5.kept (grown_set w5 w.heap.size 11 (.int .i64 by_)) (.inr (fun e=>by have:=(O5.lt _ e).1;have:=HB2.out;omega))
  clear c11 f11 X5 Y5 P5 O5 hq hwb;generalize w5.setCell ⟨w.heap.size,11,none⟩ (.int .i64 by_)=w6 at *;have hvs':(V.setIfInBounds 2 (.int .i64 by_)).size=19:=by rw [Array.size_setIfInBounds];exact HVS.out
  have hv1':(V.setIfInBounds 2 (.int .i64 by_)).all (·.oneCell')=true:=one_set HV1.out rfl
  go_wp2_with (first | (refine wpList_loadK X6 (copA_is hvs').size _ rfl rfl rfl ?_) | (refine wpList_storeW (T:=44) (n:=30) (by kernel_rfl) Y6 rfl _ _ rfl rfl rfl _ rfl (copA_is hvs').size (copA_one hv1') ?_;intro wz Yz gz))
  exact bodyPost_ret (results_K rfl _ rfl Yz (copA_is hvs').size) rfl (bnt_fin (x:={ x with known:=by_ }) hvs' hv1' ⟨HOK.out.some,HOK.out.dlen,HOK.out.clen,HOK.out.elen,HOK.out.file,HOK.out.earl,HOK.out.text⟩ (Nat.le_trans HEL.out (by omega)) (AcM.known (HAC.out _ P6)) (Nat.le_trans HLEN.out (by omega)) HWD.out O6 HB2.out HLOG.out HMAP.out HSALT.out P6 gz)
 ·clear k0 k1
  obtain ⟨va,hva⟩:∃ u,V.toList[4]?=some u:=⟨_,List.getElem?_eq_getElem (by rw [Array.length_toList,HVS.out];omega)⟩
  have c13:=X5.cellAt 13 _ (HCP.out.act 4 va hva);have f13:=X5.frozen 13;have HVA:=Lib.hid hva;clear hva;go_upto_region 23 with (go_at_call 10;refine (around_any by_ 12 _ HBY.out.1 HBY.out.2 (by omega) (by omega)).mono ?_;rintro r w' ⟨rfl,rfl⟩)
  have X6:=X5.set 13 (.int .i64 (arN by_ 12));rw [copA_office HVS.out] at X6;have Y6:=Y5.far (p:=⟨w.heap.size,13,none⟩) (Nat.succ_ne_self _) (.int .i64 (arN by_ 12));have P6:=P5.setCell (p:=⟨w.heap.size,13,none⟩) (Nat.le_refl _) (.int .i64 (arN by_ 12));have O6:=O5.kept (grown_set w5 w.heap.size 13 (.int .i64 (arN by_ 12))) (.inr (fun e=>by have:=(O5.lt _ e).1;have:=HB2.out;omega))
  clear c13 f13 X5 Y5 P5 O5 hq hwb;generalize w5.setCell ⟨w.heap.size,13,none⟩ (.int .i64 (arN by_ 12))=w6 at *;have hvs':(V.setIfInBounds 4 (.int .i64 (arN by_ 12))).size=19:=by rw [Array.size_setIfInBounds];exact HVS.out
  have hv1':(V.setIfInBounds 4 (.int .i64 (arN by_ 12))).all (·.oneCell')=true:=one_set HV1.out rfl
  go_wp2_with (first | (refine wpList_loadK X6 (copA_is hvs').size _ rfl rfl rfl ?_) | (refine wpList_storeW (T:=44) (n:=30) (by kernel_rfl) Y6 rfl _ _ rfl rfl rfl _ rfl (copA_is hvs').size (copA_one hv1') ?_;intro wz Yz gz))
  exact bodyPost_ret (results_K rfl _ rfl Yz (copA_is hvs').size) rfl (bnt_fin (x:={ x with office:=arN by_ 12 }) hvs' hv1' ⟨HOK.out.some,HOK.out.dlen,HOK.out.clen,HOK.out.elen,HOK.out.file,HOK.out.earl,HOK.out.text⟩ (Nat.le_trans HEL.out (by omega)) (AcM.office (HAC.out _ P6)) (Nat.le_trans HLEN.out (by omega)) HWD.out O6 HB2.out HLOG.out HMAP.out HSALT.out P6 gz)
 ·clear k0 k1 hq hwb
  obtain ⟨a4,ha4,ha4l⟩:∃ j:Nat,arN by_ 4=(j:Int)∧j<4:=by
   have h1:=arN_nonneg by_ 4 (by omega)
   have h2:=arN_lt by_ 4 (by omega)
   exact ⟨(arN by_ 4).toNat,by omega,by omega⟩
  have HAR:=Lib.hid (fun W=>around_any by_ 4 W HBY.out.1 HBY.out.2 (by omega) (by omega))
  rw [ha4] at HAR;obtain ⟨lim,hlim,hll⟩:∃ j:Nat,IntKind.i64.wrap (15+(a4:Int))=(j:Int)∧j≤18:=⟨15+a4,by rw [IntKind.wrap_i64];omega,by omega⟩
  have hk18:=HK.out;clear ha4 ha4l;go_wp2_with fail;go_loopw [] (fun wx=>∃ (qs:List Nat) (A6:Option Addr) (c6:Nat),Blk wx w.heap.size 44 (copA h i V s (.slice A6 qs.length c6))∧Blk wx (w.heap.size+1) 44 #[iI 0,iI 0,iI 0,iI 0,uI 0,uI 0,iI 0,uI 0,iI 0,iI 0,iI 0,iI 0,iI 0,iI 0,iI 0,iI 0,iI 0,iI 0,iI 0,iI 0,nN,nN,nN,nN,iI 0,iI 0,nN,nN,uI 0,nN]∧Below w.heap.size w wx∧wx.ownsRow b2 27 1 (.slice A6 qs.length c6) qs.length (us qs)∧Words qs∧qs.length≤k∧b2≤wx.heap.size∧qs.length≤60) (fun wx=>60 - prLen wx w.heap.size)
  case atStart=>exact ⟨ps,A5,c5,X5,Y5,P5,O5,HWD.out,HLEN.out,HBS.out,hbnd⟩
  case round =>
   clear X5 Y5 P5 O5;obtain ⟨qs,A6,c6,X6,Y6,P6,O6,hw6,hl6,hb6,hn6⟩:=hrel;have HW6:=Lib.hid hw6;have HL6:=Lib.hid hl6;clear hw6 hl6;have HC6:=Lib.hid (copA_is (h:=h) (i:=i) (salt:=s) (p:=.slice A6 qs.length c6) HVS.out);have HPR:=Lib.hid (prLen_at X6 HVS.out);have Xd:=X6.drew;have Yd:=Y6.drew;have Pd:=P6.drew;have Od:=own_below O6 (Below.refl _ _).drew;have hbd:b2≤wr.drew.heap.size:=hb6;go_upto_region 21 with fail;refine wp_region_held_drew (S:=(fun W=>Blk W w.heap.size 44 (copA h i V s (.slice A6 qs.length c6)))) (by kernel_rfl) ?_ (fun hHeld=>?_)
   ·first | done | ((try dsimp only);exact Xd)
   clear X6 Y6 P6 O6 hb6;generalize wr.drew=wd at *;by_cases hlt:qs.length<lim
   ·have hd:decide (qs.length<lim)=true:=decide_eq_true hlt
    refine tq 0 80 rfl ?_
    refine th 1 81 rfl (fun _ hSw=>hSw.cellAt 29 _ HC6.out.path) ?_
    refine tq 2 82 rfl ?_
    refine tq 3 83 rfl ?_
    refine rd 4 (some 84) rfl fun K hK=>?_
    go_simp
    (refine (HAR.out _).mono ?_;rintro e w' ⟨rfl,rfl⟩)
    refine hK.out _ _ (hHeld) fun hHeld=>?_
    clear hK K;(try simp only [pS,pB,pZ,pC]);refine tq 5 85 rfl ?_
    refine tq 6 86 rfl ?_
    refine dn ?_
    have c29:=Xd.cellAt 29 _ HC6.out.path;have X7:=Xd.alloc (.cells #[.int .u64 1] 27);have Y7:=Yd.alloc (.cells #[.int .u64 1] 27);have P7:=Pd.alloc Pd.size (.cells #[.int .u64 1] 27);have O7:=Od.alloc (.cells #[.int .u64 1] 27);have S7:=SrcP.of_new (m:=1) (c:=1) (size:=1) (Blk.new wd 27 #[.int .u64 1]) rfl;have hbs:b2≤(wd.alloc (.cells #[.int .u64 1] 27)).heap.size:=by rw [World.size_alloc];omega
    go_wp2_with (at_builtin;refine wpList_appP Tryz.underlying42 Tryz.info27 rfl (by omega) (by omega) O7 S7 (by simp [Value.oneCell']) (by omega) (by omega) hbs rfl _ _ rfl rfl rfl ?_;intro v8 w8 O8 g8 l8;obtain ⟨A8,c8,rfl⟩:=own_slice O8;have X8:=X7.grown g8 (fun e=>by have:=(O7.lt _ e.symm).1;have:=HB2.out;omega);have Y8:=Y7.grown g8 (fun e=>by have:=(O7.lt _ e.symm).1;have:=HB2.out;omega);have P8:=P7.grown g8 P7.size (fun k e=>by have:=(O7.lt _ e).1;have:=HB2.out;omega);have hb8:=Nat.le_trans hbs g8.size;have c29b:=X8.cellAt 29 _ HC6.out.path;have f29b:=X8.frozen 29)
    have X9:=X8.set 29 (.slice A8 (qs.length+1) c8);rw [copA_path HVS.out] at X9;have Y9:=Y8.far (p:=⟨w.heap.size,29,none⟩) (Nat.succ_ne_self _) (.slice A8 (qs.length+1) c8);have P9:=P8.setCell (p:=⟨w.heap.size,29,none⟩) (Nat.le_refl _) (.slice A8 (qs.length+1) c8);have O9:=O8.kept (grown_set w8 w.heap.size 29 (.slice A8 (qs.length+1) c8)) (.inr (fun e=>by have:=(O8.lt _ e).1;have:=HB2.out;omega))
    have hb9:b2≤(w8.setCell ⟨w.heap.size,29,none⟩ (.slice A8 (qs.length+1) c8)).heap.size:=by simp [World.setCell];exact hb8
    have e1:us qs++[.int .u64 1]=us (qs++[1]):=by simp [us]
    have e2:qs.length+1=(qs++[1]).length:=by simp
    have HW2:=Lib.hid (words_snoc HW6.out (show 1<18446744073709551616 by omega))
    have HL2:=Lib.hid (show (qs++[1]).length≤k by simp;omega)
    change World.ownsRow _ _ _ _ _ _ (us qs++[.int .u64 1]) at O9;rw [e1] at O9;clear c29 X7 Y7 P7 O7 S7 hbs X8 Y8 P8 O8 g8 l8 c29b f29b Xd Yd Pd Od e1 hb8 hbd hHeld;generalize w8.setCell ⟨w.heap.size,29,none⟩ (.slice A8 (qs.length+1) c8)=w9 at *;rw [e2] at O9 X9;have HP9:=Lib.hid (prLen_at X9 HVS.out);have HE2:=Lib.hid e2;clear e2;go_roundw
    case rel=>exact ⟨qs++[1],A8,c8,X9,Y9,P9,O9,HW2.out,HL2.out,hb9,by simp;omega⟩
    case measure=>rw [HPR.out,HP9.out,← HE2.out];omega
   ·have hd:decide (qs.length<lim)=false:=decide_eq_false hlt
    refine tq 0 80 rfl ?_
    refine th 1 81 rfl (fun _ hSw=>hSw.cellAt 29 _ HC6.out.path) ?_
    refine tq 2 82 rfl ?_
    refine tq 3 83 rfl ?_
    refine rd 4 (some 84) rfl fun K hK=>?_
    go_simp
    (refine (HAR.out _).mono ?_;rintro e w' ⟨rfl,rfl⟩)
    refine hK.out _ _ (hHeld) fun hHeld=>?_
    clear hK K;(try simp only [pS,pB,pZ,pC]);refine tq 5 85 rfl ?_
    refine tq 6 86 rfl ?_
    refine dn ?_
    have X6:=Xd;have Y6:=Yd;have P6:=Pd;have O6:=Od;clear Xd Yd Pd Od hHeld hbd;go_upto_region 23 with fail;clear hd hlt hlim;go_wp2_with (first | (refine wpList_loadK X6 (copA_is HVS.out).size _ rfl rfl rfl ?_) | (refine wpList_storeW (T:=44) (n:=30) (by kernel_rfl) Y6 rfl _ _ rfl rfl rfl _ rfl (copA_is HVS.out).size (copA_one HV1.out) ?_;intro wz Yz gz))
    exact bodyPost_ret (results_K rfl _ rfl Yz (copA_is HVS.out).size) rfl (bnt_fin (x:=x) HVS.out HV1.out HOK.out (Nat.le_trans HEL.out (by omega)) (HAC.out _ P6) (Nat.le_trans HL6.out (Nat.le_succ k)) HW6.out O6 HB2.out HLOG.out HMAP.out HSALT.out P6 gz)
def acOf (f:Fil):Ac:=⟨0,f.day,f.known,f.file,f.office,f.party,f.other,0,0,0,0,f.d,f.c,0,f.e,0,0⟩
theorem acOf_ok {f:Fil} (h:OkFil f) (he:f.e.length≤2) (hd:1≤f.d.length):AcOk (acOf f):=by
 obtain ⟨_,_,h3,_,_,_,h7,_,h9,_⟩:=h;have hl:=OkTx.len h7;exact ⟨hd,Nat.le_trans hl.1 (by omega),Nat.le_trans hl.2 (by omega),Nat.le_trans he (by omega),⟨by have:=h3.1;show -9223372036854775808≤f.file;omega,by have:=h3.2;show f.file≤9223372036854775807;omega⟩,fun p hp=>by have:=(h9 p hp).1;exact ⟨by omega,by omega⟩,0,.inl ⟨rfl,h7⟩⟩
theorem acOf_at {w W:World} {B:Nat} {f:Fil} {dv cv ev:Value} (h:FilAt w B f dv cv ev) (hW:Below w.heap.size w W) (hB:B≤w.heap.size):AcAt W W.heap.size (f.vals dv cv ev) (acOf f):=by
 have h2:=h.keep (B':=W.heap.size) (fun p hp=>hW.cell (Nat.lt_of_lt_of_le hp hB)) (Nat.le_trans hB hW.size)
 exact ⟨dv,cv,.slice none 0 0,ev,rfl,h2.1,h2.2.1,.inl ⟨rfl,rfl⟩,h2.2.2⟩
theorem vals_one {f:Fil} {dv cv ev:Value} (h:OneV dv cv ev):(f.vals dv cv ev).all (·.oneCell')=true:=by
 obtain ⟨⟨_,_,_,rfl⟩,⟨_,_,_,rfl⟩,⟨_,_,_,rfl⟩⟩:=h;refine all_oneCell_toArray (fun v hv=>?_)
 simp only [List.mem_cons,List.not_mem_nil,or_false] at hv;rcases hv with h | h | h | h | h | h | h | h | h | h | h | h | h | h | h | h | h | h | h <;> (subst h;rfl)
theorem OwnU.row {W:World} {base:Nat} {A:Option Addr} {n c:Nat} {l:List Nat} (h:OwnU W base (.slice A n c) l):n=l.length∧W.ownsRow base 27 1 (.slice A l.length c) l.length (us l):=by
 obtain ⟨n2,xs,o1,o2⟩:=h;have e1:=RepL.plain o2;subst e1;have hn:n2=l.length:=by have:=o1.1;rw [us_length,Nat.mul_one] at this;exact this.symm
 subst hn;obtain ⟨A',c',e⟩:=own_slice o1;injection e with e1 e2 e3
 subst e2;exact ⟨rfl,o1⟩
theorem of_cy (sec:Nat) (hsec:sec<18446744073709551616) (fl:List Fil) (o:Int) (hlog:LogOk fl o) (A:Option Addr) (c:Nat) (hc:fl.length≤c) (w:World) (B:Nat) (hBw:B≤w.heap.size) (hrow:FilRow w B A fl) (i size:Nat) (hi:i<size) (hsz:size≤fl.length) :
  Calls Tryz.prog 11 #[.int .u64 (sec:Int),.slice A fl.length c,.int .i64 (i:Int),.int .i64 (size:Int)] w fun e w'=>(∃ C,e=.returned (.agg C)∧Cy w' C 2 18)∧Below w.heap.size w w':=by
 have hl:=hlog.len;have hls:(fl.take size).length=size:=by rw [List.length_take];omega
 have hll:(logN (fl.take size)).length=size:=by rw [logN_length,hls]
 have hpl:=path_len 16 (logN (fl.take size)) i
 refine (of_any sec hsec fl (by omega) hlog.ok A c hc w B hBw hrow i size hi hsz (rootF 16 (logN (fl.take size))) (root_lt _ _) (fun W v=>∃ base,w.heap.size<base∧OwnU W base v (pathF 16 (logN (fl.take size)) i))
  (fun W v hr=>?_) (fun W v hlt hr=>?_) (fun W W' v hp hg=>?_)).mono ?_
 ·obtain ⟨A2,c2,rfl,hc2,hcell⟩:=Rep.row hr
  rw [us_length] at hc2 ⊢;obtain ⟨b,o,rfl,_,_⟩:=hcell 0 (.int .u64 ((logN (fl.take size))[0]'(by omega):Int)) (by simp [us,show 0<(logN (fl.take size)).length by omega])
  exact refroot_any 16 (logN (fl.take size)) b o c2 W (by omega) (by omega) (by omega) hc2 (words_log _) (fun k hk=>by
   obtain ⟨b2,o2,e,_,h2⟩:=hcell k (.int .u64 ((logN (fl.take size))[k]:Int)) (by simp [us,hk])
   injection e with e
   injection e with e1 e2
   subst e1 e2;exact h2)
 ·obtain ⟨A2,c2,rfl,hc2,hcell⟩:=Rep.row hr
  rw [us_length] at hc2 ⊢;obtain ⟨b,o,rfl,_,_⟩:=hcell 0 (.int .u64 ((logN (fl.take size))[0]'(by omega):Int)) (by simp [us,show 0<(logN (fl.take size)).length by omega])
  refine (refpath_any 16 (logN (fl.take size)) i b o c2 W (by omega) (by omega) (by omega) (by omega) hc2 (words_log _) (fun k hk=>by
   obtain ⟨b2,o2,e,_,h2⟩:=hcell k (.int .u64 ((logN (fl.take size))[k]:Int)) (by simp [us,hk])
   injection e with e
   injection e with e1 e2
   subst e1 e2;exact h2)).mono ?_
  rintro e w' ⟨u,rfl,o1,hb⟩;obtain ⟨Au,nu,cu,rfl,_,_⟩:=OwnM.slice o1;exact ⟨Au,nu,cu,rfl,⟨_,hlt,o1⟩,hb⟩
 ·obtain ⟨base,hb,ho⟩:=hp
  obtain ⟨Au,nu,cu,rfl,_,_⟩:=OwnM.slice ho;exact ⟨base,hb,ho.far hg hb⟩
 ·rintro e w' ⟨dv,cv,ev,Ap,np,cp,rfl,hf,⟨base,hb,ho⟩,hbl⟩
  obtain ⟨rfl,hrw⟩:=ho.row;have hok:=hlog.ok _ (List.getElem_mem (show i<fl.length by omega))
  refine ⟨⟨_,rfl,base,_,(i:Int),_,acOf fl[i],saltN i,Ap,cp,pathF 16 (logN (fl.take size)) i,⟨(cop_is _ _ _ _ _ _ _ _).copV.eq,rfl,vals_one hf.one,acOf_ok hok (hlog.earl _ (List.getElem_mem _)) (hlog.some _ (List.getElem_mem _)),hlog.earl _ (List.getElem_mem _),acOf_at hf hbl hBw,by omega,path_words _ _ _,hrw,root_lt _ _,by show 5<18446744073709551616;omega,lab_lt _ _⟩⟩,hbl⟩
theorem us_at {ps:List Nat} {k:Nat} (hk:k<ps.length):(us ps)[k]?=some (.int .u64 (ps[k]:Int)):=by simp [us,hk]
theorem bys_at {ps:List Nat} {k:Nat} (hk:k<ps.length):(bys ps)[k]?=some (.int .u8 (ps[k]:Int)):=by simp [bys,hk]
theorem samebytes_eq (bs:List Nat) (hn:bs.length≤1000000000) (v v':Value) (w:World) (h1:Rep w w.heap.size v (.s 1 (valD (bys bs)))) (h2:Rep w w.heap.size v' (.s 1 (valD (bys bs)))) :
  Calls Tryz.prog 33 #[v,v'] w fun e w'=>e=.returned (.bool true)∧Below w.heap.size w w':=by
 obtain ⟨A,c,rfl,hc,hcell⟩:=h1.row;obtain ⟨A',c',rfl,hc',hcell'⟩:=h2.row;rw [bys_length] at hc hc' ⊢;have H1:=Lib.hid hcell;have H2:=Lib.hid hcell';clear h1 h2 hcell hcell';go_enter Tryz.func33,Tryz.ntmps33
 go_wp2_with fail;go_loopw [5] (fun i wr=>∃ q:Nat,i=.int .i64 (q:Int)∧q≤bs.length∧Below w.heap.size w wr) (fun i _=>bs.length - (intOf i).toNat)
 case atStart=>exact ⟨0,rfl,Nat.zero_le _,Below.refl _ _⟩
 case round =>
  obtain ⟨q,rfl,hq,hB⟩:=hrel;by_cases hlt:q<bs.length
  ·obtain ⟨b,oo,rfl,hb,hx⟩:=H1.out q _ (bys_at hlt)
   obtain ⟨b2,o2,rfl,hb2,hx2⟩:=H2.out q _ (bys_at hlt);have e1:=(hB.cell (p:=⟨b,oo+q,none⟩) hb).trans hx;have e2:=(hB.cell (p:=⟨b2,o2+q,none⟩) hb2).trans hx2;have hd:decide (q<bs.length)=true:=decide_eq_true hlt;clear hx hx2;generalize bs[q]=B at *;go_wp2_with fail;go_quiet (fail);go_wp2_with fail;go_roundw
   case rel=>exact ⟨q+1,by go_num,by omega,below_drewN hB _⟩
   case measure=>simp [intOf];omega
  ·have hd:decide (q<bs.length)=false:=decide_eq_false hlt
   go_wp2_with fail;go_ret;exact ⟨rfl,hB⟩
theorem same32_eq (bs:List Nat) (hn:bs.length≤1000000000) (v v':Value) (w:World) (h1:Rep w w.heap.size v (.s 1 (valD (us bs)))) (h2:Rep w w.heap.size v' (.s 1 (valD (us bs)))) :
  Calls Tryz.prog 61 #[v,v'] w fun e w'=>e=.returned (.bool true)∧Below w.heap.size w w':=by
 obtain ⟨A,c,rfl,hc,hcell⟩:=h1.row;obtain ⟨A',c',rfl,hc',hcell'⟩:=h2.row;rw [us_length] at hc hc' ⊢;have H1:=Lib.hid hcell;have H2:=Lib.hid hcell';clear h1 h2 hcell hcell';go_enter Tryz.func61,Tryz.ntmps61
 go_wp2_with fail;go_loopw [5] (fun i wr=>∃ q:Nat,i=.int .i64 (q:Int)∧q≤bs.length∧Below w.heap.size w wr) (fun i _=>bs.length - (intOf i).toNat)
 case atStart=>exact ⟨0,rfl,Nat.zero_le _,Below.refl _ _⟩
 case round =>
  obtain ⟨q,rfl,hq,hB⟩:=hrel;by_cases hlt:q<bs.length
  ·obtain ⟨b,oo,rfl,hb,hx⟩:=H1.out q _ (us_at hlt)
   obtain ⟨b2,o2,rfl,hb2,hx2⟩:=H2.out q _ (us_at hlt);have e1:=(hB.cell (p:=⟨b,oo+q,none⟩) hb).trans hx;have e2:=(hB.cell (p:=⟨b2,o2+q,none⟩) hb2).trans hx2;have hd:decide (q<bs.length)=true:=decide_eq_true hlt;clear hx hx2;generalize bs[q]=B at *;go_wp2_with fail;go_quiet (fail);go_wp2_with fail;go_roundw
   case rel=>exact ⟨q+1,by go_num,by omega,below_drewN hB _⟩
   case measure=>simp [intOf];omega
  ·have hd:decide (q<bs.length)=false:=decide_eq_false hlt
   go_wp2_with fail;go_ret;exact ⟨rfl,hB⟩
theorem same18_eq (f:Fil) (hok:OkFil f) (dv cv ev:Value) (g g':Nat) (w:World) (hX:Blk w g 41 (f.vals dv cv ev)) (hX':Blk w g' 41 (f.vals dv cv ev)) (hf:FilAt w w.heap.size f dv cv ev) :
  Calls Tryz.prog 62 #[.slice (some ⟨g,0,none⟩) 1 1,.slice (some ⟨g',0,none⟩) 1 1] w fun e w'=>e=.returned (.bool true)∧Below w.heap.size w w':=by
 have HE:=Lib.hid (fun (W:World) (hW:Below w.heap.size w W)=>refaenc_own f hok dv cv ev W w.heap.size hW.size (hf.keep (fun p hp=>hW.cell hp) (Nat.le_refl _)))
 have HX:=Lib.hid (fun (W:World) (hW:Below w.heap.size w W)=>hX.keep hW)
 have HX':=Lib.hid (fun (W:World) (hW:Below w.heap.size w W)=>hX'.keep hW)
 have hlen:=encA_len hok;have hvs:(f.vals dv cv ev).size=19:=rfl;clear hok hf hX hX';generalize encA f=bs at *;generalize f.vals dv cv ev=V at *;go_enter Tryz.func62,Tryz.ntmps62
 go_wp2_with fail;go_loopw [5] (fun i wr=>∃ q:Nat,i=.int .i64 (q:Int)∧q≤1∧Below w.heap.size w wr) (fun i _=>1 - (intOf i).toNat)
 case atStart=>exact ⟨0,rfl,by omega,Below.refl _ _⟩
 case round =>
  obtain ⟨q,rfl,hq,hB⟩:=hrel;rcases (by omega:q=0∨q=1) with rfl | rfl
  ·have X0:=HX.out _ hB
   clear hq;go_wp2_with (refine wpList_loadA X0 hvs _ rfl rfl rfl ?_)
   refine (HE.out _ hB).mono ?_
   rintro e w1 ⟨u,rfl,o1,hb1⟩;have B1:=below_up hB hb1 hB.size;have R1:=o1.rep;have X1:=HX'.out _ B1;clear hB hb1 X0 o1;go_wp2_with (refine wpList_loadA X1 hvs _ rfl rfl rfl ?_)
   refine (HE.out _ B1).mono ?_
   rintro e w2 ⟨u',rfl,o2,hb2⟩;have B2:=below_up B1 hb2 B1.size;have R2:=o2.rep;have R1':=R1.keep (fun p hp=>hb2.cell hp) hb2.size
   clear B1 hb2 X1 o2 R1;go_wp2_with fail;refine (samebytes_eq bs (by omega) u u' _ R1' R2).mono ?_
   rintro e w3 ⟨rfl,hb3⟩;have B3:=below_up B2 hb3 B2.size;clear B2 hb3 R1' R2;go_wp2_with fail;go_roundw
   case rel=>exact ⟨1,by go_num,by omega,B3⟩
   case measure=>simp [intOf]
  ·go_wp2_with fail
   go_ret;exact ⟨rfl,hB⟩
theorem exec_rowA (d:Option Tmp) (ty:TypeId) (pos:String) (after:Array Edge) (gd:Option (Nat × Bool)) (r:Operand→Value) (x:Operand) (C:Array Value) (hs:C.size=19) (h0:r x=.agg C) (w:World) :
  (execOp r ⟨d,.buildSlice 23 1 #[(0,x)],ty,pos,after,gd⟩).run Tryz.prog w=.ok (.value (.slice (some ⟨w.heap.size,0,none⟩) 1 1)) (w.alloc (.cells C 41)):=by
 obtain ⟨a0,a1,a2,a3,a4,a5,a6,a7,a8,a9,a10,a11,a12,a13,a14,a15,a16,a17,a18,rfl⟩:=arr19 hs;simp only [execOp];go_simp
theorem wpList_rowA {ops:Array Oper} {rest:List Oper} {o:Oper} {a:Act} {w:World} {Q:Exit→Act→World→Prop} (x:Operand) (ho:o.op=.buildSlice 23 1 #[(0,x)]) (hw:Region.wanted o (yielded ops a.tmps)=true) (C:Array Value) (hs:C.size=19) (h0:a.eval x=.agg C)
  (hK:wpList Tryz.prog ops Q rest (a.put o.dst (.slice (some ⟨w.heap.size,0,none⟩) 1 1)) (w.alloc (.cells C 41))):wpList Tryz.prog ops Q (o::rest) a w:=by
 obtain ⟨d,op,ty,pos,after,gd⟩:=o;obtain rfl:op=_:=ho
 exact wpList_step fun _ h2=>by
  rw [if_pos hw];unfold Oper.wp;rw [exec_rowA d ty pos after gd a.eval x C hs h0 w,Oper.upon_value];exact h2 _ _ hK
theorem same37_eq {C1 C2:Array Value} {h:Hd} {i:Int} {f:Fil} (hok:OkFil f) {dv cv ev:Value} {salt:Nat} {ps:List Nat} (hp:ps.length≤100) {A1 A2:Option Addr} {c1 c2:Nat} (w:World) (hf:FilAt w w.heap.size f dv cv ev) (r1:Rep w w.heap.size (.slice A1 ps.length c1) (.s 1 (valD (us ps)))) (r2:Rep w w.heap.size (.slice A2 ps.length c2) (.s 1 (valD (us ps))))
  (hC1:CopV C1 h i (f.vals dv cv ev) salt (.slice A1 ps.length c1)) (hC2:CopV C2 h i (f.vals dv cv ev) salt (.slice A2 ps.length c2)) :
  Calls Tryz.prog 20 #[.agg C1,.agg C2] w fun e w'=>e=.returned (.bool true)∧Below w.heap.size w w':=by
 have HS:=Lib.hid (fun (W:World) (hW:Below w.heap.size w W)=>same32_eq ps (by omega) _ _ W (r1.keep (fun p hp=>hW.cell hp) hW.size) (r2.keep (fun p hp=>hW.cell hp) hW.size))
 have HA:=Lib.hid (fun (W:World) (hW:Below w.heap.size w W) (g g':Nat) (hX:Blk W g 41 (f.vals dv cv ev)) (hX':Blk W g' 41 (f.vals dv cv ev))=>same18_eq f hok dv cv ev g g' W hX hX' (hf.keep (fun p hp=>hW.cell hp) hW.size))
 have hvs:(f.vals dv cv ev).size=19:=rfl;clear hok hf r1 r2;generalize f.vals dv cv ev=V at *;obtain ⟨ho,ht,hd,hsz,hl,hm,hsl,hsg⟩:=h;have X1:=(Blk.new w 44 C1).alloc (.cells C2 44);have X2:=Blk.new (w.alloc (.cells C1 44)) 44 C2;rw [World.size_alloc] at X2;have P0:=(below_new w (.cells C1 44)).alloc (by simp) (.cells C2 44)
 go_enter Tryz.func20,Tryz.ntmps20
 go_upto_region 1 with fail;generalize (w.alloc (.cells C1 44)).alloc (.cells C2 44)=w1 at *;have hr1:=hC1.hrange X1;have hr2:=hC2.hrange X2;have c8:=X1.cellAt 8 _ hC1.idx;have c28:=X1.cellAt 28 _ hC1.salt;have c29:=X1.cellAt 29 _ hC1.path;have d8:=X2.cellAt 8 _ hC2.idx;have d28:=X2.cellAt 28 _ hC2.salt;have d29:=X2.cellAt 29 _ hC2.path;have H1:=Lib.hid hC1;have H2:=Lib.hid hC2;clear hC1 hC2;go_wp2_with (first | (refine wpList_loadRV hr1 _ rfl rfl rfl ?_;unfold Hd.vals;dsimp only) | (refine wpList_loadRV hr2 _ rfl rfl rfl ?_;unfold Hd.vals;dsimp only))
 refine (HS.out _ P0).mono ?_
 rintro e w2 ⟨rfl,hb2⟩;have Y1:=X1.keep hb2;have Y2:=X2.keep hb2;have P2:=below_up P0 hb2 P0.size;clear X1 X2 P0 hb2 hr1 hr2 c8 c28 c29 d8 d28 d29;have Z1:=Y1.alloc (.cells V 41);have Z2:=Y2.alloc (.cells V 41);go_wp2_with (first | (refine wpList_loadCV H1.out Y1 _ rfl rfl rfl ?_) | (refine wpList_loadCV H2.out Z2 _ rfl rfl rfl ?_) | (refine wpList_rowA _ rfl rfl V hvs rfl ?_))
 have BA:=(Blk.new w2 41 V).alloc (.cells V 41);have BB:=Blk.new (w2.alloc (.cells V 41)) 41 V;rw [World.size_alloc] at BB;have P3:=(P2.alloc P2.size (.cells V 41)).alloc (P2.alloc P2.size (.cells V 41)).size (.cells V 41);refine (HA.out _ P3 _ _ BA BB).mono ?_
 rintro e w4 ⟨rfl,hb4⟩;have P4:=below_up P3 hb4 P3.size;clear BA BB P3 Y1 Y2 Z1 Z2 hb4;go_wp2_with fail;go_ret;exact ⟨rfl,P4⟩
theorem wpList_buildT {T:TypeId} (hT:T=51∨T=44) {ops:Array Oper} {rest:List Oper} {o:Oper} {a:Act} {w:World} {Q:Exit→Act→World→Prop} (x0 x1 x2 x3 x4:Operand) (ho:o.op=.build T #[(0,x0),(1,x1),(2,x2),(3,x3),(4,x4)]) (hg:o.guard=none) (h:Hd) (i:Int) (V:Array Value) (hV:V.size=19) (salt:Nat) (A:Option Addr) (n c:Nat)
  (h0:a.eval x0=.agg h.vals) (h1:a.eval x1=.int .i64 i) (h2:a.eval x2=.agg V) (h3:a.eval x3=.int .u64 (salt:Int)) (h4:a.eval x4=.slice A n c)
  (hK:wpList Tryz.prog ops Q rest (a.put o.dst (.agg (copA h i V salt (.slice A n c)))) w):wpList Tryz.prog ops Q (o::rest) a w:=by
 obtain ⟨d,op,ty,pos,after,gd⟩:=o;obtain rfl:op=_:=ho;obtain rfl:gd=none:=hg
 exact wpList_plain rfl fun _ h5=>by
  unfold Oper.wp;rw [exec_buildT hT d ty pos after none a.eval x0 x1 x2 x3 x4 h i V hV salt A n c h0 h1 h2 h3 h4 w,Oper.upon_value];exact h5 _ _ hK
theorem plain_V {C:Array Value} {h:Hd} {i:Int} {V:Array Value} {salt:Nat} {A:Option Addr} {n c:Nat} (hC:CopV C h i V salt (.slice A n c)) (hC1:C.all (·.oneCell')=true) (w:World) :
  Calls Tryz.prog 21 #[.agg C] w fun e w'=>e=.returned (.agg C)∧Below w.heap.size w w':=by
 have hvs:=hC.vs;have hcs:=hC.size;have HCE:=Lib.hid hC.eq;have hone:(copA h i V salt (.slice A n c)).all (·.oneCell')=true:=by rw [← hC.eq];exact hC1
 have X0:=(Blk.new w 51 C).alloc (.cells #[iI 0,iI 0,iI 0,iI 0,uI 0,uI 0,iI 0,uI 0,iI 0,iI 0,iI 0,iI 0,iI 0,iI 0,iI 0,iI 0,iI 0,iI 0,iI 0,iI 0,nN,nN,nN,nN,iI 0,iI 0,nN,nN,uI 0,nN] 44);have Y0:=Blk.new (w.alloc (.cells C 51)) 44 #[iI 0,iI 0,iI 0,iI 0,uI 0,uI 0,iI 0,uI 0,iI 0,iI 0,iI 0,iI 0,iI 0,iI 0,iI 0,iI 0,iI 0,iI 0,iI 0,iI 0,nN,nN,nN,nN,iI 0,iI 0,nN,nN,uI 0,nN];rw [World.size_alloc] at Y0;have P0:=(below_new w (.cells C 51)).alloc (by simp) (.cells #[iI 0,iI 0,iI 0,iI 0,uI 0,uI 0,iI 0,uI 0,iI 0,iI 0,iI 0,iI 0,iI 0,iI 0,iI 0,iI 0,iI 0,iI 0,iI 0,iI 0,nN,nN,nN,nN,iI 0,iI 0,nN,nN,uI 0,nN] 44)
 clear hC1;go_enter Tryz.func21,Tryz.ntmps21
 go_upto_region 1 with fail;generalize (w.alloc (.cells C 51)).alloc (.cells #[iI 0,iI 0,iI 0,iI 0,uI 0,uI 0,iI 0,uI 0,iI 0,iI 0,iI 0,iI 0,iI 0,iI 0,iI 0,iI 0,iI 0,iI 0,iI 0,iI 0,nN,nN,nN,nN,iI 0,iI 0,nN,nN,uI 0,nN] 44)=w1 at *;have c0:=X0.cellAt 0 _ (hC.hd 0 _ rfl);have c1:=X0.cellAt 1 _ (hC.hd 1 _ rfl);have c2:=X0.cellAt 2 _ (hC.hd 2 _ rfl);have c3:=X0.cellAt 3 _ (hC.hd 3 _ rfl);have c4:=X0.cellAt 4 _ (hC.hd 4 _ rfl);have c5:=X0.cellAt 5 _ (hC.hd 5 _ rfl);have c6:=X0.cellAt 6 _ (hC.hd 6 _ rfl);have c7:=X0.cellAt 7 _ (hC.hd 7 _ rfl);have Z0:=Blk.new w1 29 #[iI 0,iI 0,iI 0,iI 0,uI 0,uI 0,iI 0,uI 0];have X1:=X0.alloc (.cells #[iI 0,iI 0,iI 0,iI 0,uI 0,uI 0,iI 0,uI 0] 29);have Y1:=Y0.alloc (.cells #[iI 0,iI 0,iI 0,iI 0,uI 0,uI 0,iI 0,uI 0] 29);have P1:=P0.alloc P0.size (.cells #[iI 0,iI 0,iI 0,iI 0,uI 0,uI 0,iI 0,uI 0] 29);have hx:=X0.lt;have hy:=Y0.lt;clear X0 Y0 P0;go_upto_region 2 with (refine wpList_storeW (T:=29) (n:=8) (by kernel_rfl) Z0 rfl _ _ rfl rfl rfl h.vals rfl rfl (by kernel_rfl) ?_;intro w2 Z2 g2)
 have X2:=X1.grown g2 (fun e=>by injection e with e;omega)
 have Y2:=Y1.grown g2 (fun e=>by injection e with e;omega)
 have P2:=P1.grown g2 P1.size (fun k e=>by injection e with e;omega)
 clear X1 Y1 P1 Z0 g2 c0 c1 c2 c3 c4 c5 c6 c7
 have hr:w2.rangeAt w1.heap.size 0 h.vals.toList:=fun j v hv=>by
  rw [Nat.zero_add];exact (Z2.cell j).trans (by rw [← Array.getElem?_toList];exact hv)
 have c8:=X2.cellAt 8 _ hC.idx;have c28:=X2.cellAt 28 _ hC.salt;have c29:=X2.cellAt 29 _ hC.path;have HC:=Lib.hid hC;clear hC;go_wp2_with (first | (refine wpList_loadRV hr _ rfl rfl rfl ?_) | (refine wpList_loadCV HC.out X2 _ rfl rfl rfl ?_) | (refine wpList_buildT (.inr rfl) _ _ _ _ _ rfl rfl h i V hvs salt A n c rfl rfl rfl rfl rfl ?_) | (refine wpList_storeW (T:=44) (n:=30) (by kernel_rfl) Y2 rfl _ _ rfl rfl rfl (copA h i V salt (.slice A n c)) rfl (copA_is hvs).size hone ?_;intro w3 Y3 g3))
 have P3:=P2.grown g3 P2.size (fun k e=>by injection e with e;omega)
 rw [← HCE.out] at Y3;exact bodyPost_ret (results_K rfl _ rfl Y3 hcs) rfl ⟨rfl,P3⟩
end Go.Proofs.YtbeaijjaecaidaaGreatDoor
