/- The maker's filings. -/
import Derived.Test.YtbeaijjaecaidaaGreatDoorM14
import Derived.Test.YtbeaijjaecaidaaGreatDoorM01
set_option maxRecDepth 100000
set_option maxHeartbeats 16000000
namespace Go.Proofs.YtbeaijjaecaidaaGreatDoor
open Go.RowKit Go.Shelf
attribute [local go_sem] Oper.semAt_some
def zeroA:Array Value:=#[iI 0,iI 0,iI 0,iI 0,iI 0,iI 0,iI 0,iI 0,iI 0,iI 0,iI 0,nN,nN,nN,nN,iI 0,iI 0,nN,nN]
theorem wp_appM {T e:TypeId} {z:Value} {size bytes:Nat} (hT:Tryz.prog.underlying T=some (.slice e)) (hinf:(Tryz.prog.info? e).map (fun i=>(i.zero,i.size,i.bytes))=some (some z,size,bytes)) (hz:z.cells.size=size) (hp:0<size) (hby:bytes≤1000)
  {ts:List TypeId} {H:List Nat} {w:World} {base:Nat} {v:Value} {ds:List D} (hown:OwnM ts H w base e size v ds) {g m c:Nat} {cs:Array Value} (hb:Blk w g e cs) (hcs:cs.size=m * size) (h1:cs.all (·.oneCell')=true) {es:List D} (hn:RepML ts (v.ownBlock.toList++H) w cs.toList es)
  (hlen:ds.length≤100000) (hm:m≤1000) (hbase:base≤w.heap.size)
  {o:Oper} {a:Act} {K:Act→World→Prop} {Q:Exit→Act→World→Prop} (s x:Operand) (ho:o.op=.call { callee:=.builtin .append,args:=#[s,x],argTypes:=#[T,T] }) (hs:a.eval s=v) (hx:a.eval x=.slice (some ⟨g,0,none⟩) m c)
  (hK:∀ v' w',OwnM ts H w' base e size v' (ds++es)→w.grownBy w' v.ownBlock→(v'.ownBlock=v.ownBlock∨v'.ownBlock=some w.heap.size)→K (a.put o.dst v') w'):o.wp Tryz.prog a w K Q :=
 let ⟨v',w',r1,r2,r3,r4⟩:=run_appM hT hinf hz hp hby hown hb hcs h1 hn hlen hm hbase (ty:=o.type) (c:=c)
 wp_app_run s x T v _ v' ho hs hx r1 (hK v' w' r2 r3 r4)
theorem wp_storeA {w:World} {g:Nat} {old:Array Value} (h:Blk w g 41 old) (hs:old.size=19) {o:Oper} {a:Act} {K:Act→World→Prop} {Q:Exit→Act→World→Prop} (p v:Operand) (ho:o.op=.store 41 p v)
  (hp:a.eval p=.pointer (some ⟨g,0,none⟩)) (vs:Array Value) (hv:a.eval v=.agg vs) (hvs:vs.size=19) (h1:vs.all (·.oneCell')=true)
  (hK:∀ w',Blk w' g 41 vs→w.grownBy w' (some g)→K (a.put o.dst undef) w'):o.wp Tryz.prog a w K Q :=
 wp_store_row 41 p v ho g vs hp hv 41 old h (by rw [hvs];kernel_rfl) (by rw [hs,hvs]) h1 (hK _ (h.setRow vs) (grown_setRow w g vs))
def FSt (w wx:World) (base g:Nat) (A:Option Addr) (n c:Nat) (day:Int) (fv:Value) (ab len:Nat) (f:Fil) (dv cv ev:Value):Prop :=
 Blk wx w.heap.size 41 zeroA∧Blk wx ab 41 (f.vals dv cv ev)∧RepM TA [] wx dv (.s 4 (f.d.flatMap F.cells))∧RepM TA [] wx cv (.s 5 (f.c.flatMap Cl.cells))∧GenA len f∧f.day=0∧f.known=0∧w.grownBy wx (some g)∧Mk wx base g A n c day fv
theorem FSt.step {w wx w':World} {base g:Nat} {A:Option Addr} {n c:Nat} {day:Int} {fv:Value} {ab len:Nat} {f:Fil} {dv cv ev:Value} (h:FSt w wx base g A n c day fv ab len f dv cv ev) {row:Option Nat} (hg:wx.grownBy w' row) (hr:∀ i,row=some i→(i<wx.heap.size→Hidden TA wx i)∧w.heap.size<i∧i≠ab∧i≠g∧base≤i):FSt w w' base g A n c day fv ab len f dv cv ev:=by
 obtain ⟨h1,h2,h3,h4,h5,h6,h7,h8,h9⟩:=h;exact ⟨h1.grown hg (fun e=>by have:=hr _ e.symm;omega),h2.grown hg (fun e=>by have:=hr _ e.symm;omega),h3.step hg (fun i e hi=>.inl ((hr i e).1 hi)) (fun _ hi=>.inl hi),h4.step hg (fun i e hi=>.inl ((hr i e).1 hi)) (fun _ hi=>.inl hi),h5,h6,h7,grown_up h8 hg (fun i e hi=>by have:=hr i e;omega),h9.step hg (fun i e=>by have:=hr i e;exact ⟨this.2.2.2.2,this.2.2.2.1⟩)⟩
theorem FSt.call {w wx w':World} {base g:Nat} {A:Option Addr} {n c:Nat} {day:Int} {fv:Value} {ab len:Nat} {f:Fil} {dv cv ev:Value} (h:FSt w wx base g A n c day fv ab len f dv cv ev) (hg:wx.grownBy w' (some g)) (hM:Mk w' base g A n c day fv) (hne:g<w.heap.size) (hab:g≠ab):FSt w w' base g A n c day fv ab len f dv cv ev:=by
 obtain ⟨h1,h2,h3,h4,h5,h6,h7,h8,h9⟩:=h;have hh:Hidden TA wx g:=h9.hidden (by decide)
 exact ⟨h1.grown hg (fun e=>by injection e with e;omega),h2.grown hg (fun e=>by injection e with e;omega),h3.step hg (fun i e _=>.inl (by injection e with e;subst e;exact hh)) (fun _ hi=>.inl hi),h4.step hg (fun i e _=>.inl (by injection e with e;subst e;exact hh)) (fun _ hi=>.inl hi),h5,h6,h7,grown_up h8 hg (fun _ e _=>e),hM⟩
theorem FSt.put {w wx:World} {base g:Nat} {A:Option Addr} {n c:Nat} {day:Int} {fv:Value} {ab len:Nat} {f:Fil} {dv cv ev:Value} (h:FSt w wx base g A n c day fv ab len f dv cv ev) (i:Nat) (v:Value) (f':Fil) (dv' cv' ev':Value) (hv:(f.vals dv cv ev).setIfInBounds i v=f'.vals dv' cv' ev')
  (hd:RepM TA [] wx dv' (.s 4 (f'.d.flatMap F.cells))) (hc:RepM TA [] wx cv' (.s 5 (f'.c.flatMap Cl.cells))) (hG:GenA len f') (h0:f'.day=0) (h1:f'.known=0) (hab:w.heap.size<ab) (hgab:g<ab):FSt w (wx.setCell ⟨ab,i,none⟩ v) base g A n c day fv ab len f' dv' cv' ev':=by
 obtain ⟨q1,q2,q3,q4,q5,q6,q7,q8,q9⟩:=h;have gs:=grown_set wx ab i v;have hh:Hidden TA wx ab:=q2.hidden (by decide)
 have Y:=q2.set i v;rw [hv] at Y;exact ⟨q1.far (by simp;omega) _,Y,hd.step gs (fun k e _=>.inl (by injection e with e;subst e;exact hh)) (fun _ hi=>.inl hi),hc.step gs (fun k e _=>.inl (by injection e with e;subst e;exact hh)) (fun _ hi=>.inl hi),hG,h0,h1,grown_up q8 gs (fun k e hk=>by injection e with e;omega),q9.step gs (fun k e=>by injection e with e;have:=q9.base;omega)⟩
def FSE (w wx:World) (base g:Nat) (A:Option Addr) (n c:Nat) (day:Int) (fv:Value) (ab len:Nat) (f:Fil) (dv cv ev:Value):Prop :=
 FSt w wx base g A n c day fv ab len f dv cv ev∧OwnM TA [] wx (w.heap.size+1) 106 2 ev (prD f.e)∧ev.ownBlock≠some ab∧RepM TA ev.ownBlock.toList wx dv (.s 4 (f.d.flatMap F.cells))∧RepM TA ev.ownBlock.toList wx cv (.s 5 (f.c.flatMap Cl.cells))
theorem FSE.step {w wx w':World} {base g:Nat} {A:Option Addr} {n c:Nat} {day:Int} {fv:Value} {ab len:Nat} {f:Fil} {dv cv ev:Value} (h:FSE w wx base g A n c day fv ab len f dv cv ev) {row:Option Nat} (hg:wx.grownBy w' row) (hr:∀ i,row=some i→(i<wx.heap.size→Hidden TA wx i)∧w.heap.size<i∧i≠ab∧i≠g∧base≤i∧ev.ownBlock≠some i):FSE w w' base g A n c day fv ab len f dv cv ev:=by
 obtain ⟨h1,h2,h3,h4,h5⟩:=h;exact ⟨h1.step hg (fun i e=>by have:=hr i e;exact ⟨this.1,this.2.1,this.2.2.1,this.2.2.2.1,this.2.2.2.2.1⟩),h2.step hg (fun i e hi=>⟨.inl ((hr i e).1 hi),(hr i e).2.2.2.2.2⟩) (fun _ hi=>.inl hi),h3,h4.step hg (fun i e hi=>.inl ((hr i e).1 hi)) (fun _ hi=>.inl hi),h5.step hg (fun i e hi=>.inl ((hr i e).1 hi)) (fun _ hi=>.inl hi)⟩
theorem FSE.call {w wx w':World} {base g:Nat} {A:Option Addr} {n c:Nat} {day:Int} {fv:Value} {ab len:Nat} {f:Fil} {dv cv ev:Value} (h:FSE w wx base g A n c day fv ab len f dv cv ev) (hg:wx.grownBy w' (some g)) (hM:Mk w' base g A n c day fv) (hne:g<w.heap.size) (hab:g≠ab):FSE w w' base g A n c day fv ab len f dv cv ev:=by
 obtain ⟨h1,h2,h3,h4,h5⟩:=h;have hh:Hidden TA wx g:=h1.2.2.2.2.2.2.2.2.hidden (by decide)
 exact ⟨h1.call hg hM hne hab,h2.step hg (fun i e _=>by injection e with e;subst e;exact ⟨.inl hh,fun e2=>by have:=(h2.lt _ e2).1;omega⟩) (fun _ hi=>.inl hi),h3,h4.step hg (fun i e _=>.inl (by injection e with e;subst e;exact hh)) (fun _ hi=>.inl hi),h5.step hg (fun i e _=>.inl (by injection e with e;subst e;exact hh)) (fun _ hi=>.inl hi)⟩
theorem FSE.num {w wx:World} {base g:Nat} {A:Option Addr} {n c:Nat} {day:Int} {fv:Value} {ab len:Nat} {f:Fil} {dv cv ev:Value} (h:FSE w wx base g A n c day fv ab len f dv cv ev) (i:Nat) (v:Value) (f':Fil) (hv:(f.vals dv cv ev).setIfInBounds i v=f'.vals dv cv ev)
  (hd:f'.d=f.d) (hc:f'.c=f.c) (he:f'.e=f.e) (hG:GenA len f') (h0:f'.day=0) (h1:f'.known=0) (hab:w.heap.size<ab) (hgab:g<ab):FSE w (wx.setCell ⟨ab,i,none⟩ v) base g A n c day fv ab len f' dv cv ev:=by
 obtain ⟨q1,q2,q3,q4,q5⟩:=h;have gs:=grown_set wx ab i v;have hh:Hidden TA wx ab:=q1.2.1.hidden (by decide)
 refine ⟨q1.put i v f' dv cv ev hv (by rw [hd];exact q1.2.2.1) (by rw [hc];exact q1.2.2.2.1) hG h0 h1 hab hgab,?_,q3,?_,?_⟩
 ·rw [he]
  exact q2.step gs (fun k e _=>by injection e with e;subst e;exact ⟨.inl hh,q3⟩) (fun _ hi=>.inl hi)
 ·rw [hd]
  exact q4.step gs (fun k e _=>.inl (by injection e with e;subst e;exact hh)) (fun _ hi=>.inl hi)
 ·rw [hc]
  exact q5.step gs (fun k e _=>.inl (by injection e with e;subst e;exact hh)) (fun _ hi=>.inl hi)
theorem FSE.app {w wx w':World} {base g:Nat} {A:Option Addr} {n c:Nat} {day:Int} {fv:Value} {ab len:Nat} {f:Fil} {dv cv ev v':Value} {e':List (Int × Int)} (h:FSE w wx base g A n c day fv ab len f dv cv ev) (ho:OwnM TA [] w' (w.heap.size+1) 106 2 v' (prD e')) (hg:wx.grownBy w' ev.ownBlock) (hl:v'.ownBlock=ev.ownBlock∨v'.ownBlock=some wx.heap.size)
  (hG:GenA len { f with e:=e' }) (hab:w.heap.size<ab) (hgab:g<ab) (hgw:g<w.heap.size):FSE w (w'.setCell ⟨ab,14,none⟩ v') base g A n c day fv ab len { f with e:=e' } dv cv v':=by
 obtain ⟨⟨q1,q2,q3,q4,q5,q6,q7,q8,q9⟩,r2,r3,r4,r5⟩:=h;have hlt:=r2.lt;have hbase:=q9.base;have hab2:=q2.lt
 have hn':v'.ownBlock≠some ab:=fun e=>by
  rcases hl with hl | hl
  ·exact r3 (hl ▸ e)
  ·rw [hl] at e
   injection e with e
   omega
 have hH:∀ i∈v'.ownBlock.toList,i∈ev.ownBlock.toList∨wx.heap.size≤i:=fun i hi=>by
  rcases hl with hl | hl
  ·rw [hl] at hi;exact .inl hi
  ·rw [hl] at hi
   simp at hi;exact .inr (by omega)
 have d4:=r4.step (H':=v'.ownBlock.toList) hg (fun i e _=>.inr (by rw [e];simp)) hH
 have d5:=r5.step (H':=v'.ownBlock.toList) hg (fun i e _=>.inr (by rw [e];simp)) hH
 have y2:=q2.grown hg (fun e=>r3 e.symm)
 have m9:=q9.step hg (fun k e=>by have:=hlt k e;omega)
 have F:FSt w w' base g A n c day fv ab len f dv cv ev:=⟨q1.grown hg (fun e=>by have:=hlt _ e.symm;omega),y2,d4.weak (fun _ h=>h) (fun _ hi=>by cases hi),d5.weak (fun _ h=>h) (fun _ hi=>by cases hi),q5,q6,q7,grown_up q8 hg (fun k e hk=>by have:=hlt k e;omega),m9⟩
 have gs:=grown_set w' ab 14 v';have hh:Hidden TA w' ab:=y2.hidden (by decide)
 exact ⟨F.put 14 v' { f with e:=e' } dv cv v' rfl F.2.2.1 F.2.2.2.1 hG q6 q7 hab hgab,ho.step gs (fun k e _=>by injection e with e;subst e;exact ⟨.inl hh,hn'⟩) (fun _ hi=>.inl hi),hn',d4.step gs (fun k e _=>.inl (by injection e with e;subst e;exact hh)) (fun _ hi=>.inl hi),d5.step gs (fun k e _=>.inl (by injection e with e;subst e;exact hh)) (fun _ hi=>.inl hi)⟩
theorem FilM.step {ts:List TypeId} {w w':World} {f:Fil} {dv cv ev:Value} (h:FilM ts [] w f dv cv ev) {row:Option Nat} (hg:w.grownBy w' row) (hrow:∀ i,row=some i→i<w.heap.size→Hidden ts w i):FilM ts [] w' f dv cv ev :=
 ⟨h.1.step hg (fun i e hi=>.inl (hrow i e hi)) (fun _ hi=>.inl hi),h.2.1.step hg (fun i e hi=>.inl (hrow i e hi)) (fun _ hi=>.inl hi),h.2.2.step hg (fun i e hi=>.inl (hrow i e hi)) (fun _ hi=>.inl hi)⟩
theorem fil_pick {w:World} {base g:Nat} {fv:Value} {fl:List Fil} (h:OwnM TA [] w base 41 19 fv (fl.flatMap Fil.cells)) (hg:Hidden TA w g) (hne:fv.ownBlock≠some g) (k:Nat) (hk:k<fl.length) :
  ∃ b c dv cv ev,fv=.slice (some ⟨b,0,none⟩) fl.length c∧(∀ W,w.grownBy W (some g)→W.rangeAt b (k * 19) (fl[k].vals dv cv ev).toList∧FilM TA [] W fl[k] dv cv ev):=by
 obtain ⟨b,c,dv,cv,ev,e,_,hb,hr,hm⟩:=fil_at h k hk;refine ⟨b,c,dv,cv,ev,e,fun W hW=>⟨fun j v hv=>?_,?_⟩⟩
 ·have h1:=hr j v hv
  have h2:=World.block_lt_of_cell? w _ h1;rw [World.cell?_of_block (hW.block _ h2 (fun e2=>hne (by rw [hb];exact e2)))]
  exact h1
 ·have hm':FilM TA [] w fl[k] dv cv ev:=⟨hm.1.weak (fun _ h=>h) (fun i hi=>by cases hi),hm.2.1.weak (fun _ h=>h) (fun i hi=>by cases hi),hm.2.2.weak (fun _ h=>h) (fun i hi=>by cases hi)⟩
  exact hm'.step hW (fun i e _=>by injection e with e;subst e;exact hg)
theorem FilM.forms {ts:List TypeId} {w:World} {f:Fil} {dv cv ev:Value} (h:FilM ts [] w f dv cv ev):∃ Ad cd Ac cc Ae ce,dv=.slice Ad f.d.length cd∧cv=.slice Ac f.c.length cc∧ev=.slice Ae f.e.length ce:=by
 obtain ⟨Ad,cd,e1,_⟩:=h.1.out.formulas;obtain ⟨Ac,cc,e2,_⟩:=h.2.1.out.claims;obtain ⟨Ae,ce,e3,_⟩:=h.2.2.out.pairs;exact ⟨Ad,cd,Ac,cc,Ae,ce,e1,e2,e3⟩
theorem prD_append (a b:List (Int × Int)):prD (a++b)=prD a++prD b:=by unfold prD;rw [List.flatMap_append]
theorem genA_app {i:Nat} {f:Fil} {x y:Int} (h:GenA i f) (hl:f.e.length≤1) (hx:∃ j:Nat,j<i∧x=5 * (j:Int)) (hy0:0≤y) (hy1:y≤100001) (hn:∀ p∈f.e,p.1≠x):GenA i { f with e:=f.e++[(x,y)] }:=by
 obtain ⟨h1,h2,h3,h4,h5,h6,h7,h8⟩:=h;refine ⟨h1,h2,h3,h4,h5,?_,?_,?_⟩
 ·show (f.e++[(x,y)]).length≤2
  simp;omega
 ·intro p hp
  rcases List.mem_append.1 hp with hp | hp
  ·exact h7 p hp
  ·rw [List.mem_singleton.1 hp]
   exact ⟨hx,hy0,hy1⟩
 ·show ((f.e++[(x,y)]).map Prod.fst).Nodup
  rw [List.map_append,List.nodup_append];refine ⟨h8,by simp,?_⟩
  intro a ha b hb;simp at hb;subst hb;obtain ⟨p,hp,rfl⟩:=List.mem_map.1 ha;exact hn p hp
theorem fe_first {W:World} {base eb eo ce:Nat} {e:List (Int × Int)} {x y:Int} (h:OwnM TA [] W base 106 2 (.slice (some ⟨eb,eo,none⟩) e.length ce) (prD e)) (he:e=[(x,y)]):W.cell? ⟨eb,eo,none⟩=some (.int .i64 x):=by
 have RE:RepM TA [] W (.slice (some ⟨eb,eo,none⟩) e.length ce) (.s 2 (prD e)):=h.rep (fun _ h=>h) (by decide) (fun _ hi=>by cases hi)
 obtain ⟨A,c,e1,_,hp⟩:=RE.out.pairs;obtain ⟨b,o,e2,_,c0,_⟩:=hp 0 (by rw [he];exact Nat.lt_succ_self 0)
 subst he;injection e1 with e1 _ _
 rw [e2] at e1;cases e1
 simpa using c0
theorem mkfiling_any {w:World} {base g:Nat} {A:Option Addr} {n c:Nat} {day:Int} {fv:Value} {fl:List Fil} (h:Mk w base g A n c day fv) (hf:OwnM TA [] w base 41 19 fv (fl.flatMap Fil.cells)) (hgl:GenL fl) (hl13:fl.length≤13) :
  Calls Tryz.prog 91 #[.pointer (some ⟨g,0,none⟩)] w fun e w'=>(∃ f dv cv ev,e=.returned (.agg (f.vals dv cv ev))∧FilM TA [] w' f dv cv ev∧GenA fl.length f∧f.day=0∧f.known=0)∧w.grownBy w' (some g)∧Mk w' base g A n c day fv:=by
 have hlt:=h.lt;have hbase:=h.base;obtain ⟨Af,nf,cf,rfl,hnf,_⟩:=hf.slice;have hfl:=flat_length (l:=fl) (f:=Fil.cells) (k:=19) (fun x _=>x.cells_length)
 obtain rfl:nf=fl.length:=by omega
 have hfg:(Value.slice Af fl.length cf).ownBlock≠some g:=fun e2=>by
  obtain ⟨n',xs,q1,q2⟩:=hf;obtain ⟨⟨at_,hg⟩,_⟩:=h;rcases q1.2 with ⟨e3,_⟩ | ⟨k,cap,cur,e3,_,hb,_⟩
  ·rw [e3] at e2
   cases e2
  ·rw [e3] at e2
   injection e2 with e2
   have e2:k=g:=e2;subst e2;unfold Blk at hg;rw [hb] at hg;injection hg with hg
   injection hg with _ ht
   exact absurd ht (by decide)
 have HPK:=Lib.hid (fil_pick hf (h.hidden (by decide)) hfg)
 have HGL:=Lib.hid hgl;have Z0:=Blk.new w 41 zeroA;have G0:=World.grownBy_alloc w (.cells zeroA 41) (some g);have M0:=h.step (World.grownBy_alloc w (.cells zeroA 41) none) (fun _ e=>by cases e)
 clear h hf hfl hgl hfg;go_enter Tryz.func91,Tryz.ntmps91
 go_upto_region 1 with fail;have hw0:w.alloc (.cells zeroA 41)=w.alloc (.cells zeroA 41):=rfl;unfold zeroA at Z0 G0 M0;have hs0:(w.alloc (.cells #[iI 0,iI 0,iI 0,iI 0,iI 0,iI 0,iI 0,iI 0,iI 0,iI 0,iI 0,nN,nN,nN,nN,iI 0,iI 0,nN,nN] 41)).heap.size=w.heap.size+1:=World.size_alloc ..;clear hw0;generalize w.alloc (.cells #[iI 0,iI 0,iI 0,iI 0,iI 0,iI 0,iI 0,iI 0,iI 0,iI 0,iI 0,nN,nN,nN,nN,iI 0,iI 0,nN,nN] 41)=w0 at *;have hs0':w.heap.size+1≤w0.heap.size:=by omega
 clear hs0;have hw5:IntKind.i64.wrap (5 * (fl.length:Int))=5 * (fl.length:Int):=by rw [IntKind.wrap_i64];omega
 have ht5:(5 * (fl.length:Int)).tmod 4096=5 * (fl.length:Int):=by rw [Int.tmod_eq_emod_of_nonneg (by omega)];omega
 have HW5:=Lib.hid hw5;have HT5:=Lib.hid ht5;clear hw5 ht5;go_cut [3] (fun u wx=>∃ (ab:Nat) (o p:Int),u=.pointer (some ⟨ab,0,none⟩)∧w.heap.size<ab∧(0≤o∧o≤1)∧(1≤p∧p≤2)∧Blk wx w.heap.size 41 zeroA∧Blk wx ab 41 (Fil.vals ⟨0,0,5 * (fl.length:Int),o,p,-1,[],[],[]⟩ (.slice none 0 0) (.slice none 0 0) (.slice none 0 0))∧w.grownBy wx (some g)∧Mk wx base g A n c day (.slice Af fl.length cf))
 case first =>
  refine wp_region_held_drew (S:=(fun W=>Blk W w.heap.size 41 zeroA∧w.grownBy W (some g)∧Mk W base g A n c day (.slice Af fl.length cf))) (by kernel_rfl) ?_ (fun hHeld=>?_)
  ·first | done | ((try dsimp only);exact ⟨Z0.drew,grown_up G0 (grown_drew w0 none) (fun _ e=>by cases e),M0.step (grown_drew w0 none) (fun _ e=>by cases e)⟩)
  clear Z0 G0 M0;refine tq 0 11 rfl ?_
  refine tq 1 12 rfl ?_
  refine tq 2 13 rfl ?_
  refine tq 3 14 rfl ?_ (hy:=by intro w' hSw;(try dsimp only at hSw);obtain ⟨at_,hg⟩:=hSw.2.2.1;have hc:=hg.c4;go_simp;try (with_reducible rfl))
  refine tq 4 15 rfl ?_
  refine tq 5 16 rfl ?_
  refine tq 6 17 rfl ?_
  refine tq 7 18 rfl ?_
  refine tq 9 20 rfl ?_
  refine rd2 8 (some 19) 13 (some 3) (by kernel_rfl) rfl rfl (fun K hK=>?_) fun K hK=>?_
  ·skip
   go_simp
   (refine (next_any hHeld.2.2 2 (by omega) (by omega)).mono ?_;rintro e w8 ⟨⟨ro,rfl,hro0,hro1⟩,g8,M8⟩)
   refine hK.out _ _ ?_ (fun hHeld=>?_)
   ·first | done | ((try dsimp only);exact ⟨hHeld.1.grown g8 (fun e=>by injection e with e;omega),grown_up hHeld.2.1 g8 (fun _ e _=>e),M8⟩)
   clear hK K;(try simp only [pS,pB,pZ,pC]);refine rd2 10 (some 21) 13 (some 3) (by kernel_rfl) rfl rfl (fun K hK=>?_) fun K hK=>?_
   ·skip
    go_simp
    (refine (next_any hHeld.2.2 2 (by omega) (by omega)).mono ?_;rintro e w10 ⟨⟨rp,rfl,hrp0,hrp1⟩,g10,M10⟩)
    refine hK.out _ _ ?_ (fun hHeld=>?_)
    ·first | done | ((try dsimp only);exact ⟨hHeld.1.grown g10 (fun e=>by injection e with e;omega),grown_up hHeld.2.1 g10 (fun _ e _=>e),M10⟩)
    clear hK K;(try simp only [pS,pB,pZ,pC]);refine tq 11 22 rfl ?_
    refine tq 12 23 rfl ?_
    have Y:Blk (w10.alloc (.cells #[iI 0,iI 0,iI 0,iI 0,iI 0,iI 0,iI 0,iI 0,iI 0,iI 0,iI 0,nN,nN,nN,nN,iI 0,iI 0,nN,nN] 41)) w10.heap.size 41 #[iI 0,iI 0,iI 0,iI 0,iI 0,iI 0,iI 0,iI 0,iI 0,iI 0,iI 0,nN,nN,nN,nN,iI 0,iI 0,nN,nN]:=Blk.new w10 _ _;have hab:w.heap.size<w10.heap.size:=hHeld.1.lt;have hgb:g<w10.heap.size:=hHeld.2.2.lt;refine rd 13 (some 3) rfl fun K hK=>?_
    go_simp;skip;refine hK.out _ _ ?_ (fun hHeld=>?_)
    ·first | done | ((try dsimp only);exact ⟨hHeld.1.alloc _,grown_up hHeld.2.1 (World.grownBy_alloc _ _ none) (fun _ e=>by cases e),hHeld.2.2.step (World.grownBy_alloc _ _ none) (fun _ e=>by cases e)⟩)
    clear hK K;(try simp only [pS,pB,pZ,pC]);generalize w10.heap.size=ab at *;refine rd 14 none rfl fun K hK=>?_
    rw [if_pos (by rfl)]
    refine wp_storeA Y rfl _ _ rfl rfl _ rfl rfl (by kernel_rfl) (fun wz Yz gz=>?_)
    refine hK.out _ _ ?_ (fun hHeld=>?_)
    ·exact ⟨hHeld.1.grown gz (fun e=>by injection e with e;omega),grown_up hHeld.2.1 gz (fun i e hi=>by injection e with e;omega),hHeld.2.2.step gz (fun i e=>by injection e with e;omega)⟩
    clear hK K;(try simp only [Act.put]);refine dn ?_
    go_wp2_with fail;go_meet;rw [HW5.out,HT5.out,show IntKind.i64.wrap (1+rp)=1+rp from by rw [IntKind.wrap_i64];omega] at Yz
    exact ⟨ab,ro,1+rp,rfl,hab,⟨hro0,by omega⟩,⟨by omega,by omega⟩,hHeld.1,Yz,hHeld.2.1,hHeld.2.2⟩
   ·skip
    have Y:Blk (w8.alloc (.cells #[iI 0,iI 0,iI 0,iI 0,iI 0,iI 0,iI 0,iI 0,iI 0,iI 0,iI 0,nN,nN,nN,nN,iI 0,iI 0,nN,nN] 41)) w8.heap.size 41 #[iI 0,iI 0,iI 0,iI 0,iI 0,iI 0,iI 0,iI 0,iI 0,iI 0,iI 0,nN,nN,nN,nN,iI 0,iI 0,nN,nN]:=Blk.new w8 _ _;have hab:w.heap.size<w8.heap.size:=hHeld.1.lt;have hgb:g<w8.heap.size:=hHeld.2.2.lt;go_simp;skip;refine hK.out _ _ ?_ (fun hHeld=>?_)
    ·first | done | ((try dsimp only);exact ⟨hHeld.1.alloc _,grown_up hHeld.2.1 (World.grownBy_alloc _ _ none) (fun _ e=>by cases e),hHeld.2.2.step (World.grownBy_alloc _ _ none) (fun _ e=>by cases e)⟩)
    clear hK K;(try simp only [pS,pB,pZ,pC]);generalize w8.heap.size=ab at *;refine rd 10 (some 21) rfl fun K hK=>?_
    go_simp
    (refine (next_any hHeld.2.2 2 (by omega) (by omega)).mono ?_;rintro e w10 ⟨⟨rp,rfl,hrp0,hrp1⟩,g10,M10⟩)
    refine hK.out _ _ ?_ (fun hHeld=>?_)
    ·first | done | ((try dsimp only);exact ⟨hHeld.1.grown g10 (fun e=>by injection e with e;omega),grown_up hHeld.2.1 g10 (fun _ e _=>e),M10⟩)
    clear hK K;(try simp only [pS,pB,pZ,pC]);refine tq 11 22 rfl ?_
    refine tq 12 23 rfl ?_
    have Y:=Y.grown g10 (fun e=>by injection e with e;omega)
    refine rd 14 none rfl fun K hK=>?_
    rw [if_pos (by rfl)]
    refine wp_storeA Y rfl _ _ rfl rfl _ rfl rfl (by kernel_rfl) (fun wz Yz gz=>?_)
    refine hK.out _ _ ?_ (fun hHeld=>?_)
    ·exact ⟨hHeld.1.grown gz (fun e=>by injection e with e;omega),grown_up hHeld.2.1 gz (fun i e hi=>by injection e with e;omega),hHeld.2.2.step gz (fun i e=>by injection e with e;omega)⟩
    clear hK K;(try simp only [Act.put]);refine dn ?_
    go_wp2_with fail;go_meet;rw [HW5.out,HT5.out,show IntKind.i64.wrap (1+rp)=1+rp from by rw [IntKind.wrap_i64];omega] at Yz
    exact ⟨ab,ro,1+rp,rfl,hab,⟨hro0,by omega⟩,⟨by omega,by omega⟩,hHeld.1,Yz,hHeld.2.1,hHeld.2.2⟩
  ·skip
   have Y:Blk (w0.drew.alloc (.cells #[iI 0,iI 0,iI 0,iI 0,iI 0,iI 0,iI 0,iI 0,iI 0,iI 0,iI 0,nN,nN,nN,nN,iI 0,iI 0,nN,nN] 41)) w0.heap.size 41 #[iI 0,iI 0,iI 0,iI 0,iI 0,iI 0,iI 0,iI 0,iI 0,iI 0,iI 0,nN,nN,nN,nN,iI 0,iI 0,nN,nN]:=Blk.new w0.drew _ _;have hab:w.heap.size<w0.heap.size:=hHeld.1.lt;have hgb:g<w0.heap.size:=hHeld.2.2.lt;go_simp;skip;refine hK.out _ _ ?_ (fun hHeld=>?_)
   ·first | done | ((try dsimp only);exact ⟨hHeld.1.alloc _,grown_up hHeld.2.1 (World.grownBy_alloc _ _ none) (fun _ e=>by cases e),hHeld.2.2.step (World.grownBy_alloc _ _ none) (fun _ e=>by cases e)⟩)
   clear hK K;(try simp only [pS,pB,pZ,pC]);generalize w0.heap.size=ab at *;refine rd 8 (some 19) rfl fun K hK=>?_
   go_simp
   (refine (next_any hHeld.2.2 2 (by omega) (by omega)).mono ?_;rintro e w8 ⟨⟨ro,rfl,hro0,hro1⟩,g8,M8⟩)
   refine hK.out _ _ ?_ (fun hHeld=>?_)
   ·first | done | ((try dsimp only);exact ⟨hHeld.1.grown g8 (fun e=>by injection e with e;omega),grown_up hHeld.2.1 g8 (fun _ e _=>e),M8⟩)
   clear hK K;(try simp only [pS,pB,pZ,pC]);have Y:=Y.grown g8 (fun e=>by injection e with e;omega)
   refine rd 10 (some 21) rfl fun K hK=>?_
   go_simp
   (refine (next_any hHeld.2.2 2 (by omega) (by omega)).mono ?_;rintro e w10 ⟨⟨rp,rfl,hrp0,hrp1⟩,g10,M10⟩)
   refine hK.out _ _ ?_ (fun hHeld=>?_)
   ·first | done | ((try dsimp only);exact ⟨hHeld.1.grown g10 (fun e=>by injection e with e;omega),grown_up hHeld.2.1 g10 (fun _ e _=>e),M10⟩)
   clear hK K;(try simp only [pS,pB,pZ,pC]);refine tq 11 22 rfl ?_
   refine tq 12 23 rfl ?_
   have Y:=Y.grown g10 (fun e=>by injection e with e;omega)
   refine rd 14 none rfl fun K hK=>?_
   rw [if_pos (by rfl)]
   refine wp_storeA Y rfl _ _ rfl rfl _ rfl rfl (by kernel_rfl) (fun wz Yz gz=>?_)
   refine hK.out _ _ ?_ (fun hHeld=>?_)
   ·exact ⟨hHeld.1.grown gz (fun e=>by injection e with e;omega),grown_up hHeld.2.1 gz (fun i e hi=>by injection e with e;omega),hHeld.2.2.step gz (fun i e=>by injection e with e;omega)⟩
   clear hK K;(try simp only [Act.put]);refine dn ?_
   go_wp2_with fail;go_meet;rw [HW5.out,HT5.out,show IntKind.i64.wrap (1+rp)=1+rp from by rw [IntKind.wrap_i64];omega] at Yz
   exact ⟨ab,ro,1+rp,rfl,hab,⟨hro0,by omega⟩,⟨by omega,by omega⟩,hHeld.1,Yz,hHeld.2.1,hHeld.2.2⟩
 case rest =>
  obtain ⟨ab,o,p,rfl,hab,ho,hp,Z1,Y1,G1,M1⟩:=hcut;obtain ⟨wx,rfl⟩:∃ z:World,z=wc:=⟨_,rfl⟩;clear HW5 HT5 hs0';have HM1:=Lib.hid M1;go_wp2_with fail;refine (next_any HM1.out 2 (by omega) (by omega)).mono ?_
  rintro e w2 ⟨⟨r,rfl,hr0,hr1⟩,g2,M2⟩;obtain ⟨m,rfl⟩:∃ m:Nat,r=(m:Int):=⟨r.toNat,by omega⟩
  have hm:m<2:=by omega
  have hlt1:=M1.lt;have hgab:g<ab:=Nat.lt_trans hlt hab;have Z2:=Z1.grown g2 (fun e=>by injection e with e;omega)
  have Y2:=Y1.grown g2 (fun e=>by injection e with e;omega)
  have G2:=grown_up G1 g2 (fun _ e _=>e)
  clear hr0 hr1 HM1 Z1 Y1 G1 M1 g2;go_wp2_with fail;go_loopw [5] (fun j wr=>∃ (k:Nat) (d:List F) (dv:Value),j=.int .i64 (k:Int)∧k≤m+1∧d.length=k∧(∀ f∈d,Feat f)∧Blk wr w.heap.size 41 zeroA∧Blk wr ab 41 (Fil.vals ⟨0,0,5 * (fl.length:Int),o,p,-1,d,[],[]⟩ dv (.slice none 0 0) (.slice none 0 0))∧OwnM TS [] wr (w.heap.size+1) 39 4 dv (d.flatMap F.cells)∧dv.ownBlock≠some ab∧w.grownBy wr (some g)∧Mk wr base g A n c day (.slice Af fl.length cf)) (fun j _=>m+1 - (intOf j).toNat)
  case atStart=>exact ⟨0,[],.slice none 0 0,rfl,Nat.zero_le _,rfl,(fun f h=>by cases h),Z2,Y2,OwnM.nil ..,(by simp [Value.ownBlock]),G2,M2⟩
  case round =>
   obtain ⟨k,d,dv,rfl,hk,hdl,hdf,hZ,hY,hO,hne,hG,hMw⟩:=hrel;have HDF:=Lib.hid hdf;clear Z2 Y2 G2 M2 hdf;by_cases hlt2:k<m+1
   ·have hul:=hO.lt
    have hYo:∀ i,dv.ownBlock=some i→i≠ab:=fun i e e2=>hne (e2 ▸ e)
    have hZo:∀ i,dv.ownBlock=some i→i≠w.heap.size:=fun i e e2=>by have:=(hul i e).1;omega
    have Y:=hY;have O:=hO;go_upto_region 6 with fail;refine wp_region_held_drew (S:=(fun W=>Blk W w.heap.size 41 zeroA∧w.grownBy W (some g)∧Mk W base g A n c day (.slice Af fl.length cf))) (by kernel_rfl) ?_ (fun hHeld=>?_)
    ·first | done | ((try dsimp only);exact ⟨hZ.drew,grown_up hG (grown_drew wr none) (fun _ e=>by cases e),hMw.step (grown_drew wr none) (fun _ e=>by cases e)⟩)
    have Y:=Y.drew;have O:=O.step (H':=[]) (grown_drew wr none) (fun _ e=>by cases e) (fun i hi=>.inl hi)
    have hc11:wr.drew.cell? ⟨ab,11,none⟩=some dv:=Y.cell 11;refine tq 0 32 rfl ?_
    refine tq 1 33 rfl ?_
    refine tq 3 35 rfl ?_
    refine rd2 2 (some 34) 4 (some 36) (by kernel_rfl) rfl rfl (fun K hK=>?_) fun K hK=>?_
    ·skip
     go_simp;skip;refine hK.out _ _ (hHeld) fun hHeld=>?_
     clear hK K;(try simp only [pS,pB,pZ,pC]);refine rd 4 (some 36) rfl fun K hK=>?_
     go_simp
     (refine (mkfeature_any hHeld.2.2).mono ?_;rintro e w4 ⟨⟨fa,fb,fc',fd,t,rfl,hrep,hft⟩,g4,M4⟩)
     refine hK.out _ _ ?_ (fun hHeld=>?_)
     ·first | done | ((try dsimp only);exact ⟨hHeld.1.grown g4 (fun e=>by injection e with e;omega),grown_up hHeld.2.1 g4 (fun _ e _=>e),M4⟩)
     clear hK K;(try simp only [pS,pB,pZ,pC]);have Y:=Y.grown g4 (fun e=>by injection e with e;omega)
     have O:=O.step g4 (fun i e _=>by injection e with e;subst e;exact ⟨.inl (hMw.hidden (by decide)),fun e2=>by have:=(hul _ e2).1;omega⟩) (fun i hi=>.inl hi)
     have RF:=hrep (dv.ownBlock.toList++[]) (fun i hi=>by rw [List.append_nil] at hi;exact (hul _ (Option.mem_toList.1 hi)).2)
     obtain ⟨A1,n1,q1,A2,n2,q2,rfl,rfl,rfl,rfl⟩:=node_form RF.out;clear hrep g4;generalize t.op=op at *;generalize t.n=tn at *;have Y4lt:=Y.lt;have hYlt:Hid (ab<w4.heap.size):=Y4lt;have g5:=World.grownBy_alloc w4 (.cells #[.int .i64 op,.int .i64 tn,.slice A1 n1 q1,.slice A2 n2 q2] 39) none;refine rd 5 (some 37) rfl fun K hK=>?_
     go_simp;skip;refine hK.out _ _ ?_ (fun hHeld=>?_)
     ·first | done | ((try dsimp only);exact ⟨hHeld.1.alloc _,grown_up hHeld.2.1 g5 (fun _ e=>by cases e),hHeld.2.2.step g5 (fun _ e=>by cases e)⟩)
     clear hK K;(try simp only [pS,pB,pZ,pC]);have R5:=Blk.new w4 39 #[.int .i64 op,.int .i64 tn,.slice A1 n1 q1,.slice A2 n2 q2];have O:=O.step g5 (fun _ e=>by cases e) (fun i hi=>.inl hi)
     have RF:=RF.step g5 (fun _ e=>by cases e) (fun i hi=>.inl hi)
     have Y:=Y.grown g5 (by simp)
     clear g5;refine rd 6 (some 38) rfl fun K hK=>?_
     rw [if_pos (by rfl)]
     refine wp_appM Tryz.underlying32 Tryz.info39 rfl (by omega) (by omega) O R5 rfl (by kernel_rfl) RF (by rw [flat_length (fun x _=>x.cells_length)];omega) (by omega) hHeld.1.lt _ _ rfl rfl rfl (fun v9 w9 o9 g9 l9=>?_)
     have hlt9:=O.lt;have Y:=Y.grown g9 (fun e=>by have:=hYo _ e.symm;omega)
     refine hK.out _ _ ?_ (fun hHeld=>?_)
     ·exact ⟨hHeld.1.grown g9 (fun e=>by have:=hZo _ e.symm;omega),grown_up hHeld.2.1 g9 (fun i e hi=>by have:=(hlt9 i e).1;omega),hHeld.2.2.step g9 (fun i e=>by have:=(hlt9 i e).1;omega)⟩
     clear hK K;(try simp only [pS,pB,pZ,pC]);have hs4:=hHeld.1.lt
     have hn9:v9.ownBlock≠some ab:=fun e=>by
      rcases l9 with l9 | l9
      ·exact hYo _ (l9 ▸ e) rfl
      ·rw [l9] at e
       injection e with e
       have:=hYlt.out;rw [World.size_alloc] at e;omega
     obtain ⟨Ad9,nd9,cd9,hdv9,_,_⟩:=o9.slice;subst hdv9;refine tq 7 39 rfl ?_
     refine tq 8 40 rfl ?_
     have hc11:=Y.cell 11;have hf11:=Y.frozen 11;refine rd 9 none rfl fun K hK=>?_
     go_simp;refine hK.out _ _ ?_ (fun hHeld=>?_)
     ·exact ⟨hHeld.1.far (by simp;omega) _,grown_up hHeld.2.1 (grown_set _ _ _ _) (fun i e hi=>by injection e with e;omega),hHeld.2.2.step (grown_set _ _ _ _) (fun i e=>by injection e with e;omega)⟩
     clear hK K;(try simp only [Act.put]);have gs:=grown_set w9 ab 11 (.slice Ad9 nd9 cd9);have Y9:=Y.set 11 (.slice Ad9 nd9 cd9);have O9:=o9.step (H':=[]) gs (fun i e _=>by injection e with e;subst e;exact ⟨.inl (Y.hidden (by decide)),hn9⟩) (fun i hi=>.inl hi)
     clear hc11 hf11 o9 g9 l9 O RF R5;refine dn ?_
     go_wp2_with fail;go_roundw
     case rel=>exact ⟨k+1,d++[t],_,by go_num,by omega,by simp [hdl],fun f hf=>by rcases List.mem_append.1 hf with hf | hf;exact HDF.out f hf;rw [List.mem_singleton.1 hf];exact hft,hHeld.1,Y9,by rw [List.flatMap_append,List.flatMap_cons,List.flatMap_nil,List.append_nil];exact O9,hn9,hHeld.2.1,hHeld.2.2⟩
     case measure=>simp [intOf];omega
    ·skip
     go_simp
     (refine (mkfeature_any hHeld.2.2).mono ?_;rintro e w4 ⟨⟨fa,fb,fc',fd,t,rfl,hrep,hft⟩,g4,M4⟩)
     refine hK.out _ _ ?_ (fun hHeld=>?_)
     ·first | done | ((try dsimp only);exact ⟨hHeld.1.grown g4 (fun e=>by injection e with e;omega),grown_up hHeld.2.1 g4 (fun _ e _=>e),M4⟩)
     clear hK K;(try simp only [pS,pB,pZ,pC]);have Y:=Y.grown g4 (fun e=>by injection e with e;omega)
     have O:=O.step g4 (fun i e _=>by injection e with e;subst e;exact ⟨.inl (hMw.hidden (by decide)),fun e2=>by have:=(hul _ e2).1;omega⟩) (fun i hi=>.inl hi)
     have RF:=hrep (dv.ownBlock.toList++[]) (fun i hi=>by rw [List.append_nil] at hi;exact (hul _ (Option.mem_toList.1 hi)).2)
     obtain ⟨A1,n1,q1,A2,n2,q2,rfl,rfl,rfl,rfl⟩:=node_form RF.out;clear hrep g4;generalize t.op=op at *;generalize t.n=tn at *;refine rd2 2 (some 34) 5 (some 37) (by kernel_rfl) rfl rfl (fun K hK=>?_) fun K hK=>?_
     ·skip
      have hc11:=Y.cell 11;go_simp;skip;refine hK.out _ _ (hHeld) fun hHeld=>?_
      clear hK K;(try simp only [pS,pB,pZ,pC]);clear hc11;have Y4lt:=Y.lt;have hYlt:Hid (ab<w4.heap.size):=Y4lt;have g5:=World.grownBy_alloc w4 (.cells #[.int .i64 op,.int .i64 tn,.slice A1 n1 q1,.slice A2 n2 q2] 39) none;refine rd 5 (some 37) rfl fun K hK=>?_
      go_simp;skip;refine hK.out _ _ ?_ (fun hHeld=>?_)
      ·first | done | ((try dsimp only);exact ⟨hHeld.1.alloc _,grown_up hHeld.2.1 g5 (fun _ e=>by cases e),hHeld.2.2.step g5 (fun _ e=>by cases e)⟩)
      clear hK K;(try simp only [pS,pB,pZ,pC]);have R5:=Blk.new w4 39 #[.int .i64 op,.int .i64 tn,.slice A1 n1 q1,.slice A2 n2 q2];have O:=O.step g5 (fun _ e=>by cases e) (fun i hi=>.inl hi)
      have RF:=RF.step g5 (fun _ e=>by cases e) (fun i hi=>.inl hi)
      have Y:=Y.grown g5 (by simp)
      clear g5;refine rd 6 (some 38) rfl fun K hK=>?_
      rw [if_pos (by rfl)]
      refine wp_appM Tryz.underlying32 Tryz.info39 rfl (by omega) (by omega) O R5 rfl (by kernel_rfl) RF (by rw [flat_length (fun x _=>x.cells_length)];omega) (by omega) hHeld.1.lt _ _ rfl rfl rfl (fun v9 w9 o9 g9 l9=>?_)
      have hlt9:=O.lt;have Y:=Y.grown g9 (fun e=>by have:=hYo _ e.symm;omega)
      refine hK.out _ _ ?_ (fun hHeld=>?_)
      ·exact ⟨hHeld.1.grown g9 (fun e=>by have:=hZo _ e.symm;omega),grown_up hHeld.2.1 g9 (fun i e hi=>by have:=(hlt9 i e).1;omega),hHeld.2.2.step g9 (fun i e=>by have:=(hlt9 i e).1;omega)⟩
      clear hK K;(try simp only [pS,pB,pZ,pC]);have hs4:=hHeld.1.lt
      have hn9:v9.ownBlock≠some ab:=fun e=>by
       rcases l9 with l9 | l9
       ·exact hYo _ (l9 ▸ e) rfl
       ·rw [l9] at e
        injection e with e
        have:=hYlt.out;rw [World.size_alloc] at e;omega
      obtain ⟨Ad9,nd9,cd9,hdv9,_,_⟩:=o9.slice;subst hdv9;refine tq 7 39 rfl ?_
      refine tq 8 40 rfl ?_
      have hc11:=Y.cell 11;have hf11:=Y.frozen 11;refine rd 9 none rfl fun K hK=>?_
      go_simp;refine hK.out _ _ ?_ (fun hHeld=>?_)
      ·exact ⟨hHeld.1.far (by simp;omega) _,grown_up hHeld.2.1 (grown_set _ _ _ _) (fun i e hi=>by injection e with e;omega),hHeld.2.2.step (grown_set _ _ _ _) (fun i e=>by injection e with e;omega)⟩
      clear hK K;(try simp only [Act.put]);have gs:=grown_set w9 ab 11 (.slice Ad9 nd9 cd9);have Y9:=Y.set 11 (.slice Ad9 nd9 cd9);have O9:=o9.step (H':=[]) gs (fun i e _=>by injection e with e;subst e;exact ⟨.inl (Y.hidden (by decide)),hn9⟩) (fun i hi=>.inl hi)
      clear hc11 hf11 o9 g9 l9 O RF R5;refine dn ?_
      go_wp2_with fail;go_roundw
      case rel=>exact ⟨k+1,d++[t],_,by go_num,by omega,by simp [hdl],fun f hf=>by rcases List.mem_append.1 hf with hf | hf;exact HDF.out f hf;rw [List.mem_singleton.1 hf];exact hft,hHeld.1,Y9,by rw [List.flatMap_append,List.flatMap_cons,List.flatMap_nil,List.append_nil];exact O9,hn9,hHeld.2.1,hHeld.2.2⟩
      case measure=>simp [intOf];omega
     ·skip
      have Y4lt:=Y.lt;have hYlt:Hid (ab<w4.heap.size):=Y4lt;have g5:=World.grownBy_alloc w4 (.cells #[.int .i64 op,.int .i64 tn,.slice A1 n1 q1,.slice A2 n2 q2] 39) none;go_simp;skip;refine hK.out _ _ ?_ (fun hHeld=>?_)
      ·first | done | ((try dsimp only);exact ⟨hHeld.1.alloc _,grown_up hHeld.2.1 g5 (fun _ e=>by cases e),hHeld.2.2.step g5 (fun _ e=>by cases e)⟩)
      clear hK K;(try simp only [pS,pB,pZ,pC]);have R5:=Blk.new w4 39 #[.int .i64 op,.int .i64 tn,.slice A1 n1 q1,.slice A2 n2 q2];have O:=O.step g5 (fun _ e=>by cases e) (fun i hi=>.inl hi)
      have RF:=RF.step g5 (fun _ e=>by cases e) (fun i hi=>.inl hi)
      have Y:=Y.grown g5 (by simp)
      clear g5;have hc11:=Y.cell 11;refine rd 2 (some 34) rfl fun K hK=>?_
      go_simp;skip;refine hK.out _ _ (hHeld) fun hHeld=>?_
      clear hK K;(try simp only [pS,pB,pZ,pC]);clear hc11;refine rd 6 (some 38) rfl fun K hK=>?_
      rw [if_pos (by rfl)]
      refine wp_appM Tryz.underlying32 Tryz.info39 rfl (by omega) (by omega) O R5 rfl (by kernel_rfl) RF (by rw [flat_length (fun x _=>x.cells_length)];omega) (by omega) hHeld.1.lt _ _ rfl rfl rfl (fun v9 w9 o9 g9 l9=>?_)
      have hlt9:=O.lt;have Y:=Y.grown g9 (fun e=>by have:=hYo _ e.symm;omega)
      refine hK.out _ _ ?_ (fun hHeld=>?_)
      ·exact ⟨hHeld.1.grown g9 (fun e=>by have:=hZo _ e.symm;omega),grown_up hHeld.2.1 g9 (fun i e hi=>by have:=(hlt9 i e).1;omega),hHeld.2.2.step g9 (fun i e=>by have:=(hlt9 i e).1;omega)⟩
      clear hK K;(try simp only [pS,pB,pZ,pC]);have hs4:=hHeld.1.lt
      have hn9:v9.ownBlock≠some ab:=fun e=>by
       rcases l9 with l9 | l9
       ·exact hYo _ (l9 ▸ e) rfl
       ·rw [l9] at e
        injection e with e
        have:=hYlt.out;rw [World.size_alloc] at e;omega
      obtain ⟨Ad9,nd9,cd9,hdv9,_,_⟩:=o9.slice;subst hdv9;refine tq 7 39 rfl ?_
      refine tq 8 40 rfl ?_
      have hc11:=Y.cell 11;have hf11:=Y.frozen 11;refine rd 9 none rfl fun K hK=>?_
      go_simp;refine hK.out _ _ ?_ (fun hHeld=>?_)
      ·exact ⟨hHeld.1.far (by simp;omega) _,grown_up hHeld.2.1 (grown_set _ _ _ _) (fun i e hi=>by injection e with e;omega),hHeld.2.2.step (grown_set _ _ _ _) (fun i e=>by injection e with e;omega)⟩
      clear hK K;(try simp only [Act.put]);have gs:=grown_set w9 ab 11 (.slice Ad9 nd9 cd9);have Y9:=Y.set 11 (.slice Ad9 nd9 cd9);have O9:=o9.step (H':=[]) gs (fun i e _=>by injection e with e;subst e;exact ⟨.inl (Y.hidden (by decide)),hn9⟩) (fun i hi=>.inl hi)
      clear hc11 hf11 o9 g9 l9 O RF R5;refine dn ?_
      go_wp2_with fail;go_roundw
      case rel=>exact ⟨k+1,d++[t],_,by go_num,by omega,by simp [hdl],fun f hf=>by rcases List.mem_append.1 hf with hf | hf;exact HDF.out f hf;rw [List.mem_singleton.1 hf];exact hft,hHeld.1,Y9,by rw [List.flatMap_append,List.flatMap_cons,List.flatMap_nil,List.append_nil];exact O9,hn9,hHeld.2.1,hHeld.2.2⟩
      case measure=>simp [intOf];omega
   ·obtain rfl:k=m+1:=by omega
    have RD:RepM TA [] wr dv (.s 4 (d.flatMap F.cells)):=hO.rep TA_sub (by decide) (fun i hi=>by cases hi)
    have HMw:=Lib.hid hMw;obtain ⟨Ad,cd,rfl,x1,x2⟩:=RD.out.formulas;clear x1 x2 hO hne;go_wp2_with fail;refine (mkclaims_any HMw.out).mono ?_
    rintro e w2 ⟨⟨u,cl,rfl,hrep,hgen⟩,g2,M2⟩;obtain ⟨Ac,cc,rfl,x1,x2⟩:=hrep.out.claims;have RC:RepM TA [] w2 (.slice Ac cl.length cc) (.s 5 (cl.flatMap Cl.cells)):=hrep.weak (fun _ h=>h) (fun i hi=>by cases hi)
    have RD2:=RD.step g2 (fun i e _=>.inl (by injection e with e;subst e;exact hMw.hidden (by decide))) (fun i hi=>.inl hi)
    have Y2:=hY.grown g2 (fun e=>by injection e with e;omega)
    have Z2:=hZ.grown g2 (fun e=>by injection e with e;omega)
    have G2:=grown_up hG g2 (fun _ e _=>e)
    have hc12:=Y2.cell 12;have hf12:=Y2.frozen 12;clear x1 x2 hrep RD hY hZ hG g2 HMw hMw;have hlen:=hgen.1;go_upto_region 8 with fail;have gs:=grown_set w2 ab 12 (.slice Ac cl.length cc);have Y3:=Y2.set 12 (.slice Ac cl.length cc);have hGA:GenA fl.length ⟨0,0,5 * (fl.length:Int),o,p,-1,d,cl,[]⟩:=⟨rfl,ho,hp,.inl rfl,⟨by show 1≤d.length∧d.length≤2;omega,HDF.out,hgen⟩,(by simp),(fun q hq=>by cases hq),(by simp)⟩
    have FS:FSt w (w2.setCell ⟨ab,12,none⟩ (.slice Ac cl.length cc)) base g A n c day (.slice Af fl.length cf) ab fl.length ⟨0,0,5 * (fl.length:Int),o,p,-1,d,cl,[]⟩ (.slice Ad d.length cd) (.slice Ac cl.length cc) (.slice none 0 0) :=
     ⟨Z2.far (by simp;omega) _,Y3,RD2.step gs (fun i e _=>.inl (by injection e with e;subst e;exact Y2.hidden (by decide))) (fun i hi=>.inl hi),RC.step gs (fun i e _=>.inl (by injection e with e;subst e;exact Y2.hidden (by decide))) (fun i hi=>.inl hi),hGA,rfl,rfl,grown_up G2 gs (fun i e hi=>by injection e with e;omega),M2.step gs (fun i e=>by injection e with e;omega)⟩
    clear hc12 hf12 gs Y3 Y2 Z2 RD2 RC G2 M2 hGA hgen HDF;generalize w2.setCell ⟨ab,12,none⟩ (.slice Ac cl.length cc)=w3 at *;obtain ⟨at3,hm3⟩:=FS.2.2.2.2.2.2.2.2.1;have hcm:w3.cell? ⟨g,3,none⟩=some (.slice Af fl.length cf):=hm3.cell 3;go_upto_region 9 with fail;clear hcm hm3 at3;go_cut [56] (fun u wx=>(∃ bb:Bool,u=.bool bb∧(bb=true→0<fl.length))∧FSt w wx base g A n c day (.slice Af fl.length cf) ab fl.length ⟨0,0,5 * (fl.length:Int),o,p,-1,d,cl,[]⟩ (.slice Ad d.length cd) (.slice Ac cl.length cc) (.slice none 0 0))
    case first =>
     have HFS:=Lib.hid FS;clear FS;by_cases hn0:0<fl.length
     ·have e0:decide (0<(fl.length:Int))=true:=decide_eq_true (by omega)
      go_wp2_with fail;refine (next_any HFS.out.2.2.2.2.2.2.2.2 3 (by omega) (by omega)).mono ?_
      rintro e w4 ⟨⟨r,rfl,hr0,hr1⟩,g4,M4⟩;go_wp2_with fail;go_meet;exact ⟨⟨_,rfl,fun _=>hn0⟩,HFS.out.call g4 M4 hlt (Nat.ne_of_lt hgab)⟩
     ·have e0:decide (0<(fl.length:Int))=false:=decide_eq_false (by omega)
      go_wp2_with fail;go_meet;exact ⟨⟨_,rfl,fun h=>by cases h⟩,HFS.out⟩
    case rest =>
     obtain ⟨⟨bb,rfl,hbb⟩,FS4⟩:=hcut;obtain ⟨w5,rfl⟩:∃ z:World,z=wc:=⟨_,rfl⟩;clear FS;rename_i hKK;refine hKK _ _ ?_
     clear hKK;go_cut [] (fun wx=>∃ (f:Fil) (dv cv:Value),f.e=[]∧FSt w wx base g A n c day (.slice Af fl.length cf) ab fl.length f dv cv (.slice none 0 0))
     case first =>
      cases bb with
      | false =>
       go_wp2_with fail;go_meet;exact ⟨_,_,_,rfl,FS4⟩
      | true =>
       have hn0:=hbb rfl;go_upto_region 10 with fail;go_cut [7] (fun u wx=>∃ (pb kk:Nat) (hkk:kk<fl.length) (pd pc pe:Value),u=.pointer (some ⟨pb,0,none⟩)∧(w.heap.size<pb∧pb≠ab∧pb≠g)∧Blk wx pb 41 (fl[kk].vals pd pc pe)∧FilM TA [] wx fl[kk] pd pc pe∧FSt w wx base g A n c day (.slice Af fl.length cf) ab fl.length ⟨0,0,5 * (fl.length:Int),o,p,-1,d,cl,[]⟩ (.slice Ad d.length cd) (.slice Ac cl.length cc) (.slice none 0 0))
       case first =>
        refine wp_region_held_drew (S:=(fun W=>FSt w W base g A n c day (.slice Af fl.length cf) ab fl.length ⟨0,0,5 * (fl.length:Int),o,p,-1,d,cl,[]⟩ (.slice Ad d.length cd) (.slice Ac cl.length cc) (.slice none 0 0))) (by kernel_rfl) ?_ (fun hHeld=>?_)
        ·first | done | ((try dsimp only);exact FS4.step (grown_drew w5 none) (fun _ e=>by cases e))
        clear FS4;refine tq 0 57 rfl ?_
        refine tq 1 58 rfl ?_
        refine tq 2 59 rfl ?_
        refine tq 3 60 rfl ?_ (hy:=by intro w' hSw;(try dsimp only at hSw);obtain ⟨at_,hg⟩:=hSw.2.2.2.2.2.2.2.2.1;have hc:=hg.c4;go_simp;try (with_reducible rfl))
        refine tq 4 61 rfl ?_
        refine tq 5 62 rfl ?_
        refine rd2 6 (some 63) 9 (some 7) (by kernel_rfl) rfl rfl (fun K hK=>?_) fun K hK=>?_
        ·skip
         go_simp
         (refine (next_any hHeld.2.2.2.2.2.2.2.2 (fl.length:Int) (by omega) (by omega)).mono ?_;rintro e w6 ⟨⟨r,rfl,hr0,hr1⟩,g6,M6⟩)
         refine hK.out _ _ (hHeld.call g6 M6 hlt (Nat.ne_of_lt hgab)) fun hHeld=>?_
         clear hK K;(try simp only [pS,pB,pZ,pC]);obtain ⟨kk,rfl⟩:∃ kk:Nat,r=(kk:Int):=⟨r.toNat,by omega⟩
         have hkk:kk<fl.length:=by omega
         obtain ⟨fb,fc2,pd,pc,pe,hfe,hfp⟩:=HPK.out kk hkk;injection hfe with hfe _ _
         subst hfe;have HP:=Lib.hid hfp;clear hfp hr0 hr1;refine tq 7 64 rfl ?_
         refine rd2 8 (some 65) 9 (some 7) (by kernel_rfl) rfl rfl (fun K hK=>?_) fun K hK=>?_
         ·skip
          rw [if_pos (by rfl)]
          refine wp_load_mid 41 _ rfl fb (kk * 19) (by go_simp) _ _ (HP.out _ hHeld.2.2.2.2.2.2.2.1).1 Tryz.underlying41 rfl (by kernel_rfl) ?_
          rw [Array.toArray_toList];refine hK.out _ _ ?_ (fun hHeld=>?_)
          ·exact hHeld
          clear hK K;(try simp only [pS,pB,pZ,pC]);have Y:Blk (w6.alloc (.cells #[iI 0,iI 0,iI 0,iI 0,iI 0,iI 0,iI 0,iI 0,iI 0,iI 0,iI 0,nN,nN,nN,nN,iI 0,iI 0,nN,nN] 41)) w6.heap.size 41 #[iI 0,iI 0,iI 0,iI 0,iI 0,iI 0,iI 0,iI 0,iI 0,iI 0,iI 0,nN,nN,nN,nN,iI 0,iI 0,nN,nN]:=Blk.new w6 _ _;have hpb:w.heap.size<w6.heap.size:=hHeld.1.lt;have hpab:w6.heap.size≠ab:=by have:ab<w6.heap.size:=hHeld.2.1.lt;omega
          have hpg:w6.heap.size≠g:=by omega
          have hpbase:base≤w6.heap.size:=by omega
          refine rd 9 (some 7) rfl fun K hK=>?_
          go_simp;skip;refine hK.out _ _ ?_ (fun hHeld=>?_)
          ·first | done | ((try dsimp only);exact hHeld.step (World.grownBy_alloc _ _ none) (fun _ e=>by cases e))
          clear hK K;(try simp only [pS,pB,pZ,pC]);generalize w6.heap.size=pb at *;have hforms:=(HP.out _ hHeld.2.2.2.2.2.2.2.1).2.forms;obtain ⟨Pa,pa,Pb',pb',Pc,pc',e1,e2,e3⟩:=hforms;refine rd 10 none rfl fun K hK=>?_
          rw [if_pos (by rfl)]
          refine wp_storeA Y rfl _ _ rfl rfl _ rfl rfl (by rw [e1,e2,e3];kernel_rfl) (fun wz Yz gz=>?_)
          refine hK.out _ _ ?_ (fun hHeld=>?_)
          ·exact hHeld.step gz (fun i e=>by injection e with e;subst e;exact ⟨fun _=>Y.hidden (by decide),hpb,hpab,hpg,hpbase⟩)
          clear hK K;(try simp only [Act.put]);refine dn ?_
          go_wp2_with fail;go_meet;exact ⟨pb,kk,hkk,pd,pc,pe,rfl,⟨hpb,hpab,hpg⟩,Yz,(HP.out _ hHeld.2.2.2.2.2.2.2.1).2,hHeld⟩
         ·skip
          have Y:Blk (w6.alloc (.cells #[iI 0,iI 0,iI 0,iI 0,iI 0,iI 0,iI 0,iI 0,iI 0,iI 0,iI 0,nN,nN,nN,nN,iI 0,iI 0,nN,nN] 41)) w6.heap.size 41 #[iI 0,iI 0,iI 0,iI 0,iI 0,iI 0,iI 0,iI 0,iI 0,iI 0,iI 0,nN,nN,nN,nN,iI 0,iI 0,nN,nN]:=Blk.new w6 _ _;have hpb:w.heap.size<w6.heap.size:=hHeld.1.lt;have hpab:w6.heap.size≠ab:=by have:ab<w6.heap.size:=hHeld.2.1.lt;omega
          have hpg:w6.heap.size≠g:=by omega
          have hpbase:base≤w6.heap.size:=by omega
          go_simp;skip;refine hK.out _ _ ?_ (fun hHeld=>?_)
          ·first | done | ((try dsimp only);exact hHeld.step (World.grownBy_alloc _ _ none) (fun _ e=>by cases e))
          clear hK K;(try simp only [pS,pB,pZ,pC]);generalize w6.heap.size=pb at *;refine rd 8 (some 65) rfl fun K hK=>?_
          rw [if_pos (by rfl)]
          refine wp_load_mid 41 _ rfl fb (kk * 19) (by go_simp) _ _ (HP.out _ hHeld.2.2.2.2.2.2.2.1).1 Tryz.underlying41 rfl (by kernel_rfl) ?_
          rw [Array.toArray_toList];refine hK.out _ _ ?_ (fun hHeld=>?_)
          ·exact hHeld
          clear hK K;(try simp only [pS,pB,pZ,pC]);have hforms:=(HP.out _ hHeld.2.2.2.2.2.2.2.1).2.forms;obtain ⟨Pa,pa,Pb',pb',Pc,pc',e1,e2,e3⟩:=hforms;refine rd 10 none rfl fun K hK=>?_
          rw [if_pos (by rfl)]
          refine wp_storeA Y rfl _ _ rfl rfl _ rfl rfl (by rw [e1,e2,e3];kernel_rfl) (fun wz Yz gz=>?_)
          refine hK.out _ _ ?_ (fun hHeld=>?_)
          ·exact hHeld.step gz (fun i e=>by injection e with e;subst e;exact ⟨fun _=>Y.hidden (by decide),hpb,hpab,hpg,hpbase⟩)
          clear hK K;(try simp only [Act.put]);refine dn ?_
          go_wp2_with fail;go_meet;exact ⟨pb,kk,hkk,pd,pc,pe,rfl,⟨hpb,hpab,hpg⟩,Yz,(HP.out _ hHeld.2.2.2.2.2.2.2.1).2,hHeld⟩
        ·skip
         have Y:Blk (w5.drew.alloc (.cells #[iI 0,iI 0,iI 0,iI 0,iI 0,iI 0,iI 0,iI 0,iI 0,iI 0,iI 0,nN,nN,nN,nN,iI 0,iI 0,nN,nN] 41)) w5.heap.size 41 #[iI 0,iI 0,iI 0,iI 0,iI 0,iI 0,iI 0,iI 0,iI 0,iI 0,iI 0,nN,nN,nN,nN,iI 0,iI 0,nN,nN]:=Blk.new w5.drew _ _;have hpb:w.heap.size<w5.heap.size:=hHeld.1.lt;have hpab:w5.heap.size≠ab:=by have:ab<w5.heap.size:=hHeld.2.1.lt;omega
         have hpg:w5.heap.size≠g:=by omega
         have hpbase:base≤w5.heap.size:=by omega
         go_simp;skip;refine hK.out _ _ ?_ (fun hHeld=>?_)
         ·first | done | ((try dsimp only);exact hHeld.step (World.grownBy_alloc _ _ none) (fun _ e=>by cases e))
         clear hK K;(try simp only [pS,pB,pZ,pC]);generalize w5.heap.size=pb at *;refine rd 6 (some 63) rfl fun K hK=>?_
         go_simp
         (refine (next_any hHeld.2.2.2.2.2.2.2.2 (fl.length:Int) (by omega) (by omega)).mono ?_;rintro e w6 ⟨⟨r,rfl,hr0,hr1⟩,g6,M6⟩)
         refine hK.out _ _ (hHeld.call g6 M6 hlt (Nat.ne_of_lt hgab)) fun hHeld=>?_
         clear hK K;(try simp only [pS,pB,pZ,pC]);have Y:=Y.grown g6 (fun e=>by injection e with e;omega)
         obtain ⟨kk,rfl⟩:∃ kk:Nat,r=(kk:Int):=⟨r.toNat,by omega⟩
         have hkk:kk<fl.length:=by omega
         obtain ⟨fb,fc2,pd,pc,pe,hfe,hfp⟩:=HPK.out kk hkk;injection hfe with hfe _ _
         subst hfe;have HP:=Lib.hid hfp;clear hfp hr0 hr1;refine tq 7 64 rfl ?_
         refine rd 8 (some 65) rfl fun K hK=>?_
         rw [if_pos (by rfl)]
         refine wp_load_mid 41 _ rfl fb (kk * 19) (by go_simp) _ _ (HP.out _ hHeld.2.2.2.2.2.2.2.1).1 Tryz.underlying41 rfl (by kernel_rfl) ?_
         rw [Array.toArray_toList];refine hK.out _ _ ?_ (fun hHeld=>?_)
         ·exact hHeld
         clear hK K;(try simp only [pS,pB,pZ,pC]);have hforms:=(HP.out _ hHeld.2.2.2.2.2.2.2.1).2.forms;obtain ⟨Pa,pa,Pb',pb',Pc,pc',e1,e2,e3⟩:=hforms;refine rd 10 none rfl fun K hK=>?_
         rw [if_pos (by rfl)]
         refine wp_storeA Y rfl _ _ rfl rfl _ rfl rfl (by rw [e1,e2,e3];kernel_rfl) (fun wz Yz gz=>?_)
         refine hK.out _ _ ?_ (fun hHeld=>?_)
         ·exact hHeld.step gz (fun i e=>by injection e with e;subst e;exact ⟨fun _=>Y.hidden (by decide),hpb,hpab,hpg,hpbase⟩)
         clear hK K;(try simp only [Act.put]);refine dn ?_
         go_wp2_with fail;go_meet;exact ⟨pb,kk,hkk,pd,pc,pe,rfl,⟨hpb,hpab,hpg⟩,Yz,(HP.out _ hHeld.2.2.2.2.2.2.2.1).2,hHeld⟩
       case rest =>
        obtain ⟨pb,kk,hkk,pd,pc,pe,rfl,⟨hpb,hpab,hpg⟩,YP,HPM,FS5⟩:=hcut;obtain ⟨w6,rfl⟩:∃ z:World,z=wc:=⟨_,rfl⟩;clear FS4;obtain ⟨gp,dp0,dp1,_⟩:=HGL.out.2 kk hkk;obtain ⟨Ap,cp,Bp,cq,Cp,cr,rfl,rfl,rfl⟩:=HPM.forms;generalize fl[kk]=q at *;obtain ⟨hm1,hm2,hm3⟩:=HPM;have HGP:=Lib.hid gp;clear gp hm3;have hc11:w6.cell? ⟨pb,11,none⟩=some (.slice Ap q.d.length cp):=YP.cell 11;have hc12:w6.cell? ⟨pb,12,none⟩=some (.slice Bp q.c.length cq):=YP.cell 12;have ha11:w6.cell? ⟨ab,11,none⟩=some (.slice Ad d.length cd):=FS5.2.1.cell 11;have ha12:w6.cell? ⟨ab,12,none⟩=some (.slice Ac cl.length cc):=FS5.2.1.cell 12;have hf11:=FS5.2.1.frozen 11;have hf12:=FS5.2.1.frozen 12;have HFS5:=Lib.hid FS5;clear FS5;go_upto_region 12 with fail;have gs:=grown_set w6 ab 11 (.slice Ap q.d.length cp);have hh:=HFS5.out.2.1.hidden (ts:=TA) (by decide)
        have hm1':=hm1;have hm2':=hm2.step (H':=[]) gs (fun i e _=>.inl (by injection e with e;subst e;exact hh)) (fun _ hi=>.inl hi)
        have hm11:=hm1.step (H':=[]) gs (fun i e _=>.inl (by injection e with e;subst e;exact hh)) (fun _ hi=>.inl hi)
        have gcl:=HFS5.out.2.2.2.2.1.2.2.2.2.1.2.2;have FS6:=HFS5.out.put 11 (.slice Ap q.d.length cp) ⟨0,0,5 * (fl.length:Int),o,p,-1,q.d,cl,[]⟩ (.slice Ap q.d.length cp) (.slice Ac cl.length cc) (.slice none 0 0) rfl hm1 HFS5.out.2.2.2.1 ⟨rfl,ho,hp,.inl rfl,⟨HGP.out.2.2.2.2.1.1,HGP.out.2.2.2.2.1.2.1,gcl⟩,(by simp),(fun q hq=>by cases hq),(by simp)⟩ rfl rfl hab hgab
        have FS7:=FS6.put 12 (.slice Bp q.c.length cq) ⟨0,0,5 * (fl.length:Int),o,p,-1,q.d,q.c,[]⟩ (.slice Ap q.d.length cp) (.slice Bp q.c.length cq) (.slice none 0 0) rfl hm11 hm2' ⟨rfl,ho,hp,.inl rfl,HGP.out.2.2.2.2.1,(by simp),(fun q hq=>by cases hq),(by simp)⟩ rfl rfl hab hgab
        have YP:=(YP.far (p:=⟨ab,11,none⟩) hpab (.slice Ap q.d.length cp)).far (p:=⟨ab,12,none⟩) hpab (.slice Bp q.c.length cq);clear hc11 hc12 ha11 ha12 hf11 hf12 HFS5 gs hh hm1 hm2 hm1' hm2' hm11 FS6 gcl;generalize (w6.setCell ⟨ab,11,none⟩ (.slice Ap q.d.length cp)).setCell ⟨ab,12,none⟩ (.slice Bp q.c.length cq)=w7 at *;have HFS:=Lib.hid FS7;have HYP:=Lib.hid YP;clear FS7 YP;go_wp2_with fail;refine (next_any HFS.out.2.2.2.2.2.2.2.2 3 (by omega) (by omega)).mono ?_
        rintro e w8 ⟨⟨r,rfl,hr0,hr1⟩,g8,M8⟩;have FS8:=HFS.out.call g8 M8 hlt (Nat.ne_of_lt hgab);have YP8:=HYP.out.grown g8 (fun e=>by injection e with e;exact hpg e)
        clear HFS HYP;have HFS:=Lib.hid FS8;have HYP:=Lib.hid YP8;clear FS8 YP8 g8 M8;by_cases hr:0<r
        ·have e0:decide (0<r)=true:=decide_eq_true hr
         have hc5:w8.cell? ⟨pb,5,none⟩=some (.int .i64 q.party):=HYP.out.cell 5;have ha5:w8.cell? ⟨ab,5,none⟩=some (.int .i64 p):=HFS.out.2.1.cell 5;have hf5:=HFS.out.2.1.frozen 5;go_upto_region 14 with fail;have FS9:=HFS.out.put 5 (.int .i64 q.party) ⟨0,0,5 * (fl.length:Int),o,q.party,-1,q.d,q.c,[]⟩ (.slice Ap q.d.length cp) (.slice Bp q.c.length cq) (.slice none 0 0) rfl HFS.out.2.2.1 HFS.out.2.2.2.1 ⟨rfl,ho,HGP.out.2.2.1,.inl rfl,HGP.out.2.2.2.2.1,(by simp),(fun q hq=>by cases hq),(by simp)⟩ rfl rfl hab hgab
         have YP9:=HYP.out.far (p:=⟨ab,5,none⟩) hpab (.int .i64 q.party);clear HFS HYP hc5 ha5 hf5 e0;have HFS:=Lib.hid FS9;have HYP:=Lib.hid YP9;clear FS9 YP9;generalize w8.setCell ⟨ab,5,none⟩ (.int .i64 q.party)=w9 at *;go_wp2_with fail;refine (next_any HFS.out.2.2.2.2.2.2.2.2 2 (by omega) (by omega)).mono ?_
         rintro e wA ⟨⟨r2,rfl,hr20,hr21⟩,gA,MA⟩;have FSA:=HFS.out.call gA MA hlt (Nat.ne_of_lt hgab);have YPA:=HYP.out.grown gA (fun e=>by injection e with e;exact hpg e)
         clear HFS HYP;have HFS:=Lib.hid FSA;have HYP:=Lib.hid YPA;clear FSA YPA gA MA;by_cases hr2:r2=0
         ·subst hr2
          have hcs:wA.cell? ⟨pb,3,none⟩=some (.int .i64 q.file):=HYP.out.cell 3;have has:wA.cell? ⟨ab,6,none⟩=some (.int .i64 (-1)):=HFS.out.2.1.cell 6;have hfs:=HFS.out.2.1.frozen 6;go_upto_region 16 with fail;have FSn:=HFS.out.put 6 (.int .i64 q.file) ⟨0,0,5 * (fl.length:Int),o,q.party,q.file,q.d,q.c,[]⟩ (.slice Ap q.d.length cp) (.slice Bp q.c.length cq) (.slice none 0 0) rfl HFS.out.2.2.1 HFS.out.2.2.2.1 ⟨rfl,ho,HGP.out.2.2.1,.inr ⟨kk,hkk,HGP.out.1⟩,HGP.out.2.2.2.2.1,(by simp),(fun q hq=>by cases hq),(by simp)⟩ rfl rfl hab hgab
          have YPn:=HYP.out.far (p:=⟨ab,6,none⟩) hpab (.int .i64 q.file);clear HFS HYP hcs has hfs;have HFS:=Lib.hid FSn;have HYP:=Lib.hid YPn;clear FSn YPn;generalize wA.setCell ⟨ab,6,none⟩ (.int .i64 q.file)=wB at *;have hcs:wB.cell? ⟨pb,4,none⟩=some (.int .i64 q.office):=HYP.out.cell 4;have has:wB.cell? ⟨ab,4,none⟩=some (.int .i64 (o)):=HFS.out.2.1.cell 4;have hfs:=HFS.out.2.1.frozen 4;go_upto_region 17 with fail;have FSn:=HFS.out.put 4 (.int .i64 q.office) ⟨0,0,5 * (fl.length:Int),q.office,q.party,q.file,q.d,q.c,[]⟩ (.slice Ap q.d.length cp) (.slice Bp q.c.length cq) (.slice none 0 0) rfl HFS.out.2.2.1 HFS.out.2.2.2.1 ⟨rfl,HGP.out.2.1,HGP.out.2.2.1,.inr ⟨kk,hkk,HGP.out.1⟩,HGP.out.2.2.2.2.1,(by simp),(fun q hq=>by cases hq),(by simp)⟩ rfl rfl hab hgab
          have YPn:=HYP.out.far (p:=⟨ab,4,none⟩) hpab (.int .i64 q.office);clear HFS HYP hcs has hfs;have HFS:=Lib.hid FSn;have HYP:=Lib.hid YPn;clear FSn YPn;generalize wB.setCell ⟨ab,4,none⟩ (.int .i64 q.office)=wC at *;have hcs:wC.cell? ⟨pb,5,none⟩=some (.int .i64 q.party):=HYP.out.cell 5;have has:wC.cell? ⟨ab,5,none⟩=some (.int .i64 (q.party)):=HFS.out.2.1.cell 5;have hfs:=HFS.out.2.1.frozen 5;go_wp2_with fail;have FSn:=HFS.out.put 5 (.int .i64 q.party) ⟨0,0,5 * (fl.length:Int),q.office,q.party,q.file,q.d,q.c,[]⟩ (.slice Ap q.d.length cp) (.slice Bp q.c.length cq) (.slice none 0 0) rfl HFS.out.2.2.1 HFS.out.2.2.2.1 ⟨rfl,HGP.out.2.1,HGP.out.2.2.1,.inr ⟨kk,hkk,HGP.out.1⟩,HGP.out.2.2.2.2.1,(by simp),(fun q hq=>by cases hq),(by simp)⟩ rfl rfl hab hgab
          have YPn:=HYP.out.far (p:=⟨ab,5,none⟩) hpab (.int .i64 q.party);clear HFS HYP hcs has hfs;go_meet;exact ⟨_,_,_,rfl,FSn⟩
         ·have e1:(r2 == 0)=false:=by simpa using hr2
          go_wp2_with fail;go_meet;exact ⟨_,_,_,rfl,HFS.out⟩
        ·have e0:decide (0<r)=false:=decide_eq_false hr
         go_upto_region 14 with fail;clear e0;go_wp2_with fail;refine (next_any HFS.out.2.2.2.2.2.2.2.2 2 (by omega) (by omega)).mono ?_
         rintro e wA ⟨⟨r2,rfl,hr20,hr21⟩,gA,MA⟩;have FSA:=HFS.out.call gA MA hlt (Nat.ne_of_lt hgab);have YPA:=HYP.out.grown gA (fun e=>by injection e with e;exact hpg e)
         clear HFS HYP;have HFS:=Lib.hid FSA;have HYP:=Lib.hid YPA;clear FSA YPA gA MA;by_cases hr2:r2=0
         ·subst hr2
          have hcs:wA.cell? ⟨pb,3,none⟩=some (.int .i64 q.file):=HYP.out.cell 3;have has:wA.cell? ⟨ab,6,none⟩=some (.int .i64 (-1)):=HFS.out.2.1.cell 6;have hfs:=HFS.out.2.1.frozen 6;go_upto_region 16 with fail;have FSn:=HFS.out.put 6 (.int .i64 q.file) ⟨0,0,5 * (fl.length:Int),o,p,q.file,q.d,q.c,[]⟩ (.slice Ap q.d.length cp) (.slice Bp q.c.length cq) (.slice none 0 0) rfl HFS.out.2.2.1 HFS.out.2.2.2.1 ⟨rfl,ho,hp,.inr ⟨kk,hkk,HGP.out.1⟩,HGP.out.2.2.2.2.1,(by simp),(fun q hq=>by cases hq),(by simp)⟩ rfl rfl hab hgab
          have YPn:=HYP.out.far (p:=⟨ab,6,none⟩) hpab (.int .i64 q.file);clear HFS HYP hcs has hfs;have HFS:=Lib.hid FSn;have HYP:=Lib.hid YPn;clear FSn YPn;generalize wA.setCell ⟨ab,6,none⟩ (.int .i64 q.file)=wB at *;have hcs:wB.cell? ⟨pb,4,none⟩=some (.int .i64 q.office):=HYP.out.cell 4;have has:wB.cell? ⟨ab,4,none⟩=some (.int .i64 (o)):=HFS.out.2.1.cell 4;have hfs:=HFS.out.2.1.frozen 4;go_upto_region 17 with fail;have FSn:=HFS.out.put 4 (.int .i64 q.office) ⟨0,0,5 * (fl.length:Int),q.office,p,q.file,q.d,q.c,[]⟩ (.slice Ap q.d.length cp) (.slice Bp q.c.length cq) (.slice none 0 0) rfl HFS.out.2.2.1 HFS.out.2.2.2.1 ⟨rfl,HGP.out.2.1,hp,.inr ⟨kk,hkk,HGP.out.1⟩,HGP.out.2.2.2.2.1,(by simp),(fun q hq=>by cases hq),(by simp)⟩ rfl rfl hab hgab
          have YPn:=HYP.out.far (p:=⟨ab,4,none⟩) hpab (.int .i64 q.office);clear HFS HYP hcs has hfs;have HFS:=Lib.hid FSn;have HYP:=Lib.hid YPn;clear FSn YPn;generalize wB.setCell ⟨ab,4,none⟩ (.int .i64 q.office)=wC at *;have hcs:wC.cell? ⟨pb,5,none⟩=some (.int .i64 q.party):=HYP.out.cell 5;have has:wC.cell? ⟨ab,5,none⟩=some (.int .i64 (p)):=HFS.out.2.1.cell 5;have hfs:=HFS.out.2.1.frozen 5;go_wp2_with fail;have FSn:=HFS.out.put 5 (.int .i64 q.party) ⟨0,0,5 * (fl.length:Int),q.office,q.party,q.file,q.d,q.c,[]⟩ (.slice Ap q.d.length cp) (.slice Bp q.c.length cq) (.slice none 0 0) rfl HFS.out.2.2.1 HFS.out.2.2.2.1 ⟨rfl,HGP.out.2.1,HGP.out.2.2.1,.inr ⟨kk,hkk,HGP.out.1⟩,HGP.out.2.2.2.2.1,(by simp),(fun q hq=>by cases hq),(by simp)⟩ rfl rfl hab hgab
          have YPn:=HYP.out.far (p:=⟨ab,5,none⟩) hpab (.int .i64 q.party);clear HFS HYP hcs has hfs;go_meet;exact ⟨_,_,_,rfl,FSn⟩
         ·have e1:(r2 == 0)=false:=by simpa using hr2
          go_wp2_with fail;go_meet;exact ⟨_,_,_,rfl,HFS.out⟩
     case rest =>
      obtain ⟨f,dv,cv,he0,FS6⟩:=hcut;obtain ⟨w6,rfl⟩:∃ z:World,z=wc:=⟨_,rfl⟩;clear FS4 hbb;have FE:FSE w w6 base g A n c day (.slice Af fl.length cf) ab fl.length f dv cv (.slice none 0 0):=⟨FS6,by rw [he0];exact OwnM.nil ..,(by simp [Value.ownBlock]),FS6.2.2.1,FS6.2.2.2.1⟩
      clear FS6 ho hp;go_wp2_with fail;go_loopw [8] (fun j wr=>∃ (k:Nat) (f:Fil) (dv cv ev:Value),j=.int .i64 (k:Int)∧k≤2∧f.e.length≤k∧FSE w wr base g A n c day (.slice Af fl.length cf) ab fl.length f dv cv ev) (fun j _=>2 - (intOf j).toNat)
      case atStart=>exact ⟨0,f,dv,cv,_,rfl,Nat.zero_le _,by rw [he0];exact Nat.le_refl _,FE⟩
      case round =>
       clear FE he0;obtain ⟨k,f,dv,cv,ev,rfl,hk,hel,FE⟩:=hrel;have HFE:=Lib.hid FE;clear FE;by_cases hgo:k<2∧0<fl.length
       ·obtain ⟨hk2,hn0⟩:=hgo
        have hk3:decide ((k:Int)<2)=true:=decide_eq_true (by omega)
        have e0:decide (0<(fl.length:Int))=true:=decide_eq_true (by omega)
        go_upto_region 21 with fail;clear hk3 e0;go_cut [9] (fun u wx=>∃ (pb kk:Nat) (hkk:kk<fl.length) (pd pc pe:Value),u=.pointer (some ⟨pb,0,none⟩)∧(w.heap.size<pb∧pb≠ab∧pb≠g∧ev.ownBlock≠some pb)∧Blk wx pb 41 (fl[kk].vals pd pc pe)∧FSE w wx base g A n c day (.slice Af fl.length cf) ab fl.length f dv cv ev)
        case first =>
         refine wp_region_held_drew (S:=(fun W=>FSE w W base g A n c day (.slice Af fl.length cf) ab fl.length f dv cv ev)) (by kernel_rfl) ?_ (fun hHeld=>?_)
         ·first | done | ((try dsimp only);exact HFE.out.step (grown_drew wr none) (fun _ e=>by cases e))
         clear HFE;refine tq 0 95 rfl ?_
         refine tq 1 96 rfl ?_
         refine tq 2 97 rfl ?_
         refine tq 3 98 rfl ?_ (hy:=by intro w' hSw;(try dsimp only at hSw);obtain ⟨at_,hg⟩:=hSw.1.2.2.2.2.2.2.2.2.1;have hc:=hg.c4;go_simp;try (with_reducible rfl))
         refine tq 4 99 rfl ?_
         refine tq 5 100 rfl ?_
         refine rd2 6 (some 101) 9 (some 9) (by kernel_rfl) rfl rfl (fun K hK=>?_) fun K hK=>?_
         ·skip
          go_simp
          (refine (next_any hHeld.1.2.2.2.2.2.2.2.2 (fl.length:Int) (by omega) (by omega)).mono ?_;rintro e w6 ⟨⟨r,rfl,hr0,hr1⟩,g6,M6⟩)
          refine hK.out _ _ (hHeld.call g6 M6 hlt (Nat.ne_of_lt hgab)) fun hHeld=>?_
          clear hK K;(try simp only [pS,pB,pZ,pC]);obtain ⟨kk,rfl⟩:∃ kk:Nat,r=(kk:Int):=⟨r.toNat,by omega⟩
          have hkk:kk<fl.length:=by omega
          obtain ⟨fb,fc2,pd,pc,pe,hfe,hfp⟩:=HPK.out kk hkk;injection hfe with hfe _ _
          subst hfe;have HP:=Lib.hid hfp;clear hfp hr0 hr1;refine tq 7 102 rfl ?_
          refine rd2 8 (some 103) 9 (some 9) (by kernel_rfl) rfl rfl (fun K hK=>?_) fun K hK=>?_
          ·skip
           rw [if_pos (by rfl)]
           refine wp_load_mid 41 _ rfl fb (kk * 19) (by go_simp) _ _ (HP.out _ hHeld.1.2.2.2.2.2.2.2.1).1 Tryz.underlying41 rfl (by kernel_rfl) ?_
           rw [Array.toArray_toList];refine hK.out _ _ ?_ (fun hHeld=>?_)
           ·exact hHeld
           clear hK K;(try simp only [pS,pB,pZ,pC]);have Y:Blk (w6.alloc (.cells #[iI 0,iI 0,iI 0,iI 0,iI 0,iI 0,iI 0,iI 0,iI 0,iI 0,iI 0,nN,nN,nN,nN,iI 0,iI 0,nN,nN] 41)) w6.heap.size 41 #[iI 0,iI 0,iI 0,iI 0,iI 0,iI 0,iI 0,iI 0,iI 0,iI 0,iI 0,nN,nN,nN,nN,iI 0,iI 0,nN,nN]:=Blk.new w6 _ _;have hpb:w.heap.size<w6.heap.size:=hHeld.1.1.lt;have hpab:w6.heap.size≠ab:=by have:ab<w6.heap.size:=hHeld.1.2.1.lt;omega
           have hpg:w6.heap.size≠g:=by omega
           have hpbase:base≤w6.heap.size:=by omega
           have hepb:ev.ownBlock≠some (w6.heap.size):=fun e=>by have:_<w6.heap.size:=(hHeld.2.1.lt _ e).2;omega
           refine rd 9 (some 9) rfl fun K hK=>?_
           go_simp;skip;refine hK.out _ _ ?_ (fun hHeld=>?_)
           ·first | done | ((try dsimp only);exact hHeld.step (World.grownBy_alloc _ _ none) (fun _ e=>by cases e))
           clear hK K;(try simp only [pS,pB,pZ,pC]);generalize w6.heap.size=pb at *;have hforms:=(HP.out _ hHeld.1.2.2.2.2.2.2.2.1).2.forms;obtain ⟨Pa,pa,Pb',pb',Pc,pc',e1,e2,e3⟩:=hforms;refine rd 10 none rfl fun K hK=>?_
           rw [if_pos (by rfl)]
           refine wp_storeA Y rfl _ _ rfl rfl _ rfl rfl (by rw [e1,e2,e3];kernel_rfl) (fun wz Yz gz=>?_)
           refine hK.out _ _ ?_ (fun hHeld=>?_)
           ·exact hHeld.step gz (fun i e=>by injection e with e;subst e;exact ⟨fun _=>Y.hidden (by decide),hpb,hpab,hpg,hpbase,hepb⟩)
           clear hK K;(try simp only [Act.put]);refine dn ?_
           go_wp2_with fail;go_meet;exact ⟨pb,kk,hkk,pd,pc,pe,rfl,⟨hpb,hpab,hpg,hepb⟩,Yz,hHeld⟩
          ·skip
           have Y:Blk (w6.alloc (.cells #[iI 0,iI 0,iI 0,iI 0,iI 0,iI 0,iI 0,iI 0,iI 0,iI 0,iI 0,nN,nN,nN,nN,iI 0,iI 0,nN,nN] 41)) w6.heap.size 41 #[iI 0,iI 0,iI 0,iI 0,iI 0,iI 0,iI 0,iI 0,iI 0,iI 0,iI 0,nN,nN,nN,nN,iI 0,iI 0,nN,nN]:=Blk.new w6 _ _;have hpb:w.heap.size<w6.heap.size:=hHeld.1.1.lt;have hpab:w6.heap.size≠ab:=by have:ab<w6.heap.size:=hHeld.1.2.1.lt;omega
           have hpg:w6.heap.size≠g:=by omega
           have hpbase:base≤w6.heap.size:=by omega
           have hepb:ev.ownBlock≠some (w6.heap.size):=fun e=>by have:_<w6.heap.size:=(hHeld.2.1.lt _ e).2;omega
           go_simp;skip;refine hK.out _ _ ?_ (fun hHeld=>?_)
           ·first | done | ((try dsimp only);exact hHeld.step (World.grownBy_alloc _ _ none) (fun _ e=>by cases e))
           clear hK K;(try simp only [pS,pB,pZ,pC]);generalize w6.heap.size=pb at *;refine rd 8 (some 103) rfl fun K hK=>?_
           rw [if_pos (by rfl)]
           refine wp_load_mid 41 _ rfl fb (kk * 19) (by go_simp) _ _ (HP.out _ hHeld.1.2.2.2.2.2.2.2.1).1 Tryz.underlying41 rfl (by kernel_rfl) ?_
           rw [Array.toArray_toList];refine hK.out _ _ ?_ (fun hHeld=>?_)
           ·exact hHeld
           clear hK K;(try simp only [pS,pB,pZ,pC]);have hforms:=(HP.out _ hHeld.1.2.2.2.2.2.2.2.1).2.forms;obtain ⟨Pa,pa,Pb',pb',Pc,pc',e1,e2,e3⟩:=hforms;refine rd 10 none rfl fun K hK=>?_
           rw [if_pos (by rfl)]
           refine wp_storeA Y rfl _ _ rfl rfl _ rfl rfl (by rw [e1,e2,e3];kernel_rfl) (fun wz Yz gz=>?_)
           refine hK.out _ _ ?_ (fun hHeld=>?_)
           ·exact hHeld.step gz (fun i e=>by injection e with e;subst e;exact ⟨fun _=>Y.hidden (by decide),hpb,hpab,hpg,hpbase,hepb⟩)
           clear hK K;(try simp only [Act.put]);refine dn ?_
           go_wp2_with fail;go_meet;exact ⟨pb,kk,hkk,pd,pc,pe,rfl,⟨hpb,hpab,hpg,hepb⟩,Yz,hHeld⟩
         ·skip
          have Y:Blk (wr.drew.alloc (.cells #[iI 0,iI 0,iI 0,iI 0,iI 0,iI 0,iI 0,iI 0,iI 0,iI 0,iI 0,nN,nN,nN,nN,iI 0,iI 0,nN,nN] 41)) wr.heap.size 41 #[iI 0,iI 0,iI 0,iI 0,iI 0,iI 0,iI 0,iI 0,iI 0,iI 0,iI 0,nN,nN,nN,nN,iI 0,iI 0,nN,nN]:=Blk.new wr.drew _ _;have hpb:w.heap.size<wr.heap.size:=hHeld.1.1.lt;have hpab:wr.heap.size≠ab:=by have:ab<wr.heap.size:=hHeld.1.2.1.lt;omega
          have hpg:wr.heap.size≠g:=by omega
          have hpbase:base≤wr.heap.size:=by omega
          have hepb:ev.ownBlock≠some (wr.heap.size):=fun e=>by have:_<wr.heap.size:=(hHeld.2.1.lt _ e).2;omega
          go_simp;skip;refine hK.out _ _ ?_ (fun hHeld=>?_)
          ·first | done | ((try dsimp only);exact hHeld.step (World.grownBy_alloc _ _ none) (fun _ e=>by cases e))
          clear hK K;(try simp only [pS,pB,pZ,pC]);generalize wr.heap.size=pb at *;refine rd 6 (some 101) rfl fun K hK=>?_
          go_simp
          (refine (next_any hHeld.1.2.2.2.2.2.2.2.2 (fl.length:Int) (by omega) (by omega)).mono ?_;rintro e w6 ⟨⟨r,rfl,hr0,hr1⟩,g6,M6⟩)
          refine hK.out _ _ (hHeld.call g6 M6 hlt (Nat.ne_of_lt hgab)) fun hHeld=>?_
          clear hK K;(try simp only [pS,pB,pZ,pC]);have Y:=Y.grown g6 (fun e=>by injection e with e;omega)
          obtain ⟨kk,rfl⟩:∃ kk:Nat,r=(kk:Int):=⟨r.toNat,by omega⟩
          have hkk:kk<fl.length:=by omega
          obtain ⟨fb,fc2,pd,pc,pe,hfe,hfp⟩:=HPK.out kk hkk;injection hfe with hfe _ _
          subst hfe;have HP:=Lib.hid hfp;clear hfp hr0 hr1;refine tq 7 102 rfl ?_
          refine rd 8 (some 103) rfl fun K hK=>?_
          rw [if_pos (by rfl)]
          refine wp_load_mid 41 _ rfl fb (kk * 19) (by go_simp) _ _ (HP.out _ hHeld.1.2.2.2.2.2.2.2.1).1 Tryz.underlying41 rfl (by kernel_rfl) ?_
          rw [Array.toArray_toList];refine hK.out _ _ ?_ (fun hHeld=>?_)
          ·exact hHeld
          clear hK K;(try simp only [pS,pB,pZ,pC]);have hforms:=(HP.out _ hHeld.1.2.2.2.2.2.2.2.1).2.forms;obtain ⟨Pa,pa,Pb',pb',Pc,pc',e1,e2,e3⟩:=hforms;refine rd 10 none rfl fun K hK=>?_
          rw [if_pos (by rfl)]
          refine wp_storeA Y rfl _ _ rfl rfl _ rfl rfl (by rw [e1,e2,e3];kernel_rfl) (fun wz Yz gz=>?_)
          refine hK.out _ _ ?_ (fun hHeld=>?_)
          ·exact hHeld.step gz (fun i e=>by injection e with e;subst e;exact ⟨fun _=>Y.hidden (by decide),hpb,hpab,hpg,hpbase,hepb⟩)
          clear hK K;(try simp only [Act.put]);refine dn ?_
          go_wp2_with fail;go_meet;exact ⟨pb,kk,hkk,pd,pc,pe,rfl,⟨hpb,hpab,hpg,hepb⟩,Yz,hHeld⟩
        case rest =>
         obtain ⟨pb,kk,hkk,pd,pc,pe,rfl,⟨hpb,hpab,hpg,hepb⟩,YP,FE⟩:=hcut;obtain ⟨w7,rfl⟩:∃ z:World,z=wc:=⟨_,rfl⟩;clear HFE;obtain ⟨gp,dp0,dp1,_⟩:=HGL.out.2 kk hkk;generalize fl[kk]=q at *;have HGP:=Lib.hid gp;clear gp;go_upto_region 22 with fail;go_cut [126] (fun u wx=>(∃ bb:Bool,u=.bool bb∧(bb=true→∀ x∈f.e,x.1≠q.file))∧Blk wx pb 41 (q.vals pd pc pe)∧FSE w wx base g A n c day (.slice Af fl.length cf) ab fl.length f dv cv ev)
         case first =>
          refine wp_region_held_drew (S:=(fun W=>Blk W pb 41 (q.vals pd pc pe)∧FSE w W base g A n c day (.slice Af fl.length cf) ab fl.length f dv cv ev)) (by kernel_rfl) ?_ (fun hHeld=>?_)
          ·first | done | ((try dsimp only);exact ⟨YP.drew,FE.step (grown_drew w7 none) (fun _ e=>by cases e)⟩)
          clear YP FE;refine tq 0 104 rfl ?_
          refine rd 1 (some 105) rfl fun K hK=>?_
          go_simp
          (refine (next_any hHeld.2.1.2.2.2.2.2.2.2.2 2 (by omega) (by omega)).mono ?_;rintro e w8 ⟨⟨r,rfl,hr0,hr1⟩,g8,M8⟩)
          refine hK.out _ _ ?_ (fun hHeld=>?_)
          ·first | done | ((try dsimp only);exact ⟨hHeld.1.grown g8 (fun e=>by injection e with e;omega),hHeld.2.call g8 M8 hlt (Nat.ne_of_lt hgab)⟩)
          clear hK K;(try simp only [pS,pB,pZ,pC]);by_cases hr:r=0
          ·subst hr
           refine tq 2 106 rfl ?_
           refine tq 3 107 rfl ?_
           refine tq 4 108 rfl ?_
           by_cases hk0:k=0
           ·have e5:((k:Int) == 0)=true:=by simpa using hk0
            refine tq 5 109 rfl ?_
            refine tq 6 110 rfl ?_
            refine tz 7 111 rfl ?_
            refine tz 8 112 rfl ?_
            refine tz 9 113 rfl ?_
            refine tz 10 114 rfl ?_
            refine tq 11 115 rfl ?_
            refine tq 12 116 rfl ?_
            refine tz 13 117 rfl ?_
            refine tz 14 118 rfl ?_
            refine tz 15 119 rfl ?_
            refine tz 16 120 rfl ?_
            refine tz 17 121 rfl ?_
            refine tz 18 122 rfl ?_
            refine tz 19 123 rfl ?_
            refine tz 20 124 rfl ?_
            refine tq 21 125 rfl ?_
            refine tq 22 126 rfl ?_
            refine dn ?_
            go_wp2_with fail;go_meet;have he:f.e=[]:=List.eq_nil_of_length_eq_zero (by omega)
            exact ⟨⟨_,rfl,fun _ x hx=>by rw [he] at hx;cases hx⟩,hHeld.1,hHeld.2⟩
           ·have e5:((k:Int) == 0)=false:=by simpa using hk0
            have RE:RepM TA [] w8 ev (.s 2 (prD f.e)):=hHeld.2.2.1.rep (fun _ h=>h) (by decide) (fun _ hi=>by cases hi)
            obtain ⟨Ae,ce,rfl,_,hpe⟩:=RE.out.pairs;have HPE:=Lib.hid hpe;clear hpe RE;refine tq 5 109 rfl ?_
            refine tq 6 110 rfl ?_
            refine tq 7 111 rfl ?_
            refine tq 8 112 rfl ?_ (hy:=by intro w' hSw;(try dsimp only at hSw);have hc:w'.cell? ⟨ab,14,none⟩=some (.slice Ae f.e.length ce):=hSw.2.1.2.1.cell 14;go_simp;try (with_reducible rfl))
            refine tq 9 113 rfl ?_
            by_cases hel0:f.e.length=0
            ·have e10:((f.e.length:Int) == 0)=true:=by simp [hel0]
             refine tq 10 114 rfl ?_
             refine tq 11 115 rfl ?_
             refine tq 12 116 rfl ?_
             refine tz 13 117 rfl ?_
             refine tz 14 118 rfl ?_
             refine tz 15 119 rfl ?_
             refine tz 16 120 rfl ?_
             refine tz 17 121 rfl ?_
             refine tz 18 122 rfl ?_
             refine tz 19 123 rfl ?_
             refine tz 20 124 rfl ?_
             refine tq 21 125 rfl ?_
             refine tq 22 126 rfl ?_
             refine dn ?_
             go_wp2_with fail;go_meet;have he:f.e=[]:=List.eq_nil_of_length_eq_zero hel0;exact ⟨⟨_,rfl,fun _ x hx=>by rw [he] at hx;cases hx⟩,hHeld.1,hHeld.2⟩
            ·have e10:((f.e.length:Int) == 0)=false:=by simp;exact fun h=>hel0 (by rw [h];rfl)
             obtain ⟨eb,eo,rfl,_,_,_⟩:=HPE.out 0 (by omega)
             refine tq 10 114 rfl ?_
             refine tq 11 115 rfl ?_
             refine tq 12 116 rfl ?_
             refine tq 13 117 rfl ?_
             refine tq 14 118 rfl ?_ (hy:=by intro w' hSw;(try dsimp only at hSw);have hc:w'.cell? ⟨ab,14,none⟩=some (.slice (some ⟨eb,eo,none⟩) f.e.length ce):=hSw.2.1.2.1.cell 14;go_simp;try (with_reducible rfl))
             have hpos:0<f.e.length:=by omega
             refine tq 15 119 rfl ?_
             refine tq 16 120 rfl ?_
             clear hpos;have hlen1:f.e.length=1:=by omega
             obtain ⟨⟨x0,y0⟩,hfe⟩:∃ x,f.e=[x]:=List.length_eq_one_iff.1 hlen1;have HFEE:=Lib.hid hfe;clear hfe;refine tq 17 121 rfl ?_ (hy:=by intro w' hSw;(try dsimp only at hSw);have hc:w'.cell? ⟨eb,eo,none⟩=some (.int .i64 x0):=fe_first hSw.2.2.1 HFEE.out;go_simp;try (with_reducible rfl))
             refine tq 18 122 rfl ?_
             refine tq 19 123 rfl ?_ (hy:=by intro w' hSw;(try dsimp only at hSw);have hc:w'.cell? ⟨pb,3,none⟩=some (.int .i64 q.file):=hSw.1.cell 3;go_simp;try (with_reducible rfl))
             refine tq 20 124 rfl ?_
             refine tq 21 125 rfl ?_
             refine tq 22 126 rfl ?_
             refine dn ?_
             go_wp2_with fail;go_meet;exact ⟨⟨_,rfl,fun h x hx=>by rw [HFEE.out,List.mem_singleton] at hx;subst hx;simpa using h⟩,hHeld.1,hHeld.2⟩
          ·have e2:(r == 0)=false:=by simpa using hr
           refine tq 2 106 rfl ?_
           refine tq 3 107 rfl ?_
           refine tz 4 108 rfl ?_
           refine tz 5 109 rfl ?_
           refine tz 6 110 rfl ?_
           refine tz 7 111 rfl ?_
           refine tz 8 112 rfl ?_
           refine tz 9 113 rfl ?_
           refine tz 10 114 rfl ?_
           refine tz 11 115 rfl ?_
           refine tz 12 116 rfl ?_
           refine tz 13 117 rfl ?_
           refine tz 14 118 rfl ?_
           refine tz 15 119 rfl ?_
           refine tz 16 120 rfl ?_
           refine tz 17 121 rfl ?_
           refine tz 18 122 rfl ?_
           refine tz 19 123 rfl ?_
           refine tz 20 124 rfl ?_
           refine tz 21 125 rfl ?_
           refine tq 22 126 rfl ?_
           refine dn ?_
           go_wp2_with fail;go_meet;exact ⟨⟨_,rfl,fun h=>by cases h⟩,hHeld.1,hHeld.2⟩
         case rest =>
          obtain ⟨⟨bb,rfl,hbb⟩,YP8,FE8⟩:=hcut;obtain ⟨w8,rfl⟩:∃ z:World,z=wc:=⟨_,rfl⟩;clear YP FE
          cases bb with
          | false =>
           go_wp2_with fail;go_roundw
           case rel=>exact ⟨k+1,f,dv,cv,ev,by go_num,by omega,by omega,FE8⟩
           case measure=>simp [intOf];omega
          | true =>
           have hnew:=hbb rfl;have hq1:w8.cell? ⟨pb,1,none⟩=some (.int .i64 q.day):=YP8.cell 1;go_upto_region 24 with fail;clear hq1;go_wp2_with fail;refine (next_any FE8.1.2.2.2.2.2.2.2.2 9 (by omega) (by omega)).mono ?_
           rintro e w9 ⟨⟨r,rfl,hr0,hr1⟩,g9,M9⟩;have FE9:=FE8.call g9 M9 hlt (Nat.ne_of_lt hgab);have YP9:=YP8.grown g9 (fun e=>by injection e with e;exact hpg e)
           clear FE8 YP8 g9 M9;by_cases hr:r=0
           ·subst hr
            go_upto_region 26 with fail;obtain ⟨Ae,ne,ce,rfl,_,_⟩:=FE9.2.1.slice;have hc14:w9.cell? ⟨ab,14,none⟩=some (.slice Ae ne ce):=FE9.1.2.1.cell 14;have hq3:w9.cell? ⟨pb,3,none⟩=some (.int .i64 q.file):=YP9.cell 3;have ga:=World.grownBy_alloc w9 (.cells #[.int .i64 q.file,.int .i64 (q.day+1)] 106) none;have RA:=Blk.new w9 106 #[.int .i64 q.file,.int .i64 (q.day+1)];have FEa:=FE9.step ga (fun _ e=>by cases e)
            have YPa:=YP9.grown ga (by simp)
            have OA:=FEa.2.1;have NA:RepML TA ((Value.slice Ae ne ce).ownBlock.toList++[]) (w9.alloc (.cells #[.int .i64 q.file,.int .i64 (q.day+1)] 106)) #[.int .i64 q.file,.int .i64 (q.day+1)].toList (prD [(q.file,(q.day+1))]):=RepL.of_plain _ _ [.int .i64 q.file,.int .i64 (q.day+1)];have hsz:=FEa.1.1.lt;have HG9:=Lib.hid FE9.1.2.2.2.2.1;have HEL:=Lib.hid hel;have HFEa:=Lib.hid FEa;have HYPa:=Lib.hid YPa;clear FE9 YP9 ga FEa YPa;go_upto_region 27 with (at_builtin;refine wpList_appM Tryz.underlying36 Tryz.info106 rfl (by omega) (by omega) OA RA rfl (by kernel_rfl) NA (by rw [prD_length];omega) (by omega) hsz rfl _ _ rfl rfl rfl ?_;intro v10 w10 o10 g10 l10;obtain ⟨A10,n10,c10,rfl,_,_⟩:=o10.slice;have y10:=HFEa.out.1.2.1.grown g10 (fun e=>HFEa.out.2.2.1 e.symm);have hd14:w10.cell? ⟨ab,14,none⟩=some (.slice Ae ne ce):=y10.cell 14;have hf14:=y10.frozen 14)
            have o10':OwnM TA [] w10 (w.heap.size+1) 106 2 (.slice A10 n10 c10) (prD (f.e++[(q.file,(q.day+1))])):=by rw [prD_append];exact o10
            have hGA:GenA fl.length { f with e:=f.e++[(q.file,(q.day+1))] }:=genA_app HG9.out (by have:=HEL.out;omega) ⟨kk,hkk,HGP.out.1⟩ (by omega) (by omega) hnew
            have FE11:=HFEa.out.app o10' g10 l10 hGA hab hgab hlt;have YP11:=(HYPa.out.grown g10 (fun e=>hepb e.symm)).far (p:=⟨ab,14,none⟩) hpab (.slice A10 n10 c10)
            clear hc14 hq3 RA OA NA hsz HFEa HYPa o10 o10' g10 l10 y10 hd14 hf14;generalize w10.setCell ⟨ab,14,none⟩ (.slice A10 n10 c10)=w11 at *;have hq5:w11.cell? ⟨pb,5,none⟩=some (.int .i64 q.party):=YP11.cell 5;have ha5:w11.cell? ⟨ab,5,none⟩=some (.int .i64 f.party):=FE11.1.2.1.cell 5;have hf5:=FE11.1.2.1.frozen 5;have HFE11:=Lib.hid FE11;clear FE11 YP11;go_wp2_with fail;have FE12:=HFE11.out.num 5 (.int .i64 q.party) { f with e:=f.e++[(q.file,(q.day+1))],party:=q.party } rfl rfl rfl rfl ⟨hGA.1,hGA.2.1,HGP.out.2.2.1,hGA.2.2.2⟩ HFE11.out.1.2.2.2.2.2.1 HFE11.out.1.2.2.2.2.2.2.1 hab hgab
            have hel2:=HEL.out;go_roundw
            case rel=>exact ⟨k+1,_,dv,cv,_,by go_num,by omega,by simp;omega,FE12⟩
            case measure=>simp [intOf];omega
           ·have e9:(r == 0)=false:=by simpa using hr
            go_upto_region 26 with fail;clear e9;obtain ⟨Ae,ne,ce,rfl,_,_⟩:=FE9.2.1.slice;have hc14:w9.cell? ⟨ab,14,none⟩=some (.slice Ae ne ce):=FE9.1.2.1.cell 14;have hq3:w9.cell? ⟨pb,3,none⟩=some (.int .i64 q.file):=YP9.cell 3;have ga:=World.grownBy_alloc w9 (.cells #[.int .i64 q.file,.int .i64 q.day] 106) none;have RA:=Blk.new w9 106 #[.int .i64 q.file,.int .i64 q.day];have FEa:=FE9.step ga (fun _ e=>by cases e)
            have YPa:=YP9.grown ga (by simp)
            have OA:=FEa.2.1;have NA:RepML TA ((Value.slice Ae ne ce).ownBlock.toList++[]) (w9.alloc (.cells #[.int .i64 q.file,.int .i64 q.day] 106)) #[.int .i64 q.file,.int .i64 q.day].toList (prD [(q.file,q.day)]):=RepL.of_plain _ _ [.int .i64 q.file,.int .i64 q.day];have hsz:=FEa.1.1.lt;have HG9:=Lib.hid FE9.1.2.2.2.2.1;have HEL:=Lib.hid hel;have HFEa:=Lib.hid FEa;have HYPa:=Lib.hid YPa;clear FE9 YP9 ga FEa YPa;go_upto_region 27 with (at_builtin;refine wpList_appM Tryz.underlying36 Tryz.info106 rfl (by omega) (by omega) OA RA rfl (by kernel_rfl) NA (by rw [prD_length];omega) (by omega) hsz rfl _ _ rfl rfl rfl ?_;intro v10 w10 o10 g10 l10;obtain ⟨A10,n10,c10,rfl,_,_⟩:=o10.slice;have y10:=HFEa.out.1.2.1.grown g10 (fun e=>HFEa.out.2.2.1 e.symm);have hd14:w10.cell? ⟨ab,14,none⟩=some (.slice Ae ne ce):=y10.cell 14;have hf14:=y10.frozen 14)
            have o10':OwnM TA [] w10 (w.heap.size+1) 106 2 (.slice A10 n10 c10) (prD (f.e++[(q.file,q.day)])):=by rw [prD_append];exact o10
            have hGA:GenA fl.length { f with e:=f.e++[(q.file,q.day)] }:=genA_app HG9.out (by have:=HEL.out;omega) ⟨kk,hkk,HGP.out.1⟩ (by omega) (by omega) hnew
            have FE11:=HFEa.out.app o10' g10 l10 hGA hab hgab hlt;have YP11:=(HYPa.out.grown g10 (fun e=>hepb e.symm)).far (p:=⟨ab,14,none⟩) hpab (.slice A10 n10 c10)
            clear hc14 hq3 RA OA NA hsz HFEa HYPa o10 o10' g10 l10 y10 hd14 hf14;generalize w10.setCell ⟨ab,14,none⟩ (.slice A10 n10 c10)=w11 at *;have hq5:w11.cell? ⟨pb,5,none⟩=some (.int .i64 q.party):=YP11.cell 5;have ha5:w11.cell? ⟨ab,5,none⟩=some (.int .i64 f.party):=FE11.1.2.1.cell 5;have hf5:=FE11.1.2.1.frozen 5;have HFE11:=Lib.hid FE11;clear FE11 YP11;go_wp2_with fail;have FE12:=HFE11.out.num 5 (.int .i64 q.party) { f with e:=f.e++[(q.file,q.day)],party:=q.party } rfl rfl rfl rfl ⟨hGA.1,hGA.2.1,HGP.out.2.2.1,hGA.2.2.2⟩ HFE11.out.1.2.2.2.2.2.1 HFE11.out.1.2.2.2.2.2.2.1 hab hgab
            have hel2:=HEL.out;go_roundw
            case rel=>exact ⟨k+1,_,dv,cv,_,by go_num,by omega,by simp;omega,FE12⟩
            case measure=>simp [intOf];omega
       ·have hx:k<2→decide (0<(fl.length:Int))=false:=fun h=>decide_eq_false (by omega)
        have hfin:∀ wz:World,wz=wr→True:=fun _ _=>trivial
        have RE:RepM TA [] wr ev (.s 2 (prD f.e)):=HFE.out.2.1.rep (fun _ h=>h) (by decide) (fun _ hi=>by cases hi)
        have HFM:FilM TA [] wr f dv cv ev:=⟨HFE.out.1.2.2.1,HFE.out.1.2.2.2.1,RE⟩;obtain ⟨Ap,cp,Bp,cq,Cp,cr,rfl,rfl,rfl⟩:=HFM.forms;have YA:=HFE.out.1.2.1;have ZR:=HFE.out.1.1;clear RE hfin;by_cases hk2:k<2
        ·have hx2:=hx hk2
         have hk3:decide ((k:Int)<2)=true:=decide_eq_true (by omega)
         clear hx;go_wp2_with (first | (refine wpList_loadA YA rfl _ rfl rfl rfl ?_) | (refine wpList_storeA ZR rfl _ _ rfl rfl rfl _ rfl rfl (by kernel_rfl) ?_;intro wz Yz gz))
         exact bodyPost_ret (results_A rfl _ rfl Yz rfl) rfl ⟨⟨f,_,_,_,rfl,HFM.step gz (fun i e _=>by injection e with e;subst e;exact ZR.hidden (by decide)),HFE.out.1.2.2.2.2.1,HFE.out.1.2.2.2.2.2.1,HFE.out.1.2.2.2.2.2.2.1⟩,grown_up HFE.out.1.2.2.2.2.2.2.2.1 gz (fun i e hi=>by injection e with e;omega),HFE.out.1.2.2.2.2.2.2.2.2.step gz (fun i e=>by injection e with e;omega)⟩
        ·have hk3:decide ((k:Int)<2)=false:=decide_eq_false (by omega)
         clear hx;go_wp2_with (first | (refine wpList_loadA YA rfl _ rfl rfl rfl ?_) | (refine wpList_storeA ZR rfl _ _ rfl rfl rfl _ rfl rfl (by kernel_rfl) ?_;intro wz Yz gz))
         exact bodyPost_ret (results_A rfl _ rfl Yz rfl) rfl ⟨⟨f,_,_,_,rfl,HFM.step gz (fun i e _=>by injection e with e;subst e;exact ZR.hidden (by decide)),HFE.out.1.2.2.2.2.1,HFE.out.1.2.2.2.2.2.1,HFE.out.1.2.2.2.2.2.2.1⟩,grown_up HFE.out.1.2.2.2.2.2.2.2.1 gz (fun i e hi=>by injection e with e;omega),HFE.out.1.2.2.2.2.2.2.2.2.step gz (fun i e=>by injection e with e;omega)⟩
end Go.Proofs.YtbeaijjaecaidaaGreatDoor
