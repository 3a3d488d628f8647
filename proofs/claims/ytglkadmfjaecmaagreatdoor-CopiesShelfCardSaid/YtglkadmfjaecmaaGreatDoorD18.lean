import Derived.Test.YtglkadmfjaecmaaGreatDoorD17
import Derived.Test.YtglkadmfjaecmaaGreatDoorD16
set_option maxRecDepth 100000
set_option maxHeartbeats 16000000
namespace Go.Proofs.YtglkadmfjaecmaaGreatDoor
open Go.RowKit Go.Shelf _root_.Go.Proofs.Tryz
open Go.Value renaming slice->I, int->Z
open Go.IntKind renaming i64->G
open Go.Obj renaming cells->O
attribute [local go_sem] Oper.semAt_some
variable {A:Option Addr} {H H':List Nat} {W W' w w' w1:World} {fl:List Fil} {g i kb sz:Nat} {it:Zdi} {ov v':Value} {ts:List TypeId}
theorem Yhb {S:World->Prop} {ops:Array Oper} {cs:Array Value} (hs:cs.size=19) {o:Oper} {a:Act} (x:Operand) (ho:o.op=.load 48 x) (d:a.eval x=.pointer (some ⟨g,0,none⟩)) (b:∀ W,S W->Blk W g 48 cs) (f:Region.wanted o (yielded ops a.tmps)=true):YieldsIf prog ops S o (.agg cs) a:=by
 have h:=yieldsIf_load_mid (P:=prog) (ops:=ops) (S:=S) f 48 x ho g 0 d cs.toList _ (fun w h j v k=>by rw [cz,(b w h).cell j,<- dj];exact k) underlying48 rfl (by rw [br,hs];kernel_rfl)
 rwa [bt] at h
def Zg6:List Int:=[0,0,0,0,0,0,1,1,1,2,3,3,4,4,4,5,6,6,7,8,9,10,10,10,10,11,12,12,13,13,14,15,16,16,17,18,19,19,20,21]
theorem Yaz:∀ k∈Zg6,0<=k/\k<=21:=by decide
def SSt (w W:World) (g:Nat) (A:Option Addr) (n c:Nat) (day:Int) (fv ov:Value) (kb:Nat) (l:List Zdi):Prop :=
 Mk W w.heap.size g A n c day fv/\Zbv TA [] W w.heap.size 48 19 fv ((Zav l).flatMap Fil.cells)/\Zbv TA [] W w.heap.size 48 19 ov (l.flatMap Zdi.cells)/\(∀ i,fv.ownBlock=some i->ov.ownBlock≠some i/\i≠g)/\(∀ i,ov.ownBlock=some i->i≠g)/\Blk W kb 3 (Zdj Zg6).toArray/\w.heap.size<=kb/\Bl w W
section
variable {w W w':World} {g:Nat} {A:Option Addr} {n c:Nat} {day:Int} {fv ov:Value} {kb:Nat} {l:List Zdi}
theorem SSt.step (h:SSt w W g A n c day fv ov kb l) {row:Option Nat} (a:W.grownBy w' row) (hr:∀ i,row=some i->(i<W.heap.size->Zbp TA W i)/\w.heap.size<=i/\i≠g/\i≠kb/\fv.ownBlock≠some i/\ov.ownBlock≠some i):SSt w w' g A n c day fv ov kb l:=by
 obtain ⟨h1,d,o,j,m,k,f,b⟩:=h;exact ⟨h1.step a (fun i e=>by have:=hr i e;exact ⟨this.2.1,this.2.2.1⟩),d.step a (fun i e hi=>⟨.inl ((hr i e).1 hi),(hr i e).2.2.2.2.1⟩) (fun _ hi=>.inl hi),o.step a (fun i e hi=>⟨.inl ((hr i e).1 hi),(hr i e).2.2.2.2.2⟩) (fun _ hi=>.inl hi),j,m,
  k.grown a (fun e=>by have:=hr _ e.symm;omega),f,b.grown a b.size (fun i e=>(hr i e).2.1)⟩
theorem SSt.call (h:SSt w W g A n c day fv ov kb l) (b:W.grownBy w' (some g)) (t:Mk w' w.heap.size g A n c day fv):SSt w w' g A n c day fv ov kb l:=by
 obtain ⟨h1,p,r,m,k,j,q,o⟩:=h;have f:Zbp TA W g:=h1.hidden (by decide);have s:kb≠g:=by
  obtain ⟨⟨a,hm⟩,_⟩:=h1;exact j.ne hm (by decide)
 exact ⟨t,p.step b (fun i e _=>by injection e with e;subst e;exact ⟨.inl f,fun d=>(m _ d).2 rfl⟩) (fun _ hi=>.inl hi),r.step b (fun i e _=>by injection e with e;subst e;exact ⟨.inl f,fun d=>k _ d rfl⟩) (fun _ hi=>.inl hi),m,k,
  j.grown b (fun e=>by injection e with e;exact s e),q,o.grown b o.size (fun i e=>by injection e with e;subst e;exact h1.base)⟩
theorem SSt.setday (h:SSt w W g A n c day fv ov kb l) (d:Int):SSt w (W.setCell ⟨g,2,none⟩ (Z G d)) g A n c d fv ov kb l:=by
 obtain ⟨⟨⟨a,hm⟩,y,q,v⟩,t,x,r,o,m,u,s⟩:=h;have j:=Zaj W g 2 (Z G d);have k:Zbp TA W g:=hm.hidden (by decide);have z:kb≠g:=m.ne hm (by decide);have f:=hm.set 2 (Z G d);simp only [pB,pZ,pC] at f;exact ⟨⟨⟨a,f⟩,y.grown j (fun a e b=>by injection b with b;have:=q a e;omega),q,v⟩,t.step j (fun i e _=>by injection e with e;subst e;exact ⟨.inl k,fun b=>(r _ b).2 rfl⟩) (fun _ hi=>.inl hi),x.step j (fun i e _=>by injection e with e;subst e;exact ⟨.inl k,fun b=>o _ b rfl⟩) (fun _ hi=>.inl hi),r,o,
  m.far (p:=⟨g,2,none⟩) z _,u,s.grown j s.size (fun i e=>by injection e with e;omega)⟩
end
def Yh6 (W:World) (ab:Nat):Zdi->Prop
 | .fil f=>∃ dv cv ev,Blk W ab 48 (f.vals dv cv ev)/\Zg3 TA [] W f dv cv ev
 | .oth _ vs=>Blk W ab 48 vs
def Wip (kd:Int) (i:Nat) (bd:Bool):Zdi->Prop
 | .fil f=>kd=0/\Zv3 i f/\(0<=f.day/\f.day<=100000)/\(0<=f.known/\f.known<=100)
 | .oth k vs=>k=kd/\1<=k/\k<=21/\Ycz k vs/\(bd=true->∃ x,vs[1]?=some (Z G x))
def XSt (w W:World) (g:Nat) (A:Option Addr) (n c:Nat) (day:Int) (fv ov:Value) (kb:Nat) (l:List Zdi) (ab:Nat) (kd:Int) (bd:Bool):Prop :=
 SSt w W g A n c day fv ov kb l/\(w.heap.size<ab/\ab≠g/\ab≠kb/\fv.ownBlock≠some ab/\ov.ownBlock≠some ab)/\∃ it,Yh6 W ab it/\Wip kd (Zav l).length bd it
section
variable {w W w':World} {g:Nat} {A:Option Addr} {n c:Nat} {day:Int} {fv ov:Value} {kb:Nat} {l:List Zdi} {ab:Nat} {kd:Int} {bd:Bool}
theorem Yh6.step (h:Yh6 W ab it) {row:Option Nat} (a:W.grownBy w' row) (hr:∀ i,row=some i->(i<W.heap.size->Zbp TA W i)/\i≠ab):Yh6 w' ab it:=by
 cases it with
 | fil f =>
  obtain ⟨dv,cv,ev,h1,b⟩:=h;exact ⟨dv,cv,ev,h1.grown a (fun e=>(hr _ e.symm).2 rfl),b.step a (fun i e hi=>(hr i e).1 hi)⟩
 | oth k vs=>exact Blk.grown h a (fun e=>(hr _ e.symm).2 rfl)
theorem XSt.step (h:XSt w W g A n c day fv ov kb l ab kd bd) {row:Option Nat} (a:W.grownBy w' row) (hr:∀ i,row=some i->(i<W.heap.size->Zbp TA W i)/\w.heap.size<=i/\i≠g/\i≠kb/\fv.ownBlock≠some i/\ov.ownBlock≠some i/\i≠ab):XSt w w' g A n c day fv ov kb l ab kd bd:=by
 obtain ⟨h1,b,it,f,d⟩:=h;exact ⟨h1.step a (fun i e=>by have:=hr i e;exact ⟨this.1,this.2.1,this.2.2.1,this.2.2.2.1,this.2.2.2.2.1,this.2.2.2.2.2.1⟩),b,it,f.step a (fun i e=>by have:=hr i e;exact ⟨this.1,this.2.2.2.2.2.2⟩),d⟩
theorem XSt.call (h:XSt w W g A n c day fv ov kb l ab kd bd) (b:W.grownBy w' (some g)) (d:Mk w' w.heap.size g A n c day fv):XSt w w' g A n c day fv ov kb l ab kd bd:=by
 obtain ⟨h1,a,it,j,f⟩:=h;exact ⟨h1.call b d,a,it,j.step b (fun i e=>by injection e with e;subst e;exact ⟨fun _=>h1.1.hidden (by decide),fun e=>a.2.1 e.symm⟩),f⟩
theorem Yh6.blk (h:Yh6 W ab it) (d:Wip kd (Zav l).length bd it):∃ vs,Blk W ab 48 vs/\vs.size=19/\(∃ x,vs[1]?=some x)/\(∃ x,vs[2]?=some x)/\(∃ x,vs[7]?=some (Z G x))/\vs.all (·.oneCell')=true:=by
 cases it with
 | fil f =>
  obtain ⟨dv,cv,ev,h1,b⟩:=h;obtain ⟨q,m,r,o,j,p,rfl,rfl,rfl⟩:=b.forms;exact ⟨_,h1,rfl,⟨_,rfl⟩,⟨_,rfl⟩,⟨0,rfl⟩,by kernel_rfl⟩
 | oth k vs =>
  have a:=d.2.2.2.1;have h1:1<vs.size:=by rw [a.1];omega
  have b:2<vs.size:=by rw [a.1];omega
  exact ⟨vs,h,a.1,⟨_,eh h1⟩,⟨_,eh b⟩,a.2.2.2.1,a.all⟩
theorem XSt.has (h:XSt w W g A n c day fv ov kb l ab kd bd) (i:Nat) (hi:i<19):(∃ u,W.cell? ⟨ab,i,none⟩=some u)/\W.frozen? ⟨ab,i,none⟩=false:=by
 obtain ⟨h1,f,it,d,b⟩:=h;obtain ⟨vs,a,j,_⟩:=d.blk b;have:i<vs.size:=by omega
 exact ⟨⟨vs[i],a.cellAt i _ (eh this)⟩,a.frozen i⟩
theorem XSt.num7 (h:XSt w W g A n c day fv ov kb l ab kd bd):∃ x,W.cell? ⟨ab,7,none⟩=some (Z G x):=by
 obtain ⟨h1,j,it,f,b⟩:=h;obtain ⟨vs,d,k,_,_,⟨x,a⟩,_⟩:=f.blk b;exact ⟨x,d.cellAt 7 _ a⟩
theorem XSt.put (h:XSt w W g A n c day fv ov kb l ab kd bd) (i:Nat) (x:Int) (hi:(i=1/\0<=x/\x<=100000)∨(i=2/\0<=x/\x<=100)∨(i=7/\kd≠0)) (m:Bool) (K:m=true->i=1∨bd=true):XSt w (W.setCell ⟨ab,i,none⟩ (Z G x)) g A n c day fv ov kb l ab kd m:=by
 obtain ⟨h1,d,it,s,t⟩:=h;have C:=Zaj W ab i (Z G x);have v:Zbp TA W ab:=by
  obtain ⟨vs,o,_⟩:=s.blk t;exact o.hidden (by decide)
 refine ⟨h1.step C (fun k e=>by injection e with e;subst e;exact ⟨fun _=>v,by omega,d.2.1,d.2.2.1,d.2.2.2.1,d.2.2.2.2⟩),d,?_⟩;cases it with
 | fil f =>
  obtain ⟨dv,cv,ev,o,J⟩:=s;obtain ⟨p,B,hd,hn⟩:=t;have j:=J.step C (fun k e _=>by injection e with e;subst e;exact v);rcases hi with ⟨rfl,a,b⟩ | ⟨rfl,a,b⟩ | ⟨_,b⟩
  ·exact ⟨.fil { f with day:=x },⟨dv,cv,ev,o.set 1 _,j⟩,p,B,⟨a,b⟩,hn⟩
  ·exact ⟨.fil { f with known:=x },⟨dv,cv,ev,o.set 2 _,j⟩,p,B,hd,a,b⟩
  ·exact absurd p b
 | oth k vs =>
  obtain ⟨e,a,b,z,E⟩:=t;refine ⟨.oth k (vs.setIfInBounds i (Z G x)),Blk.set s i _,e,a,b,z.set i _ rfl ?_ (fun _=>⟨x,rfl⟩) (fun _=>⟨x,rfl⟩),fun u=>?_⟩
  ·rcases hi with ⟨rfl,_⟩ | ⟨rfl,_⟩ | ⟨rfl,_⟩ <;> omega
  ·by_cases r:i=1
   ·subst r;exact ⟨x,by rw [eu (by rw [z.1];omega)]⟩
   ·rcases K u with q | q
    ·exact absurd q r
    ·obtain ⟨y,hy⟩:=E q;exact ⟨y,by rw [bw r];exact hy⟩
theorem XSt.num1 (h:XSt w W g A n c day fv ov kb l ab kd true):∃ x,W.cell? ⟨ab,1,none⟩=some (Z G x):=by
 obtain ⟨h1,m,it,a,d⟩:=h;cases it with
 | fil f =>
  obtain ⟨dv,cv,ev,j,o⟩:=a;exact ⟨f.day,j.cell 1⟩
 | oth k vs =>
  obtain ⟨x,b⟩:=d.2.2.2.2 rfl;exact ⟨x,Blk.cellAt a 1 _ b⟩
end
theorem Zbv.blk {base:Nat} {e:TypeId} {size:Nat} {v:Value} {ds:List D} (h:Zbv ts H w base e size v ds) (i:Nat) (hi:v.ownBlock=some i):∃ cs,Blk w i e cs:=by
 obtain ⟨n,d,h1,_⟩:=h;rcases h1.2 with ⟨rfl,_⟩ | ⟨g,cap,a,rfl,_,b,_⟩
 ·simp [Value.ownBlock] at hi
 ·injection hi with hi;have hi:g=i:=hi;subst hi;exact ⟨a,b⟩
def SSx (w W:World) (g:Nat) (A:Option Addr) (n c:Nat) (day:Int) (fv ov:Value) (kb:Nat) (fl:List Fil) (l:List Zdi):Prop :=
 Mk W w.heap.size g A n c day fv/\Zbv TA [] W w.heap.size 48 19 fv (fl.flatMap Fil.cells)/\Zbv TA [] W w.heap.size 48 19 ov (l.flatMap Zdi.cells)/\(∀ i,fv.ownBlock=some i->ov.ownBlock≠some i/\i≠g)/\(∀ i,ov.ownBlock=some i->i≠g)/\Blk W kb 3 (Zdj Zg6).toArray/\w.heap.size<=kb/\Bl w W
theorem SSx.out {n c:Nat} {day:Int} {fv:Value} {l p:List Zdi} (h:SSx w W g A n c day fv ov kb fl l) (ho:Zbv TA [] w' w.heap.size 48 19 v' (p.flatMap Zdi.cells)) (d:W.grownBy w' ov.ownBlock) (hl:v'.ownBlock=ov.ownBlock∨v'.ownBlock=some W.heap.size):SSx w w' g A n c day fv v' kb fl p:=by
 obtain ⟨h1,o,f,k,r,q,t,s⟩:=h;have b:=f.lt;have m:=o.lt;have u:=h1.lt;refine ⟨h1.step d (fun i e=>⟨(b i e).1,r i e⟩),o.step d (fun i e _=>?_) (fun _ hi=>.inl hi),ho,fun i e=>⟨fun a=>?_,(k i e).2⟩,fun i e=>?_,q.grown d (fun e=>?_),t,s.grown d s.size (fun i e=>(b i e).1)⟩
 ·obtain ⟨cs,j⟩:=f.blk i e;exact ⟨.inl (j.hidden (by decide)),fun a=>(k i a).1 e⟩
 ·rcases hl with hl | hl
  ·exact (k i e).1 (hl ▸ a)
  ·rw [hl] at a;injection a with a;have:=(m i e).2;omega
 ·rcases hl with hl | hl
  ·exact r i (hl ▸ e)
  ·rw [hl] at e;injection e with e;omega
 ·obtain ⟨cs,j⟩:=f.blk kb e.symm;exact q.ne j (by decide) rfl
theorem SSx.files {n c:Nat} {day:Int} {fv:Value} {f:List Fil} {l:List Zdi} (h:SSx w W g A n c day fv ov kb fl l) (ho:Zbv TA [] w' w.heap.size 48 19 v' (f.flatMap Fil.cells)) (k:W.grownBy w' fv.ownBlock) (hl:v'.ownBlock=fv.ownBlock∨v'.ownBlock=some W.heap.size):SSx w (w'.setCell ⟨g,3,none⟩ v') g A n c day v' ov kb f l:=by
 obtain ⟨h1,s,B,r,z,x,K,q⟩:=h;have v:=B.lt;have d:=s.lt;have M:=h1.lt;have j:v'.ownBlock≠some g:=fun e=>by
  rcases hl with hl | hl
  ·exact (r g (hl ▸ e)).2 rfl
  ·rw [hl] at e;injection e with e;omega
 have C:Mk w' w.heap.size g A n c day fv:=h1.step k (fun i e=>⟨(d i e).1,(r i e).2⟩);have y:Zbp TA w' g:=C.hidden (by decide);have o:=Zaj w' g 3 v';have t:kb≠g:=by
  obtain ⟨⟨a,hm⟩,_⟩:=h1;exact x.ne hm (by decide)
 have J:Blk w' kb 3 (Zdj Zg6).toArray:=x.grown k (fun e=>by
  obtain ⟨cs,u⟩:=s.blk kb e.symm;exact x.ne u (by decide) rfl)
 obtain ⟨⟨a,hm⟩,N,E,L⟩:=C;have m:=hm.set 3 v';simp only [pB,pZ,pC] at m;refine ⟨⟨⟨a,m⟩,N.grown o (fun a e b=>by injection b with b;have:=E a e;omega),E,L⟩,ho.step o (fun i e _=>by injection e with e;subst e;exact ⟨.inl y,j⟩) (fun _ hi=>.inl hi),(B.step k (fun i e _=>?_) (fun _ hi=>.inl hi)).step o (fun i e _=>by injection e with e;subst e;exact ⟨.inl y,fun b=>z _ b rfl⟩) (fun _ hi=>.inl hi),fun i e=>⟨fun b=>?_,fun b=>j (b ▸ e)⟩,z,J.far (p:=⟨g,3,none⟩) t _,K,(q.grown k q.size (fun i e=>(d i e).1)).grown o (q.grown k q.size (fun i e=>(d i e).1)).size (fun i e=>by injection e with e;omega)⟩
 ·obtain ⟨cs,u⟩:=s.blk i e;exact ⟨.inl (u.hidden (by decide)),(r i e).1⟩
 ·rcases hl with hl | hl
  ·exact (r i (hl ▸ e)).1 b
  ·rw [hl] at e;injection e with e;have:=(v i b).2;omega
theorem Ya0 {n c:Nat} {day:Int} {fv:Value} {l:List Zdi} {o:Obj} (h:SSx w W g A n c day fv ov kb fl l) (a:W.grownBy (W.alloc o) none):SSx w (W.alloc o) g A n c day fv ov kb fl l:=by
 obtain ⟨h1,d,m,p,k,j,f,b⟩:=h;exact ⟨h1.step a (fun _ e=>by cases e),d.step a (fun _ e=>by cases e) (fun _ hi=>.inl hi),m.step a (fun _ e=>by cases e) (fun _ hi=>.inl hi),p,k,j.grown a (by simp),f,b.grown a b.size (fun _ e=>by cases e)⟩
theorem Yeo {l:List Zdi} {k:Int} {vs:Array Value} (h:Zx8 l) (hl:l.length<=13) (b:1<=k/\k<=21) (d:Ycz k vs):Zx8 (l++[.oth k vs])/\Zav (l++[.oth k vs])=Zav l:=by
 have e:Zav (l++[.oth k vs])=Zav l:=by rw [Zjz];simp [Zav]
 refine ⟨⟨by simp;omega,fun x a=>?_,by rw [e];exact h.2.2⟩,e⟩;rcases List.mem_append.1 a with a | a
 ·exact h.2.1 x a
 ·rw [List.mem_singleton.1 a];exact ⟨b.1,b.2,d⟩
theorem Yep {l:List Zdi} {f:Fil} (h:Zx8 l) (hl:l.length<=13) (j:Zv3 (Zav l).length f) (hd:0<=f.day/\f.day<=100000) (hn:0<=f.known/\f.known<=100):Zx8 (l++[.fil f])/\Zav (l++[.fil f])=Zav l++[f]:=by
 have e:Zav (l++[.fil f])=Zav l++[f]:=by rw [Zjz];simp [Zav]
 have k:=Zi0 l;have d:Yi4 (Zav l++[f]):=by
  refine ⟨by simp;omega,fun i hi=>?_⟩;by_cases b:i<(Zav l).length
  ·rw [List.getElem_append_left b];exact h.2.2.2 i b
  ·have:i=(Zav l).length:=by simp at hi;omega
   subst this;rw [List.getElem_append_right (ag _)];simp only [ic,List.getElem_cons_zero];exact ⟨j,hd.1,hd.2,hn.1,hn.2⟩
 refine ⟨⟨by simp;omega,fun x a=>?_,by rw [e];exact d⟩,e⟩;rcases List.mem_append.1 a with a | a
 ·exact h.2.1 x a
 ·rw [List.mem_singleton.1 a];trivial
theorem Zb0.more {v:List Value} {d:List D} (h:Zb0 ts H w v d) (f:∀ i∈H',i∈H∨Zbp ts w i):Zb0 ts H' w v d :=
 Zax.mono (fun p u _ b=>by
  obtain ⟨h1,a,j⟩:=Za8.1 b;refine Za8.2 ⟨h1,a,fun e=>?_⟩;rcases f _ e with h | h
  ·exact j h
  ·exact a h) (ag _) h
theorem Zt6 {vs:Array Value} (h:vs.size=19):∃ u z q x v s t B r y j m o p a f d k b,vs=#[u,z,q,x,v,s,t,B,r,y,j,m,o,p,a,f,d,k,b]:=by
 obtain ⟨l⟩:=vs;rw [ef] at h
 match l,h with
 | [u,z,q,x,v,s,t,B,r,y,j,m,o,p,a,f,d,k,b],_=>exact ⟨u,z,q,x,v,s,t,B,r,y,j,m,o,p,a,f,d,k,b,rfl⟩
theorem Znz (mo:Nat) (f7:mo<=14) (A:Option Addr) (n c:Nat) (w:World) (hA:Zb9 w A n) (ds:∀ a,A=some a->a.block<w.heap.size) :
  Calls prog 8 #[I A n c,Z G (mo:Int)] w fun e w'=>∃ u l,e=.returned u/\Zbv TA [] w' w.heap.size 48 19 u (l.flatMap Zdi.cells)/\Zx8 l/\Bl w w':=by
 have B0:=Blk.new w 77 #[I A n c,Z G 0,Z G 36000,I none 0 0];have P0:=Zab w (O #[I A n c,Z G 0,Z G 36000,I none 0 0] 77);have M0:Mk (w.alloc (O #[I A n c,Z G 0,Z G 36000,I none 0 0] 77)) w.heap.size w.heap.size A n c 36000 (I none 0 0):=⟨⟨0,B0⟩,hA.grown (ao w _ none) (fun _ _ e=>by cases e),ds,ag _⟩
 have eg:(w.alloc (O #[I A n c,Z G 0,Z G 36000,I none 0 0] 77)).heap.size=w.heap.size+1:=ax ..;clear hA ds B0;go_enter func8,ntmps8;go_upto_region 3 with fail;generalize w.alloc _=w1 at *;have R1:=Blk.newAt (t:=3) (cs:=(Zdj Zg6).toArray) eg;have Y:=ao w1 (O (Zdj Zg6).toArray 3) none;have S1:SSt w (w1.alloc (O (Zdj Zg6).toArray 3)) w.heap.size A n c 36000 (I none 0 0) (I none 0 0) (w.heap.size+1) [] :=
  ⟨M0.step Y (fun _ e=>by cases e),Zbv.nil ..,Zbv.nil ..,fun i e=>by simp [Value.ownBlock] at e,fun i e=>by simp [Value.ownBlock] at e,R1,by omega,P0.grown Y P0.size (fun _ e=>by cases e)⟩
 have C:=ae S1;clear R1 Y S1 M0 P0;go_upto_region 5 with fail;go_loopw [6,8] (fun u j wr=>∃ (l:List Zdi) (dy:Int) (fv:Value),j=Z G (l.length:Int)/\Zx8 l/\(36000<=dy/\dy<=36000+119 * (l.length:Int))/\SSt w wr w.heap.size A n c dy fv u (w.heap.size+1) l) (fun _ j _=>14 - (intOf j).toNat)
 case atStart=>exact ⟨[],36000,_,rfl,Yen,⟨by simp,by simp⟩,C.out⟩
 case round =>
  obtain ⟨l,dy,fv,rfl,hl,hd,hS⟩:=hrel;clear C eg;have en:=hl.1;obtain ⟨⟨at_,hm⟩,_⟩:=hS.1;have fs:wr.cell? ⟨w.heap.size,1,none⟩=some (Z G at_):=hm.cell 1;obtain ⟨T,no,M,rfl,e4,_⟩:=hS.2.2.1.slice;have cb:=hl.cells;obtain rfl:no=l.length:=by omega
  have C:=ae hS;have HL:=ae hl;clear hS hl hm cb e4;by_cases ck:at_<(n:Int)
  ·have ea:=decide_eq_true ck;by_cases hk:l.length<mo
   ·have ek:=decide_eq_true hk;go_upto_region 7 with fail;clear ea ek fs ck;go_cut [] (fun v=>∃ o:Int,(36000<=o/\o<=36000+119 * ((l.length:Int)+1))/\SSt w v w.heap.size A n c o fv (I T l.length M) (w.heap.size+1) l)
    case first =>
     refine wp_region_held_drew (S:=(fun W=>∃ dd:Int,SSt w W w.heap.size A n c dd fv (I T l.length M) (w.heap.size+1) l)) (by kernel_rfl) ?_ (fun b=>?_)
     ·first | done | ((try dsimp only);exact ⟨dy,C.out.step (Zat wr none) (fun _ e=>by cases e)⟩)
     have q:=C.out.step (Zat wr none) (fun _ e=>by cases e);clear C;refine tq 0 30 rfl ?_;refine tq 1 31 rfl ?_;refine tq 2 32 rfl ?_;refine tq 3 33 rfl ?_;refine tq 5 35 rfl ?_;refine rd2 4 (some 34) 6 (some 36) (by kernel_rfl) rfl rfl (fun K s=>?_) fun K s=>?_
     ·skip;obtain ⟨⟨bx,B⟩,_⟩:=q.1;have P:wr.drew.cell? ⟨w.heap.size,2,none⟩=some (Z G dy):=B.cell 2;go_simp;skip;refine s.out _ _ (b) fun b=>?_;clear s K;(try simp only [pS,pB,pZ,pC]);clear P B bx;refine rd 6 (some 36) rfl fun K s=>?_;go_simp;(refine (Zak q.1 120 (by omega) (by omega)).mono ?_;rintro e w6 ⟨⟨r,rfl,b3,bz⟩,g6,M6⟩);refine s.out _ _ (⟨dy,q.call g6 M6⟩) fun b=>?_;clear s K;(try simp only [pS,pB,pZ,pC]);have q:=q.call g6 M6;clear g6 M6;refine tq 7 37 rfl ?_;refine tq 8 38 rfl ?_;refine tq 9 39 rfl ?_;obtain ⟨⟨bx,B⟩,_⟩:=q.1;have P:=B.cell 2;have cc:=B.frozen 2;refine rd 10 none rfl fun K s=>?_;go_simp;refine s.out _ _ ?_ (fun b=>?_)
      ·exact ⟨_,q.setday (IntKind.i64.wrap (dy+r))⟩
      clear s K P cc;(try simp only [Act.put]);refine dn ?_;go_wp2_with fail;go_meet;have an:IntKind.i64.wrap (dy+r)=dy+r:=by rw [az];omega
      exact ⟨IntKind.i64.wrap (dy+r),⟨by rw [an];omega,by rw [an];omega⟩,q.setday _⟩
     ·skip;go_simp;(refine (Zak q.1 120 (by omega) (by omega)).mono ?_;rintro e w6 ⟨⟨r,rfl,b3,bz⟩,g6,M6⟩);refine s.out _ _ (⟨dy,q.call g6 M6⟩) fun b=>?_;clear s K;(try simp only [pS,pB,pZ,pC]);have q:=q.call g6 M6;clear g6 M6;obtain ⟨⟨bx,B⟩,_⟩:=q.1;have P:w6.cell? ⟨w.heap.size,2,none⟩=some (Z G dy):=B.cell 2;refine rd 4 (some 34) rfl fun K s=>?_;go_simp;skip;refine s.out _ _ (b) fun b=>?_;clear s K;(try simp only [pS,pB,pZ,pC]);clear P B bx;refine tq 7 37 rfl ?_;refine tq 8 38 rfl ?_;refine tq 9 39 rfl ?_;obtain ⟨⟨bx,B⟩,_⟩:=q.1;have P:=B.cell 2;have cc:=B.frozen 2;refine rd 10 none rfl fun K s=>?_;go_simp;refine s.out _ _ ?_ (fun b=>?_)
      ·exact ⟨_,q.setday (IntKind.i64.wrap (dy+r))⟩
      clear s K P cc;(try simp only [Act.put]);refine dn ?_;go_wp2_with fail;go_meet;have an:IntKind.i64.wrap (dy+r)=dy+r:=by rw [az];omega
      exact ⟨IntKind.i64.wrap (dy+r),⟨by rw [an];omega,by rw [an];omega⟩,q.setday _⟩
    case rest =>
     obtain ⟨o,b4,el⟩:=hcut;obtain ⟨w3,rfl⟩:∃ z:World,z=wc:=⟨_,rfl⟩;clear C hd;have C:=ae el;clear el;go_wp2_with fail;refine (Zak C.out.1 40 (by omega) (by omega)).mono ?_;rintro e w4 ⟨⟨r,rfl,b3,bz⟩,g4,M4⟩;obtain ⟨ii,rfl⟩:∃ ii:Nat,r=(ii:Int):=⟨r.toNat,by omega⟩
     have b7:ii<40:=by omega
     have b8:ii<Zg6.length:=b7;have C:=ae (C.out.call g4 M4);have fm:w4.cell? ⟨w.heap.size+1,ii,none⟩=some (Z G Zg6[ii]):=C.out.2.2.2.2.2.1.cellAt ii _ (by rw [ep];exact Zbx Zg6 ii b8);have hx:=Yaz _ (aw b8);generalize Zg6[ii]=x at *;clear g4 M4 b3 bz;go_upto_region 9 with fail;clear fm b8 b7;go_cut [48] (fun u v=>(∃ bb:Bool,u=.bool bb)/\SSt w v w.heap.size A n c o fv (I T l.length M) (w.heap.size+1) l)
     case first =>
      by_cases h0:l.length=0
      ·have e0:((l.length:Int) == 0)=true:=by simp [h0]
       go_wp2_with fail;go_meet;exact ⟨⟨_,rfl⟩,C.out⟩
      ·have e0:((l.length:Int) == 0)=false:=by rw [beq_eq_false_iff_ne];omega
       go_wp2_with fail;go_meet;exact ⟨⟨_,rfl⟩,C.out⟩
     case rest =>
      obtain ⟨⟨bb,rfl⟩,S5⟩:=hcut;obtain ⟨w5,rfl⟩:∃ z:World,z=wc:=⟨_,rfl⟩;clear C;rename_i y;refine y _ _ ?_;clear y;go_cut [9] (fun u v=>(∃ kd:Int,u=Z G kd/\0<=kd/\kd<=21)/\SSt w v w.heap.size A n c o fv (I T l.length M) (w.heap.size+1) l)
      case first =>
       cases bb with
       | false =>
        go_wp2_with fail;go_meet;exact ⟨⟨x,rfl,hx⟩,S5⟩
       | true =>
        go_wp2_with fail;go_meet;exact ⟨⟨0,rfl,by omega,by omega⟩,S5⟩
      case rest =>
       obtain ⟨⟨kd,rfl,c7⟩,S6⟩:=hcut;obtain ⟨w6,rfl⟩:∃ z:World,z=wc:=⟨_,rfl⟩;clear S5 hx;have bs:=ae S6;clear S6;have Yz:=Blk.new w6 48 #[iI 0,iI 0,iI 0,iI 0,iI 0,iI 0,iI 0,iI 0,iI 0,iI 0,iI 0,nN,nN,nN,nN,iI 0,iI 0,nN,nN];go_upto_region 12 with (refine Zae Yz rfl _ _ rfl rfl rfl _ rfl rfl (by kernel_rfl) ?_;intro w7 Y7 g7)
       have Y:=ao w6 (O #[iI 0,iI 0,iI 0,iI 0,iI 0,iI 0,iI 0,iI 0,iI 0,iI 0,iI 0,nN,nN,nN,nN,iI 0,iI 0,nN,nN] 48) none;have ce:=bs.out.1.lt;have eo:=bs.out.2.2.2.2.2.1.lt;have d6:=bs.out.2.1.lt;have d5:=bs.out.2.2.1.lt;have e6:w.heap.size<w6.heap.size:=ce;have m:w.heap.size<w6.heap.size/\w6.heap.size≠w.heap.size/\w6.heap.size≠w.heap.size+1/\fv.ownBlock≠some w6.heap.size/\(Value.slice T l.length M).ownBlock≠some w6.heap.size:=⟨ce,by omega,by omega,fun e=>by have:=(d6 _ e).2;omega,fun e=>by have:=(d5 _ e).2;omega⟩
       have S7:=(bs.out.step Y (fun _ e=>by cases e)).step g7 (fun i e=>by injection e with e;subst e;exact ⟨fun _=>Yz.hidden (by decide),by omega,m.2.1,m.2.2.1,m.2.2.2.1,m.2.2.2.2⟩);clear bs Yz Y g7 ce eo d6 d5 e6;generalize w6.heap.size=ab at *;simp only [Act.put];go_cut [51] (fun u v=>(∃ bb:Bool,u=.bool bb/\(bb=true->kd=0)/\(bb=false->1<=kd))/\Blk v ab 48 #[iI 0,iI 0,iI 0,iI 0,iI 0,iI 0,iI 0,iI 0,iI 0,iI 0,iI 0,nN,nN,nN,nN,iI 0,iI 0,nN,nN]/\SSt w v w.heap.size A n c o fv (I T l.length M) (w.heap.size+1) l)
       case first =>
        by_cases h0:kd=0
        ·have e0:(kd == 0)=true:=by simp [h0]
         go_wp2_with fail;go_meet;exact ⟨⟨_,rfl,fun _=>h0,fun h=>by cases h⟩,Y7,S7⟩
        ·have e0:(kd == 0)=false:=by rw [beq_eq_false_iff_ne];omega
         go_wp2_with fail;go_meet;exact ⟨⟨_,rfl,fun h=>(by cases h),fun _=>(by omega)⟩,Y7,S7⟩
       case rest =>
        obtain ⟨⟨f0,rfl,cm,d3⟩,Y8,S8⟩:=hcut;obtain ⟨w8,rfl⟩:∃ z:World,z=wc:=⟨_,rfl⟩;clear Y7 S7;rename_i y;refine y _ _ ?_;clear y;go_cut [] (fun v=>XSt w v w.heap.size A n c o fv (I T l.length M) (w.heap.size+1) l ab kd false)
        case first =>
         have bh:=ae S8;have ej:=Zi0 l;clear S8;cases f0 with
         | true =>
          obtain rfl:=cm rfl;go_wp2_with fail;refine (Zru bh.out.1 bh.out.2.1 HL.out.2.2 (by omega)).mono ?_;rintro e w9 ⟨⟨f,dv,cv,ev,rfl,bn,ci,f1,b6⟩,J,M9⟩;obtain ⟨Q,V,N,U,R,X,rfl,rfl,rfl⟩:=bn.forms;have Y9:=Y8.grown J (fun e=>by injection e with e;exact m.2.1 e);have S9:=bh.out.call J M9;clear bh Y8 J M9;go_wp2_with (refine Zae Y9 rfl _ _ rfl rfl rfl _ rfl rfl (by kernel_rfl) ?_;intro wA YA gA);go_meet;exact ⟨S9.step gA (fun i e=>by injection e with e;subst e;exact ⟨fun _=>Y9.hidden (by decide),by omega,m.2.1,m.2.2.1,m.2.2.2.1,m.2.2.2.2⟩),⟨m.1,m.2.1,m.2.2.1,m.2.2.2.1,m.2.2.2.2⟩,.fil f,⟨_,_,_,YA,bn.step gA (fun i e _=>by injection e with e;subst e;exact Y9.hidden (by decide))⟩,rfl,ci,by omega,by omega⟩
         | false =>
          have d2:=d3 rfl;go_wp2_with fail;refine (Zt5 bh.out.1 bh.out.2.1 (by omega) kd ⟨d2,c7.2⟩).mono ?_;rintro e w9 ⟨⟨vs,rfl,bp⟩,J,M9⟩;have Y9:=Y8.grown J (fun e=>by injection e with e;exact m.2.1 e);have S9:=bh.out.call J M9;have b1:=bp.1;have b9:=bp.all;clear bh Y8 J M9;go_wp2_with (refine Zae Y9 rfl _ _ rfl rfl rfl vs rfl b1 b9 ?_;intro wA YA gA);go_meet;exact ⟨S9.step gA (fun i e=>by injection e with e;subst e;exact ⟨fun _=>Y9.hidden (by decide),by omega,m.2.1,m.2.2.1,m.2.2.2.1,m.2.2.2.2⟩),⟨m.1,m.2.1,m.2.2.1,m.2.2.2.1,m.2.2.2.2⟩,.oth kd vs,YA,rfl,d2,c7.2,bp,fun h=>by cases h⟩
        case rest =>
         have X9:=hcut;obtain ⟨w9,rfl⟩:∃ z:World,z=wc:=⟨_,rfl⟩;clear hcut Y8 S8 cm d3;have em:l.length<=13:=by omega
         obtain ⟨⟨bx,B⟩,_⟩:=X9.1.1;have P:w9.cell? ⟨w.heap.size,2,none⟩=some (Z G o):=B.cell 2;obtain ⟨⟨u1,cf⟩,b6⟩:=X9.has 1 (by omega);have d1:=ae X9;clear X9 B;go_upto_region 16 with fail;have cl:=d1.out.put 1 o (.inl ⟨rfl,by omega,by omega⟩) true (fun _=>.inl rfl);clear d1 P cf b6;generalize w9.setCell ⟨ab,1,none⟩ (Z G o)=wA at *;go_cut [64] (fun u v=>(∃ bb:Bool,u=.bool bb)/\XSt w v w.heap.size A n c o fv (I T l.length M) (w.heap.size+1) l ab kd true)
         case first =>
          have q:=ae cl;clear cl;go_wp2_with fail;refine (Zak q.out.1.1 6 (by omega) (by omega)).mono ?_;rintro e wB ⟨⟨r,rfl,b3,bz⟩,gB,MB⟩;have XB:=ae (q.out.call gB MB);clear q gB MB;go_wp2_with fail;go_meet;exact ⟨⟨_,rfl⟩,XB.out⟩
         case rest =>
          obtain ⟨⟨ft,rfl⟩,XB⟩:=hcut;obtain ⟨wB,rfl⟩:∃ z:World,z=wc:=⟨_,rfl⟩;clear cl;rename_i y;refine y _ _ ?_;clear y;go_cut [] (fun v=>XSt w v w.heap.size A n c o fv (I T l.length M) (w.heap.size+1) l ab kd true)
          case first =>
           cases ft with
           | false =>
            go_wp2_with fail;go_meet;exact XB
           | true =>
            go_upto_region 17 with fail;refine wp_region_held_drew (S:=(fun W=>XSt w W w.heap.size A n c o fv (I T l.length M) (w.heap.size+1) l ab kd true)) (by kernel_rfl) ?_ (fun b=>?_)
            ·first | done | ((try dsimp only);exact XB.step (Zat wB none) (fun _ e=>by cases e))
            clear XB;refine tq 0 65 rfl ?_;refine tq 1 66 rfl ?_;refine tq 2 67 rfl ?_;refine tq 3 68 rfl ?_ (hy:=by intro w' dz;(try dsimp only at dz);obtain ⟨⟨dr,b5⟩,_⟩:=dz.1.1;have hc:w'.cell? ⟨w.heap.size,2,none⟩=some (Z G o):=b5.cell 2;go_simp;try (with_reducible rfl));refine tq 4 69 rfl ?_;refine rd 5 (some 70) rfl fun K s=>?_;go_simp;(refine (Zak b.1.1 400 (by omega) (by omega)).mono ?_;rintro e wC ⟨⟨r,rfl,b3,bz⟩,gC,MC⟩);refine s.out _ _ (b.call gC MC) fun b=>?_;clear s K;(try simp only [pS,pB,pZ,pC]);refine tq 6 71 rfl ?_;refine tq 7 72 rfl ?_;obtain ⟨⟨u1,cf⟩,b6⟩:=b.has 1 (by omega);have an:IntKind.i64.wrap (o - r)=o - r:=by rw [az];omega
            have d0:=ae an;clear an;refine rd 8 none rfl fun K s=>?_;go_simp;refine s.out _ _ ?_ (fun b=>?_)
            ·exact b.put 1 (IntKind.i64.wrap (o - r)) (.inl ⟨rfl,by rw [d0.out];omega,by rw [d0.out];omega⟩) true (fun _=>.inl rfl)
            clear s K cf b6;(try simp only [Act.put]);refine dn ?_;go_wp2_with fail;go_meet;exact b
          case rest =>
           have XC:=hcut;obtain ⟨wC,rfl⟩:∃ z:World,z=wc:=⟨_,rfl⟩;clear hcut XB;obtain ⟨⟨u2,e5⟩,fn⟩:=XC.has 2 (by omega);have c3:=ae XC;clear XC;go_upto_region 19 with fail;have XD:=c3.out.put 2 (4 * (l.length:Int)) (.inr (.inl ⟨rfl,by omega,by omega⟩)) true (fun _=>.inr rfl);clear c3 e5 fn;generalize wC.setCell ⟨ab,2,none⟩ (Z G (4 * (l.length:Int)))=wD at *;go_cut [85] (fun u v=>(∃ bb:Bool,u=.bool bb/\(bb=true->kd≠0))/\XSt w v w.heap.size A n c o fv (I T l.length M) (w.heap.size+1) l ab kd true)
           case first =>
            by_cases h9:kd=9
            ·have e9:(kd == 9)=true:=by simp [h9]
             go_wp2_with fail;go_meet;exact ⟨⟨_,rfl,fun _=>by omega⟩,XD⟩
            have e9:(kd == 9)=false:=by rw [beq_eq_false_iff_ne];omega
            by_cases ey:kd=17
            ·have fg:(kd == 17)=true:=by simp [ey]
             go_wp2_with fail;go_meet;exact ⟨⟨_,rfl,fun _=>by omega⟩,XD⟩
            have fg:(kd == 17)=false:=by rw [beq_eq_false_iff_ne];omega
            by_cases fo:kd=20
            ·have ez:(kd == 20)=true:=by simp [fo]
             go_wp2_with fail;go_meet;exact ⟨⟨_,rfl,fun _=>by omega⟩,XD⟩
            have ez:(kd == 20)=false:=by rw [beq_eq_false_iff_ne];omega
            go_wp2_with fail;go_meet;exact ⟨⟨_,rfl,fun h=>by cases h⟩,XD⟩
           case rest =>
            obtain ⟨⟨fe,rfl,ca⟩,XE⟩:=hcut;obtain ⟨wE,rfl⟩:∃ z:World,z=wc:=⟨_,rfl⟩;clear XD;rename_i y;refine y _ _ ?_;clear y;go_cut [] (fun v=>XSt w v w.heap.size A n c o fv (I T l.length M) (w.heap.size+1) l ab kd true)
            case first =>
             cases fe with
             | false =>
              go_wp2_with fail;go_meet;exact XE
             | true =>
              obtain ⟨x1,f6⟩:=XE.num1;obtain ⟨x7,f5⟩:=XE.num7;have f3:=(XE.has 7 (by omega)).2;have e7:=ca rfl;have fr:=ae XE;clear XE ca;go_wp2_with fail;go_meet;exact fr.out.put 7 _ (.inr (.inr ⟨rfl,e7⟩)) true (fun _=>.inr rfl)
            case rest =>
             have XF:=hcut;obtain ⟨wF,rfl⟩:∃ z:World,z=wc:=⟨_,rfl⟩;clear hcut XE ca;go_upto_region 21 with fail;go_cut [93] (fun u v=>(∃ bb:Bool,u=.bool bb/\(bb=true->kd=0)/\(bb=false->kd≠0))/\XSt w v w.heap.size A n c o fv (I T l.length M) (w.heap.size+1) l ab kd true)
             case first =>
              by_cases h0:kd=0
              ·have e0:(kd == 0)=true:=by simp [h0]
               go_wp2_with fail;go_meet;exact ⟨⟨_,rfl,fun _=>h0,fun h=>by cases h⟩,XF⟩
              ·have e0:(kd == 0)=false:=by rw [beq_eq_false_iff_ne];omega
               go_wp2_with fail;go_meet;exact ⟨⟨_,rfl,fun h=>(by cases h),fun _=>h0⟩,XF⟩
             case rest =>
              obtain ⟨⟨fx,rfl,fa,eb⟩,XG⟩:=hcut;obtain ⟨wG,rfl⟩:∃ z:World,z=wc:=⟨_,rfl⟩;clear XF;rename_i y;refine y _ _ ?_;clear y;obtain ⟨SG,L,it,ch,af⟩:=XG;have b2:=ae SG;clear SG;cases fx with
              | false =>
               have fd:=eb rfl;cases it with
               | fil f=>exact absurd af.1 fd
               | oth k vs =>
                obtain ⟨rfl,k1,k2,bp,_⟩:=af;have YA:Blk wG ab 48 vs:=ch;have b1:=bp.1;have b9:=bp.all;obtain ⟨a0,a1,a2,a3,a4,a5,a6,a7,a8,a9,bc,bg,aq,al,bf,av,aa,am,be,e1⟩:=Zt6 b1;subst e1;have Y:=ao wG (O #[a0,a1,a2,a3,a4,a5,a6,a7,a8,a9,bc,bg,aq,al,bf,av,aa,am,be] 48) none;have RA:=Blk.new wG 48 #[a0,a1,a2,a3,a4,a5,a6,a7,a8,a9,bc,bg,aq,al,bf,av,aa,am,be];have SH:=b2.out.step Y (fun _ e=>by cases e);have NA:Zb0 TA ((Value.slice T l.length M).ownBlock.toList++[]) (wG.alloc (O #[a0,a1,a2,a3,a4,a5,a6,a7,a8,a9,bc,bg,aq,al,bf,av,aa,am,be] 48)) #[a0,a1,a2,a3,a4,a5,a6,a7,a8,a9,bc,bg,aq,al,bf,av,aa,am,be].toList (Zdv #[a0,a1,a2,a3,a4,a5,a6,a7,a8,a9,bc,bg,aq,al,bf,av,aa,am,be].toList):=Zax.of_plain _ _ _;have OA:=SH.2.2.1;have cb:=HL.out.cells;have bk:=SH.2.2.2.2.2.2.2.size;have e3:=ae SH;clear ch SH Y;go_wp2_with (first | (refine Zad YA b1 _ rfl rfl rfl ?_) | (at_builtin;refine Zbt underlying23 info48 rfl (by omega) (by omega) OA RA (by rw [b1]) b9 NA (by omega) (by omega) bk rfl _ _ rfl rfl rfl ?_;intro v9 w9 o9 J l9));obtain ⟨gS,gE⟩:=Yeo HL.out (by omega) ⟨k1,k2⟩ bp;have bl:Zbv TA [] w9 w.heap.size 48 19 v9 ((l++[Zdi.oth k #[a0,a1,a2,a3,a4,a5,a6,a7,a8,a9,bc,bg,aq,al,bf,av,aa,am,be]]).flatMap Zdi.cells):=by rw [bm,de,er,bv];exact o9
                have SI:SSx w w9 w.heap.size A n c o fv v9 (w.heap.size+1) (Zav l) (l++[Zdi.oth k #[a0,a1,a2,a3,a4,a5,a6,a7,a8,a9,bc,bg,aq,al,bf,av,aa,am,be]]):=SSx.out (fl:=Zav l) (l:=l) e3.out bl J l9;go_roundw
                case rel=>exact ⟨l++[Zdi.oth k #[a0,a1,a2,a3,a4,a5,a6,a7,a8,a9,bc,bg,aq,al,bf,av,aa,am,be]],o,fv,by first | go_num | simp,gS,⟨b4.1,by have:=b4.2;simp only [ai,au,dk];omega⟩,by unfold SSt;rw [gE];exact SI⟩
                case measure=>simp [intOf];omega
              | true =>
               obtain rfl:=fa rfl;cases it with
               | oth k vs=>exact absurd af.1 (by have:=af.2.1;omega)
               | fil f =>
                obtain ⟨_,ci,fy,cx⟩:=af;obtain ⟨dv,cv,ev,YA,bn⟩:=ch;obtain ⟨Q,V,N,U,R,X,rfl,rfl,rfl⟩:=bn.forms;have ej:=Zi0 l;have d7:=Zai (l:=Zav l) (f:=Fil.cells) (k:=19) (fun x _=>x.cells_length);obtain ⟨gS,gE⟩:=Yep HL.out (by omega) ci fy cx;have cb:=HL.out.cells;have fh:=ae gS;have es:=ae gE;clear gS gE eb;go_upto_region 22 with fail;have d4:Blk wG ab 48 #[iI 0,iI f.day,iI f.known,iI f.file,iI f.office,iI f.party,iI f.other,iI 0,iI 0,iI 0,iI 0,I Q f.d.length V,I N f.c.length U,nN,I R f.e.length X,iI 0,iI 0,nN,nN]:=YA;clear YA;have YA:=d4;clear d4;go_cut [] (fun v=>∃ An nn cn,SSx w v w.heap.size A n c o (I An nn cn) (I T l.length M) (w.heap.size+1) (Zav l++[f]) l/\Blk v ab 48 #[iI 0,iI f.day,iI f.known,iI f.file,iI f.office,iI f.party,iI f.other,iI 0,iI 0,iI 0,iI 0,I Q f.d.length V,I N f.c.length U,nN,I R f.e.length X,iI 0,iI 0,nN,nN]/\Zg3 TA [] v f (I Q f.d.length V) (I N f.c.length U) (I R f.e.length X))
                case first =>
                 refine wp_region_held_drew (S:=(fun W=>Blk W ab 48 #[iI 0,iI f.day,iI f.known,iI f.file,iI f.office,iI f.party,iI f.other,iI 0,iI 0,iI 0,iI 0,I Q f.d.length V,I N f.c.length U,nN,I R f.e.length X,iI 0,iI 0,nN,nN]/\∃ (e8:Value),Mk W w.heap.size w.heap.size A n c o e8)) (by kernel_rfl) ?_ (fun b=>?_)
                 ·first | done | ((try dsimp only);exact ⟨YA.drew,fv,b2.out.1.step (Zat wG none) (fun _ e=>by cases e)⟩)
                 have q:=b2.out.step (Zat wG none) (fun _ e=>by cases e);have YX:=YA.drew;have HF:=bn.step (Zat wG none) (fun _ e=>by cases e);clear b2 YA bn;refine tq 0 94 rfl ?_;refine tq 1 95 rfl ?_;refine tq 2 96 rfl ?_;refine tq 3 97 rfl ?_;refine ty 5 99 rfl (Yhb rfl _ rfl rfl (fun _ h=>h.1) rfl) ?_;have Y:=ao (wG.drew) (O #[iI 0,iI f.day,iI f.known,iI f.file,iI f.office,iI f.party,iI f.other,iI 0,iI 0,iI 0,iI 0,I Q f.d.length V,I N f.c.length U,nN,I R f.e.length X,iI 0,iI 0,nN,nN] 48) none;have cd:=q.step Y (fun _ e=>by cases e);have RA:=Blk.new wG.drew 48 #[iI 0,iI f.day,iI f.known,iI f.file,iI f.office,iI f.party,iI f.other,iI 0,iI 0,iI 0,iI 0,I Q f.d.length V,I N f.c.length U,nN,I R f.e.length X,iI 0,iI 0,nN,nN];have ec:=YX.grown Y (by simp);have cu:=HF.step Y (fun _ e=>by cases e);obtain ⟨⟨dr,b5⟩,_⟩:=q.1;have bq:wG.drew.cell? ⟨w.heap.size,3,none⟩=some fv:=b5.cell 3;obtain ⟨⟨fb,c6⟩,_⟩:=cd.1;have c0:(wG.alloc (O #[iI 0,iI f.day,iI f.known,iI f.file,iI f.office,iI f.party,iI f.other,iI 0,iI 0,iI 0,iI 0,I Q f.d.length V,I N f.c.length U,nN,I R f.e.length X,iI 0,iI 0,nN,nN] 48)).cell? ⟨w.heap.size,3,none⟩=some fv:=c6.cell 3;clear q YX HF Y b5 c6 dr fb;have q:=cd;have YX:=ec;have HF:=cu;clear cd ec cu;refine rd2 4 (some 98) 6 (some 100) (by kernel_rfl) rfl rfl (fun K s=>?_) fun K s=>?_
                 ·skip;clear c0;go_simp;skip;refine s.out _ _ (b) fun b=>?_;clear s K;(try simp only [pS,pB,pZ,pC]);clear bq;refine rd 6 (some 100) rfl fun K s=>?_;go_simp;skip;refine s.out _ _ (⟨YX,fv,q.1⟩) fun b=>?_;clear s K;(try simp only [pS,pB,pZ,pC]);have OA:=q.2.1;have E:=q.2.1.lt;have NA:Zb0 TA (fv.ownBlock.toList++[]) _ (#[iI 0,iI f.day,iI f.known,iI f.file,iI f.office,iI f.party,iI f.other,iI 0,iI 0,iI 0,iI 0,I Q f.d.length V,I N f.c.length U,nN,I R f.e.length X,iI 0,iI 0,nN,nN]:Array Value).toList f.cells:=(Zg3.row HF).more (fun i hi=>by rw [bv] at hi;obtain ⟨cs,hb⟩:=q.2.1.blk i (Option.mem_toList.1 hi);exact .inr (hb.hidden (by decide)));have bk:=q.2.2.2.2.2.2.2.size;refine rd 7 (some 101) rfl fun K s=>?_;rw [if_pos (by rfl)];refine Zg4 underlying23 info48 rfl (by omega) (by omega) OA RA rfl (by kernel_rfl) NA (by rw [d7];omega) (by omega) bk _ _ rfl rfl rfl (fun v9 w9 o9 J l9=>?_);have bl:Zbv TA [] w9 w.heap.size 48 19 v9 ((Zav l++[f]).flatMap Fil.cells):=by rw [bm,de,er,bv];exact o9
                  have Y9:=YX.grown J (fun e=>L.2.2.2.1 e.symm);have b0:=HF.step J (fun i e _=>by obtain ⟨cs,hb⟩:=q.2.1.blk i e;exact hb.hidden (by decide));have SF:=SSx.files (fl:=Zav l) (l:=l) q bl J l9;have M9:Mk w9 w.heap.size w.heap.size A n c o fv:=q.1.step J (fun i e=>⟨(E i e).1,(q.2.2.2.1 i e).2⟩);refine s.out _ _ ?_ (fun b=>?_)
                  ·exact ⟨Y9,fv,M9⟩
                  clear s K;(try simp only [pS,pB,pZ,pC]);obtain ⟨A9,n9,c9,rfl,_,_⟩:=o9.slice;refine tq 8 102 rfl ?_;refine tq 9 103 rfl ?_;obtain ⟨⟨fi,bo⟩,_⟩:=M9;have bq:=bo.cell 3;have cg:=bo.frozen 3;refine rd 10 none rfl fun K s=>?_;go_simp;refine s.out _ _ ?_ (fun b=>?_)
                  ·exact ⟨Y9.far (p:=⟨w.heap.size,3,none⟩) L.2.1 _,_,SF.1⟩
                  clear s K bq cg bo b;(try simp only [Act.put]);refine dn ?_;have YB:=Y9.far (p:=⟨w.heap.size,3,none⟩) L.2.1 (I A9 n9 c9);have ad:=b0.step (Zaj w9 w.heap.size 3 (I A9 n9 c9)) (fun i e _=>by injection e with e;subst e;exact (q.1.step J (fun i e=>⟨(E i e).1,(q.2.2.2.1 i e).2⟩)).hidden (by decide));have HR:=ae (⟨A9,n9,c9,SF,YB,ad⟩:(fun (v:World)=>∃ An nn cn,SSx w v w.heap.size A n c o (I An nn cn) (I T l.length M) (w.heap.size+1) (Zav l++[f]) l/\Blk v ab 48 #[iI 0,iI f.day,iI f.known,iI f.file,iI f.office,iI f.party,iI f.other,iI 0,iI 0,iI 0,iI 0,I Q f.d.length V,I N f.c.length U,nN,I R f.e.length X,iI 0,iI 0,nN,nN]/\Zg3 TA [] v f (I Q f.d.length V) (I N f.c.length U) (I R f.e.length X)) (w9.setCell ⟨w.heap.size,3,none⟩ (I A9 n9 c9)));clear SF YB ad Y9 b0 q YX HF NA OA RA bk o9 bl J l9 E;go_wp2_with fail;go_meet;exact HR.out
                 ·skip;clear bq;go_simp;skip;refine s.out _ _ (⟨YX,fv,q.1⟩) fun b=>?_;clear s K;(try simp only [pS,pB,pZ,pC]);refine rd 4 (some 98) rfl fun K s=>?_;go_simp;skip;refine s.out _ _ (b) fun b=>?_;clear s K;(try simp only [pS,pB,pZ,pC]);clear c0;have OA:=q.2.1;have E:=q.2.1.lt;have NA:Zb0 TA (fv.ownBlock.toList++[]) _ (#[iI 0,iI f.day,iI f.known,iI f.file,iI f.office,iI f.party,iI f.other,iI 0,iI 0,iI 0,iI 0,I Q f.d.length V,I N f.c.length U,nN,I R f.e.length X,iI 0,iI 0,nN,nN]:Array Value).toList f.cells:=(Zg3.row HF).more (fun i hi=>by rw [bv] at hi;obtain ⟨cs,hb⟩:=q.2.1.blk i (Option.mem_toList.1 hi);exact .inr (hb.hidden (by decide)));have bk:=q.2.2.2.2.2.2.2.size;refine rd 7 (some 101) rfl fun K s=>?_;rw [if_pos (by rfl)];refine Zg4 underlying23 info48 rfl (by omega) (by omega) OA RA rfl (by kernel_rfl) NA (by rw [d7];omega) (by omega) bk _ _ rfl rfl rfl (fun v9 w9 o9 J l9=>?_);have bl:Zbv TA [] w9 w.heap.size 48 19 v9 ((Zav l++[f]).flatMap Fil.cells):=by rw [bm,de,er,bv];exact o9
                  have Y9:=YX.grown J (fun e=>L.2.2.2.1 e.symm);have b0:=HF.step J (fun i e _=>by obtain ⟨cs,hb⟩:=q.2.1.blk i e;exact hb.hidden (by decide));have SF:=SSx.files (fl:=Zav l) (l:=l) q bl J l9;have M9:Mk w9 w.heap.size w.heap.size A n c o fv:=q.1.step J (fun i e=>⟨(E i e).1,(q.2.2.2.1 i e).2⟩);refine s.out _ _ ?_ (fun b=>?_)
                  ·exact ⟨Y9,fv,M9⟩
                  clear s K;(try simp only [pS,pB,pZ,pC]);obtain ⟨A9,n9,c9,rfl,_,_⟩:=o9.slice;refine tq 8 102 rfl ?_;refine tq 9 103 rfl ?_;obtain ⟨⟨fi,bo⟩,_⟩:=M9;have bq:=bo.cell 3;have cg:=bo.frozen 3;refine rd 10 none rfl fun K s=>?_;go_simp;refine s.out _ _ ?_ (fun b=>?_)
                  ·exact ⟨Y9.far (p:=⟨w.heap.size,3,none⟩) L.2.1 _,_,SF.1⟩
                  clear s K bq cg bo b;(try simp only [Act.put]);refine dn ?_;have YB:=Y9.far (p:=⟨w.heap.size,3,none⟩) L.2.1 (I A9 n9 c9);have ad:=b0.step (Zaj w9 w.heap.size 3 (I A9 n9 c9)) (fun i e _=>by injection e with e;subst e;exact (q.1.step J (fun i e=>⟨(E i e).1,(q.2.2.2.1 i e).2⟩)).hidden (by decide));have HR:=ae (⟨A9,n9,c9,SF,YB,ad⟩:(fun (v:World)=>∃ An nn cn,SSx w v w.heap.size A n c o (I An nn cn) (I T l.length M) (w.heap.size+1) (Zav l++[f]) l/\Blk v ab 48 #[iI 0,iI f.day,iI f.known,iI f.file,iI f.office,iI f.party,iI f.other,iI 0,iI 0,iI 0,iI 0,I Q f.d.length V,I N f.c.length U,nN,I R f.e.length X,iI 0,iI 0,nN,nN]/\Zg3 TA [] v f (I Q f.d.length V) (I N f.c.length U) (I R f.e.length X)) (w9.setCell ⟨w.heap.size,3,none⟩ (I A9 n9 c9)));clear SF YB ad Y9 b0 q YX HF NA OA RA bk o9 bl J l9 E;go_wp2_with fail;go_meet;exact HR.out
                case rest =>
                 obtain ⟨A9,n9,c9,SF,YB,ad⟩:=hcut;obtain ⟨wB,rfl⟩:∃ z:World,z=wc:=⟨_,rfl⟩;clear b2 YA bn;have Y:=ao wB (O #[iI 0,iI f.day,iI f.known,iI f.file,iI f.office,iI f.party,iI f.other,iI 0,iI 0,iI 0,iI 0,I Q f.d.length V,I N f.c.length U,nN,I R f.e.length X,iI 0,iI 0,nN,nN] 48) none;have RB:Blk (wB.alloc (O #[iI 0,iI f.day,iI f.known,iI f.file,iI f.office,iI f.party,iI f.other,iI 0,iI 0,iI 0,iI 0,I Q f.d.length V,I N f.c.length U,nN,I R f.e.length X,iI 0,iI 0,nN,nN] 48)) wB.heap.size 48 #[iI 0,iI f.day,iI f.known,iI f.file,iI f.office,iI f.party,iI f.other,iI 0,iI 0,iI 0,iI 0,I Q f.d.length V,I N f.c.length U,nN,I R f.e.length X,iI 0,iI 0,nN,nN]:=Blk.new wB _ _;have SB:SSx w _ w.heap.size A n c o (I A9 n9 c9) (I T l.length M) (w.heap.size+1) (Zav l++[f]) l:=Ya0 SF Y;have NB:Zb0 TA ((Value.slice T l.length M).ownBlock.toList++[]) (wB.alloc (O #[iI 0,iI f.day,iI f.known,iI f.file,iI f.office,iI f.party,iI f.other,iI 0,iI 0,iI 0,iI 0,I Q f.d.length V,I N f.c.length U,nN,I R f.e.length X,iI 0,iI 0,nN,nN] 48)) (#[iI 0,iI f.day,iI f.known,iI f.file,iI f.office,iI f.party,iI f.other,iI 0,iI 0,iI 0,iI 0,I Q f.d.length V,I N f.c.length U,nN,I R f.e.length X,iI 0,iI 0,nN,nN]:Array Value).toList f.cells:=(Zg3.row (ad.step Y (fun _ e=>by cases e))).more (fun i hi=>by rw [bv] at hi;obtain ⟨cs,hb⟩:=SB.2.2.1.blk i (Option.mem_toList.1 hi);exact .inr (hb.hidden (by decide)));have OB:=SB.2.2.1;have dp:=SB.2.2.2.2.2.2.2.size;have e2:=ae SB;clear SB SF ad Y;go_wp2_with (first | (refine Zad YB rfl _ rfl rfl rfl ?_) | (at_builtin;refine Zbt underlying23 info48 rfl (by omega) (by omega) OB RB rfl (by kernel_rfl) NB (by omega) (by omega) dp rfl _ _ rfl rfl rfl ?_;intro vC wC oC gC lC));have ex:Zbv TA [] wC w.heap.size 48 19 vC ((l++[Zdi.fil f]).flatMap Zdi.cells):=by rw [bm,de,er,bv];exact oC
                 have SI:SSx w wC w.heap.size A n c o (I A9 n9 c9) vC (w.heap.size+1) (Zav l++[f]) (l++[Zdi.fil f]):=SSx.out (l:=l) e2.out ex gC lC;go_roundw
                 case rel=>exact ⟨l++[Zdi.fil f],o,I A9 n9 c9,by first | go_num | simp,fh.out,⟨b4.1,by have:=b4.2;simp only [ai,au,dk];omega⟩,by unfold SSt;rw [es.out];exact SI⟩
                 case measure=>simp [intOf];omega
   ·have ek:=decide_eq_false hk;go_wp2_with fail;go_ret
    first | exact ⟨_,l,rfl,C.out.2.2.1,HL.out,C.out.2.2.2.2.2.2.2⟩ | exact ⟨_,rfl,l,C.out.2.2.1,HL.out,C.out.2.2.2.2.2.2.2⟩
  ·have ea:=decide_eq_false ck;go_wp2_with fail;go_ret
   first | exact ⟨_,l,rfl,C.out.2.2.1,HL.out,C.out.2.2.2.2.2.2.2⟩ | exact ⟨_,rfl,l,C.out.2.2.1,HL.out,C.out.2.2.2.2.2.2.2⟩
theorem Zn0 (A:Option Addr) (n c:Nat) (w:World) (d:Zb9 w A n) (b:∀ a,A=some a->a.block<w.heap.size) :
  Calls prog 8 #[I A n c,Z G 14] w fun e w'=>∃ u l,e=.returned u/\Zbv TA [] w' w.heap.size 48 19 u (l.flatMap Zdi.cells)/\Zx8 l/\Bl w w':=Znz 14 (ag _) A n c w d b
theorem Yio {base:Nat} {e:TypeId} {v:Value} {α:Type} {l:List α} {cells:α->List D} (hc:∀ x∈l,(cells x).length=sz) (p:0<sz) (h:Zbv ts H W base e sz v (l.flatMap cells)) (k:Nat) (M:k<l.length) :
  ∃ b c vs,v=I (some ⟨b,0,none⟩) l.length c/\l.length<=c/\v.ownBlock=some b/\W.rangeAt b (k * sz) vs/\Zb0 ts (v.ownBlock.toList++H) W vs (cells l[k]):=by
 obtain ⟨n,t,h1,s⟩:=h;have J:=Zai (l:=l) (f:=cells) (k:=sz) hc;have E:=s.1;have L:=h1.1;have q:n * sz=l.length * sz:=by omega
 obtain rfl:n=l.length:=Nat.eq_of_mul_eq_mul_right p q;have C:=Zcd (l:=l) (f:=cells) (k:=sz) (i:=k) (a:=l[k]) hc (ak M);have m:=(Zax.drop s (k * sz)).take sz;rw [C] at m;rcases h1.2 with ⟨_,hn⟩ | ⟨g,cap,K,rfl,Q,P,o,B,z,N⟩
 ·omega
 ·refine ⟨g,cap,_,rfl,o,rfl,fun j u d=>?_,m⟩;rw [gi] at d;by_cases y:j<sz
  ·rw [if_pos y,fz] at d;have r:k * sz+j<t.length:=by
    rcases ir (k * sz+j) t.length with h | h
    ·exact h
    ·rw [gj h] at d;cases d
   rw [h1.cellAt (k * sz+j) (by rw [<- h1.1];exact r)];exact d
  ·rw [if_neg y] at d;cases d
theorem Zg3.stepH {f:Fil} {dv cv ev:Value} (h:Zg3 ts H w f dv cv ev) {row:Option Nat} (b:w.grownBy w' row) (a:∀ i,row=some i->i<w.heap.size->Zbp ts w i∨i∈H) (d:∀ i∈H',i∈H∨w.heap.size<=i):Zg3 ts H' w' f dv cv ev :=
 ⟨Zdf.step h.1 b a d,Zdf.step h.2.1 b a d,Zdf.step h.2.2 b a d⟩
theorem Zg3.weakH {f:Fil} {dv cv ev:Value} (h:Zg3 ts H w f dv cv ev):Zg3 ts [] w f dv cv ev :=
 ⟨Zdf.weak h.1 (fun _ h=>h) (fun _ h=>by cases h),Zdf.weak h.2.1 (fun _ h=>h) (fun _ h=>by cases h),Zdf.weak h.2.2 (fun _ h=>h) (fun _ h=>by cases h)⟩
def Zv9 (o:Int) (f:Fil):Fil:={ f with office:=o }
theorem Zmi {l:List Zdi} {k:Nat} (a:k<l.length):Zav (l.take (k+1))=Zav (l.take k)++Zav [l[k]]:=by
 rw [dq,ak a,Zjz];rfl
theorem Znb (l:List Zdi) (k:Nat):(Zav (l.take k)).length<=l.length:=by
 have h1:=Zi0 (l.take k);have a:=List.length_take_le' k l;omega
theorem Yhc {base:Nat} {v:Value} {l:List Zdi} (hl:Zx8 l) (h:Zbv TA [] W base 48 19 v (l.flatMap Zdi.cells)) (k:Nat) (o:k<l.length) :
  ∃ b c,v=I (some ⟨b,0,none⟩) l.length c/\b<W.heap.size/\base<=b/\((∃ f dv cv ev,l[k]=.fil f/\W.rangeAt b (k * 19) (f.vals dv cv ev).toList/\Zg3 TA [b] W f dv cv ev)∨(∃ kd vs,l[k]=.oth kd vs/\kd≠0/\W.cell? ⟨b,k * 19,none⟩=some (Z G kd))):=by
 obtain ⟨b,c,vs,q,y,m,hr,hd⟩:=Yio (cells:=Zdi.cells) (sz:=19) (fun x p=>Zdi.cells_length (hl.2.1 x p)) (by omega) h k o;have j:=h.lt b m;refine ⟨b,c,q,j.2,j.1,?_⟩;have a:=hl.2.1 l[k] (aw o);rw [m] at hd;cases d:l[k] with
 | fil f =>
  rw [d] at hd;obtain ⟨dv,cv,ev,rfl,r,t,s⟩:=Zg3.inv hd;exact .inl ⟨f,dv,cv,ev,rfl,hr,r,t,s⟩
 | oth kd us =>
  rw [d] at hd a;have e:=Zax.plain hd;subst e;refine .inr ⟨kd,us,rfl,by have:=a.1;omega,?_⟩;have u:us.toList[0]?=some (Z G kd):=by rw [dj];exact a.2.2.2.2.1
  exact hr 0 _ u
theorem Zmj (v:Value) (l:List Zdi) (hl:Zx8 l) (o:Int) (w:World) (base:Nat) (h:Zbv TA [] w base 48 19 v (l.flatMap Zdi.cells)) :
  Calls prog 22 #[v,Z G o] w fun e w'=>∃ u,e=.returned u/\Zbv TA [] w' w.heap.size 48 19 u (((Zav l).map (Zv9 o)).flatMap Fil.cells)/\Bl w w':=by
 have HI:=ae (fun k hk=>Yhc hl h k hk);have af:=hl.1;have y:=hl.cells;obtain ⟨A,n,c,rfl,hn,an⟩:=h.slice;rw [y] at hn;obtain rfl:n=l.length:=by omega
 clear h y hn;go_enter func22,ntmps22;go_wp2_with fail;go_loopw [5,6] (fun u j W=>∃ k:Nat,j=Z G (k:Int)/\k<=l.length/\Zbv TA [] W w.heap.size 48 19 u (((Zav (l.take k)).map (Zv9 o)).flatMap Fil.cells)/\Bl w W) (fun _ j _=>l.length - (intOf j).toNat)
 case atStart=>exact ⟨0,rfl,bi _,Zbv.nil _ _ _ _ _ _,ap _ _⟩
 case round =>
  obtain ⟨k,rfl,hk,m,s⟩:=hrel;obtain ⟨Au,nu,cu,rfl,aa,_⟩:=m.slice;clear aa;obtain ⟨W,rfl⟩:∃ z:World,z=wr:=⟨_,rfl⟩;by_cases q:k<l.length
  ·obtain ⟨b,cc,e1,K,al,V⟩:=HI.out k q;injection e1 with eA _ _;subst eA;have hd:decide ((k:Int)<(l.length:Int))=true:=decide_eq_true (by omega);have a:∀ p:Addr,p.block=b->W.cell? p=w.cell? p:=fun p hp=>s.cell (by rw [hp];exact K);rcases V with ⟨f,dv,cv,ev,hf,hr,hm⟩ | ⟨kd,us,hf,Y,r⟩
   ·have B:W.rangeAt b (k * 19) (f.vals dv cv ev).toList:=fun j u hu=>(a _ rfl).trans (hr j u hu);have r:W.cell? ⟨b,k * 19,none⟩=some (Z G 0):=B 0 _ rfl;obtain ⟨Ap,T,N,M,J,U,rfl,rfl,rfl⟩:=hm.weakH.forms;have Z1:=Blk.new W 48 #[iI 0,iI 0,iI 0,iI 0,iI 0,iI 0,iI 0,iI 0,iI 0,iI 0,iI 0,nN,nN,nN,nN,iI 0,iI 0,nN,nN];have R:=Zab W (O #[iI 0,iI 0,iI 0,iI 0,iI 0,iI 0,iI 0,iI 0,iI 0,iI 0,iI 0,nN,nN,nN,nN,iI 0,iI 0,nN,nN] 48);have t:=ae m;have HB:=ae s;have HM:=ae hm;clear m s hm a hr;go_upto_region 7 with (first | (refine wpList_load_mid rfl 48 _ rfl b (k * 19) (by go_simp) _ _ B underlying48 rfl (by kernel_rfl) ?_) | (refine Zae Z1 rfl _ _ rfl rfl rfl _ rfl rfl (by kernel_rfl) ?_;intro w2 C g2))
    have S:=C.frozen 4;have P2:=R.grown g2 R.size (fun k e=>by injection e with e;omega);have Q:w2.cell? ⟨W.heap.size,4,none⟩=some (Z G f.office):=C.cell 4;go_upto_region 8 with fail;have Y3:Blk (w2.setCell ⟨W.heap.size,4,none⟩ (Z G o)) W.heap.size 48 #[iI 0,iI f.day,iI f.known,iI f.file,iI o,iI f.party,iI f.other,iI 0,iI 0,iI 0,iI 0,I Ap f.d.length T,I N f.c.length M,nN,I J f.e.length U,iI 0,iI 0,nN,nN]:=by
     have:=C.set 4 (Z G o);exact this
    have P3:=P2.setCell (p:=⟨W.heap.size,4,none⟩) (ag _) (Z G o);clear S Q Z1 R P2 g2 C;generalize w2.setCell ⟨W.heap.size,4,none⟩ (Z G o)=w3 at *;have P4:=P3.alloc P3.size (O #[iI 0,iI f.day,iI f.known,iI f.file,iI o,iI f.party,iI f.other,iI 0,iI 0,iI 0,iI 0,I Ap f.d.length T,I N f.c.length M,nN,I J f.e.length U,iI 0,iI 0,nN,nN] 48);have RA:=Blk.new w3 48 #[iI 0,iI f.day,iI f.known,iI f.file,iI o,iI f.party,iI f.other,iI 0,iI 0,iI 0,iI 0,I Ap f.d.length T,I N f.c.length M,nN,I J f.e.length U,iI 0,iI 0,nN,nN];have OA:=Zbv.step t.out (Zaf (row:=none) P4) (fun _ e=>by cases e) (H':=[]) (fun _ hi=>.inl hi);have E:=HB.out.trans (P4.mono HB.out.size);have NA:=Zg3.row (f:=Zv9 o f) (Zg3.stepH (H':=(Value.slice Au nu cu).ownBlock.toList++[]) HM.out (Zaf (row:=none) E) (fun _ e=>by cases e) (fun i hi=>by rw [bv] at hi;exact .inr (t.out.lt i (Option.mem_toList.1 hi)).1));have ad:=Znb l k;have X:=Zai (l:=(Zav (l.take k)).map (Zv9 o)) (f:=Fil.cells) (k:=19) (fun x _=>x.cells_length);rw [ba] at X;have P:=E.size;go_wp2_with (first | (refine Zad Y3 rfl _ rfl rfl rfl ?_) | (at_builtin;refine Zbt underlying23 info48 rfl (by omega) (by omega) OA RA rfl (by kernel_rfl) NA (by omega) (by omega) P rfl _ _ rfl rfl rfl ?_;intro vN wN oN gN lN));go_roundw
    case rel=>exact ⟨k+1,by go_num,by omega,by rw [Zmi q,hf];simp only [Zav,cj,bm,du,fq,de,er,bv];exact oN,E.grown gN E.size (fun k e=>(OA.lt k e).1)⟩
    case measure=>simp [intOf];omega
   ·have hc:W.cell? ⟨b,k * 19,none⟩=some (Z G kd):=(a _ rfl).trans r;have am:(kd == 0)=false:=by rw [beq_eq_false_iff_ne];exact Y
    have t:=ae m;have L:=ae s;clear m s a r;go_wp2_with fail;go_roundw
    case rel=>exact ⟨k+1,by go_num,by omega,by rw [Zmi q,hf];simp only [Zav,bv];exact t.out,L.out⟩
    case measure=>simp [intOf];omega
  ·have hd:decide ((k:Int)<(l.length:Int))=false:=decide_eq_false (by omega);obtain rfl:k=l.length:=by omega
   rw [df] at m;have t:=ae m;clear m;go_wp2_with fail;go_ret;exact ⟨_,rfl,t.out,s⟩
structure Zkv (fl:List Fil) (o:Int):Prop where
 len:fl.length<=14
 ok:∀ f∈fl,Zby f
 office:∀ f∈fl,f.office=o
 day:∀ f∈fl,f.day<=100000
 earl:∀ f∈fl,f.e.length<=2
 some:∀ f∈fl,1<=f.d.length
theorem Zwa {l:List Zdi} (h:Zx8 l) {o:Int} (ho:0<=o/\o<=11):Zkv ((Zav l).map (Zv9 o)) o:=by
 have d:=h.2.2;refine ⟨by rw [ba];exact d.1,fun f b=>?_,fun f b=>?_,fun f b=>?_,fun f b=>?_,fun f b=>?_⟩
 ·obtain ⟨j,a,rfl⟩:=List.mem_map.1 b;obtain ⟨i,hi,rfl⟩:=ee a;obtain ⟨p,k,q,r,m⟩:=d.2 i hi;have:=d.1;exact Yg6 p (by omega) ⟨k,q⟩ ⟨r,m⟩ o ho
 ·obtain ⟨j,_,rfl⟩:=List.mem_map.1 b;rfl
 ·obtain ⟨j,a,rfl⟩:=List.mem_map.1 b;obtain ⟨i,hi,rfl⟩:=ee a;exact (d.2 i hi).2.2.1
 ·obtain ⟨j,a,rfl⟩:=List.mem_map.1 b;obtain ⟨i,hi,rfl⟩:=ee a;exact (d.2 i hi).1.2.2.2.2.2.1
 ·obtain ⟨j,a,rfl⟩:=List.mem_map.1 b;obtain ⟨i,hi,rfl⟩:=ee a;exact (d.2 i hi).1.2.2.2.2.1.1.1
def Yeq (W:World) (base:Nat) (e:TypeId) (sz:Nat) (v:Value) (vs:List Value):Prop:=Zbv [] [] W base e sz v (Zdv vs)
theorem Yeq.kept {base:Nat} {e:TypeId} {v:Value} {vs:List Value} (h:Yeq W base e sz v vs) {row:Option Nat} (b:W.grownBy W' row) (hr:∀ g,row=some g->v.ownBlock≠some g):Yeq W' base e sz v vs:=by
 obtain ⟨n,j,h1,a⟩:=h;have f:=Zax.plain a;subst f;refine ⟨n,j,h1.kept b ?_,Zax.of_plain _ _ _⟩;rcases h1.2 with ⟨e,_⟩ | ⟨k,c,m,e,o⟩
 ·subst e;exact .inl rfl
 ·subst e;exact .inr fun d=>hr k d.symm rfl
theorem Yeq.cells {base:Nat} {e:TypeId} {v:Value} {vs:List Value} (h:Yeq W base e sz v vs) (hs:0<sz) {m:Nat} (hm:vs.length=m * sz):∃ A c,v=I A m c/\m<=c/\∀ (j:Nat) (u:Value),vs[j]?=some u->∃ b,A=some ⟨b,0,none⟩/\v.ownBlock=some b/\W.cell? ⟨b,j,none⟩=some u:=by
 obtain ⟨n,q,h1,o⟩:=h;have p:=Zax.plain o;subst p;have hn:n=m:=Nat.eq_of_mul_eq_mul_right hs (h1.1.symm.trans hm);subst hn;rcases h1.2 with ⟨rfl,t⟩ | ⟨g,cap,s,rfl,y,B,d,k,f,z⟩
 ·subst t;refine ⟨none,0,rfl,ag _,fun j u a=>?_⟩;have x:q=[]:=bj (by rw [hm,io]);rw [x] at a;cases a
 ·refine ⟨some ⟨g,0,none⟩,cap,rfl,d,fun j u a=>⟨g,rfl,rfl,?_⟩⟩;have r:=Zap a;rw [h1.cellAt j (by rw [<- h1.1];exact r)];exact a
structure El where
 C:Array Value
 h:Hd
 f:Fil
 dv:Value
 cv:Value
 ev:Value
 s:Nat
 A:Option Addr
 c:Nat
 ps:List Nat
structure El.Bad (e:El) (w1:World) (key i n:Nat):Prop where
 cop:Zdk e.C e.h (i:Int) e.f e.dv e.cv e.ev e.s (I e.A e.ps.length e.c)
 one:Yii e.dv e.cv e.ev
 fil:Zbs w1 w1.heap.size e.f e.dv e.cv e.ev
 ok:Zby e.f
 len:e.ps.length<=100
 cap:e.ps.length<=e.c
 wds:Zbw e.ps
 fit:Yaw 16 i n e.ps.length=true
 salt:e.s<18446744073709551616
 log:e.h.log<18446744073709551616
 map:e.h.map<18446744073709551616
 size:hdC key e.h=0->e.h.size=(n:Int)
 tick:hdC key e.h=0->e.f.known<=e.h.tick
 bad:Zcq (Zza e.f e.h.office) (hdC key e.h) (Yj3 e.h e.f e.s e.ps i n)≠0
def TK:List TypeId:=[50,36]
def Zmk (W:World) (H:List Nat) (A:Option Addr) (c:Nat) (ps:List Nat):Prop:=Zdf TK H W (I A ps.length c) (.s 1 (Zdv (us ps)))
theorem Zmk.step {c:Nat} {ps:List Nat} (h:Zmk W H A c ps) {row:Option Nat} (a:W.grownBy W' row) (hr:∀ g,row=some g->g<W.heap.size->Zbp TK W g∨g∈H) (b:∀ i∈H',i∈H∨W.heap.size<=i):Zmk W' H' A c ps:=Zdf.step h a hr b
theorem Zmk.row {c:Nat} {ps:List Nat} (h:Zmk W H A c ps):Zgq W A ps:=fun k j=>by
 obtain ⟨A',m,e,hc,a⟩:=Rep.row (Zdf.out h);injection e with e1 _ _;subst e1;obtain ⟨b,o,f,_,d⟩:=a k (Z .u64 (ps[k]:Int)) (by simp [us,j]);exact ⟨b,o,f,d⟩
structure Lst (w1 W:World) (base:Nat) (key i n:Nat) (v:Value) (es:List El):Prop where
 own:Yeq W base 50 30 v (es.flatMap fun e=>e.C.toList)
 bad:∀ e∈es,e.Bad w1 key i n
 path:∀ e∈es,Zmk W [] e.A e.c e.ps
theorem Lst.step {base key n:Nat} {v:Value} {es:List El} (h:Lst w1 W base key i n v es) {row:Option Nat} (b:W.grownBy W' row) (hr:∀ g,row=some g->v.ownBlock≠some g/\(g<W.heap.size->Zbp TK W g)):Lst w1 W' base key i n v es :=
 ⟨h.own.kept b (fun g e=>(hr g e).1),h.bad,fun e d=>(h.path e d).step b (fun g e a=>.inl ((hr g e).2 a)) (fun _ hi=>.inl hi)⟩
theorem Lst.app {base key n:Nat} {v:Value} {es:List El} {e:El} (h:Lst w1 W base key i n v es) (k:e.Bad w1 key i n) (j:Zmk W [] e.A e.c e.ps) (d:W.grownBy W' v.ownBlock) (ho:Yeq W' base 50 30 v' ((es.flatMap fun e=>e.C.toList)++e.C.toList)):Lst w1 W' base key i n v' (es++[e]):=by
 have f:∀ g,v.ownBlock=some g->g<W.heap.size->Zbp TK W g:=fun g e _=>by
  obtain ⟨cs,m⟩:=Zbv.blk h.own g e;exact m.hidden (by decide)
 refine ⟨by rw [bm,de,er,bv];exact ho,fun x a=>?_,fun x a=>?_⟩
 ·rcases List.mem_append.1 a with a | a
  ·exact h.bad x a
  ·rw [List.mem_singleton.1 a];exact k
 ·rcases List.mem_append.1 a with a | a
  ·exact (h.path x a).step d (fun g e b=>.inl (f g e b)) (fun _ hi=>.inl hi)
  ·rw [List.mem_singleton.1 a];exact j.step d (fun g e b=>.inl (f g e b)) (fun _ hi=>.inl hi)
theorem Zfs (fl:List Fil):Zbw (Zd3 fl):=fun x a=>by
 unfold Zd3 at a;obtain ⟨i,hi,rfl⟩:=List.mem_mapIdx.1 a;exact Zcn _ _
theorem Zi8.toV {base:Nat} {v:Value} {l:List Nat} (h:Zi8 W base v l):Yeq W base 26 1 v (us l):=h
theorem Zi8.far {base:Nat} {n c:Nat} {l:List Nat} (h:Zi8 W base (I A n c) l) (a:W.grownBy W' (some g)) (b:g<base):Zi8 W' base (I A n c) l :=
 Yeq.kept h.toV a (fun k e d=>by
  injection e with e;subst e;have:=(Zbv.lt h g d).1;omega)
def Zn1 (h:Hd) (n:Nat):Nat->Hd
 | 0=>{ h with office:=h.office+(n:Int) }
 | 1=>{ h with tick:=h.tick+(n:Int) }
 | 2=>{ h with day:=h.day+(n:Int) }
 | 3=>{ h with size:=h.size+(n:Int) }
 | 4=>{ h with log:=(h.log+n) % 18446744073709551616 }
 | 5=>{ h with map:=(h.map+n) % 18446744073709551616 }
 | 6=>{ h with sld:=h.sld+(n:Int) }
 | _=>{ h with sign:=(h.sign+n) % 18446744073709551616 }
section
variable {w1:World} {key i n:Nat} {e:El}
end
end Go.Proofs.YtglkadmfjaecmaaGreatDoor
