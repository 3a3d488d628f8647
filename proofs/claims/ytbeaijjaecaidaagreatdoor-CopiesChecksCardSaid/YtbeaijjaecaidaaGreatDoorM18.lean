/- Script: its acts. Written by mkscr.py. ref37.Filings of a script. log: the filings of a script, all by one office. Rows of copies of the reference, and what each of them is. The copy of a filing of any log: in memory, and accepted. Copies of which one part is changed are not accepted: the plain law. -/
import Derived.Test.YtbeaijjaecaidaaGreatDoorM17
import Derived.Test.YtbeaijjaecaidaaGreatDoorM16
import Derived.Test.YtbeaijjaecaidaaGreatDoorM01
set_option maxRecDepth 100000
set_option maxHeartbeats 16000000
namespace Go.Proofs.YtbeaijjaecaidaaGreatDoor
open Go.RowKit Go.Shelf
attribute [local go_sem] Oper.semAt_some
theorem yieldsA {S:World→Prop} {ops:Array Oper} {g:Nat} {cs:Array Value} (hs:cs.size=19) {o:Oper} {a:Act} (x:Operand) (ho:o.op=.load 41 x) (hx:a.eval x=.pointer (some ⟨g,0,none⟩)) (hS:∀ W,S W→Blk W g 41 cs) (hw:Region.wanted o (yielded ops a.tmps)=true):YieldsIf Tryz.prog ops S o (.agg cs) a:=by
 have h:=yieldsIf_load_mid (P:=Tryz.prog) (ops:=ops) (S:=S) hw 41 x ho g 0 hx cs.toList _ (fun w h j v hv=>by rw [Nat.zero_add,(hS w h).cell j,← Array.getElem?_toList];exact hv) Tryz.underlying41 rfl (by rw [Array.length_toList,hs];kernel_rfl)
 rwa [Array.toArray_toList] at h
def kindsL:List Int:=[0,0,0,0,0,0,1,1,1,2,3,3,4,4,4,5,6,6,7,8,9,10,10,10,10,11,12,12,13,13,14,15,16,16,17,18,19,19,20,21]
theorem kindsL_ok:∀ k∈kindsL,0≤k∧k≤21:=by decide
def SSt (w W:World) (g:Nat) (A:Option Addr) (n c:Nat) (day:Int) (fv ov:Value) (kb:Nat) (l:List Item):Prop :=
 Mk W w.heap.size g A n c day fv∧OwnM TA [] W w.heap.size 41 19 fv ((filsOf l).flatMap Fil.cells)∧OwnM TA [] W w.heap.size 41 19 ov (l.flatMap Item.cells)∧(∀ i,fv.ownBlock=some i→ov.ownBlock≠some i∧i≠g)∧(∀ i,ov.ownBlock=some i→i≠g)∧Blk W kb 3 (ints kindsL).toArray∧w.heap.size≤kb∧Below w.heap.size w W
section
variable {w W w':World} {g:Nat} {A:Option Addr} {n c:Nat} {day:Int} {fv ov:Value} {kb:Nat} {l:List Item}
theorem SSt.step (h:SSt w W g A n c day fv ov kb l) {row:Option Nat} (hg:W.grownBy w' row) (hr:∀ i,row=some i→(i<W.heap.size→Hidden TA W i)∧w.heap.size≤i∧i≠g∧i≠kb∧fv.ownBlock≠some i∧ov.ownBlock≠some i):SSt w w' g A n c day fv ov kb l:=by
 obtain ⟨h1,h2,h3,h4,h5,h6,h7,h8⟩:=h
 exact ⟨h1.step hg (fun i e=>by have:=hr i e;exact ⟨this.2.1,this.2.2.1⟩),h2.step hg (fun i e hi=>⟨.inl ((hr i e).1 hi),(hr i e).2.2.2.2.1⟩) (fun _ hi=>.inl hi),h3.step hg (fun i e hi=>⟨.inl ((hr i e).1 hi),(hr i e).2.2.2.2.2⟩) (fun _ hi=>.inl hi),h4,h5,
  h6.grown hg (fun e=>by have:=hr _ e.symm;omega),h7,h8.grown hg h8.size (fun i e=>(hr i e).2.1)⟩
theorem SSt.call (h:SSt w W g A n c day fv ov kb l) (hg:W.grownBy w' (some g)) (hM:Mk w' w.heap.size g A n c day fv):SSt w w' g A n c day fv ov kb l:=by
 obtain ⟨h1,h2,h3,h4,h5,h6,h7,h8⟩:=h;have hh:Hidden TA W g:=h1.hidden (by decide)
 have hk:kb≠g:=by
  obtain ⟨⟨a,hm⟩,_⟩:=h1;exact h6.ne hm (by decide)
 exact ⟨hM,h2.step hg (fun i e _=>by injection e with e;subst e;exact ⟨.inl hh,fun e2=>(h4 _ e2).2 rfl⟩) (fun _ hi=>.inl hi),h3.step hg (fun i e _=>by injection e with e;subst e;exact ⟨.inl hh,fun e2=>h5 _ e2 rfl⟩) (fun _ hi=>.inl hi),h4,h5,
  h6.grown hg (fun e=>by injection e with e;exact hk e),h7,h8.grown hg h8.size (fun i e=>by injection e with e;subst e;exact h1.base)⟩
theorem SSt.setday (h:SSt w W g A n c day fv ov kb l) (d:Int):SSt w (W.setCell ⟨g,2,none⟩ (.int .i64 d)) g A n c d fv ov kb l:=by
 obtain ⟨⟨⟨a,hm⟩,q2,q3,q4⟩,h2,h3,h4,h5,h6,h7,h8⟩:=h;have gs:=grown_set W g 2 (.int .i64 d);have hh:Hidden TA W g:=hm.hidden (by decide)
 have hk:kb≠g:=h6.ne hm (by decide)
 have hm2:=hm.set 2 (.int .i64 d);simp only [pB,pZ,pC] at hm2
 exact ⟨⟨⟨a,hm2⟩,q2.grown gs (fun a e e2=>by injection e2 with e2;have:=q3 a e;omega),q3,q4⟩,h2.step gs (fun i e _=>by injection e with e;subst e;exact ⟨.inl hh,fun e2=>(h4 _ e2).2 rfl⟩) (fun _ hi=>.inl hi),h3.step gs (fun i e _=>by injection e with e;subst e;exact ⟨.inl hh,fun e2=>h5 _ e2 rfl⟩) (fun _ hi=>.inl hi),h4,h5,
  h6.far (p:=⟨g,2,none⟩) hk _,h7,h8.grown gs h8.size (fun i e=>by injection e with e;omega)⟩
end
def ItAt (W:World) (ab:Nat):Item→Prop
 | .fil f=>∃ dv cv ev,Blk W ab 41 (f.vals dv cv ev)∧FilM TA [] W f dv cv ev
 | .oth _ vs=>Blk W ab 41 vs
def Wip (kd:Int) (i:Nat) (bd:Bool):Item→Prop
 | .fil f=>kd=0∧GenA i f∧(0≤f.day∧f.day≤100000)∧(0≤f.known∧f.known≤100)
 | .oth k vs=>k=kd∧1≤k∧k≤21∧OthV k vs∧(bd=true→∃ x,vs[1]?=some (.int .i64 x))
def XSt (w W:World) (g:Nat) (A:Option Addr) (n c:Nat) (day:Int) (fv ov:Value) (kb:Nat) (l:List Item) (ab:Nat) (kd:Int) (bd:Bool):Prop :=
 SSt w W g A n c day fv ov kb l∧(w.heap.size<ab∧ab≠g∧ab≠kb∧fv.ownBlock≠some ab∧ov.ownBlock≠some ab)∧∃ it,ItAt W ab it∧Wip kd (filsOf l).length bd it
section
variable {w W w':World} {g:Nat} {A:Option Addr} {n c:Nat} {day:Int} {fv ov:Value} {kb:Nat} {l:List Item} {ab:Nat} {kd:Int} {bd:Bool}
theorem ItAt.step {it:Item} (h:ItAt W ab it) {row:Option Nat} (hg:W.grownBy w' row) (hr:∀ i,row=some i→(i<W.heap.size→Hidden TA W i)∧i≠ab):ItAt w' ab it:=by
 cases it with
 | fil f =>
  obtain ⟨dv,cv,ev,h1,h2⟩:=h;exact ⟨dv,cv,ev,h1.grown hg (fun e=>(hr _ e.symm).2 rfl),h2.step hg (fun i e hi=>(hr i e).1 hi)⟩
 | oth k vs=>exact Blk.grown h hg (fun e=>(hr _ e.symm).2 rfl)
theorem XSt.step (h:XSt w W g A n c day fv ov kb l ab kd bd) {row:Option Nat} (hg:W.grownBy w' row) (hr:∀ i,row=some i→(i<W.heap.size→Hidden TA W i)∧w.heap.size≤i∧i≠g∧i≠kb∧fv.ownBlock≠some i∧ov.ownBlock≠some i∧i≠ab):XSt w w' g A n c day fv ov kb l ab kd bd:=by
 obtain ⟨h1,h2,it,h3,h4⟩:=h;exact ⟨h1.step hg (fun i e=>by have:=hr i e;exact ⟨this.1,this.2.1,this.2.2.1,this.2.2.2.1,this.2.2.2.2.1,this.2.2.2.2.2.1⟩),h2,it,h3.step hg (fun i e=>by have:=hr i e;exact ⟨this.1,this.2.2.2.2.2.2⟩),h4⟩
theorem XSt.call (h:XSt w W g A n c day fv ov kb l ab kd bd) (hg:W.grownBy w' (some g)) (hM:Mk w' w.heap.size g A n c day fv):XSt w w' g A n c day fv ov kb l ab kd bd:=by
 obtain ⟨h1,h2,it,h3,h4⟩:=h;exact ⟨h1.call hg hM,h2,it,h3.step hg (fun i e=>by injection e with e;subst e;exact ⟨fun _=>h1.1.hidden (by decide),fun e=>h2.2.1 e.symm⟩),h4⟩
theorem ItAt.blk {it:Item} (h:ItAt W ab it) (hw:Wip kd (filsOf l).length bd it):∃ vs,Blk W ab 41 vs∧vs.size=19∧(∃ x,vs[1]?=some x)∧(∃ x,vs[2]?=some x)∧(∃ x,vs[7]?=some (.int .i64 x))∧vs.all (·.oneCell')=true:=by
 cases it with
 | fil f =>
  obtain ⟨dv,cv,ev,h1,h2⟩:=h;obtain ⟨Ap,cp,Bp,cq,Cp,cr,rfl,rfl,rfl⟩:=h2.forms;exact ⟨_,h1,rfl,⟨_,rfl⟩,⟨_,rfl⟩,⟨0,rfl⟩,by kernel_rfl⟩
 | oth k vs =>
  have hv:=hw.2.2.2.1;have h1:1<vs.size:=by rw [hv.1];omega
  have h2:2<vs.size:=by rw [hv.1];omega
  exact ⟨vs,h,hv.1,⟨_,Array.getElem?_eq_getElem h1⟩,⟨_,Array.getElem?_eq_getElem h2⟩,hv.2.2.2.1,hv.all⟩
theorem XSt.has (h:XSt w W g A n c day fv ov kb l ab kd bd) (i:Nat) (hi:i<19):(∃ u,W.cell? ⟨ab,i,none⟩=some u)∧W.frozen? ⟨ab,i,none⟩=false:=by
 obtain ⟨h1,h2,it,h3,h4⟩:=h;obtain ⟨vs,q1,q2,_⟩:=h3.blk h4;have:i<vs.size:=by omega
 exact ⟨⟨vs[i],q1.cellAt i _ (Array.getElem?_eq_getElem this)⟩,q1.frozen i⟩
theorem XSt.num7 (h:XSt w W g A n c day fv ov kb l ab kd bd):∃ x,W.cell? ⟨ab,7,none⟩=some (.int .i64 x):=by
 obtain ⟨h1,h2,it,h3,h4⟩:=h;obtain ⟨vs,q1,q2,_,_,⟨x,hx⟩,_⟩:=h3.blk h4;exact ⟨x,q1.cellAt 7 _ hx⟩
theorem XSt.put (h:XSt w W g A n c day fv ov kb l ab kd bd) (i:Nat) (x:Int) (hi:(i=1∧0≤x∧x≤100000)∨(i=2∧0≤x∧x≤100)∨(i=7∧kd≠0)) (bd':Bool) (hb:bd'=true→i=1∨bd=true):XSt w (W.setCell ⟨ab,i,none⟩ (.int .i64 x)) g A n c day fv ov kb l ab kd bd':=by
 obtain ⟨h1,h2,it,h3,h4⟩:=h;have gs:=grown_set W ab i (.int .i64 x)
 have hh:Hidden TA W ab:=by
  obtain ⟨vs,q1,_⟩:=h3.blk h4;exact q1.hidden (by decide)
 refine ⟨h1.step gs (fun k e=>by injection e with e;subst e;exact ⟨fun _=>hh,by omega,h2.2.1,h2.2.2.1,h2.2.2.2.1,h2.2.2.2.2⟩),h2,?_⟩
 cases it with
 | fil f =>
  obtain ⟨dv,cv,ev,q1,q2⟩:=h3;obtain ⟨k0,hG,hd,hn⟩:=h4;have q2':=q2.step gs (fun k e _=>by injection e with e;subst e;exact hh)
  rcases hi with ⟨rfl,a,b⟩ | ⟨rfl,a,b⟩ | ⟨_,b⟩
  ·exact ⟨.fil { f with day:=x },⟨dv,cv,ev,q1.set 1 _,q2'⟩,k0,hG,⟨a,b⟩,hn⟩
  ·exact ⟨.fil { f with known:=x },⟨dv,cv,ev,q1.set 2 _,q2'⟩,k0,hG,hd,a,b⟩
  ·exact absurd k0 b
 | oth k vs =>
  obtain ⟨e,a,b,hv,hx⟩:=h4;refine ⟨.oth k (vs.setIfInBounds i (.int .i64 x)),Blk.set h3 i _,e,a,b,hv.set i _ rfl ?_ (fun _=>⟨x,rfl⟩) (fun _=>⟨x,rfl⟩),fun hbt=>?_⟩
  ·rcases hi with ⟨rfl,_⟩ | ⟨rfl,_⟩ | ⟨rfl,_⟩ <;> omega
  ·by_cases e1:i=1
   ·subst e1
    exact ⟨x,by rw [Array.getElem?_setIfInBounds_self_of_lt (by rw [hv.1];omega)]⟩
   ·rcases hb hbt with e2 | e2
    ·exact absurd e2 e1
    ·obtain ⟨y,hy⟩:=hx e2
     exact ⟨y,by rw [Array.getElem?_setIfInBounds_ne e1];exact hy⟩
theorem XSt.num1 (h:XSt w W g A n c day fv ov kb l ab kd true):∃ x,W.cell? ⟨ab,1,none⟩=some (.int .i64 x):=by
 obtain ⟨h1,h2,it,h3,h4⟩:=h
 cases it with
 | fil f =>
  obtain ⟨dv,cv,ev,q1,q2⟩:=h3;exact ⟨f.day,q1.cell 1⟩
 | oth k vs =>
  obtain ⟨x,hx⟩:=h4.2.2.2.2 rfl;exact ⟨x,Blk.cellAt h3 1 _ hx⟩
end
theorem OwnM.blk {ts:List TypeId} {H:List Nat} {w:World} {base:Nat} {e:TypeId} {size:Nat} {v:Value} {ds:List D} (h:OwnM ts H w base e size v ds) (i:Nat) (hi:v.ownBlock=some i):∃ cs,Blk w i e cs:=by
 obtain ⟨n,xs,h1,_⟩:=h;rcases h1.2 with ⟨rfl,_⟩ | ⟨g,cap,cur,rfl,_,hb,_⟩
 ·simp [Value.ownBlock] at hi
 ·injection hi with hi
  have hi:g=i:=hi;subst hi;exact ⟨cur,hb⟩
def SSx (w W:World) (g:Nat) (A:Option Addr) (n c:Nat) (day:Int) (fv ov:Value) (kb:Nat) (fl:List Fil) (l:List Item):Prop :=
 Mk W w.heap.size g A n c day fv∧OwnM TA [] W w.heap.size 41 19 fv (fl.flatMap Fil.cells)∧OwnM TA [] W w.heap.size 41 19 ov (l.flatMap Item.cells)∧(∀ i,fv.ownBlock=some i→ov.ownBlock≠some i∧i≠g)∧(∀ i,ov.ownBlock=some i→i≠g)∧Blk W kb 3 (ints kindsL).toArray∧w.heap.size≤kb∧Below w.heap.size w W
theorem SSx.out {w W w':World} {g:Nat} {A:Option Addr} {n c:Nat} {day:Int} {fv ov v':Value} {kb:Nat} {fl:List Fil} {l l':List Item} (h:SSx w W g A n c day fv ov kb fl l) (ho:OwnM TA [] w' w.heap.size 41 19 v' (l'.flatMap Item.cells)) (hg:W.grownBy w' ov.ownBlock) (hl:v'.ownBlock=ov.ownBlock∨v'.ownBlock=some W.heap.size):SSx w w' g A n c day fv v' kb fl l':=by
 obtain ⟨h1,h2,h3,h4,h5,h6,h7,h8⟩:=h;have hlo:=h3.lt;have hlf:=h2.lt;have hgl:=h1.lt;refine ⟨h1.step hg (fun i e=>⟨(hlo i e).1,h5 i e⟩),h2.step hg (fun i e _=>?_) (fun _ hi=>.inl hi),ho,fun i e=>⟨fun e2=>?_,(h4 i e).2⟩,fun i e=>?_,h6.grown hg (fun e=>?_),h7,h8.grown hg h8.size (fun i e=>(hlo i e).1)⟩
 ·obtain ⟨cs,hb⟩:=h3.blk i e
  exact ⟨.inl (hb.hidden (by decide)),fun e2=>(h4 i e2).1 e⟩
 ·rcases hl with hl | hl
  ·exact (h4 i e).1 (hl ▸ e2)
  ·rw [hl] at e2
   injection e2 with e2
   have:=(hlf i e).2;omega
 ·rcases hl with hl | hl
  ·exact h5 i (hl ▸ e)
  ·rw [hl] at e
   injection e with e
   omega
 ·obtain ⟨cs,hb⟩:=h3.blk kb e.symm
  exact h6.ne hb (by decide) rfl
theorem SSx.files {w W w':World} {g:Nat} {A:Option Addr} {n c:Nat} {day:Int} {fv ov v':Value} {kb:Nat} {fl fl':List Fil} {l:List Item} (h:SSx w W g A n c day fv ov kb fl l) (ho:OwnM TA [] w' w.heap.size 41 19 v' (fl'.flatMap Fil.cells)) (hg:W.grownBy w' fv.ownBlock) (hl:v'.ownBlock=fv.ownBlock∨v'.ownBlock=some W.heap.size):SSx w (w'.setCell ⟨g,3,none⟩ v') g A n c day v' ov kb fl' l:=by
 obtain ⟨h1,h2,h3,h4,h5,h6,h7,h8⟩:=h;have hlo:=h3.lt;have hlf:=h2.lt;have hgl:=h1.lt
 have hn':v'.ownBlock≠some g:=fun e=>by
  rcases hl with hl | hl
  ·exact (h4 g (hl ▸ e)).2 rfl
  ·rw [hl] at e
   injection e with e
   omega
 have m2:Mk w' w.heap.size g A n c day fv:=h1.step hg (fun i e=>⟨(hlf i e).1,(h4 i e).2⟩)
 have hh:Hidden TA w' g:=m2.hidden (by decide)
 have gs:=grown_set w' g 3 v'
 have hkg:kb≠g:=by
  obtain ⟨⟨a,hm⟩,_⟩:=h1;exact h6.ne hm (by decide)
 have b6:Blk w' kb 3 (ints kindsL).toArray:=h6.grown hg (fun e=>by
  obtain ⟨cs,hb⟩:=h2.blk kb e.symm;exact h6.ne hb (by decide) rfl)
 obtain ⟨⟨a,hm⟩,q2,q3,q4⟩:=m2;have hm2:=hm.set 3 v';simp only [pB,pZ,pC] at hm2;refine ⟨⟨⟨a,hm2⟩,q2.grown gs (fun a e e2=>by injection e2 with e2;have:=q3 a e;omega),q3,q4⟩,ho.step gs (fun i e _=>by injection e with e;subst e;exact ⟨.inl hh,hn'⟩) (fun _ hi=>.inl hi),(h3.step hg (fun i e _=>?_) (fun _ hi=>.inl hi)).step gs (fun i e _=>by injection e with e;subst e;exact ⟨.inl hh,fun e2=>h5 _ e2 rfl⟩) (fun _ hi=>.inl hi),fun i e=>⟨fun e2=>?_,fun e2=>hn' (e2 ▸ e)⟩,h5,b6.far (p:=⟨g,3,none⟩) hkg _,h7,(h8.grown hg h8.size (fun i e=>(hlf i e).1)).grown gs (h8.grown hg h8.size (fun i e=>(hlf i e).1)).size (fun i e=>by injection e with e;omega)⟩
 ·obtain ⟨cs,hb⟩:=h2.blk i e
  exact ⟨.inl (hb.hidden (by decide)),(h4 i e).1⟩
 ·rcases hl with hl | hl
  ·exact (h4 i (hl ▸ e)).1 e2
  ·rw [hl] at e
   injection e with e
   have:=(hlo i e2).2;omega
theorem ssx_alloc {w W:World} {g:Nat} {A:Option Addr} {n c:Nat} {day:Int} {fv ov:Value} {kb:Nat} {fl:List Fil} {l:List Item} {o:Obj} (h:SSx w W g A n c day fv ov kb fl l) (ga:W.grownBy (W.alloc o) none):SSx w (W.alloc o) g A n c day fv ov kb fl l:=by
 obtain ⟨h1,h2,h3,h4,h5,h6,h7,h8⟩:=h;exact ⟨h1.step ga (fun _ e=>by cases e),h2.step ga (fun _ e=>by cases e) (fun _ hi=>.inl hi),h3.step ga (fun _ e=>by cases e) (fun _ hi=>.inl hi),h4,h5,h6.grown ga (by simp),h7,h8.grown ga h8.size (fun _ e=>by cases e)⟩
theorem genS_oth {l:List Item} {k:Int} {vs:Array Value} (h:GenS l) (hl:l.length≤13) (hk:1≤k∧k≤21) (hv:OthV k vs):GenS (l++[.oth k vs])∧filsOf (l++[.oth k vs])=filsOf l:=by
 have e:filsOf (l++[.oth k vs])=filsOf l:=by rw [filsOf_app];simp [filsOf]
 refine ⟨⟨by simp;omega,fun x hx=>?_,by rw [e];exact h.2.2⟩,e⟩
 rcases List.mem_append.1 hx with hx | hx
 ·exact h.2.1 x hx
 ·rw [List.mem_singleton.1 hx]
  exact ⟨hk.1,hk.2,hv⟩
theorem genS_fil {l:List Item} {f:Fil} (h:GenS l) (hl:l.length≤13) (hf:GenA (filsOf l).length f) (hd:0≤f.day∧f.day≤100000) (hn:0≤f.known∧f.known≤100):GenS (l++[.fil f])∧filsOf (l++[.fil f])=filsOf l++[f]:=by
 have e:filsOf (l++[.fil f])=filsOf l++[f]:=by rw [filsOf_app];simp [filsOf]
 have hle:=filsOf_le l
 have hG:GenL (filsOf l++[f]):=by
  refine ⟨by simp;omega,fun i hi=>?_⟩
  by_cases hlt:i<(filsOf l).length
  ·rw [List.getElem_append_left hlt]
   exact h.2.2.2 i hlt
  ·have:i=(filsOf l).length:=by simp at hi;omega
   subst this;rw [List.getElem_append_right (Nat.le_refl _)];simp only [Nat.sub_self,List.getElem_cons_zero];exact ⟨hf,hd.1,hd.2,hn.1,hn.2⟩
 refine ⟨⟨by simp;omega,fun x hx=>?_,by rw [e];exact hG⟩,e⟩
 rcases List.mem_append.1 hx with hx | hx
 ·exact h.2.1 x hx
 ·rw [List.mem_singleton.1 hx]
  trivial
theorem RepML.more {ts:List TypeId} {H H':List Nat} {w:World} {v:List Value} {d:List D} (h:RepML ts H w v d) (hh:∀ i∈H',i∈H∨Hidden ts w i):RepML ts H' w v d :=
 RepL.mono (fun p u _ hu=>by
  obtain ⟨h1,h2,h3⟩:=maskM_cell.1 hu;refine maskM_cell.2 ⟨h1,h2,fun e=>?_⟩
  rcases hh _ e with h | h
  ·exact h3 h
  ·exact h2 h) (Nat.le_refl _) h
theorem arr19 {vs:Array Value} (h:vs.size=19):∃ a0 a1 a2 a3 a4 a5 a6 a7 a8 a9 a10 a11 a12 a13 a14 a15 a16 a17 a18,vs=#[a0,a1,a2,a3,a4,a5,a6,a7,a8,a9,a10,a11,a12,a13,a14,a15,a16,a17,a18]:=by
 obtain ⟨l⟩:=vs;rw [List.size_toArray] at h
 match l,h with
 | [a0,a1,a2,a3,a4,a5,a6,a7,a8,a9,a10,a11,a12,a13,a14,a15,a16,a17,a18],_=>exact ⟨a0,a1,a2,a3,a4,a5,a6,a7,a8,a9,a10,a11,a12,a13,a14,a15,a16,a17,a18,rfl⟩
theorem script_any (A:Option Addr) (n c:Nat) (w:World) (hA:IntsAt w A n) (hA2:∀ a,A=some a→a.block<w.heap.size) :
  Calls Tryz.prog 38 #[.slice A n c,.int .i64 14] w fun e w'=>∃ u l,e=.returned u∧OwnM TA [] w' w.heap.size 41 19 u (l.flatMap Item.cells)∧GenS l∧Below w.heap.size w w':=by
 have B0:=Blk.new w 144 #[.slice A n c,.int .i64 0,.int .i64 36000,.slice none 0 0];have P0:=below_new w (.cells #[.slice A n c,.int .i64 0,.int .i64 36000,.slice none 0 0] 144);have M0:Mk (w.alloc (.cells #[.slice A n c,.int .i64 0,.int .i64 36000,.slice none 0 0] 144)) w.heap.size w.heap.size A n c 36000 (.slice none 0 0):=⟨⟨0,B0⟩,hA.grown (World.grownBy_alloc w _ none) (fun _ _ e=>by cases e),hA2,Nat.le_refl _⟩
 have hs0:(w.alloc (.cells #[.slice A n c,.int .i64 0,.int .i64 36000,.slice none 0 0] 144)).heap.size=w.heap.size+1:=World.size_alloc ..;clear hA hA2 B0;go_enter Tryz.func38,Tryz.ntmps38
 go_upto_region 3 with fail;generalize w.alloc (.cells #[.slice A n c,.int .i64 0,.int .i64 36000,.slice none 0 0] 144)=w1 at *;have R1:=Blk.newAt (t:=3) (cs:=(ints kindsL).toArray) hs0;have ga:=World.grownBy_alloc w1 (.cells (ints kindsL).toArray 3) none
 have S1:SSt w (w1.alloc (.cells (ints kindsL).toArray 3)) w.heap.size A n c 36000 (.slice none 0 0) (.slice none 0 0) (w.heap.size+1) [] :=
  ⟨M0.step ga (fun _ e=>by cases e),OwnM.nil ..,OwnM.nil ..,fun i e=>by simp [Value.ownBlock] at e,fun i e=>by simp [Value.ownBlock] at e,R1,by omega,P0.grown ga P0.size (fun _ e=>by cases e)⟩
 have HS:=Lib.hid S1;clear R1 ga S1 M0 P0;go_upto_region 5 with fail;go_loopw [6,8] (fun u j wr=>∃ (l:List Item) (dy:Int) (fv:Value),j=.int .i64 (l.length:Int)∧GenS l∧(36000≤dy∧dy≤36000+119 * (l.length:Int))∧SSt w wr w.heap.size A n c dy fv u (w.heap.size+1) l) (fun _ j _=>14 - (intOf j).toNat)
 case atStart=>exact ⟨[],36000,_,rfl,genS_nil,⟨by simp,by simp⟩,HS.out⟩
 case round =>
  obtain ⟨l,dy,fv,rfl,hl,hd,hS⟩:=hrel;clear HS hs0;have hlen14:=hl.1;obtain ⟨⟨at_,hm⟩,_⟩:=hS.1;have hca:wr.cell? ⟨w.heap.size,1,none⟩=some (.int .i64 at_):=hm.cell 1;obtain ⟨Ao,no,co,rfl,hno,_⟩:=hS.2.2.1.slice;have hcl:=hl.cells;obtain rfl:no=l.length:=by omega
  have HS:=Lib.hid hS;have HL:=Lib.hid hl;clear hS hl hm hcl hno;by_cases hat:at_<(n:Int)
  ·have ea:decide (at_<(n:Int))=true:=decide_eq_true hat
   by_cases hk:l.length<14
   ·have ek:decide ((l.length:Int)<14)=true:=decide_eq_true (by omega)
    go_upto_region 7 with fail;clear ea ek hca hat;go_cut [] (fun wx=>∃ dy':Int,(36000≤dy'∧dy'≤36000+119 * ((l.length:Int)+1))∧SSt w wx w.heap.size A n c dy' fv (.slice Ao l.length co) (w.heap.size+1) l)
    case first =>
     refine wp_region_held_drew (S:=(fun W=>∃ dd:Int,SSt w W w.heap.size A n c dd fv (.slice Ao l.length co) (w.heap.size+1) l)) (by kernel_rfl) ?_ (fun hHeld=>?_)
     ·first | done | ((try dsimp only);exact ⟨dy,HS.out.step (grown_drew wr none) (fun _ e=>by cases e)⟩)
     have HX:=HS.out.step (grown_drew wr none) (fun _ e=>by cases e)
     clear HS;refine tq 0 30 rfl ?_
     refine tq 1 31 rfl ?_
     refine tq 2 32 rfl ?_
     refine tq 3 33 rfl ?_
     refine tq 5 35 rfl ?_
     refine rd2 4 (some 34) 6 (some 36) (by kernel_rfl) rfl rfl (fun K hK=>?_) fun K hK=>?_
     ·skip
      obtain ⟨⟨at2,hm2⟩,_⟩:=HX.1;have hcd:wr.drew.cell? ⟨w.heap.size,2,none⟩=some (.int .i64 dy):=hm2.cell 2;go_simp;skip;refine hK.out _ _ (hHeld) fun hHeld=>?_
      clear hK K;(try simp only [pS,pB,pZ,pC]);clear hcd hm2 at2;refine rd 6 (some 36) rfl fun K hK=>?_
      go_simp
      (refine (next_any HX.1 120 (by omega) (by omega)).mono ?_;rintro e w6 ⟨⟨r,rfl,hr0,hr1⟩,g6,M6⟩)
      refine hK.out _ _ (⟨dy,HX.call g6 M6⟩) fun hHeld=>?_
      clear hK K;(try simp only [pS,pB,pZ,pC]);have HX:=HX.call g6 M6;clear g6 M6;refine tq 7 37 rfl ?_
      refine tq 8 38 rfl ?_
      refine tq 9 39 rfl ?_
      obtain ⟨⟨at2,hm2⟩,_⟩:=HX.1;have hcd:=hm2.cell 2;have hfd:=hm2.frozen 2;refine rd 10 none rfl fun K hK=>?_
      go_simp;refine hK.out _ _ ?_ (fun hHeld=>?_)
      ·exact ⟨_,HX.setday (IntKind.i64.wrap (dy+r))⟩
      clear hK K hcd hfd;(try simp only [Act.put]);refine dn ?_
      go_wp2_with fail;go_meet;have hwr:IntKind.i64.wrap (dy+r)=dy+r:=by rw [IntKind.wrap_i64];omega
      exact ⟨IntKind.i64.wrap (dy+r),⟨by rw [hwr];omega,by rw [hwr];omega⟩,HX.setday _⟩
     ·skip
      go_simp
      (refine (next_any HX.1 120 (by omega) (by omega)).mono ?_;rintro e w6 ⟨⟨r,rfl,hr0,hr1⟩,g6,M6⟩)
      refine hK.out _ _ (⟨dy,HX.call g6 M6⟩) fun hHeld=>?_
      clear hK K;(try simp only [pS,pB,pZ,pC]);have HX:=HX.call g6 M6;clear g6 M6;obtain ⟨⟨at2,hm2⟩,_⟩:=HX.1;have hcd:w6.cell? ⟨w.heap.size,2,none⟩=some (.int .i64 dy):=hm2.cell 2;refine rd 4 (some 34) rfl fun K hK=>?_
      go_simp;skip;refine hK.out _ _ (hHeld) fun hHeld=>?_
      clear hK K;(try simp only [pS,pB,pZ,pC]);clear hcd hm2 at2;refine tq 7 37 rfl ?_
      refine tq 8 38 rfl ?_
      refine tq 9 39 rfl ?_
      obtain ⟨⟨at2,hm2⟩,_⟩:=HX.1;have hcd:=hm2.cell 2;have hfd:=hm2.frozen 2;refine rd 10 none rfl fun K hK=>?_
      go_simp;refine hK.out _ _ ?_ (fun hHeld=>?_)
      ·exact ⟨_,HX.setday (IntKind.i64.wrap (dy+r))⟩
      clear hK K hcd hfd;(try simp only [Act.put]);refine dn ?_
      go_wp2_with fail;go_meet;have hwr:IntKind.i64.wrap (dy+r)=dy+r:=by rw [IntKind.wrap_i64];omega
      exact ⟨IntKind.i64.wrap (dy+r),⟨by rw [hwr];omega,by rw [hwr];omega⟩,HX.setday _⟩
    case rest =>
     obtain ⟨dy',hd',hS'⟩:=hcut;obtain ⟨w3,rfl⟩:∃ z:World,z=wc:=⟨_,rfl⟩;clear HS hd;have HS:=Lib.hid hS';clear hS';go_wp2_with fail;refine (next_any HS.out.1 40 (by omega) (by omega)).mono ?_
     rintro e w4 ⟨⟨r,rfl,hr0,hr1⟩,g4,M4⟩;obtain ⟨ii,rfl⟩:∃ ii:Nat,r=(ii:Int):=⟨r.toNat,by omega⟩
     have hi40:ii<40:=by omega
     have hii:ii<kindsL.length:=hi40;have HS:=Lib.hid (HS.out.call g4 M4);have hck:w4.cell? ⟨w.heap.size+1,ii,none⟩=some (.int .i64 kindsL[ii]):=HS.out.2.2.2.2.2.1.cellAt ii _ (by rw [List.getElem?_toArray];exact ints_get kindsL ii hii)
     have hx:=kindsL_ok _ (List.getElem_mem hii);generalize kindsL[ii]=x at *;clear g4 M4 hr0 hr1;go_upto_region 9 with fail;clear hck hii hi40;go_cut [48] (fun u wx=>(∃ bb:Bool,u=.bool bb)∧SSt w wx w.heap.size A n c dy' fv (.slice Ao l.length co) (w.heap.size+1) l)
     case first =>
      by_cases h0:l.length=0
      ·have e0:((l.length:Int) == 0)=true:=by simp [h0]
       go_wp2_with fail;go_meet;exact ⟨⟨_,rfl⟩,HS.out⟩
      ·have e0:((l.length:Int) == 0)=false:=by rw [beq_eq_false_iff_ne];omega
       go_wp2_with fail;go_meet;exact ⟨⟨_,rfl⟩,HS.out⟩
     case rest =>
      obtain ⟨⟨bb,rfl⟩,S5⟩:=hcut;obtain ⟨w5,rfl⟩:∃ z:World,z=wc:=⟨_,rfl⟩;clear HS;rename_i hKK;refine hKK _ _ ?_
      clear hKK;go_cut [9] (fun u wx=>(∃ kd:Int,u=.int .i64 kd∧0≤kd∧kd≤21)∧SSt w wx w.heap.size A n c dy' fv (.slice Ao l.length co) (w.heap.size+1) l)
      case first =>
       cases bb with
       | false =>
        go_wp2_with fail;go_meet;exact ⟨⟨x,rfl,hx⟩,S5⟩
       | true =>
        go_wp2_with fail;go_meet;exact ⟨⟨0,rfl,by omega,by omega⟩,S5⟩
      case rest =>
       obtain ⟨⟨kd,rfl,hkd⟩,S6⟩:=hcut;obtain ⟨w6,rfl⟩:∃ z:World,z=wc:=⟨_,rfl⟩;clear S5 hx;have HS6:=Lib.hid S6;clear S6;have Yz:=Blk.new w6 41 #[iI 0,iI 0,iI 0,iI 0,iI 0,iI 0,iI 0,iI 0,iI 0,iI 0,iI 0,nN,nN,nN,nN,iI 0,iI 0,nN,nN];go_upto_region 12 with (refine wpList_storeA Yz rfl _ _ rfl rfl rfl _ rfl rfl (by kernel_rfl) ?_;intro w7 Y7 g7)
       have ga:=World.grownBy_alloc w6 (.cells #[iI 0,iI 0,iI 0,iI 0,iI 0,iI 0,iI 0,iI 0,iI 0,iI 0,iI 0,nN,nN,nN,nN,iI 0,iI 0,nN,nN] 41) none;have hgl:=HS6.out.1.lt;have hkl:=HS6.out.2.2.2.2.2.1.lt;have hfl:=HS6.out.2.1.lt;have hol:=HS6.out.2.2.1.lt;have hw6:w.heap.size<w6.heap.size:=hgl;have hab5:w.heap.size<w6.heap.size∧w6.heap.size≠w.heap.size∧w6.heap.size≠w.heap.size+1∧fv.ownBlock≠some w6.heap.size∧(Value.slice Ao l.length co).ownBlock≠some w6.heap.size:=⟨hgl,by omega,by omega,fun e=>by have:=(hfl _ e).2;omega,fun e=>by have:=(hol _ e).2;omega⟩
       have S7:=(HS6.out.step ga (fun _ e=>by cases e)).step g7 (fun i e=>by injection e with e;subst e;exact ⟨fun _=>Yz.hidden (by decide),by omega,hab5.2.1,hab5.2.2.1,hab5.2.2.2.1,hab5.2.2.2.2⟩)
       clear HS6 Yz ga g7 hgl hkl hfl hol hw6;generalize w6.heap.size=ab at *;simp only [Act.put];go_cut [51] (fun u wx=>(∃ bb:Bool,u=.bool bb∧(bb=true→kd=0)∧(bb=false→1≤kd))∧Blk wx ab 41 #[iI 0,iI 0,iI 0,iI 0,iI 0,iI 0,iI 0,iI 0,iI 0,iI 0,iI 0,nN,nN,nN,nN,iI 0,iI 0,nN,nN]∧SSt w wx w.heap.size A n c dy' fv (.slice Ao l.length co) (w.heap.size+1) l)
       case first =>
        by_cases h0:kd=0
        ·have e0:(kd == 0)=true:=by simp [h0]
         go_wp2_with fail;go_meet;exact ⟨⟨_,rfl,fun _=>h0,fun h=>by cases h⟩,Y7,S7⟩
        ·have e0:(kd == 0)=false:=by rw [beq_eq_false_iff_ne];omega
         go_wp2_with fail;go_meet;exact ⟨⟨_,rfl,fun h=>(by cases h),fun _=>(by omega)⟩,Y7,S7⟩
       case rest =>
        obtain ⟨⟨bb2,rfl,hb1,hb2⟩,Y8,S8⟩:=hcut;obtain ⟨w8,rfl⟩:∃ z:World,z=wc:=⟨_,rfl⟩;clear Y7 S7;rename_i hKK;refine hKK _ _ ?_
        clear hKK;go_cut [] (fun wx=>XSt w wx w.heap.size A n c dy' fv (.slice Ao l.length co) (w.heap.size+1) l ab kd false)
        case first =>
         have HS8:=Lib.hid S8;have hfle:=filsOf_le l;clear S8
         cases bb2 with
         | true =>
          obtain rfl:=hb1 rfl;go_wp2_with fail;refine (mkfiling_any HS8.out.1 HS8.out.2.1 HL.out.2.2 (by omega)).mono ?_
          rintro e w9 ⟨⟨f,dv,cv,ev,rfl,hfm,hga,hf0,hf1⟩,g9,M9⟩;obtain ⟨Ap,cp,Bp,cq,Cp,cr,rfl,rfl,rfl⟩:=hfm.forms;have Y9:=Y8.grown g9 (fun e=>by injection e with e;exact hab5.2.1 e)
          have S9:=HS8.out.call g9 M9;clear HS8 Y8 g9 M9;go_wp2_with (refine wpList_storeA Y9 rfl _ _ rfl rfl rfl _ rfl rfl (by kernel_rfl) ?_;intro wA YA gA)
          go_meet;exact ⟨S9.step gA (fun i e=>by injection e with e;subst e;exact ⟨fun _=>Y9.hidden (by decide),by omega,hab5.2.1,hab5.2.2.1,hab5.2.2.2.1,hab5.2.2.2.2⟩),⟨hab5.1,hab5.2.1,hab5.2.2.1,hab5.2.2.2.1,hab5.2.2.2.2⟩,.fil f,⟨_,_,_,YA,hfm.step gA (fun i e _=>by injection e with e;subst e;exact Y9.hidden (by decide))⟩,rfl,hga,by omega,by omega⟩
         | false =>
          have hk1:=hb2 rfl;go_wp2_with fail;refine (mkother_any HS8.out.1 HS8.out.2.1 (by omega) kd ⟨hk1,hkd.2⟩).mono ?_
          rintro e w9 ⟨⟨vs,rfl,hov⟩,g9,M9⟩;have Y9:=Y8.grown g9 (fun e=>by injection e with e;exact hab5.2.1 e)
          have S9:=HS8.out.call g9 M9;have hvs:=hov.1;have hva:=hov.all;clear HS8 Y8 g9 M9;go_wp2_with (refine wpList_storeA Y9 rfl _ _ rfl rfl rfl vs rfl hvs hva ?_;intro wA YA gA)
          go_meet;exact ⟨S9.step gA (fun i e=>by injection e with e;subst e;exact ⟨fun _=>Y9.hidden (by decide),by omega,hab5.2.1,hab5.2.2.1,hab5.2.2.2.1,hab5.2.2.2.2⟩),⟨hab5.1,hab5.2.1,hab5.2.2.1,hab5.2.2.2.1,hab5.2.2.2.2⟩,.oth kd vs,YA,rfl,hk1,hkd.2,hov,fun h=>by cases h⟩
        case rest =>
         have X9:=hcut;obtain ⟨w9,rfl⟩:∃ z:World,z=wc:=⟨_,rfl⟩;clear hcut Y8 S8 hb1 hb2;have hlen13:l.length≤13:=by omega
         obtain ⟨⟨at2,hm2⟩,_⟩:=X9.1.1;have hcd:w9.cell? ⟨w.heap.size,2,none⟩=some (.int .i64 dy'):=hm2.cell 2;obtain ⟨⟨u1,hc1⟩,hf1⟩:=X9.has 1 (by omega)
         have HX9:=Lib.hid X9;clear X9 hm2;go_upto_region 16 with fail;have X10:=HX9.out.put 1 dy' (.inl ⟨rfl,by omega,by omega⟩) true (fun _=>.inl rfl)
         clear HX9 hcd hc1 hf1;generalize w9.setCell ⟨ab,1,none⟩ (.int .i64 dy')=wA at *;go_cut [64] (fun u wx=>(∃ bb:Bool,u=.bool bb)∧XSt w wx w.heap.size A n c dy' fv (.slice Ao l.length co) (w.heap.size+1) l ab kd true)
         case first =>
          have HX:=Lib.hid X10;clear X10;go_wp2_with fail;refine (next_any HX.out.1.1 6 (by omega) (by omega)).mono ?_
          rintro e wB ⟨⟨r,rfl,hr0,hr1⟩,gB,MB⟩;have XB:=Lib.hid (HX.out.call gB MB);clear HX gB MB;go_wp2_with fail;go_meet;exact ⟨⟨_,rfl⟩,XB.out⟩
         case rest =>
          obtain ⟨⟨bb3,rfl⟩,XB⟩:=hcut;obtain ⟨wB,rfl⟩:∃ z:World,z=wc:=⟨_,rfl⟩;clear X10;rename_i hKK;refine hKK _ _ ?_
          clear hKK;go_cut [] (fun wx=>XSt w wx w.heap.size A n c dy' fv (.slice Ao l.length co) (w.heap.size+1) l ab kd true)
          case first =>
           cases bb3 with
           | false =>
            go_wp2_with fail;go_meet;exact XB
           | true =>
            go_upto_region 17 with fail;refine wp_region_held_drew (S:=(fun W=>XSt w W w.heap.size A n c dy' fv (.slice Ao l.length co) (w.heap.size+1) l ab kd true)) (by kernel_rfl) ?_ (fun hHeld=>?_)
            ·first | done | ((try dsimp only);exact XB.step (grown_drew wB none) (fun _ e=>by cases e))
            clear XB;refine tq 0 65 rfl ?_
            refine tq 1 66 rfl ?_
            refine tq 2 67 rfl ?_
            refine tq 3 68 rfl ?_ (hy:=by intro w' hSw;(try dsimp only at hSw);obtain ⟨⟨at3,hm3⟩,_⟩:=hSw.1.1;have hc:w'.cell? ⟨w.heap.size,2,none⟩=some (.int .i64 dy'):=hm3.cell 2;go_simp;try (with_reducible rfl))
            refine tq 4 69 rfl ?_
            refine rd 5 (some 70) rfl fun K hK=>?_
            go_simp
            (refine (next_any hHeld.1.1 400 (by omega) (by omega)).mono ?_;rintro e wC ⟨⟨r,rfl,hr0,hr1⟩,gC,MC⟩)
            refine hK.out _ _ (hHeld.call gC MC) fun hHeld=>?_
            clear hK K;(try simp only [pS,pB,pZ,pC]);refine tq 6 71 rfl ?_
            refine tq 7 72 rfl ?_
            obtain ⟨⟨u1,hc1⟩,hf1⟩:=hHeld.has 1 (by omega)
            have hwr:IntKind.i64.wrap (dy' - r)=dy' - r:=by rw [IntKind.wrap_i64];omega
            have HWR:=Lib.hid hwr;clear hwr;refine rd 8 none rfl fun K hK=>?_
            go_simp;refine hK.out _ _ ?_ (fun hHeld=>?_)
            ·exact hHeld.put 1 (IntKind.i64.wrap (dy' - r)) (.inl ⟨rfl,by rw [HWR.out];omega,by rw [HWR.out];omega⟩) true (fun _=>.inl rfl)
            clear hK K hc1 hf1;(try simp only [Act.put]);refine dn ?_
            go_wp2_with fail;go_meet;exact hHeld
          case rest =>
           have XC:=hcut;obtain ⟨wC,rfl⟩:∃ z:World,z=wc:=⟨_,rfl⟩;clear hcut XB;obtain ⟨⟨u2,hc2⟩,hf2⟩:=XC.has 2 (by omega)
           have HXC:=Lib.hid XC;clear XC;go_upto_region 19 with fail;have XD:=HXC.out.put 2 (4 * (l.length:Int)) (.inr (.inl ⟨rfl,by omega,by omega⟩)) true (fun _=>.inr rfl)
           clear HXC hc2 hf2;generalize wC.setCell ⟨ab,2,none⟩ (.int .i64 (4 * (l.length:Int)))=wD at *;go_cut [85] (fun u wx=>(∃ bb:Bool,u=.bool bb∧(bb=true→kd≠0))∧XSt w wx w.heap.size A n c dy' fv (.slice Ao l.length co) (w.heap.size+1) l ab kd true)
           case first =>
            by_cases h9:kd=9
            ·have e9:(kd == 9)=true:=by simp [h9]
             go_wp2_with fail;go_meet;exact ⟨⟨_,rfl,fun _=>by omega⟩,XD⟩
            have e9:(kd == 9)=false:=by rw [beq_eq_false_iff_ne];omega
            by_cases h17:kd=17
            ·have e17:(kd == 17)=true:=by simp [h17]
             go_wp2_with fail;go_meet;exact ⟨⟨_,rfl,fun _=>by omega⟩,XD⟩
            have e17:(kd == 17)=false:=by rw [beq_eq_false_iff_ne];omega
            by_cases h20:kd=20
            ·have e20:(kd == 20)=true:=by simp [h20]
             go_wp2_with fail;go_meet;exact ⟨⟨_,rfl,fun _=>by omega⟩,XD⟩
            have e20:(kd == 20)=false:=by rw [beq_eq_false_iff_ne];omega
            go_wp2_with fail;go_meet;exact ⟨⟨_,rfl,fun h=>by cases h⟩,XD⟩
           case rest =>
            obtain ⟨⟨bb4,rfl,hb4⟩,XE⟩:=hcut;obtain ⟨wE,rfl⟩:∃ z:World,z=wc:=⟨_,rfl⟩;clear XD;rename_i hKK;refine hKK _ _ ?_
            clear hKK;go_cut [] (fun wx=>XSt w wx w.heap.size A n c dy' fv (.slice Ao l.length co) (w.heap.size+1) l ab kd true)
            case first =>
             cases bb4 with
             | false =>
              go_wp2_with fail;go_meet;exact XE
             | true =>
              obtain ⟨x1,hx1⟩:=XE.num1;obtain ⟨x7,hx7⟩:=XE.num7;have hf7:=(XE.has 7 (by omega)).2
              have hk4:=hb4 rfl;have HXE:=Lib.hid XE;clear XE hb4;go_wp2_with fail;go_meet;exact HXE.out.put 7 _ (.inr (.inr ⟨rfl,hk4⟩)) true (fun _=>.inr rfl)
            case rest =>
             have XF:=hcut;obtain ⟨wF,rfl⟩:∃ z:World,z=wc:=⟨_,rfl⟩;clear hcut XE hb4;go_upto_region 21 with fail;go_cut [93] (fun u wx=>(∃ bb:Bool,u=.bool bb∧(bb=true→kd=0)∧(bb=false→kd≠0))∧XSt w wx w.heap.size A n c dy' fv (.slice Ao l.length co) (w.heap.size+1) l ab kd true)
             case first =>
              by_cases h0:kd=0
              ·have e0:(kd == 0)=true:=by simp [h0]
               go_wp2_with fail;go_meet;exact ⟨⟨_,rfl,fun _=>h0,fun h=>by cases h⟩,XF⟩
              ·have e0:(kd == 0)=false:=by rw [beq_eq_false_iff_ne];omega
               go_wp2_with fail;go_meet;exact ⟨⟨_,rfl,fun h=>(by cases h),fun _=>h0⟩,XF⟩
             case rest =>
              obtain ⟨⟨bb5,rfl,hb5,hb6⟩,XG⟩:=hcut;obtain ⟨wG,rfl⟩:∃ z:World,z=wc:=⟨_,rfl⟩;clear XF;rename_i hKK;refine hKK _ _ ?_
              clear hKK;obtain ⟨SG,hab6,it,hit,hwip⟩:=XG;have HSG:=Lib.hid SG;clear SG
              cases bb5 with
              | false =>
               have hkn:=hb6 rfl
               cases it with
               | fil f=>exact absurd hwip.1 hkn
               | oth k vs =>
                obtain ⟨rfl,k1,k2,hov,_⟩:=hwip;have YA:Blk wG ab 41 vs:=hit;have hvs:=hov.1;have hva:=hov.all;obtain ⟨a0,a1,a2,a3,a4,a5,a6,a7,a8,a9,a10,a11,a12,a13,a14,a15,a16,a17,a18,hvv⟩:=arr19 hvs;subst hvv;have ga:=World.grownBy_alloc wG (.cells #[a0,a1,a2,a3,a4,a5,a6,a7,a8,a9,a10,a11,a12,a13,a14,a15,a16,a17,a18] 41) none;have RA:=Blk.new wG 41 #[a0,a1,a2,a3,a4,a5,a6,a7,a8,a9,a10,a11,a12,a13,a14,a15,a16,a17,a18];have SH:=HSG.out.step ga (fun _ e=>by cases e)
                have NA:RepML TA ((Value.slice Ao l.length co).ownBlock.toList++[]) (wG.alloc (.cells #[a0,a1,a2,a3,a4,a5,a6,a7,a8,a9,a10,a11,a12,a13,a14,a15,a16,a17,a18] 41)) #[a0,a1,a2,a3,a4,a5,a6,a7,a8,a9,a10,a11,a12,a13,a14,a15,a16,a17,a18].toList (valD #[a0,a1,a2,a3,a4,a5,a6,a7,a8,a9,a10,a11,a12,a13,a14,a15,a16,a17,a18].toList):=RepL.of_plain _ _ _;have OA:=SH.2.2.1;have hcl:=HL.out.cells;have hsz:=SH.2.2.2.2.2.2.2.size;have HSH:=Lib.hid SH;clear hit SH ga;go_wp2_with (first | (refine wpList_loadA YA hvs _ rfl rfl rfl ?_) | (at_builtin;refine wpList_appM Tryz.underlying23 Tryz.info41 rfl (by omega) (by omega) OA RA (by rw [hvs]) hva NA (by omega) (by omega) hsz rfl _ _ rfl rfl rfl ?_;intro v9 w9 o9 g9 l9))
                obtain ⟨gS,gE⟩:=genS_oth HL.out (by omega) ⟨k1,k2⟩ hov
                have o9':OwnM TA [] w9 w.heap.size 41 19 v9 ((l++[Item.oth k #[a0,a1,a2,a3,a4,a5,a6,a7,a8,a9,a10,a11,a12,a13,a14,a15,a16,a17,a18]]).flatMap Item.cells):=by rw [List.flatMap_append,List.flatMap_cons,List.flatMap_nil,List.append_nil];exact o9
                have SI:SSx w w9 w.heap.size A n c dy' fv v9 (w.heap.size+1) (filsOf l) (l++[Item.oth k #[a0,a1,a2,a3,a4,a5,a6,a7,a8,a9,a10,a11,a12,a13,a14,a15,a16,a17,a18]]):=SSx.out (fl:=filsOf l) (l:=l) HSH.out o9' g9 l9;go_roundw
                case rel=>exact ⟨l++[Item.oth k #[a0,a1,a2,a3,a4,a5,a6,a7,a8,a9,a10,a11,a12,a13,a14,a15,a16,a17,a18]],dy',fv,by first | go_num | simp,gS,⟨hd'.1,by have:=hd'.2;simp only [List.length_append,List.length_cons,List.length_nil];omega⟩,by unfold SSt;rw [gE];exact SI⟩
                case measure=>simp [intOf];omega
              | true =>
               obtain rfl:=hb5 rfl
               cases it with
               | oth k vs=>exact absurd hwip.1 (by have:=hwip.2.1;omega)
               | fil f =>
                obtain ⟨_,hga,hdd,hkn2⟩:=hwip;obtain ⟨dv,cv,ev,YA,hfm⟩:=hit;obtain ⟨Ap,cp,Bp,cq,Cp,cr,rfl,rfl,rfl⟩:=hfm.forms;have hfle:=filsOf_le l;have hcf:=flat_length (l:=filsOf l) (f:=Fil.cells) (k:=19) (fun x _=>x.cells_length)
                obtain ⟨gS,gE⟩:=genS_fil HL.out (by omega) hga hdd hkn2
                have hcl:=HL.out.cells;have HGS:=Lib.hid gS;have HGE:=Lib.hid gE;clear gS gE hb6;go_upto_region 22 with fail;have YA':Blk wG ab 41 #[iI 0,iI f.day,iI f.known,iI f.file,iI f.office,iI f.party,iI f.other,iI 0,iI 0,iI 0,iI 0,.slice Ap f.d.length cp,.slice Bp f.c.length cq,nN,.slice Cp f.e.length cr,iI 0,iI 0,nN,nN]:=YA;clear YA;have YA:=YA';clear YA';go_cut [] (fun wx=>∃ An nn cn,SSx w wx w.heap.size A n c dy' (.slice An nn cn) (.slice Ao l.length co) (w.heap.size+1) (filsOf l++[f]) l∧Blk wx ab 41 #[iI 0,iI f.day,iI f.known,iI f.file,iI f.office,iI f.party,iI f.other,iI 0,iI 0,iI 0,iI 0,.slice Ap f.d.length cp,.slice Bp f.c.length cq,nN,.slice Cp f.e.length cr,iI 0,iI 0,nN,nN]∧FilM TA [] wx f (.slice Ap f.d.length cp) (.slice Bp f.c.length cq) (.slice Cp f.e.length cr))
                case first =>
                 refine wp_region_held_drew (S:=(fun W=>Blk W ab 41 #[iI 0,iI f.day,iI f.known,iI f.file,iI f.office,iI f.party,iI f.other,iI 0,iI 0,iI 0,iI 0,.slice Ap f.d.length cp,.slice Bp f.c.length cq,nN,.slice Cp f.e.length cr,iI 0,iI 0,nN,nN]∧∃ (fv':Value),Mk W w.heap.size w.heap.size A n c dy' fv')) (by kernel_rfl) ?_ (fun hHeld=>?_)
                 ·first | done | ((try dsimp only);exact ⟨YA.drew,fv,HSG.out.1.step (grown_drew wG none) (fun _ e=>by cases e)⟩)
                 have HX:=HSG.out.step (grown_drew wG none) (fun _ e=>by cases e)
                 have YX:=YA.drew;have HF:=hfm.step (grown_drew wG none) (fun _ e=>by cases e)
                 clear HSG YA hfm;refine tq 0 94 rfl ?_
                 refine tq 1 95 rfl ?_
                 refine tq 2 96 rfl ?_
                 refine tq 3 97 rfl ?_
                 refine ty 5 99 rfl (yieldsA rfl _ rfl rfl (fun _ h=>h.1) rfl) ?_
                 have ga:=World.grownBy_alloc (wG.drew) (.cells #[iI 0,iI f.day,iI f.known,iI f.file,iI f.office,iI f.party,iI f.other,iI 0,iI 0,iI 0,iI 0,.slice Ap f.d.length cp,.slice Bp f.c.length cq,nN,.slice Cp f.e.length cr,iI 0,iI 0,nN,nN] 41) none;have hxa:=HX.step ga (fun _ e=>by cases e)
                 have RA:=Blk.new wG.drew 41 #[iI 0,iI f.day,iI f.known,iI f.file,iI f.office,iI f.party,iI f.other,iI 0,iI 0,iI 0,iI 0,.slice Ap f.d.length cp,.slice Bp f.c.length cq,nN,.slice Cp f.e.length cr,iI 0,iI 0,nN,nN];have yxa:=YX.grown ga (by simp)
                 have hfa:=HF.step ga (fun _ e=>by cases e)
                 obtain ⟨⟨at3,hm3⟩,_⟩:=HX.1;have hc3:wG.drew.cell? ⟨w.heap.size,3,none⟩=some fv:=hm3.cell 3;obtain ⟨⟨at4,hm4⟩,_⟩:=hxa.1;have hc4:(wG.alloc (.cells #[iI 0,iI f.day,iI f.known,iI f.file,iI f.office,iI f.party,iI f.other,iI 0,iI 0,iI 0,iI 0,.slice Ap f.d.length cp,.slice Bp f.c.length cq,nN,.slice Cp f.e.length cr,iI 0,iI 0,nN,nN] 41)).cell? ⟨w.heap.size,3,none⟩=some fv:=hm4.cell 3;clear HX YX HF ga hm3 hm4 at3 at4;have HX:=hxa;have YX:=yxa;have HF:=hfa;clear hxa yxa hfa;refine rd2 4 (some 98) 6 (some 100) (by kernel_rfl) rfl rfl (fun K hK=>?_) fun K hK=>?_
                 ·skip
                  clear hc4;go_simp;skip;refine hK.out _ _ (hHeld) fun hHeld=>?_
                  clear hK K;(try simp only [pS,pB,pZ,pC]);clear hc3;refine rd 6 (some 100) rfl fun K hK=>?_
                  go_simp;skip;refine hK.out _ _ (⟨YX,fv,HX.1⟩) fun hHeld=>?_
                  clear hK K;(try simp only [pS,pB,pZ,pC]);have OA:=HX.2.1;have hlfv:=HX.2.1.lt;have NA:RepML TA (fv.ownBlock.toList++[]) _ (#[iI 0,iI f.day,iI f.known,iI f.file,iI f.office,iI f.party,iI f.other,iI 0,iI 0,iI 0,iI 0,.slice Ap f.d.length cp,.slice Bp f.c.length cq,nN,.slice Cp f.e.length cr,iI 0,iI 0,nN,nN]:Array Value).toList f.cells:=(FilM.row HF).more (fun i hi=>by rw [List.append_nil] at hi;obtain ⟨cs,hb⟩:=HX.2.1.blk i (Option.mem_toList.1 hi);exact .inr (hb.hidden (by decide)))
                  have hsz:=HX.2.2.2.2.2.2.2.size;refine rd 7 (some 101) rfl fun K hK=>?_
                  rw [if_pos (by rfl)]
                  refine wp_appM Tryz.underlying23 Tryz.info41 rfl (by omega) (by omega) OA RA rfl (by kernel_rfl) NA (by rw [hcf];omega) (by omega) hsz _ _ rfl rfl rfl (fun v9 w9 o9 g9 l9=>?_)
                  have o9':OwnM TA [] w9 w.heap.size 41 19 v9 ((filsOf l++[f]).flatMap Fil.cells):=by rw [List.flatMap_append,List.flatMap_cons,List.flatMap_nil,List.append_nil];exact o9
                  have Y9:=YX.grown g9 (fun e=>hab6.2.2.2.1 e.symm)
                  have HF9:=HF.step g9 (fun i e _=>by obtain ⟨cs,hb⟩:=HX.2.1.blk i e;exact hb.hidden (by decide))
                  have SF:=SSx.files (fl:=filsOf l) (l:=l) HX o9' g9 l9;have M9:Mk w9 w.heap.size w.heap.size A n c dy' fv:=HX.1.step g9 (fun i e=>⟨(hlfv i e).1,(HX.2.2.2.1 i e).2⟩)
                  refine hK.out _ _ ?_ (fun hHeld=>?_)
                  ·exact ⟨Y9,fv,M9⟩
                  clear hK K;(try simp only [pS,pB,pZ,pC]);obtain ⟨A9,n9,c9,rfl,_,_⟩:=o9.slice;refine tq 8 102 rfl ?_
                  refine tq 9 103 rfl ?_
                  obtain ⟨⟨at9,hm9⟩,_⟩:=M9;have hc3:=hm9.cell 3;have hf3:=hm9.frozen 3;refine rd 10 none rfl fun K hK=>?_
                  go_simp;refine hK.out _ _ ?_ (fun hHeld=>?_)
                  ·exact ⟨Y9.far (p:=⟨w.heap.size,3,none⟩) hab6.2.1 _,_,SF.1⟩
                  clear hK K hc3 hf3 hm9 hHeld;(try simp only [Act.put]);refine dn ?_
                  have YB:=Y9.far (p:=⟨w.heap.size,3,none⟩) hab6.2.1 (.slice A9 n9 c9);have HFB:=HF9.step (grown_set w9 w.heap.size 3 (.slice A9 n9 c9)) (fun i e _=>by injection e with e;subst e;exact (HX.1.step g9 (fun i e=>⟨(hlfv i e).1,(HX.2.2.2.1 i e).2⟩)).hidden (by decide))
                  have HR:=Lib.hid (⟨A9,n9,c9,SF,YB,HFB⟩:(fun (wx:World)=>∃ An nn cn,SSx w wx w.heap.size A n c dy' (.slice An nn cn) (.slice Ao l.length co) (w.heap.size+1) (filsOf l++[f]) l∧Blk wx ab 41 #[iI 0,iI f.day,iI f.known,iI f.file,iI f.office,iI f.party,iI f.other,iI 0,iI 0,iI 0,iI 0,.slice Ap f.d.length cp,.slice Bp f.c.length cq,nN,.slice Cp f.e.length cr,iI 0,iI 0,nN,nN]∧FilM TA [] wx f (.slice Ap f.d.length cp) (.slice Bp f.c.length cq) (.slice Cp f.e.length cr)) (w9.setCell ⟨w.heap.size,3,none⟩ (.slice A9 n9 c9)))
                  clear SF YB HFB Y9 HF9 HX YX HF NA OA RA hsz o9 o9' g9 l9 hlfv;go_wp2_with fail;go_meet;exact HR.out
                 ·skip
                  clear hc3;go_simp;skip;refine hK.out _ _ (⟨YX,fv,HX.1⟩) fun hHeld=>?_
                  clear hK K;(try simp only [pS,pB,pZ,pC]);refine rd 4 (some 98) rfl fun K hK=>?_
                  go_simp;skip;refine hK.out _ _ (hHeld) fun hHeld=>?_
                  clear hK K;(try simp only [pS,pB,pZ,pC]);clear hc4;have OA:=HX.2.1;have hlfv:=HX.2.1.lt;have NA:RepML TA (fv.ownBlock.toList++[]) _ (#[iI 0,iI f.day,iI f.known,iI f.file,iI f.office,iI f.party,iI f.other,iI 0,iI 0,iI 0,iI 0,.slice Ap f.d.length cp,.slice Bp f.c.length cq,nN,.slice Cp f.e.length cr,iI 0,iI 0,nN,nN]:Array Value).toList f.cells:=(FilM.row HF).more (fun i hi=>by rw [List.append_nil] at hi;obtain ⟨cs,hb⟩:=HX.2.1.blk i (Option.mem_toList.1 hi);exact .inr (hb.hidden (by decide)))
                  have hsz:=HX.2.2.2.2.2.2.2.size;refine rd 7 (some 101) rfl fun K hK=>?_
                  rw [if_pos (by rfl)]
                  refine wp_appM Tryz.underlying23 Tryz.info41 rfl (by omega) (by omega) OA RA rfl (by kernel_rfl) NA (by rw [hcf];omega) (by omega) hsz _ _ rfl rfl rfl (fun v9 w9 o9 g9 l9=>?_)
                  have o9':OwnM TA [] w9 w.heap.size 41 19 v9 ((filsOf l++[f]).flatMap Fil.cells):=by rw [List.flatMap_append,List.flatMap_cons,List.flatMap_nil,List.append_nil];exact o9
                  have Y9:=YX.grown g9 (fun e=>hab6.2.2.2.1 e.symm)
                  have HF9:=HF.step g9 (fun i e _=>by obtain ⟨cs,hb⟩:=HX.2.1.blk i e;exact hb.hidden (by decide))
                  have SF:=SSx.files (fl:=filsOf l) (l:=l) HX o9' g9 l9;have M9:Mk w9 w.heap.size w.heap.size A n c dy' fv:=HX.1.step g9 (fun i e=>⟨(hlfv i e).1,(HX.2.2.2.1 i e).2⟩)
                  refine hK.out _ _ ?_ (fun hHeld=>?_)
                  ·exact ⟨Y9,fv,M9⟩
                  clear hK K;(try simp only [pS,pB,pZ,pC]);obtain ⟨A9,n9,c9,rfl,_,_⟩:=o9.slice;refine tq 8 102 rfl ?_
                  refine tq 9 103 rfl ?_
                  obtain ⟨⟨at9,hm9⟩,_⟩:=M9;have hc3:=hm9.cell 3;have hf3:=hm9.frozen 3;refine rd 10 none rfl fun K hK=>?_
                  go_simp;refine hK.out _ _ ?_ (fun hHeld=>?_)
                  ·exact ⟨Y9.far (p:=⟨w.heap.size,3,none⟩) hab6.2.1 _,_,SF.1⟩
                  clear hK K hc3 hf3 hm9 hHeld;(try simp only [Act.put]);refine dn ?_
                  have YB:=Y9.far (p:=⟨w.heap.size,3,none⟩) hab6.2.1 (.slice A9 n9 c9);have HFB:=HF9.step (grown_set w9 w.heap.size 3 (.slice A9 n9 c9)) (fun i e _=>by injection e with e;subst e;exact (HX.1.step g9 (fun i e=>⟨(hlfv i e).1,(HX.2.2.2.1 i e).2⟩)).hidden (by decide))
                  have HR:=Lib.hid (⟨A9,n9,c9,SF,YB,HFB⟩:(fun (wx:World)=>∃ An nn cn,SSx w wx w.heap.size A n c dy' (.slice An nn cn) (.slice Ao l.length co) (w.heap.size+1) (filsOf l++[f]) l∧Blk wx ab 41 #[iI 0,iI f.day,iI f.known,iI f.file,iI f.office,iI f.party,iI f.other,iI 0,iI 0,iI 0,iI 0,.slice Ap f.d.length cp,.slice Bp f.c.length cq,nN,.slice Cp f.e.length cr,iI 0,iI 0,nN,nN]∧FilM TA [] wx f (.slice Ap f.d.length cp) (.slice Bp f.c.length cq) (.slice Cp f.e.length cr)) (w9.setCell ⟨w.heap.size,3,none⟩ (.slice A9 n9 c9)))
                  clear SF YB HFB Y9 HF9 HX YX HF NA OA RA hsz o9 o9' g9 l9 hlfv;go_wp2_with fail;go_meet;exact HR.out
                case rest =>
                 obtain ⟨A9,n9,c9,SF,YB,HFB⟩:=hcut;obtain ⟨wB,rfl⟩:∃ z:World,z=wc:=⟨_,rfl⟩;clear HSG YA hfm;have ga:=World.grownBy_alloc wB (.cells #[iI 0,iI f.day,iI f.known,iI f.file,iI f.office,iI f.party,iI f.other,iI 0,iI 0,iI 0,iI 0,.slice Ap f.d.length cp,.slice Bp f.c.length cq,nN,.slice Cp f.e.length cr,iI 0,iI 0,nN,nN] 41) none;have RB:Blk (wB.alloc (.cells #[iI 0,iI f.day,iI f.known,iI f.file,iI f.office,iI f.party,iI f.other,iI 0,iI 0,iI 0,iI 0,.slice Ap f.d.length cp,.slice Bp f.c.length cq,nN,.slice Cp f.e.length cr,iI 0,iI 0,nN,nN] 41)) wB.heap.size 41 #[iI 0,iI f.day,iI f.known,iI f.file,iI f.office,iI f.party,iI f.other,iI 0,iI 0,iI 0,iI 0,.slice Ap f.d.length cp,.slice Bp f.c.length cq,nN,.slice Cp f.e.length cr,iI 0,iI 0,nN,nN]:=Blk.new wB _ _;have SB:SSx w _ w.heap.size A n c dy' (.slice A9 n9 c9) (.slice Ao l.length co) (w.heap.size+1) (filsOf l++[f]) l:=ssx_alloc SF ga;have NB:RepML TA ((Value.slice Ao l.length co).ownBlock.toList++[]) (wB.alloc (.cells #[iI 0,iI f.day,iI f.known,iI f.file,iI f.office,iI f.party,iI f.other,iI 0,iI 0,iI 0,iI 0,.slice Ap f.d.length cp,.slice Bp f.c.length cq,nN,.slice Cp f.e.length cr,iI 0,iI 0,nN,nN] 41)) (#[iI 0,iI f.day,iI f.known,iI f.file,iI f.office,iI f.party,iI f.other,iI 0,iI 0,iI 0,iI 0,.slice Ap f.d.length cp,.slice Bp f.c.length cq,nN,.slice Cp f.e.length cr,iI 0,iI 0,nN,nN]:Array Value).toList f.cells:=(FilM.row (HFB.step ga (fun _ e=>by cases e))).more (fun i hi=>by rw [List.append_nil] at hi;obtain ⟨cs,hb⟩:=SB.2.2.1.blk i (Option.mem_toList.1 hi);exact .inr (hb.hidden (by decide)))
                 have OB:=SB.2.2.1;have hszB:=SB.2.2.2.2.2.2.2.size;have HSB:=Lib.hid SB;clear SB SF HFB ga;go_wp2_with (first | (refine wpList_loadA YB rfl _ rfl rfl rfl ?_) | (at_builtin;refine wpList_appM Tryz.underlying23 Tryz.info41 rfl (by omega) (by omega) OB RB rfl (by kernel_rfl) NB (by omega) (by omega) hszB rfl _ _ rfl rfl rfl ?_;intro vC wC oC gC lC))
                 have oC':OwnM TA [] wC w.heap.size 41 19 vC ((l++[Item.fil f]).flatMap Item.cells):=by rw [List.flatMap_append,List.flatMap_cons,List.flatMap_nil,List.append_nil];exact oC
                 have SI:SSx w wC w.heap.size A n c dy' (.slice A9 n9 c9) vC (w.heap.size+1) (filsOf l++[f]) (l++[Item.fil f]):=SSx.out (l:=l) HSB.out oC' gC lC;go_roundw
                 case rel=>exact ⟨l++[Item.fil f],dy',.slice A9 n9 c9,by first | go_num | simp,HGS.out,⟨hd'.1,by have:=hd'.2;simp only [List.length_append,List.length_cons,List.length_nil];omega⟩,by unfold SSt;rw [HGE.out];exact SI⟩
                 case measure=>simp [intOf];omega
   ·have ek:decide ((l.length:Int)<14)=false:=decide_eq_false (by omega)
    go_wp2_with fail;go_ret
    first | exact ⟨_,l,rfl,HS.out.2.2.1,HL.out,HS.out.2.2.2.2.2.2.2⟩ | exact ⟨_,rfl,l,HS.out.2.2.1,HL.out,HS.out.2.2.2.2.2.2.2⟩
  ·have ea:decide (at_<(n:Int))=false:=decide_eq_false hat
   go_wp2_with fail;go_ret
   first | exact ⟨_,l,rfl,HS.out.2.2.1,HL.out,HS.out.2.2.2.2.2.2.2⟩ | exact ⟨_,rfl,l,HS.out.2.2.1,HL.out,HS.out.2.2.2.2.2.2.2⟩
theorem row_at {ts:List TypeId} {H:List Nat} {W:World} {base:Nat} {e:TypeId} {v:Value} {α:Type} {l:List α} {cells:α→List D} {sz:Nat} (hc:∀ x∈l,(cells x).length=sz) (hsz:0<sz) (h:OwnM ts H W base e sz v (l.flatMap cells)) (k:Nat) (hk:k<l.length) :
  ∃ b c vs,v=.slice (some ⟨b,0,none⟩) l.length c∧l.length≤c∧v.ownBlock=some b∧W.rangeAt b (k * sz) vs∧RepML ts (v.ownBlock.toList++H) W vs (cells l[k]):=by
 obtain ⟨n,xs,h1,h2⟩:=h;have hfl:=flat_length (l:=l) (f:=cells) (k:=sz) hc;have h21:=h2.1;have h11:=h1.1;have hnl:n * sz=l.length * sz:=by omega
 obtain rfl:n=l.length:=Nat.eq_of_mul_eq_mul_right hsz hnl;have hp:=flat_part (l:=l) (f:=cells) (k:=sz) (i:=k) (a:=l[k]) hc (List.getElem?_eq_getElem hk)
 have hr2:=(RepL.drop h2 (k * sz)).take sz;rw [hp] at hr2;rcases h1.2 with ⟨_,hn⟩ | ⟨g,cap,cur,rfl,hg,hb,hnc,hcap,hcur,hx⟩
 ·omega
 ·refine ⟨g,cap,_,rfl,hnc,rfl,fun j u hu=>?_,hr2⟩
  rw [List.getElem?_take] at hu
  by_cases hj:j<sz
  ·rw [if_pos hj,List.getElem?_drop] at hu
   have hlt:k * sz+j<xs.length:=by
    rcases Nat.lt_or_ge (k * sz+j) xs.length with h | h
    ·exact h
    ·rw [List.getElem?_eq_none h] at hu;cases hu
   rw [h1.cellAt (k * sz+j) (by rw [← h1.1];exact hlt)]
   exact hu
  ·rw [if_neg hj] at hu
   cases hu
theorem FilM.stepH {ts:List TypeId} {H H':List Nat} {w w':World} {f:Fil} {dv cv ev:Value} (h:FilM ts H w f dv cv ev) {row:Option Nat} (hg:w.grownBy w' row) (hrow:∀ i,row=some i→i<w.heap.size→Hidden ts w i∨i∈H) (hH:∀ i∈H',i∈H∨w.heap.size≤i):FilM ts H' w' f dv cv ev :=
 ⟨RepM.step h.1 hg hrow hH,RepM.step h.2.1 hg hrow hH,RepM.step h.2.2 hg hrow hH⟩
theorem FilM.weakH {ts:List TypeId} {H:List Nat} {w:World} {f:Fil} {dv cv ev:Value} (h:FilM ts H w f dv cv ev):FilM ts [] w f dv cv ev :=
 ⟨RepM.weak h.1 (fun _ h=>h) (fun _ h=>by cases h),RepM.weak h.2.1 (fun _ h=>h) (fun _ h=>by cases h),RepM.weak h.2.2 (fun _ h=>h) (fun _ h=>by cases h)⟩
def setO (o:Int) (f:Fil):Fil:={ f with office:=o }
theorem filsOf_take {l:List Item} {k:Nat} (hk:k<l.length):filsOf (l.take (k+1))=filsOf (l.take k)++filsOf [l[k]]:=by
 rw [List.take_add_one,List.getElem?_eq_getElem hk,filsOf_app]
 rfl
theorem filsOf_take_le (l:List Item) (k:Nat):(filsOf (l.take k)).length≤l.length:=by
 have h1:=filsOf_le (l.take k);have h2:=List.length_take_le' k l;omega
theorem item_at {W:World} {base:Nat} {v:Value} {l:List Item} (hl:GenS l) (h:OwnM TA [] W base 41 19 v (l.flatMap Item.cells)) (k:Nat) (hk:k<l.length) :
  ∃ b c,v=.slice (some ⟨b,0,none⟩) l.length c∧b<W.heap.size∧base≤b∧((∃ f dv cv ev,l[k]=.fil f∧W.rangeAt b (k * 19) (f.vals dv cv ev).toList∧FilM TA [b] W f dv cv ev)∨(∃ kd vs,l[k]=.oth kd vs∧kd≠0∧W.cell? ⟨b,k * 19,none⟩=some (.int .i64 kd))):=by
 obtain ⟨b,c,vs,e1,e2,e3,hr,hd⟩:=row_at (cells:=Item.cells) (sz:=19) (fun x hx=>Item.cells_length (hl.2.1 x hx)) (by omega) h k hk
 have hlt:=h.lt b e3;refine ⟨b,c,e1,hlt.2,hlt.1,?_⟩
 have hok:=hl.2.1 l[k] (List.getElem_mem hk);rw [e3] at hd
 cases hit:l[k] with
 | fil f =>
  rw [hit] at hd;obtain ⟨dv,cv,ev,rfl,r1,r2,r3⟩:=FilM.inv hd;exact .inl ⟨f,dv,cv,ev,rfl,hr,r1,r2,r3⟩
 | oth kd us =>
  rw [hit] at hd hok;have e:=RepL.plain hd;subst e;refine .inr ⟨kd,us,rfl,by have:=hok.1;omega,?_⟩
  have h0:us.toList[0]?=some (.int .i64 kd):=by rw [Array.getElem?_toList];exact hok.2.2.2.2.1
  exact hr 0 _ h0
theorem filings_any (v:Value) (l:List Item) (hl:GenS l) (o:Int) (w:World) (base:Nat) (hrow:OwnM TA [] w base 41 19 v (l.flatMap Item.cells)) :
  Calls Tryz.prog 37 #[v,.int .i64 o] w fun e w'=>∃ u,e=.returned u∧OwnM TA [] w' w.heap.size 41 19 u (((filsOf l).map (setO o)).flatMap Fil.cells)∧Below w.heap.size w w':=by
 have HI:=Lib.hid (fun k hk=>item_at hl hrow k hk)
 have hlen:=hl.1;have hcl:=hl.cells;obtain ⟨A,n,c,rfl,hn,hnc⟩:=hrow.slice;rw [hcl] at hn;obtain rfl:n=l.length:=by omega
 clear hrow hcl hn;go_enter Tryz.func37,Tryz.ntmps37
 go_wp2_with fail;go_loopw [5,6] (fun u j W=>∃ k:Nat,j=.int .i64 (k:Int)∧k≤l.length∧OwnM TA [] W w.heap.size 41 19 u (((filsOf (l.take k)).map (setO o)).flatMap Fil.cells)∧Below w.heap.size w W) (fun _ j _=>l.length - (intOf j).toNat)
 case atStart=>exact ⟨0,rfl,Nat.zero_le _,OwnM.nil _ _ _ _ _ _,Below.refl _ _⟩
 case round =>
  obtain ⟨k,rfl,hk,hO,hB⟩:=hrel;obtain ⟨Au,nu,cu,rfl,hnu,_⟩:=hO.slice;clear hnu;obtain ⟨W,rfl⟩:∃ z:World,z=wr:=⟨_,rfl⟩;by_cases hlt:k<l.length
  ·obtain ⟨b,cc,e1,hb1,hb2,hit⟩:=HI.out k hlt
   injection e1 with eA _ _
   subst eA;have hd:decide ((k:Int)<(l.length:Int))=true:=decide_eq_true (by omega)
   have hcellk:∀ p:Addr,p.block=b→W.cell? p=w.cell? p:=fun p hp=>hB.cell (by rw [hp];exact hb1)
   rcases hit with ⟨f,dv,cv,ev,hf,hr,hm⟩ | ⟨kd,us,hf,hkd,hc0⟩
   ·have hr2:W.rangeAt b (k * 19) (f.vals dv cv ev).toList:=fun j u hu=>(hcellk _ rfl).trans (hr j u hu)
    have hc0:W.cell? ⟨b,k * 19,none⟩=some (.int .i64 0):=hr2 0 _ rfl;obtain ⟨Ap,cp,Bp,cq,Cp,cr,rfl,rfl,rfl⟩:=hm.weakH.forms;have Z1:=Blk.new W 41 #[iI 0,iI 0,iI 0,iI 0,iI 0,iI 0,iI 0,iI 0,iI 0,iI 0,iI 0,nN,nN,nN,nN,iI 0,iI 0,nN,nN];have P1:=below_new W (.cells #[iI 0,iI 0,iI 0,iI 0,iI 0,iI 0,iI 0,iI 0,iI 0,iI 0,iI 0,nN,nN,nN,nN,iI 0,iI 0,nN,nN] 41);have HO:=Lib.hid hO;have HB:=Lib.hid hB;have HM:=Lib.hid hm;clear hO hB hm hcellk hr;go_upto_region 7 with (first | (refine wpList_load_mid rfl 41 _ rfl b (k * 19) (by go_simp) _ _ hr2 Tryz.underlying41 rfl (by kernel_rfl) ?_) | (refine wpList_storeA Z1 rfl _ _ rfl rfl rfl _ rfl rfl (by kernel_rfl) ?_;intro w2 Y2 g2))
    have hfz:=Y2.frozen 4;have P2:=P1.grown g2 P1.size (fun k e=>by injection e with e;omega)
    have hc4:w2.cell? ⟨W.heap.size,4,none⟩=some (.int .i64 f.office):=Y2.cell 4;go_upto_region 8 with fail
    have Y3:Blk (w2.setCell ⟨W.heap.size,4,none⟩ (.int .i64 o)) W.heap.size 41 #[iI 0,iI f.day,iI f.known,iI f.file,iI o,iI f.party,iI f.other,iI 0,iI 0,iI 0,iI 0,.slice Ap f.d.length cp,.slice Bp f.c.length cq,nN,.slice Cp f.e.length cr,iI 0,iI 0,nN,nN]:=by
     have:=Y2.set 4 (.int .i64 o);exact this
    have P3:=P2.setCell (p:=⟨W.heap.size,4,none⟩) (Nat.le_refl _) (.int .i64 o);clear hfz hc4 Z1 P1 P2 g2 Y2;generalize w2.setCell ⟨W.heap.size,4,none⟩ (.int .i64 o)=w3 at *;have P4:=P3.alloc P3.size (.cells #[iI 0,iI f.day,iI f.known,iI f.file,iI o,iI f.party,iI f.other,iI 0,iI 0,iI 0,iI 0,.slice Ap f.d.length cp,.slice Bp f.c.length cq,nN,.slice Cp f.e.length cr,iI 0,iI 0,nN,nN] 41);have RA:=Blk.new w3 41 #[iI 0,iI f.day,iI f.known,iI f.file,iI o,iI f.party,iI f.other,iI 0,iI 0,iI 0,iI 0,.slice Ap f.d.length cp,.slice Bp f.c.length cq,nN,.slice Cp f.e.length cr,iI 0,iI 0,nN,nN];have OA:=OwnM.step HO.out (grown_of_below (row:=none) P4) (fun _ e=>by cases e) (H':=[]) (fun _ hi=>.inl hi)
    have PB:=HB.out.trans (P4.mono HB.out.size);have NA:=FilM.row (f:=setO o f) (FilM.stepH (H':=(Value.slice Au nu cu).ownBlock.toList++[]) HM.out (grown_of_below (row:=none) PB) (fun _ e=>by cases e) (fun i hi=>by rw [List.append_nil] at hi;exact .inr (HO.out.lt i (Option.mem_toList.1 hi)).1))
    have hfle:=filsOf_take_le l k;have hcf:=flat_length (l:=(filsOf (l.take k)).map (setO o)) (f:=Fil.cells) (k:=19) (fun x _=>x.cells_length)
    rw [List.length_map] at hcf;have hsz:=PB.size;go_wp2_with (first | (refine wpList_loadA Y3 rfl _ rfl rfl rfl ?_) | (at_builtin;refine wpList_appM Tryz.underlying23 Tryz.info41 rfl (by omega) (by omega) OA RA rfl (by kernel_rfl) NA (by omega) (by omega) hsz rfl _ _ rfl rfl rfl ?_;intro vN wN oN gN lN))
    go_roundw
    case rel=>exact ⟨k+1,by go_num,by omega,by rw [filsOf_take hlt,hf];simp only [filsOf,List.map_append,List.flatMap_append,List.map_cons,List.map_nil,List.flatMap_cons,List.flatMap_nil,List.append_nil];exact oN,PB.grown gN PB.size (fun k e=>(OA.lt k e).1)⟩
    case measure=>simp [intOf];omega
   ·have hc:W.cell? ⟨b,k * 19,none⟩=some (.int .i64 kd):=(hcellk _ rfl).trans hc0
    have hk0:(kd == 0)=false:=by rw [beq_eq_false_iff_ne];exact hkd
    have HO:=Lib.hid hO;have HBB:=Lib.hid hB;clear hO hB hcellk hc0;go_wp2_with fail;go_roundw
    case rel=>exact ⟨k+1,by go_num,by omega,by rw [filsOf_take hlt,hf];simp only [filsOf,List.append_nil];exact HO.out,HBB.out⟩
    case measure=>simp [intOf];omega
  ·have hd:decide ((k:Int)<(l.length:Int))=false:=decide_eq_false (by omega)
   obtain rfl:k=l.length:=by omega
   rw [List.take_length] at hO;have HO:=Lib.hid hO;clear hO;go_wp2_with fail;go_ret;exact ⟨_,rfl,HO.out,hB⟩
structure LogOk (fl:List Fil) (o:Int):Prop where
 len:fl.length≤14
 ok:∀ f∈fl,OkFil f
 office:∀ f∈fl,f.office=o
 day:∀ f∈fl,f.day≤100000
 earl:∀ f∈fl,f.e.length≤2
 some:∀ f∈fl,1≤f.d.length
theorem logOk_of {l:List Item} (h:GenS l) {o:Int} (ho:0≤o∧o≤11):LogOk ((filsOf l).map (setO o)) o:=by
 have hg:=h.2.2;refine ⟨by rw [List.length_map];exact hg.1,fun f hf=>?_,fun f hf=>?_,fun f hf=>?_,fun f hf=>?_,fun f hf=>?_⟩
 ·obtain ⟨f0,hf0,rfl⟩:=List.mem_map.1 hf
  obtain ⟨i,hi,rfl⟩:=List.getElem_of_mem hf0;obtain ⟨g1,g2,g3,g4,g5⟩:=hg.2 i hi;have:=hg.1;exact genA_ok g1 (by omega) ⟨g2,g3⟩ ⟨g4,g5⟩ o ho
 ·obtain ⟨f0,_,rfl⟩:=List.mem_map.1 hf
  rfl
 ·obtain ⟨f0,hf0,rfl⟩:=List.mem_map.1 hf
  obtain ⟨i,hi,rfl⟩:=List.getElem_of_mem hf0;exact (hg.2 i hi).2.2.1
 ·obtain ⟨f0,hf0,rfl⟩:=List.mem_map.1 hf
  obtain ⟨i,hi,rfl⟩:=List.getElem_of_mem hf0;exact (hg.2 i hi).1.2.2.2.2.2.1
 ·obtain ⟨f0,hf0,rfl⟩:=List.mem_map.1 hf
  obtain ⟨i,hi,rfl⟩:=List.getElem_of_mem hf0;exact (hg.2 i hi).1.2.2.2.2.1.1.1
theorem log_any (A:Option Addr) (n c:Nat) (o:Int) (ho:0≤o∧o≤11) (w:World) (hA:IntsAt w A n) (hA2:∀ a,A=some a→a.block<w.heap.size) :
  Calls Tryz.prog 8 #[.slice A n c,.int .i64 o] w fun e w'=>∃ Ao co fl,e=.returned (.slice Ao fl.length co)∧fl.length≤co∧LogOk fl o∧FilRow w' w'.heap.size Ao fl∧Below w.heap.size w w':=by
 have HS:=Lib.hid (script_any A n c w hA hA2);clear hA hA2;go_enter Tryz.func8,Tryz.ntmps8
 go_wp2_with fail;refine HS.out.mono ?_
 rintro e w1 ⟨u,l,rfl,h1,h2,hb1⟩;have HF:=Lib.hid (filings_any u l h2 o w1 w.heap.size h1);have HL:=Lib.hid (logOk_of h2 ho);clear h1 h2 HS;go_wp2_with fail;refine HF.out.mono ?_
 rintro e w2 ⟨v,rfl,h3,hb2⟩;have hr:=RepM.out (ts:=[]) (H:=[]) (OwnM.rep h3 (fun _ h=>by cases h) (by simp) (fun _ h=>by cases h))
 obtain ⟨Ao,co,rfl,hco,hrow⟩:=Rep.filRow hr;have hb:=below_up hb1 hb2 hb1.size;clear HF h3 hr;generalize (filsOf l).map (setO o)=fl at *;have HR:=Lib.hid hrow;clear hrow;go_wp2_with fail;go_ret;exact ⟨Ao,co,fl,rfl,hco,HL.out,HR.out,hb⟩
def OwnV (W:World) (base:Nat) (e:TypeId) (sz:Nat) (v:Value) (vs:List Value):Prop:=OwnM [] [] W base e sz v (valD vs)
theorem OwnV.kept {W W':World} {base:Nat} {e:TypeId} {sz:Nat} {v:Value} {vs:List Value} (h:OwnV W base e sz v vs) {row:Option Nat} (hg:W.grownBy W' row) (hr:∀ g,row=some g→v.ownBlock≠some g):OwnV W' base e sz v vs:=by
 obtain ⟨n,xs,h1,h2⟩:=h;have e1:=RepL.plain h2;subst e1;refine ⟨n,xs,h1.kept hg ?_,RepL.of_plain _ _ _⟩
 rcases h1.2 with ⟨e,_⟩ | ⟨k,c,cur,e,hk⟩
 ·subst e;exact .inl rfl
 ·subst e
  exact .inr fun e2=>hr k e2.symm rfl
theorem OwnV.cells {W:World} {base:Nat} {e:TypeId} {sz:Nat} {v:Value} {vs:List Value} (h:OwnV W base e sz v vs) (hs:0<sz) {m:Nat} (hm:vs.length=m * sz):∃ A c,v=.slice A m c∧m≤c∧∀ (j:Nat) (u:Value),vs[j]?=some u→∃ b,A=some ⟨b,0,none⟩∧v.ownBlock=some b∧W.cell? ⟨b,j,none⟩=some u:=by
 obtain ⟨n,xs,h1,h2⟩:=h;have e1:=RepL.plain h2;subst e1;have hn:n=m:=Nat.eq_of_mul_eq_mul_right hs (h1.1.symm.trans hm);subst hn;rcases h1.2 with ⟨rfl,hz⟩ | ⟨g,cap,cur,rfl,hg,hb,hnc,hcap,hcur,hx⟩
 ·subst hz
  refine ⟨none,0,rfl,Nat.le_refl _,fun j u hu=>?_⟩
  have h0:xs=[]:=List.eq_nil_of_length_eq_zero (by rw [hm,Nat.zero_mul])
  rw [h0] at hu;cases hu
 ·refine ⟨some ⟨g,0,none⟩,cap,rfl,hnc,fun j u hu=>⟨g,rfl,rfl,?_⟩⟩
  have hj:=lt_of_some hu;rw [h1.cellAt j (by rw [← h1.1];exact hj)]
  exact hu
theorem arr30 {vs:Array Value} (h:vs.size=30):∃ a0 a1 a2 a3 a4 a5 a6 a7 a8 a9 a10 a11 a12 a13 a14 a15 a16 a17 a18 a19 a20 a21 a22 a23 a24 a25 a26 a27 a28 a29,vs=#[a0,a1,a2,a3,a4,a5,a6,a7,a8,a9,a10,a11,a12,a13,a14,a15,a16,a17,a18,a19,a20,a21,a22,a23,a24,a25,a26,a27,a28,a29]:=by
 obtain ⟨l⟩:=vs;rw [List.size_toArray] at h
 match l,h with
 | [a0,a1,a2,a3,a4,a5,a6,a7,a8,a9,a10,a11,a12,a13,a14,a15,a16,a17,a18,a19,a20,a21,a22,a23,a24,a25,a26,a27,a28,a29],_=>exact ⟨a0,a1,a2,a3,a4,a5,a6,a7,a8,a9,a10,a11,a12,a13,a14,a15,a16,a17,a18,a19,a20,a21,a22,a23,a24,a25,a26,a27,a28,a29,rfl⟩
structure El where
 C:Array Value
 h:Hd
 f:Fil
 dv:Value
 cv:Value
 ev:Value
 s:Nat
 A:Option Addr
 c:Nat
 ps:List Nat
structure El.Bad (e:El) (w1:World) (key i n:Nat):Prop where
 cop:IsCop e.C e.h (i:Int) e.f e.dv e.cv e.ev e.s (.slice e.A e.ps.length e.c)
 one:OneV e.dv e.cv e.ev
 fil:FilAt w1 w1.heap.size e.f e.dv e.cv e.ev
 ok:OkFil e.f
 len:e.ps.length≤100
 cap:e.ps.length≤e.c
 wds:Words e.ps
 fit:fitF 16 i n e.ps.length=true
 salt:e.s<18446744073709551616
 log:e.h.log<18446744073709551616
 map:e.h.map<18446744073709551616
 size:hdC key e.h=0→e.h.size=(n:Int)
 tick:hdC key e.h=0→e.f.known≤e.h.tick
 bad:first3 (filE e.f e.h.office) (hdC key e.h) (logG e.h e.f e.s e.ps i n)≠0
def TK:List TypeId:=[44,29]
def PathAt (W:World) (H:List Nat) (A:Option Addr) (c:Nat) (ps:List Nat):Prop:=RepM TK H W (.slice A ps.length c) (.s 1 (valD (us ps)))
theorem PathAt.step {W W':World} {A:Option Addr} {c:Nat} {ps:List Nat} {H H':List Nat} (h:PathAt W H A c ps) {row:Option Nat} (hg:W.grownBy W' row) (hr:∀ g,row=some g→g<W.heap.size→Hidden TK W g∨g∈H) (hH:∀ i∈H',i∈H∨W.heap.size≤i):PathAt W' H' A c ps:=RepM.step h hg hr hH
theorem PathAt.row {W:World} {A:Option Addr} {c:Nat} {ps:List Nat} {H:List Nat} (h:PathAt W H A c ps):RowU W A ps:=fun k hk=>by
 obtain ⟨A',c',e,hc,hcell⟩:=Rep.row (RepM.out h);injection e with e1 _ _
 subst e1;obtain ⟨b,o,e2,_,h2⟩:=hcell k (.int .u64 (ps[k]:Int)) (by simp [us,hk])
 exact ⟨b,o,e2,h2⟩
structure Lst (w1 W:World) (base:Nat) (key i n:Nat) (v:Value) (es:List El):Prop where
 own:OwnV W base 44 30 v (es.flatMap fun e=>e.C.toList)
 bad:∀ e∈es,e.Bad w1 key i n
 path:∀ e∈es,PathAt W [] e.A e.c e.ps
theorem Lst.step {w1 W W':World} {base key i n:Nat} {v:Value} {es:List El} (h:Lst w1 W base key i n v es) {row:Option Nat} (hg:W.grownBy W' row) (hr:∀ g,row=some g→v.ownBlock≠some g∧(g<W.heap.size→Hidden TK W g)):Lst w1 W' base key i n v es :=
 ⟨h.own.kept hg (fun g e=>(hr g e).1),h.bad,fun e he=>(h.path e he).step hg (fun g e hlt=>.inl ((hr g e).2 hlt)) (fun _ hi=>.inl hi)⟩
theorem Lst.app {w1 W W':World} {base key i n:Nat} {v v':Value} {es:List El} {e:El} (h:Lst w1 W base key i n v es) (he:e.Bad w1 key i n) (hp:PathAt W [] e.A e.c e.ps) (hg:W.grownBy W' v.ownBlock) (ho:OwnV W' base 44 30 v' ((es.flatMap fun e=>e.C.toList)++e.C.toList)):Lst w1 W' base key i n v' (es++[e]):=by
 have hh:∀ g,v.ownBlock=some g→g<W.heap.size→Hidden TK W g:=fun g e _=>by
  obtain ⟨cs,hb⟩:=OwnM.blk h.own g e;exact hb.hidden (by decide)
 refine ⟨by rw [List.flatMap_append,List.flatMap_cons,List.flatMap_nil,List.append_nil];exact ho,fun x hx=>?_,fun x hx=>?_⟩
 ·rcases List.mem_append.1 hx with hx | hx
  ·exact h.bad x hx
  ·rw [List.mem_singleton.1 hx];exact he
 ·rcases List.mem_append.1 hx with hx | hx
  ·exact (h.path x hx).step hg (fun g e hlt=>.inl (hh g e hlt)) (fun _ hi=>.inl hi)
  ·rw [List.mem_singleton.1 hx];exact hp.step hg (fun g e hlt=>.inl (hh g e hlt)) (fun _ hi=>.inl hi)
theorem words_log (fl:List Fil):Words (logN fl):=fun x hx=>by
 unfold logN at hx;obtain ⟨i,hi,rfl⟩:=List.mem_mapIdx.1 hx;exact lab_lt _ _
theorem OwnU.toV {W:World} {base:Nat} {v:Value} {l:List Nat} (h:OwnU W base v l):OwnV W base 27 1 v (us l):=h
theorem OwnU.far {W:World} {base:Nat} {A:Option Addr} {n c:Nat} {l:List Nat} (h:OwnU W base (.slice A n c) l) {W':World} {g:Nat} (hg:W.grownBy W' (some g)) (hlt:g<base):OwnU W' base (.slice A n c) l :=
 OwnV.kept h.toV hg (fun k e e2=>by
  injection e with e
  subst e;have:=(OwnM.lt h g e2).1;omega)
def hdBent (h:Hd) (n:Nat):Nat→Hd
 | 0=>{ h with office:=h.office+(n:Int) }
 | 1=>{ h with tick:=h.tick+(n:Int) }
 | 2=>{ h with day:=h.day+(n:Int) }
 | 3=>{ h with size:=h.size+(n:Int) }
 | 4=>{ h with log:=(h.log+n) % 18446744073709551616 }
 | 5=>{ h with map:=(h.map+n) % 18446744073709551616 }
 | 6=>{ h with sld:=h.sld+(n:Int) }
 | _=>{ h with sign:=(h.sign+n) % 18446744073709551616 }
section
variable {w1:World} {key i n:Nat} {e:El}
end
end Go.Proofs.YtbeaijjaecaidaaGreatDoor
