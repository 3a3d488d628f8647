import Derived.Test.YtglkadmfjaecmaaGreatDoorD19
set_option maxRecDepth 100000
set_option maxHeartbeats 16000000
namespace Go.Proofs.YtglkadmfjaecmaaGreatDoor
open Go.RowKit Go.Shelf _root_.Go.Proofs.Tryz
open Go.Value renaming pointer->I, slice->O, agg->U, tuple->E
open Go.IntKind renaming i64->Z
open Go.Ending renaming returned->G
open Go.Obj renaming cells->M
attribute [local go_sem] Oper.semAt_some
variable {A:Option Addr} {C V:Array Value} {H:List Nat} {Q:Exit->Act->World->Prop} {S:World->Prop} {T:TypeId} {W W' w wr:World} {g m mb nF nn:Nat} {i:Int} {o:Oper} {ops:Array Oper} {p:Value} {sp:List Value} {x:Ac}
def AcM (H:List Nat) (w:World) (V:Array Value) (x:Ac):Prop:=∃ dv cv lv ev,V=x.vals dv cv lv ev/\Zdf [] H w dv (.s 4 (x.d.flatMap F.cells))/\Zdf [] H w cv (.s 5 (x.c.flatMap Cl.cells))/\Yfz lv x.nl/\Zdf [] H w ev (.s 2 (prD x.e))
theorem AcM.out (h:AcM H w V x):Yf0 w w.heap.size V x:=by
 obtain ⟨dv,cv,c,ev,e,h1,a,d,b⟩:=h;exact ⟨dv,cv,c,ev,e,h1.out,a.out,d,b.out⟩
theorem AcM.step (h:AcM H w V x) {row:Option Nat} (a:w.grownBy W row) (hr:∀ g,row=some g->g∈H):AcM H W V x:=by
 obtain ⟨dv,cv,d,ev,e,h1,b,f,c⟩:=h;exact ⟨dv,cv,d,ev,e,h1.step a (fun g e _=>.inr (hr g e)) (fun _ h=>.inl h),b.step a (fun g e _=>.inr (hr g e)) (fun _ h=>.inl h),f,c.step a (fun g e _=>.inr (hr g e)) (fun _ h=>.inl h)⟩
def prV (e:List (Int × Int)):List Value:=e.flatMap fun p=>[.int Z p.1,.int Z p.2]
theorem Ztg.len {d:List F} {c:List Cl} (h:Ztg d c):d.length<=16/\c.length<=32:=⟨h.1,h.2.2.1.1⟩
def Zgo (h:Hd) (i:Int) (V:Array Value) (salt:Nat) (p:Value):Array Value:=List.toArray ((h.vals.toList++[Value.int Z i])++(V.toList++[Value.int .u64 (salt:Int),p]))
theorem Zdn {h:Hd} {salt:Nat} {n c:Nat} (b:V.all (·.oneCell')=true):(Zgo h i V salt (O A n c)).all (·.oneCell')=true:=by
 refine all_oneCell_toArray (fun v a=>?_);rcases List.mem_append.1 a with a | a
 ·simp only [Hd.vals,List.mem_append,dt,dl,or_false] at a;rcases a with (h | h | h | h | h | h | h | h) | h <;> (subst h;rfl)
 ·rcases List.mem_append.1 a with a | a
  ·exact Array.all_eq_true_iff_forall_mem.1 b v (by simpa using a)
  ·simp only [dt,dl,or_false] at a;rcases a with h | h <;> (subst h;rfl)
theorem Zay {h:Hd} {salt:Nat} (e:V.size=19):Zh7 (Zgo h i V salt p) h i V salt p:=by
 have d:(h.vals.toList++[Value.int Z i]).length=9:=rfl;have a:V.toList.length=19:=by rw [br,e]
 have get:∀ k,(Zgo h i V salt p)[k]?=((h.vals.toList++[Value.int Z i])++(V.toList++[.int .u64 (salt:Int),p]))[k]?:=fun k=>ep;refine ⟨?_,e,fun j v c=>?_,fun j v c=>?_,?_,?_,?_⟩
 ·unfold Zgo;rw [ef,ai,d,ai,a];rfl
 ·have b:j<V.toList.length:=Zap c;rw [get,dg (by omega),d,show 9+j - 9=j by omega,d9 b];exact c
 ·have b:j<8:=Zap c;rw [get,d9 (by omega),d9 b];exact c
 ·rw [get,d9 (by omega)];rfl
 ·rw [get,dg (by omega),dg (by omega),d,a];rfl
 ·rw [get,dg (by omega),dg (by omega),d,a];rfl
theorem Zh7.eq {h:Hd} {salt:Nat} (a:Zh7 C h i V salt p):C=Zgo h i V salt p:=by
 have b:=Zay (h:=h) (i:=i) (salt:=salt) (p:=p) a.vs;refine Array.ext_getElem? (fun k=>?_);rcases (by omega:k<8∨k=8∨(9<=k/\k<28)∨k=28∨k=29∨30<=k) with c | rfl | c | rfl | rfl | c
 ·obtain ⟨v,d⟩:∃ v,h.vals.toList[k]?=some v:=⟨_,ak c⟩;rw [a.hd k v d,b.hd k v d]
 ·rw [a.idx,b.idx]
 ·obtain ⟨j,rfl⟩:∃ j,k=9+j:=⟨k - 9,by omega⟩;obtain ⟨v,d⟩:∃ v,V.toList[j]?=some v:=⟨_,ak (by rw [br,a.vs];omega)⟩
  rw [a.act j v d,b.act j v d]
 ·rw [a.salt,b.salt]
 ·rw [a.path,b.path]
 ·rw [gw (by rw [a.size];exact c),gw (by rw [b.size];exact c)]
theorem Zuf (hT:T=58∨T=50) (d:Option Tmp) (ty:TypeId) (v:String) (after:Array Edge) (gd:Option (Nat × Bool)) (r:Operand->Value) (Y x1 J L K:Operand) (h:Hd) (i:Int) (V:Array Value) (hV:V.size=19) (salt:Nat) (A:Option Addr) (n c:Nat)
  (h0:r Y=U h.vals) (h1:r x1=.int Z i) (h2:r J=U V) (h3:r L=.int .u64 (salt:Int)) (h4:r K=O A n c) (w:World) :
  (execOp r ⟨d,.build T #[(0,Y),(1,x1),(2,J),(3,L),(4,K)],ty,v,after,gd⟩).run prog w=.ok (.value (U (Zgo h i V salt (O A n c)))) w:=by
 obtain ⟨z,v1,v2,X,N,B,P,v7,R,y,u,q,a,b,f,l,k,t,j,rfl⟩:=Zt6 hV;have e:Zgo h i #[z,v1,v2,X,N,B,P,v7,R,y,u,q,a,b,f,l,k,t,j] salt (O A n c)=#[iI h.office,iI h.tick,iI h.day,iI h.size,uI (h.log:Int),uI (h.map:Int),iI h.sld,uI (h.sign:Int),iI i,z,v1,v2,X,N,B,P,v7,R,y,u,q,a,b,f,l,k,t,j,uI (salt:Int),O A n c]:=rfl;rw [e];unfold Hd.vals at h0;rcases hT with rfl | rfl
 ·simp only [execOp];go_simp
 ·simp only [execOp];go_simp
theorem Yet {h:Hd} {salt:Nat} (k:Zh7 C h i V salt p) {b:TypeId} {a:Act} {d:TypeDesc} (x:Operand) (ho:o.op=.load b x) (e:a.eval x=I (some ⟨g,0,none⟩)) (c:∀ W,S W->Blk W g T C) (f:prog.underlying b=some d) (hd:d.isRow=true) (hi:(prog.info? b).map (·.size)=some 8) (j:Region.wanted o (yielded ops a.tmps)=true):YieldsIf prog ops S o (U h.vals) a:=by
 have h:=yieldsIf_load_mid (P:=prog) (ops:=ops) (S:=S) j b x ho g 0 e h.vals.toList d (fun w h=>k.hrange (c w h)) f hd hi
 rwa [bt] at h
theorem Yeu {h:Hd} {salt:Nat} (b:Zh7 C h i V salt p) {a:Act} (x:Operand) (ho:o.op=.load 48 x) (d:a.eval x=I (some ⟨g,9,none⟩)) (c:∀ W,S W->Blk W g T C) (e:Region.wanted o (yielded ops a.tmps)=true):YieldsIf prog ops S o (U V) a:=by
 have h:=yieldsIf_load_mid (P:=prog) (ops:=ops) (S:=S) e 48 x ho g 9 d V.toList _ (fun w h=>b.range (c w h)) underlying48 rfl (by rw [br,b.vs];kernel_rfl)
 rwa [bt] at h
theorem Zwg {h:Hd} {salt:Nat} {n c:Nat} (d:Zh7 C h i V salt (O A n c)) (t:C.all (·.oneCell')=true) (w:World) :
  Calls prog 13 #[U C] w fun e J=>e=G (U C)/\Bl w J:=by
 have HO:=ae (fun W=>Yar h W);have f:=d.vs;have l:=ae d.eq;have z:=(Blk.new w 50 C).alloc (M Zrt 58);have r:=Blk.new (w.alloc (M C 50)) 58 Zrt;rw [ax] at r;have u:=(Zab w (M C 50)).alloc (by simp) (M Zrt 58);unfold Zrt at z r u;have v:=d.size;go_enter func13,ntmps13;go_upto_region 1 with fail;generalize (w.alloc (M C 50)).alloc (M #[iI 0,iI 0,iI 0,iI 0,uI 0,uI 0,iI 0,uI 0,iI 0,iI 0,iI 0,iI 0,iI 0,iI 0,iI 0,iI 0,iI 0,iI 0,iI 0,iI 0,nN,nN,nN,nN,iI 0,iI 0,nN,nN,uI 0,nN] 58)=X at *;refine wp_region_held_drew (S:=(fun W=>Blk W w.heap.size 50 C/\(∃ cs,Blk W (w.heap.size+1) 58 cs/\cs.size=30)/\Bl w W)) (by kernel_rfl) ?_ (fun a=>?_)
 ·first | done | ((try dsimp only);exact ⟨z,⟨_,r,rfl⟩,u.drew⟩)
 clear z r u;generalize X.drew=wb at *;refine tq 0 3 rfl ?_;refine ty 1 4 rfl (Yet d _ rfl rfl (fun _ h=>h.1) underlying36 rfl (by kernel_rfl) rfl) ?_;refine tq 3 6 rfl ?_;refine th 4 7 rfl (fun _ b=>b.1.cellAt _ _ d.idx) ?_;refine tq 5 8 rfl ?_;refine ty 6 9 rfl (Yeu d _ rfl rfl (fun _ h=>h.1) rfl) ?_;refine tq 7 10 rfl ?_;refine th 8 11 rfl (fun _ b=>b.1.cellAt _ _ d.salt) ?_;refine tq 9 12 rfl ?_;refine th 10 13 rfl (fun _ b=>b.1.cellAt _ _ d.path) ?_;refine rd 2 (some 5) rfl fun K q=>?_;go_simp;(refine (HO.out _).mono ?_;rintro e w2 ⟨rfl,j⟩);refine q.out _ _ ?_ (fun a=>?_)
 ·first | done | ((try dsimp only);exact ⟨a.1.keep j,(by obtain ⟨cs,k1,k2⟩:=a.2.1;exact ⟨cs,k1.keep j,k2⟩),Zaa a.2.2 j a.2.2.size⟩)
 clear q K;(try simp only [pS,pB,pZ,pC]);refine tq 11 14 rfl ?_ (hy:=by intro J b;(try dsimp only at b);refine Zuf (.inl rfl) _ _ _ _ _ _ (.tmp 5) (.tmp 7) (.tmp 9) (.tmp 11) (.tmp 13) h i V f salt A n c ?_ ?_ ?_ ?_ ?_ _ <;> rfl;try (with_reducible rfl));have ⟨P,⟨zs,Y,K3⟩,L⟩:=a;refine rd 12 none rfl fun K q=>?_;rw [if_pos (by rfl)];refine Zdl (T:=58) (n:=30) (by kernel_rfl) Y K3 _ _ rfl rfl _ rfl (Zay f).size (by rw [<- l.out];exact t) (fun R y B=>?_);have N:Bl w R:=L.grown B L.size (fun k e=>by injection e with e;omega);refine q.out _ _ ?_ (fun a=>?_)
 ·exact ⟨P.grown B (fun e=>by injection e with e;omega),⟨_,y,(Zay f).size⟩,N⟩
 clear q K;refine dn ?_;rw [<- l.out] at y;go_wp2_with fail;exact bodyPost_ret (Zrs rfl _ rfl y v) rfl ⟨rfl,N⟩
structure Yjz (w:World) (base:Nat) (C:Array Value) (m k:Nat) (h:Hd) (i:Int) (V:Array Value) (x:Ac) (s:Nat) (A:Option Addr) (c:Nat) (ps:List Nat):Prop where
 cop:C=Zgo h i V s (O A ps.length c)
 vs:V.size=19
 one:V.all (·.oneCell')=true
 ok:Ya9 x
 el:x.e.length<=m
 act:Yf0 w w.heap.size V x
 len:ps.length<=k
 wds:Zbw ps
 row:w.ownsRow base 26 1 (O A ps.length c) ps.length (us ps)
 log:h.log<18446744073709551616
 map:h.map<18446744073709551616
 salt:s<18446744073709551616
def Cy (w:World) (C:Array Value) (m k:Nat):Prop:=∃ base h i V x s A c ps,Yjz w base C m k h i V x s A c ps
theorem Zft {base:Nat} {e:TypeId} {sz n:Nat} {v:Value} {a:List Value} (h:w.ownsRow base e sz v n a) (c:Bl w W):W.ownsRow base e sz v n a :=
 h.kept (Zaf (row:=none) c) (by
  cases d:v.ownBlock with
  | none=>exact .inl rfl
  | some b=>exact .inr (fun e=>by cases e))
theorem Cy.keep {k:Nat} (h:Cy w C m k) (a:Bl w W):Cy W C m k:=by
 obtain ⟨base,h,i,V,x,s,A,c,ps,g⟩:=h;exact ⟨base,h,i,V,x,s,A,c,ps,⟨g.cop,g.vs,g.one,g.ok,g.el,g.act.keep (fun p b=>a.cell b) a.size,g.len,g.wds,Zft g.row a,g.log,g.map,g.salt⟩⟩
theorem Cy.more {k m' a:Nat} (h:Cy w C m k) (hm:m<=m') (b:k<=a):Cy w C m' a:=by
 obtain ⟨base,h,i,V,x,s,A,c,ps,g⟩:=h;exact ⟨base,h,i,V,x,s,A,c,ps,⟨g.cop,g.vs,g.one,g.ok,aj g.el hm,g.act,aj g.len b,g.wds,g.row,g.log,g.map,g.salt⟩⟩
theorem AcM.known (h:AcM H w V x) {n:Int}:AcM H w (V.setIfInBounds 2 (.int Z n)) { x with known:=n }:=by
 obtain ⟨dv,cv,c,ev,rfl,h1,a,d,b⟩:=h;exact ⟨dv,cv,c,ev,rfl,h1,a,d,b⟩
theorem AcM.office (h:AcM H w V x) {n:Int}:AcM H w (V.setIfInBounds 4 (.int Z n)) { x with office:=n }:=by
 obtain ⟨dv,cv,c,ev,rfl,h1,a,d,b⟩:=h;exact ⟨dv,cv,c,ev,rfl,h1,a,d,b⟩
section
variable {h:Hd} {i:Int} {V:Array Value} {s:Nat} {p:Value}
end
theorem Zez {f:Fil} {dv cv ev:Value} (h:Yii dv cv ev):(f.vals dv cv ev).all (·.oneCell')=true:=by
 obtain ⟨⟨_,_,_,rfl⟩,⟨_,_,_,rfl⟩,⟨_,_,_,rfl⟩⟩:=h;refine all_oneCell_toArray (fun v a=>?_);simp only [dt,dl,or_false] at a;rcases a with h | h | h | h | h | h | h | h | h | h | h | h | h | h | h | h | h | h | h <;> (subst h;rfl)
theorem Zi8.row {base:Nat} {n c:Nat} {l:List Nat} (h:Zi8 W base (O A n c) l):n=l.length/\W.ownsRow base 26 1 (O A l.length c) l.length (us l):=by
 obtain ⟨f,k,a,d⟩:=h;have b:=Zax.plain d;subst b;have hn:f=l.length:=by have:=a.1;rw [Zc7,iu] at this;exact this.symm
 subst hn;obtain ⟨A',j,e⟩:=Zc1 a;injection e with b e2 e3;subst e2;exact ⟨rfl,a⟩
inductive Clr:D->Prop where
 | v (x:Value):Clr (.v x)
 | s (sz:Nat) (ds:List D) (h1:ds=[]∨∃ (j:Nat) (k:IntKind) (n:Int),ds[j]?=some (.v (.int k n))) (h2:∀ d∈ds,Clr d):Clr (.s sz ds)
theorem Rep.turn {B B':Nat} (K:∀ p:Addr,p.block<B->p.block≠g->W'.cell? p=W.cell? p) (J:B<=B') (y:∀ (i:Nat) (k:IntKind) (n:Int),W.cell? ⟨g,i,none⟩≠some (.int k n)) {v:Value} {d:D} (h:Rep W B v d) (hd:Clr d):Rep W' B' v d:=by
 induction h with
 | v x=>exact .v x
 | nil sz=>exact .nil sz
 | @s b o n c sz ds cs hc hl hn hb cells sub ih =>
  cases hd with
  | s _ _ h1 h2 =>
   refine .s hc hl hn (ah hb J) (fun j u l=>?_) (fun j u d l hd=>ih j u d l hd (h2 d (iq hd)));rcases h1 with rfl | ⟨q,k,m,t⟩
   ·exfalso;have:cs=[]:=bj (by rw [hc,<- hl];rfl);subst this;cases l
   ·have f:q<cs.length:=by rw [hc,<- hl];exact Zap t
    have hr:=sub q _ _ (ak f) t;have z:=hr.plain;have a:=cells q _ (ak f);rw [z] at a;have r:b≠g:=fun e=>y _ _ _ (e ▸ a);exact (K ⟨b,o+j,none⟩ hb r).trans (cells j u l)
theorem Yhg (vs:List Value):∀ d∈Zdv vs,Clr d:=fun d hd=>by
 obtain ⟨v,_,rfl⟩:=List.mem_map.1 hd;exact .v v
theorem Yev (sz:Nat) (l:List Int):Clr (.s sz (Zdv (Zdj l))):=by
 refine .s _ _ ?_ (Yhg _);cases l with
 | nil=>exact .inl rfl
 | cons x l=>exact .inr ⟨0,Z,x,rfl⟩
theorem Yiq (l:List Iv):Clr (.s 8 (l.flatMap Iv.cells)):=by
 refine .s _ _ ?_ (fun d hd=>?_)
 ·cases l with
  | nil=>exact .inl rfl
  | cons x l=>exact .inr ⟨0,Z,x.ln,rfl⟩
 ·obtain ⟨x,_,a⟩:=List.mem_flatMap.1 hd;simp only [Iv.cells,dt,dl,or_false] at a;rcases a with rfl | rfl | rfl | rfl | rfl | rfl | rfl | rfl <;> exact .v _
mutual
theorem F.clr:∀ (f:F),∀ d∈f.cells,Clr d
 | .mk op n ins kids=>fun d hd=>by
  have a:=Zn3 kids;simp only [F.cells,dt,dl,or_false] at hd;rcases hd with rfl | rfl | rfl | rfl
  ·exact .v _
  ·exact .v _
  ·exact Yiq ins
  ·exact .s _ _ a.1 a.2
theorem Zn3:∀ (l:List F),(Zil l=[]∨∃ (j:Nat) (k:IntKind) (n:Int),(Zil l)[j]?=some (.v (.int k n)))/\∀ d∈Zil l,Clr d
 | []=>⟨.inl rfl,fun d hd=>by cases hd⟩
 | .mk op n ins kids::l=>by
  have h1:=F.clr (.mk op n ins kids);have a:=(Zn3 l).2;refine ⟨.inr ⟨0,Z,op,rfl⟩,fun d hd=>?_⟩;rw [Zil] at hd;rcases List.mem_append.1 hd with h | h
  ·exact h1 d h
  ·exact a d h
end
theorem Yba (l:List F):Clr (.s 4 (l.flatMap F.cells)):=by
 refine .s _ _ ?_ (fun d hd=>?_)
 ·cases l with
  | nil=>exact .inl rfl
  | cons x l=>cases x with
   | mk op n ins kids=>exact .inr ⟨0,Z,op,rfl⟩
 ·obtain ⟨x,_,a⟩:=List.mem_flatMap.1 hd;exact F.clr x d a
theorem Zyc (l:List Cl):Clr (.s 5 (l.flatMap Cl.cells)):=by
 refine .s _ _ ?_ (fun d hd=>?_)
 ·cases l with
  | nil=>exact .inl rfl
  | cons x l=>cases x with
   | mk r f=>cases f with
    | mk op n ins kids=>exact .inr ⟨1,Z,op,rfl⟩
 ·obtain ⟨x,_,a⟩:=List.mem_flatMap.1 hd;simp only [Cl.cells,dt] at a;rcases a with rfl | a
  ·exact Yev _ _
  ·exact F.clr _ d a
theorem Zr1 (e:List (Int × Int)):Clr (.s 2 (prD e)):=by
 refine .s _ _ ?_ (fun d hd=>?_)
 ·cases e with
  | nil=>exact .inl rfl
  | cons x l=>exact .inr ⟨0,Z,x.1,rfl⟩
 ·obtain ⟨x,_,a⟩:=List.mem_flatMap.1 hd;simp only [dt,dl,or_false] at a;rcases a with rfl | rfl <;> exact .v _
def FV.At (W:World) (x:FV):Prop:=Zbs W W.heap.size x.f x.dv x.cv x.ev
theorem FV.At.keep {x:FV} (h:x.At W) (a:Bl W W'):x.At W':=Zbs.keep h (fun _ b=>a.cell b) a.size
theorem FV.At.turn {x:FV} (h:x.At W) (b:∀ p:Addr,p.block<W.heap.size->p.block≠g->W'.cell? p=W.cell? p) (hs:W.heap.size<=W'.heap.size) (a:∀ (i:Nat) (k:IntKind) (n:Int),W.cell? ⟨g,i,none⟩≠some (.int k n)):x.At W' :=
 ⟨h.1.turn b hs a (Yba _),h.2.1.turn b hs a (Zyc _),h.2.2.turn b hs a (Zr1 _)⟩
theorem FV.one {x:FV} (h:x.At W):x.vals.all (·.oneCell')=true:=Zez (Zbs.one h)
def Zi1 (W:World) (l:List FV):Prop:=∀ x∈l,Zby x.f/\x.At W
theorem Zi1.keep {l:List FV} (h:Zi1 W l) (b:Bl W W'):Zi1 W' l:=fun x a=>⟨(h x a).1,(h x a).2.keep b⟩
theorem Zi1.turn {l:List FV} (h:Zi1 W l) (c:∀ p:Addr,p.block<W.heap.size->p.block≠g->W'.cell? p=W.cell? p) (hs:W.heap.size<=W'.heap.size) (b:∀ (i:Nat) (k:IntKind) (n:Int),W.cell? ⟨g,i,none⟩≠some (.int k n)):Zi1 W' l:=fun x a=>⟨(h x a).1,(h x a).2.turn c hs b⟩
theorem Zi1.perm {l m:List FV} (h:Zi1 W l) (a:m.Perm l):Zi1 W m:=fun x b=>h x (a.mem_iff.1 b)
def Zam (l:List FV):List Value:=l.flatMap fun x=>x.vals.toList
theorem Zbe (l:List FV):(Zam l).length=l.length * 19:=Zai (fun _ _=>rfl)
theorem Zcv (l m:List FV):Zam (l++m)=Zam l++Zam m:=bm ..
theorem Zfu {l:List FV} (h:Zi1 W l):∀ u∈Zam l,u.oneCell'=true:=fun u a=>by
 obtain ⟨x,b,a⟩:=List.mem_flatMap.1 a;exact (Array.all_eq_true_iff_forall_mem.1 (FV.one (h x b).2)) u (Array.mem_def.2 a)
def SlF (W:World) (v:Value) (l:List FV):Prop:=Zer W v l.length 19 (Zam l)
theorem SlF.keep {v:Value} {l:List FV} (h:SlF W v l) (a:Bl W W'):SlF W' v l:=Zer.keep h a
theorem SlF.form {v:Value} {l:List FV} (h:SlF W v l):∃ A c,v=O A l.length c/\∀ (k:Nat) (d:k<l.length),∃ b o,A=some ⟨b,o,none⟩/\W.rangeAt b (o+k * 19) l[k].vals.toList:=by
 rcases h.2 with ⟨e,z⟩ | ⟨b,o,c,e,y,hc⟩
 ·exact ⟨none,0,by rw [e,z],fun k d=>by omega⟩
 ·refine ⟨_,c,e,fun k d=>⟨b,o,rfl,fun j u q=>?_⟩⟩;have r:=Zcd (l:=l) (f:=fun x:FV=>x.vals.toList) (k:=19) (i:=k) (a:=l[k]) (fun _ _=>rfl) (ak d);have t:j<19:=by have:=Zap q;exact this
  have h1:(((l.flatMap fun x=>x.vals.toList).drop (k * 19)).take 19)[j]?=some u:=by rw [r];exact q
  rw [gi,if_pos t,fz] at h1;have:=hc (k * 19+j) u h1;rw [show o+k * 19+j=o+(k * 19+j) by omega];exact this
theorem Zel {b o:Nat} (hr:w.rangeAt b o V.toList) (hs:V.size=19) {rest:List Oper} {op:Oper} {a:Act} (x:Operand) (ho:op.op=.load 48 x) (f:Region.wanted op (yielded ops a.tmps)=true)
  (d:a.eval x=I (some ⟨b,o,none⟩)) (e:wpList prog ops Q rest (a.put op.dst (U V)) w):wpList prog ops Q (op::rest) a w :=
 wpList_step fun _ c=>by
  rw [if_pos f];refine wp_load_mid 48 x ho b o d V.toList _ hr underlying48 rfl (by rw [br,hs];kernel_rfl) ?_;rw [bt];exact c _ _ e
theorem Zfv:∀ (vs A Q R:List Value),Q.length=vs.length->Zgh (A++Q++R).toArray A.length vs=(A++vs++R).toArray
 | [],A,Q,R,h=>by
  obtain rfl:Q=[]:=bj h;rfl
 | v::r,A,Q,R,h=>by
  cases Q with
  | nil=>cases h
  | cons u Q =>
   have e:(A++u::Q++R).toArray.setIfInBounds A.length v=((A++[v])++Q++R).toArray:=by
    rw [List.setIfInBounds_toArray,ay,ji _ _ (ag _)];simp
   have a:=Zfv r (A++[v]) Q R (by simpa using h);rw [ai] at a;show Zgh ((A++u::Q++R).toArray.setIfInBounds A.length v) (A.length+1) r=_;rw [e];simpa using a
theorem Zcl (x:FV) (l:List FV):Zam (x::l)=x.vals.toList++Zam l:=rfl
theorem Zhl (x:FV):x.vals.toList.length=19:=rfl
theorem Zyd (p:List FV) (x y:FV) (q:List FV) (sp:List Value) :
  Zgh (Zgh (Zam (p++y::x::q)++sp).toArray ((p.length+1) * 19) y.vals.toList) (p.length * 19) x.vals.toList=(Zam (p++x::y::q)++sp).toArray:=by
 have c:Zam (p++y::x::q)++sp=(Zam p++y.vals.toList)++x.vals.toList++(Zam q++sp):=by
  rw [Zcv,Zcl,Zcl];simp only [ay]
 have d:(p.length+1) * 19=(Zam p++y.vals.toList).length:=by rw [ai,Zbe,Zhl];omega
 have b:(Zam p++y.vals.toList)++y.vals.toList++(Zam q++sp)=Zam p++y.vals.toList++(y.vals.toList++(Zam q++sp)):=by simp only [ay]
 have a:p.length * 19=(Zam p).length:=(Zbe p).symm;rw [c,d,Zfv _ _ _ _ (by rw [Zhl,Zhl]),b,a,Zfv _ _ _ _ (by rw [Zhl,Zhl]),Zcv,Zcl,Zcl];simp only [ay]
theorem Zfh {α:Type} (l:List α):l=[]∨∃ p y,l=p++[y]:=by
 rcases List.eq_nil_or_concat l with h | ⟨p,y,h⟩
 ·exact .inl h
 ·exact .inr ⟨p,y,by rw [h,List.concat_eq_append]⟩
theorem Zmn {t:TypeId} {cs:Array Value} (h:Blk W g t cs) {o n:Nat} (hn:o+n<=cs.size):W.there g o n:=fun j a=>by
 refine ⟨?_,h.frozen _⟩;rw [h.cell,eh (by omega)];rfl
theorem Zcw {o:Nat} (hs:V.size=19) {op:Oper} {a:Act} (x:Operand) (ho:op.op=.load 48 x) (c:a.eval x=I (some ⟨g,o,none⟩)) (b:∀ W,S W->W.rangeAt g o V.toList) (d:Region.wanted op (yielded ops a.tmps)=true):YieldsIf prog ops S op (U V) a:=by
 have h:=yieldsIf_load_mid (P:=prog) (ops:=ops) (S:=S) d 48 x ho g o c V.toList _ b underlying48 rfl (by rw [br,hs];kernel_rfl)
 rwa [bt] at h
def Yi6 (w wr:World) (g:Nat) (p q:List FV) (sp:List Value) (m s r:List FV):Prop:=(s++r).Perm m/\Zb4 s/\Blk wr g 48 (Zam (p++(s++r)++q)++sp).toArray/\w.grownBy wr (some g)
def Yc0 (w wr:World) (g:Nat) (p q:List FV) (sp:List Value) (m:List FV) (x:FV) (pre post r:List FV):Prop:=(pre++x::post++r).Perm m/\Zb4 (pre++post)/\(∀ z∈post,Zf3 x.f z.f<0)/\Blk wr g 48 (Zam (p++(pre++x::post++r)++q)++sp).toArray/\w.grownBy wr (some g)
theorem Yi6.begin {p q:List FV} {m s r:List FV} {x:FV} (h:Yi6 w wr g p q sp m s (x::r)):Yc0 w wr g p q sp m x s [] r:=by
 obtain ⟨h1,a,d,c⟩:=h;exact ⟨by simpa using h1,by simpa using a,(fun z b=>by cases b),by simpa using d,c⟩
theorem Yc0.done {p q:List FV} {m b a r:List FV} {x:FV} (h:Yc0 w wr g p q sp m x b a r) (c:∀ y d,b=d++[y]->¬ Zf3 x.f y.f<0):Yi6 w wr g p q sp m (b++x::a) r :=
 ⟨h.1,Zl9 h.2.1 h.2.2.1 c,h.2.2.2.1,h.2.2.2.2⟩
theorem Yc0.keep {c:World} {p q:List FV} {m b a r:List FV} {x:FV} (h:Yc0 w wr g p q sp m x b a r) (d:Bl wr c):Yc0 w c g p q sp m x b a r :=
 ⟨h.1,h.2.1,h.2.2.1,h.2.2.2.1.keep d,Zac h.2.2.2.2 (Zaf (row:=none) d) (fun k e _=>by cases e)⟩
theorem Yc0.swap {p q:List FV} {m b a r:List FV} {x y:FV} (h:Yc0 w wr g p q sp m x (b++[y]) a r) (c:Zf3 x.f y.f<0) {k:Nat} (j:k=p.length+b.length) :
  Yc0 w ((wr.setCells g ((k+1) * 19) y.vals.toList).setCells g (k * 19) x.vals.toList) g p q sp m x b (y::a) r:=by
 obtain ⟨h1,l,v,z,u⟩:=h;obtain ⟨s1,s2⟩:=Ztq l v c;refine ⟨?_,s1,s2,?_,?_⟩
 ·refine List.Perm.trans ?_ h1;simp only [ay,dx,dm];exact List.Perm.append_left b (List.Perm.swap y x _)
 ·have d:=(z.sets y.vals.toList ((k+1) * 19)).sets x.vals.toList (k * 19);have e:p++(b++[y]++x::a++r)++q=(p++b)++y::x::(a++r++q):=by simp
  have t:p++(b++x::(y::a)++r)++q=(p++b)++x::y::(a++r++q):=by simp
  rw [e,j,<- ai,Zyd] at d;rw [t,j,<- ai];exact d
 ·exact Zac (Zac u (Zcu g _ _ wr) (fun _ e _=>e)) (Zcu g _ _ _) (fun _ e _=>e)
theorem SlF.of_blk {c:Nat} {l:List FV} (h:Blk W g 48 (Zam l++sp).toArray):SlF W (O (some ⟨g,0,none⟩) l.length c) l :=
 ⟨Zbe l,.inr ⟨g,0,c,rfl,h.lt,fun j u a=>by
  rw [cz];refine h.cellAt j u ?_;rw [ep,d9 (Zap a)];exact a⟩⟩
theorem SlF.nil (W:World):SlF W (O none 0 0) []:=⟨rfl,.inl ⟨rfl,rfl⟩⟩
theorem Zwh {base:Nat} {v:Value} {l:List FV} (h:w.ownsRow base 48 19 v l.length (Zam l)):(v=O none 0 0/\l=[])∨∃ g c sp,v=O (some ⟨g,0,none⟩) l.length c/\l.length<=c/\base<=g/\Blk w g 48 (Zam l++sp).toArray:=by
 rcases h.2 with ⟨rfl,j⟩ | ⟨g,c,a,rfl,f,q,b,e,d,k⟩
 ·exact .inl ⟨rfl,bj j⟩
 ·refine .inr ⟨g,c,a.toList.drop (l.length * 19),rfl,b,f,?_⟩;rw [<- k,di,bt];exact q
theorem Zn4 (l:List FV) (hl:l.length<=1000) (v:Value) (w:World) (j:SlF w v l) (h1:∀ u∈Zam l,u.oneCell'=true) :
  Calls prog 95 #[v] w fun e y=>(∃ u,e=G u/\y.ownsRow w.heap.size 48 19 u l.length (Zam l))/\Bl w y:=by
 have d:=j;rcases j.2 with ⟨rfl,B⟩ | ⟨b,o,c,rfl,J,_⟩
 ·have z:l=[]:=bj B;subst z;have q:∀ W:World,(binOp .eql 23 (O none 0 0) (O none 0 0)).run prog W=.ok (.bool true) W:=fun W=>jk W _ _ none 0 0 0 0 underlying23;go_enter func95,ntmps95;go_wp2_with fail;go_ret;exact ⟨⟨_,rfl,d8 _ _ _ _⟩,ap _ _⟩
 ·have q:∀ W:World,(binOp .eql 23 (O (some ⟨b,o,none⟩) l.length c) (O none 0 0)).run prog W=.ok (.bool false) W:=fun W=>jk W _ _ (some ⟨b,o,none⟩) l.length c 0 0 underlying23;have L:=gr w #[] 0 (base:=w.heap.size) (e:=48) (size:=19) (ag _) (bi _) rfl;have r:=Zab w (M #[] 48);have t:=d.keep r;have K:=ae h1;unfold SlF at t;clear j d h1;go_enter func95,ntmps95;go_wp2_with (at_builtin;refine Zd8 underlying23 info48 rfl (by omega) (by omega) L t K.out (by omega) (by omega) (by simp) rfl _ _ rfl rfl rfl ?_;intro P N a f _);rw [cz] at a;go_ret;exact ⟨⟨_,rfl,a⟩,r.grown f r.size (fun k e=>by injection e with e;have e:w.heap.size=k:=e;omega)⟩
theorem Zmo (w:World):Calls prog 179 #[O none 0 0,.int Z 0,.int Z 0,.func (.func 41) #[] #[]] w fun e a=>e=G (E #[])/\a=w:=by
 go_enter func179,ntmps179;go_wp2_with fail;go_loopw [8] (fun i wr=>i=.int Z 1/\wr=w) (fun _ _=>0)
 case atStart=>exact ⟨by go_num,rfl⟩
 case round =>
  obtain ⟨rfl,rfl⟩:=hrel;go_wp2_with fail;go_end0;exact ⟨rfl,rfl⟩
theorem Zh9 (v:Value) (n:Nat) (hn:n<20) (w:World) (a:World->Prop)
  (H:Hid (Calls prog 179 #[v,.int Z ((0:Nat):Int),.int Z (n:Int),.func (.func 41) #[] #[]] w fun e b=>e=G (E #[])/\a b)) :
  Calls prog 140 #[v,.int Z (n:Int),.func (.func 41) #[] #[]] w fun e b=>e=G (E #[])/\a b:=by
 have hd:decide (20<=n)=false:=decide_eq_false (by omega);have k:decide (20<n)=false:=decide_eq_false (by omega);go_enter func140,ntmps140;go_wp2_with fail;go_loopw [7,8] (fun i j wr=>i=.int Z 0/\j=.int Z 20/\wr=w) (fun _ _ _=>0)
 case atStart=>exact ⟨rfl,rfl,rfl⟩
 case round =>
  obtain ⟨rfl,rfl,rfl⟩:=hrel;go_wp2_with fail;refine H.out.mono ?_;rintro e f ⟨rfl,c⟩;have d:=ae c;clear c H;go_wp2_with fail;go_loopw [6] (fun i wr=>i=.int Z 20/\wr=f) (fun _ _=>0)
  case atStart=>exact ⟨rfl,rfl⟩
  case round =>
   obtain ⟨rfl,rfl⟩:=hrel;go_wp2_with fail;go_end0;exact ⟨rfl,d.out⟩
theorem Zd0 (A:Option Addr) (n c:Nat) (w:World) (a:World->Prop)
  (H:Hid (Calls prog 140 #[O A n c,.int Z (n:Int),.func (.func 41) #[] #[]] w fun e b=>e=G (E #[])/\a b)) :
  Calls prog 96 #[O A n c,.func (.func 41) #[] #[]] w fun e b=>e=G (E #[])/\a b:=by
 go_enter func96,ntmps96;go_wp2_with fail;refine H.out.mono ?_;rintro e j ⟨rfl,d⟩;have f:=ae d;clear d H;go_wp2_with fail;go_end0;exact ⟨rfl,f.out⟩
def Zgr (v:Value):Option (DataW Value × List MemPlace):=some (.held v,[])
def Yhh:List FV->DataW Value
 | []=>.map []
 | x::l=>(Yhh l).put (.int Z x.f.file) (.held (U x.vals))
def Zdm (l:List FV):DataW Value:=Yhh l.reverse
theorem Zye (l:List FV) (x:FV):Zdm (l++[x])=(Zdm l).put (.int Z x.f.file) (.held (U x.vals)):=by
 unfold Zdm;rw [List.reverse_append];rfl
theorem Zwi:∀ l:List FV,Maps.IsMap (Yhh l)
 | []=>⟨[],rfl⟩
 | _::l=>(Zwi l).put _ _
theorem Ybb {a b:Int} (h:a≠b):(Lit.int Z a)≠.int Z b:=fun e=>h (by injection e)
theorem Zr2 (k:Int) (zd:DataW Value):∀ l:List FV,(∀ x∈l,x.f.file≠k)->(Yhh l).atKey (.int Z k) zd=zd
 | [],_=>rfl
 | x::l,h=>by
  rw [Yhh,Maps.atKey_put_other (Ybb (Ne.symm (h x (by simp))))];exact Zr2 k zd l (fun y hy=>h y (by simp [hy]))
theorem Ybc (x:FV) (zd:DataW Value):∀ l:List FV,(l.map fun y=>y.f.file).Nodup->x∈l->(Yhh l).atKey (.int Z x.f.file) zd=.held (U x.vals)
 | y::l,hn,a=>by
  rw [du,List.nodup_cons] at hn;rcases List.mem_cons.1 a with rfl | a
  ·exact Maps.atKey_put_same (Zwi l) (by trivial) _ _
  ·have b:x.f.file≠y.f.file:=fun e=>hn.1 (e ▸ List.mem_map.2 ⟨x,a,rfl⟩);rw [Yhh,Maps.atKey_put_other (Ybb b)];exact Ybc x zd l hn.2 a
def Zc9 (l:List FV):Prop:=(l.map fun y=>y.f.file).Nodup
theorem Zc9.rev {l:List FV} (h:Zc9 l):(l.reverse.map fun y=>y.f.file).Nodup:=by
 rw [List.map_reverse];exact (List.reverse_perm _).nodup_iff.2 h
theorem Zc9.snoc {l:List FV} {x:FV} (h:Zc9 l) (d:∀ y∈l,y.f.file≠x.f.file):Zc9 (l++[x]):=by
 unfold Zc9;rw [cj,List.nodup_append];refine ⟨h,by simp,fun a e b c=>?_⟩;obtain ⟨y,hy,rfl⟩:=List.mem_map.1 e;simp only [du,fq,jd] at c;subst c;exact d y hy
theorem Zhm {l:List FV} {k:Int} (h:∀ x∈l,x.f.file≠k) (zd:DataW Value):(Zdm l).atKey (.int Z k) zd=zd:=Zr2 k zd _ (fun x a=>h x (List.mem_reverse.1 a))
theorem Zpl {l:List FV} (hn:Zc9 l) {x:FV} (a:x∈l) (zd:DataW Value):(Zdm l).atKey (.int Z x.f.file) zd=.held (U x.vals):=Ybc x zd _ hn.rev (List.mem_reverse.2 a)
theorem Zr3 {l:List FV} (hn:Zc9 l) {x:FV} (a:x∈l):Maps.has (Zdm l) (.int Z x.f.file)=true:=Maps.has_true_of_atKey (fun zd=>Zpl hn a zd)
theorem Zmp {l:List FV} {k:Int} (h:∀ x∈l,x.f.file≠k):Maps.has (Zdm l) (.int Z k)=false:=Maps.has_false_of_atKey (fun zd=>Zhm h zd)
theorem Ybd {l:List FV} (hn:Zc9 l) {k:Int} {y:DataW Value} (h:∀ zd,(Zdm l).atKey (.int Z k) zd=y):∃ x∈l,x.f.file=k/\y=.held (U x.vals):=by
 by_cases a:∃ x∈l,x.f.file=k
 ·obtain ⟨x,a,rfl⟩:=a;exact ⟨x,a,rfl,(h .nil).symm.trans (Zpl hn a _)⟩
 ·exfalso;have c:∀ x∈l,x.f.file≠k:=fun x hm e=>a ⟨x,hm,e⟩;have h1:=h .nil;have b:=h (.ptr .nil);rw [Zhm c] at h1 b;rw [<- h1] at b;cases b
structure Ybe (L:List FV) (left:Lit->Bool) (ps:List FV):Prop where
 sub:∀ x∈ps,x∈L
 nd:Zc9 ps
 rest:∀ x∈L,left (.int Z x.f.file)=true∨x.f.file∈ps.map fun y=>y.f.file
 out:∀ k,left (.int Z k)=true->k ∉ ps.map fun y=>y.f.file
theorem Ybe.start {L:List FV} (hn:Zc9 L):Ybe L (Maps.has (Zdm L)) [] :=
 ⟨fun x h=>by simp at h,by unfold Zc9;simp,fun x a=>.inl (Zr3 hn a),fun k _=>by simp⟩
theorem Ybe.step {L:List FV} {left:Lit->Bool} {ps:List FV} (h:Ybe L left ps) {x:FV} (c:x∈L) (hl:left (.int Z x.f.file)=true):Ybe L (fun z=>left z && !z.sameKey (.int Z x.f.file)) (ps++[x]):=by
 refine ⟨fun y hy=>?_,h.nd.snoc (fun y hy e=>h.out _ hl (List.mem_map.2 ⟨y,hy,e⟩)),fun y hy=>?_,fun k a=>?_⟩
 ·rcases List.mem_append.1 hy with hy | hy
  ·exact h.sub y hy
  ·rw [List.mem_singleton.1 hy];exact c
 ·by_cases e:y.f.file=x.f.file
  ·exact .inr (by rw [cj];exact List.mem_append.2 (.inr (by simp [e])))
  ·rcases h.rest y hy with h1 | h1
   ·refine .inl ?_;show (left (.int Z y.f.file) && !(Lit.int Z y.f.file).sameKey (.int Z x.f.file))=true;rw [h1,Maps.sameKey_ne (Ybb e)];rfl
   ·exact .inr (by rw [cj];exact List.mem_append.2 (.inl h1))
 ·have a:(left (.int Z k) && !(Lit.int Z k).sameKey (.int Z x.f.file))=true:=a;rw [gv] at a;intro hm;rw [cj] at hm;rcases List.mem_append.1 hm with hm | hm
  ·exact h.out k a.1 hm
  ·simp only [du,fq,jd] at hm;subst hm;have b:=a.2;rw [WideAt.sameKey_self (by trivial)] at b;cases b
theorem Zr4 {L:List FV} (hn:Zc9 L) {x y:FV} (c:x∈L) (hy:y∈L) (e:x.f.file=y.f.file):x=y:=by
 induction L with
 | nil=>cases c
 | cons z L ih =>
  have a:(z.f.file::L.map fun y=>y.f.file).Nodup:=hn;rw [List.nodup_cons] at a;rcases List.mem_cons.1 c with h1 | h1
  ·rcases List.mem_cons.1 hy with b | b
   ·rw [h1,b]
   ·exact absurd (List.mem_map.2 ⟨y,b,by rw [<- e,h1]⟩) a.1
  ·rcases List.mem_cons.1 hy with b | b
   ·exact absurd (List.mem_map.2 ⟨x,h1,by rw [e,b]⟩) a.1
   ·exact ih a.2 h1 b
theorem Zla {L:List FV} (hn:Zc9 L):L.Nodup:=by
 unfold Zc9 at hn;exact (List.pairwise_map.1 hn).imp (fun h e=>h (by rw [e]))
theorem Ybe.done {L:List FV} (hn:Zc9 L) {left:Lit->Bool} {ps:List FV} (h:Ybe L left ps) (hl:∀ b,left b=false):ps.Perm L:=by
 rw [List.perm_ext_iff_of_nodup (Zla h.nd) (Zla hn)];intro x;refine ⟨h.sub x,fun a=>?_⟩;rcases h.rest x a with h1 | h1
 ·rw [hl] at h1;cases h1
 ·obtain ⟨y,hy,e⟩:=List.mem_map.1 h1;rw [<- Zr4 hn (h.sub y hy) a e];exact hy
theorem Ybe.len {L:List FV} {left:Lit->Bool} {ps:List FV} (h:Ybe L left ps):ps.length<=L.length :=
 (Zla h.nd).length_le_of_subset (fun x a=>h.sub x a)
theorem Zhu {F:Fence} {b o:Nat} (hr:w.rangeAt b o V.toList) (hs:V.size=19) {rest:List Oper} {op:Oper} {a:Act} (x:Operand) (ho:op.op=.load 48 x) (f:op.guard=none)
  (j:a.eval x=I (some ⟨b,o,none⟩)) (k:wpListIn F nF prog ops Q rest (a.put op.dst (U V)) w):wpListIn F nF prog ops Q (op::rest) a w:=by
 refine wpListIn_plain f fun l e=>?_;unfold Oper.wpIn;refine ⟨by simp [Oper.about,ho],?_⟩;rw [Oper.semAt_plain F _ _ (by rw [ho];intro c d;cases d)];have hl:=run_loadVar_mid (P:=prog) w b o 48 V.toList _ hr underlying48 rfl (by rw [br,hs];kernel_rfl);rw [bt] at hl;unfold execOp;simp only [ho,j,Instr.loadAt,Instr.sureAddr,Sem.run_bind,Sem.run_pure,Result.andThen_ok,hl];exact e _ _ k
theorem Yir {vs:Array Value} (h:vs.size=19):∃ y K r B z u v L t J e j k q a d c f b,vs=#[y,K,r,B,z,u,v,L,t,J,e,j,k,q,a,d,c,f,b]:=by
 obtain ⟨l⟩:=vs;simp only [ef] at h
 match l,h with
 | [y,K,r,B,z,u,v,L,t,J,e,j,k,q,a,d,c,f,b],_=>exact ⟨_,_,_,_,_,_,_,_,_,_,_,_,_,_,_,_,_,_,_,rfl⟩
theorem Zr5 (d:Option Tmp) (ty:TypeId) (a:String) (after:Array Edge) (t:Option (Nat × Bool)) (r:Operand->Value) (x:Operand) (C:Array Value) (hs:C.size=19) (K:r x=U C) (w:World) :
  (execOp r ⟨d,.buildSlice 23 1 #[(0,x)],ty,a,after,t⟩).run prog w=.ok (.value (O (some ⟨w.heap.size,0,none⟩) 1 1)) (w.alloc (M C 48)):=by
 obtain ⟨J,R,v,N,L,z,B,X,y,P,j,l,q,u,b,f,e,k,c,rfl⟩:=Yir hs;simp only [execOp];go_simp
theorem Zpm {F:Fence} {rest:List Oper} {o:Oper} {a:Act} (x:Operand) (ho:o.op=.buildSlice 23 1 #[(0,x)]) (j:o.guard=none) (C:Array Value) (hs:C.size=19) (q:a.eval x=U C)
  (k:wpListIn F nF prog ops Q rest (a.put o.dst (O (some ⟨w.heap.size,0,none⟩) 1 1)) (w.alloc (M C 48))):wpListIn F nF prog ops Q (o::rest) a w:=by
 obtain ⟨d,op,ty,e,after,l⟩:=o;obtain rfl:op=_:=ho;refine wpListIn_plain j fun r f=>?_;unfold Oper.wpIn;refine ⟨by simp [Oper.about],?_⟩;rw [Oper.semAt_plain F _ _ (by intro c b;cases b)];rw [Zr5 d ty e after l a.eval x C hs q w];exact f _ _ k
abbrev FO (L:List FV):={ x:FV // x∈L/\x.vals.all (·.oneCell')=true }
def unF {L:List FV} (l:List (FO L)):List FV:=l.map (·.1)
theorem Zpn {L:List FV} (l:List (FO L)) (x:FO L):unF (l++[x])=unF l++[x.1]:=by unfold unF;rw [cj];rfl
theorem Ybf {L:List FV} (l:List (FO L)):(unF l).length=l.length:=ba ..
theorem Zg7 {F:Fence} {b:Array Value} (t:b.size=19) (hs:V.size=19) (h1:V.all (·.oneCell')=true) {rest:List Oper} {op:Oper} {a:Act} (x y:Operand) (ho:op.op=.store 48 x y) (q:op.guard=none)
  (r:a.eval x=I (some ⟨w.heap.size,0,none⟩)) (hy:a.eval y=U V) (u:∀ f,Blk f w.heap.size 48 V->w.grownBy f none->wpListIn F nF prog ops Q rest (a.put op.dst undef) f):wpListIn F nF prog ops Q (op::rest) a (w.alloc (M b 48)):=by
 have l:=Blk.new w 48 b;refine wpListIn_plain q fun v j=>?_;unfold Oper.wpIn;refine ⟨by simp [Oper.about,ho],?_⟩;rw [Oper.semAt_plain F _ _ (by rw [ho];intro c d;cases d)];have hl:=run_storeVar_row (P:=prog) (w.alloc (M b 48)) w.heap.size 48 48 b V l (by rw [hs];kernel_rfl) (by rw [t,hs]) h1;unfold execOp;simp only [ho,r,hy,Instr.storeAt,Instr.sureAddr,Sem.run_bind,Sem.run_pure,Result.andThen_ok,hl];refine j _ _ (u _ (l.setRow V) ?_);exact Zac (ao w (M b 48) none) (Zej _ w.heap.size V) (fun k e z=>by injection e with e;omega)
theorem Ybg (L:List FV) (a2:∀ x∈L,x.vals.all (·.oneCell')=true) (hn:Zc9 L) (F:Fence) (n:Nat) (hf:F.fn 98) (a1:F.round=none) (h1:1<=n) (l Bm b nn:Nat) (J Jx:List (FO L)->World->Prop)
  (hY:∀ a x W,J a W->a.length<L.length->YieldAt F (n - 1) prog l #[U x.1.vals] W fun e W' =>
   (e=G (.bool true)/\J (a++[x]) W'/\KeepsWalks W W')∨(e=G (.bool false)/\Jx (a++[x]) W'))
  (W:World) (hJ:AbidesFrom W.heap.size J) (hm:W.cell? ⟨Bm,0,none⟩=some (.map (some b))) (ab:W.ownsMap prog 3 Zgr b nn (Zdm L)) (h0:J [] W) :
  CallsIn F n prog 98 #[.func (.yield l) #[] #[],I (some ⟨Bm,0,none⟩)] W fun e W'=>(∃ v,e=G v) /\
   ((∃ xs,(unF xs).Perm L/\J xs W')∨(∃ a,True/\Jx a W')):=by
 refine callsIn_of_wp func98 rfl hf ?_ a1;simp only [ntmps98,ef,au,dk,Nat.reduceAdd,Nat.reduceSub,ff,ew,fp,fj,dm,dx];gi_wp2_with (first
  | (gi_at_range;refine wpListIn_range_own _ rfl _ 72 rfl 3 48 (Maps.int_keyed underlying3) underlying72 _ b nn _ rfl ab ?_;intro w0 ad a9 bh)
  | gi_in)
 go_frame;gi_loopw [4] (fun _ wr=>∃ (left:Lit->Bool) (Y:Nat) (ps:List (FO L)),wr.ranges prog 3 Zgr b W.heap.size nn (Zdm L) left Y/\Ybe L left (unF ps)/\J ps wr)
  (fun _ wr=>wr.rangeLeft b W.heap.size)
 case atStart =>
  exact ⟨_,_,[],ad,Ybe.start hn,hJ [] W w0 none h0 a9 (fun r e=>by cases e)⟩
 case round =>
  obtain ⟨left,Y,ps,q,hC,t⟩:=hrel;have HC:=ae hC;gi_wp2_with (first
   | (gi_at_next;refine wpListIn_next_ranges _ rfl _ rfl 3 (Maps.int_keyed underlying3) Zgr (Value.int Z) id (fun key kl hk=>by obtain ⟨x,hx,_⟩:=Maps.keyOf_int_inv underlying3 hk;exact ⟨x,hx⟩) (fun v y _=>⟨v,rfl⟩) b W.heap.size nn _ _ _ rfl q ?_ ?_)
   | gi_in)
  ·-- nothing is left
   intro bg a4;gi_wp2;go_end0;exact ⟨⟨_,rfl⟩,.inl ⟨ps,HC.out.done hn a4,t⟩⟩
  ·-- an entry has come
   intro x c kl yd yp w2 X f al j am K a3 a7 av bf;obtain ⟨x',ex,rfl,_⟩:=Maps.keyOf_int_inv underlying3 f;injection ex with _ ex;subst ex;obtain rfl:yd=.held c:=by
    have j:some (DataW.held c,([]:List MemPlace))=some (yd,yp):=j;injection j with j;injection j with j _;exact j.symm
   obtain ⟨z,N,a6,u⟩:=Ybd hn am;injection u with u;subst u a6;have d:=a2 z N;have bc:J ps w2:=hJ ps wr w2 (some W.heap.size) t a7 (fun r e=>by cases e;exact ⟨ag _,q.iter_walk⟩);have B:=ae (HC.out.step N al);have af:ps.length<L.length:=by
    have:=B.out.len;rw [ai,Ybf,ei] at this;omega
   have R:=FV.size z;clear av j am f HC hC al t;gi_wp2_with (first
    | (refine Zg7 rfl R d _ _ rfl rfl rfl rfl ?_;intro w4 X4 g4;have a8:J ps w4:=hJ ps w2 w4 none bc g4 (fun r e=>by cases e);have aa:=K.kept g4 (by simp) (by simp);obtain ⟨fn,be,aq,body,hy,hR⟩:=hY ps ⟨z,N,d⟩ w4 a8 af;dsimp only at hy)
    | (refine Zhu (V:=z.vals) (Zc8 X4) R _ rfl rfl rfl ?_)
    | gi_in)
   refine hR.mono ?_;rintro e W3 (⟨rfl,a5,a0⟩ | ⟨rfl,P⟩)
   ·gi_wp2;have k:=aa.of_walks a0;go_roundw
    case rel=>exact ⟨_,X,ps++[⟨z,N,d⟩],k,by rw [Zpn];exact B.out,a5⟩
    case measure=>rw [k.left_eq,q.left_eq];exact a3
   ·gi_wp2;refine bodyPost_ret (results_none rfl _ _ _) rfl ?_;exact ⟨⟨_,rfl⟩,.inr ⟨ps++[⟨z,N,d⟩],trivial,P⟩⟩
theorem Zug (L:List FV) (j:∀ x∈L,x.vals.all (·.oneCell')=true) (hn:Zc9 L) (F:Fence) (n:Nat) (y:F.fn 98) (f:F.round=none) (h1:1<=n) (e b nn:Nat) (w:World) (k:e<w.heap.size)
  (hm:w.cell? ⟨e,0,none⟩=some (.map (some b))) (a:w.ownsMap prog 3 Zgr b nn (Zdm L)) :
  SeqStopsK F n prog 98 #[I (some ⟨e,0,none⟩)] (fun x:FO L=>#[U x.1.vals]) KeepsWalks (fun u=>(unF u).Perm L) (fun _=>True) L.length w:=fun l J N W r t _ K P=>by
 have d:W.ownsMap prog 3 Zgr b nn (Zdm L):=by
  have q:=a.lt;obtain ⟨es,c,z,B,hs,v⟩:=a;exact ⟨es,c,(r.block b q).trans z,B,hs,v⟩
 exact Ybg L j hn F n y f h1 l e b nn J N K W t ((r.cell (p:=⟨e,0,none⟩) k).trans hm) d P
theorem Zyf (L:List FV) (av:∀ x∈L,x.vals.all (·.oneCell')=true) (hn:Zc9 L) (a7:L.length<=1000) (Bm b nn:Nat) (w:World) (a5:Bm<w.heap.size) (hm:w.cell? ⟨Bm,0,none⟩=some (.map (some b))) (d:w.ownsMap prog 3 Zgr b nn (Zdm L)) :
  Calls prog 97 #[O none 0 0,.func (.func 98) #[] #[I (some ⟨Bm,0,none⟩)]] w fun e w' =>
   (∃ u xs,e=G u/\xs.Perm L/\w'.ownsRow w.heap.size 48 19 u xs.length (Zam xs))/\Bl w w':=by
 obtain ⟨i0,hi,a1,aq,a3⟩:=info_parts info48;refine (callsIn_wide (n:=5)).1 ?_;refine callsIn_of_wp_marks func97 rfl trivial ?_ rfl;simp only [ntmps97,ef,au,dk,Nat.reduceAdd,Nat.reduceSub,ff,ew,fp,fj,dm,dx];gi_wp2;have b0:=Boxed.new w 23 (O none 0 0);have q:=Zab w (M #[O none 0 0] 23);have an:(w.alloc (M #[O none 0 0] 23)).heap.size=w.heap.size+1:=by simp
 have N:=(q.cell (p:=⟨Bm,0,none⟩) a5).trans hm;have R:=d.alloc (M #[O none 0 0] 23);generalize w.alloc _=wr at *;refine wpIn_rangeFunc_ownH rfl (by omega) (gf:=98) (lb:=#[I (some ⟨Bm,0,none⟩)]) rfl trivial (enters_of func98 (by kernel_rfl) rfl)
  (Zug L av hn Fence.wide (5 - 1) trivial rfl (by omega) Bm b nn wr (by omega) N R) walksK_t walksK_b (ap _ _) (fun _=>rfl)
  (fun a W=>(∃ v,Boxed W w.heap.size 23 v/\W.ownsRow w.heap.size 48 19 v (unF a).length (Zam (unF a))/\True)/\Bl w W)
  (fun _ _ _=>False)
  (OwnFrom.and (Own.from (holdsRow_own w.heap.size w.heap.size 23 48 19 (fun (a:List (FO L))=>(unF a).length) (fun a=>Zam (unF a)) (fun _ _=>True)) _) (ownFrom_below (ag _) (by rw [an];omega)))
  (fun _ _ _ _ _ hs _ _=>hs)
  ⟨⟨_,b0,d8 _ _ _ _,trivial⟩,q⟩
  (fun y a' W=>∃ g,a'={ tmps:=#[O none 0 0,.func (.func 98) #[] #[I (some ⟨Bm,0,none⟩)],I (some ⟨w.heap.size,0,none⟩),undef,O none 0 0,I (some ⟨g,0,none⟩),.func (.func 98) #[] #[I (some ⟨Bm,0,none⟩)],U y.1.vals,undef,undef,undef,undef,undef],defers:=[] }/\Blk W g 48 y.1.vals)
  (fun y a' _ X Y row hs hg ad=>by
   obtain ⟨g,e,h1⟩:=hs;exact ⟨g,e,Zd7 g 48 (fun _:Unit=>y.1.vals) () X Y row h1 hg (fun r e=>(ad r e).2)⟩)
  ?assign ?body ?done ?stop
 case assign =>
  rintro l a ⟨z,hz,B⟩ W K ⟨⟨v,f,hr,_⟩,P⟩ hK;have t:=FV.size z;have HK:=ae (fun (w4:World) (X4:Blk w4 W.heap.size 48 z.vals) (g4:W.grownBy w4 none)=>hK _ w4 ((KeepsOthers.of_grownBy g4 (fun _ _ e _=>by cases e)).from _) (KeepsWalks.of_grownBy g4 (fun _ _ e _=>by cases e))
   ⟨⟨v,f.kept g4 (by simp),hr.kept g4 (by cases a9:v.ownBlock with | none=>exact .inl rfl | some k=>exact .inr (by simp)),trivial⟩,P.grown g4 P.size (fun k e=>by cases e)⟩ ⟨W.heap.size,rfl,X4⟩)
  clear hK b0 q N R hm d f hr P;gi_wp2_with (refine Zg7 rfl t B _ _ rfl rfl rfl rfl ?_;intro w4 X4 g4);exact HK.out w4 X4 g4
 case body =>
  rintro k a ⟨z,hz,B⟩ a' W bh af ⟨⟨v,f,hr,_⟩,P⟩ ⟨g,rfl,hG⟩ bg;have t:=FV.size z;have hc:=f.cell;have hf:=f.frozen;have bc:(unF a).length<=1000:=by rw [Ybf];omega
  have a8:=f.lt;have a4:=ae B;clear b0 q N R hm d af;gi_wp2_with (first
   | (refine Zhu (V:=z.vals) (Zc8 hG) t _ rfl rfl rfl ?_)
   | (refine Zpm _ rfl rfl z.vals t rfl ?_;have hc:=(f.alloc (M z.vals 48)).cell)
   | (gi_at_builtin;refine wpListIn_append_own_at _ rfl _ _ 23 rfl w.heap.size 48 i0 _ 19 _ underlying23 hi a1 aq a3 rfl (by decide) v _ _ rfl (hr.alloc _) ⟨W.heap.size,0,none⟩ 1 1 z.vals.toList rfl (by rw [br,t]) (fun j u hu=>by rw [Addr.add_lit,cz,(Blk.new W 48 z.vals).cell j,<- dj];exact hu) (fun u hu=>(Array.all_eq_true_iff_forall_mem.1 a4.out) u (Array.mem_def.2 hu)) (by unfold maxLen;omega) (by omega) (by have:=P.size;simp;omega) ?_;intro v' w1 J aa _ _;obtain ⟨g',a6,rfl⟩:=ownsRow_succ J;obtain ⟨al,a2,am,ab,a0⟩:=f.appended (by decide) hr P.size (ag _) J aa;have be:=al.cell;have bf:=al.frozen)
   | gi_in)
  have e1:(unF (a++[⟨z,hz,B⟩])).length=(unF a).length+1:=by rw [Zpn,ai];rfl
  have e2:Zam (unF (a++[⟨z,hz,B⟩]))=Zam (unF a)++z.vals.toList:=by
   rw [Zpn,Zcv];show Zam (unF a)++(z.vals.toList++[])=_;rw [bv]
  refine ⟨ab.from _,ab.walks,⟨_,a2,?_⟩,P.trans a0⟩;rw [e1,e2]
  first
   | exact am
   | exact ⟨am,trivial⟩
 case done =>
  rintro D xs W hD hS ⟨⟨v,f,hr,_⟩,P⟩ hK;have hc:=f.cell;have hf:=f.frozen;clear b0 q N R hm d;gi_wp2;refine ⟨by simp,.inl ⟨_,_,rfl,run_takeDeferred hK,?_⟩⟩;exact ⟨_,results_tmp rfl _ _ _,⟨v,unF xs,rfl,hS,ownsRow_putObj hr _ hK rfl⟩,P.trans (belowK_b (w:=w) (ag _) W D _ _ (by omega) hK rfl rfl)⟩
 case stop =>
  rintro D c a W _ _ h _;exact h.elim
theorem Zn5 (mb:Nat) (w:World):Calls prog 49 #[.map (some mb)] w fun e a=>e=G (.func (.func 98) #[] #[I (some ⟨w.heap.size,0,none⟩)])/\a=w.alloc (M #[.map (some mb)] 72):=by
 go_enter func49,ntmps49;go_wp2_with fail;go_ret;exact ⟨rfl,rfl⟩
theorem Zki (L:List FV) (f:∀ x∈L,x.vals.all (·.oneCell')=true) (hn:Zc9 L) (d:L.length<=1000) (j b nn:Nat) (w:World) (k:j<w.heap.size) (hm:w.cell? ⟨j,0,none⟩=some (.map (some b))) (a:w.ownsMap prog 3 Zgr b nn (Zdm L)) :
  Calls prog 48 #[.func (.func 98) #[] #[I (some ⟨j,0,none⟩)]] w fun e r =>
   (∃ u c,e=G u/\c.Perm L/\r.ownsRow w.heap.size 48 19 u c.length (Zam c))/\Bl w r:=by
 have l:=ae (Zyf L f hn d j b nn w k hm a);clear f hn hm a;go_enter func48,ntmps48;go_wp2_with fail;refine l.out.mono ?_;rintro e z ⟨⟨u,c,rfl,q,ho⟩,v⟩;have t:=ae q;have y:=ae ho;clear q ho l;go_wp2_with fail;go_ret;exact ⟨⟨_,c,rfl,t.out,y.out⟩,v⟩
theorem SlF.of_own {base:Nat} {v:Value} {l:List FV} (h:w.ownsRow base 48 19 v l.length (Zam l)):SlF w v l:=Zer.of_own h
theorem Zuh (v ps:Value) (c1 c2 u:Int) (w:World) (b:Nat)
  (P:Blk w b 88 #[.func (.func 37) #[] #[v],.func (.func 35) #[] #[v,ps],.func (.func 39) #[] #[ps,v]])
  (X:∀ W,Bl w W->Calls prog 37 #[v] W fun e r=>e=G (.int Z c1)/\Bl W r)
  (H2:c1=0->∀ W,Bl w W->Calls prog 35 #[v,ps] W fun e r=>e=G (.int Z c2)/\Bl W r)
  (R:c1=0->c2=0->∀ W,Bl w W->Calls prog 39 #[ps,v] W fun e r=>e=G (.int Z u)/\Bl W r) :
  Calls prog 36 #[O (some ⟨b,0,none⟩) 3 3] w fun e r=>e=G (.int Z (Zcq c1 c2 u))/\Bl w r:=by
 have L:=ae X;have K2:=ae H2;have K3:=ae R;clear X H2 R;go_enter func36,ntmps36;go_wp2_with fail;go_loopw [8] (fun j wr=>∃ k:Nat,j=.int Z (k:Int)/\k<=3/\(1<=k->c1=0)/\(2<=k->c2=0)/\(3<=k->u=0)/\Bl w wr) (fun j _=>3 - (intOf j).toNat)
 case atStart=>exact ⟨0,rfl,by omega,by omega,by omega,by omega,ap _ _⟩
 case round =>
  obtain ⟨k,rfl,hk,Y,K,N,c⟩:=hrel;have q:=P.under c P.lt;have l:=ae Y;have B:=ae K;have J:=ae N;clear Y K N;have t:k=0∨k=1∨k=2∨k=3:=by omega
  rcases t with rfl | rfl | rfl | rfl
  ·have hc:=q.cell 0;by_cases d:c1=0
   ·have z:(c1 != 0)=false:=by simp [d]
    go_wp2_with (refine (L.out wr c).mono ?_;rintro e w2 ⟨rfl,a⟩);go_roundw
    case rel=>exact ⟨1,by go_num,by omega,fun _=>d,by omega,by omega,Zaa c a c.size⟩
    case measure=>simp [intOf]
   ·have z:(c1 != 0)=true:=by simp [d]
    go_wp2_with (refine (L.out wr c).mono ?_;rintro e w2 ⟨rfl,a⟩);go_ret;exact ⟨by unfold Zcq;rw [if_neg d];rfl,Zaa c a c.size⟩
  ·have hc:=q.cell 1;have f:=l.out (ag _);by_cases d:c2=0
   ·have z:(c2 != 0)=false:=by simp [d]
    go_wp2_with (refine (K2.out f wr c).mono ?_;rintro e w2 ⟨rfl,a⟩);go_roundw
    case rel=>exact ⟨2,by go_num,by omega,fun _=>f,fun _=>d,by omega,Zaa c a c.size⟩
    case measure=>simp [intOf]
   ·have z:(c2 != 0)=true:=by simp [d]
    go_wp2_with (refine (K2.out f wr c).mono ?_;rintro e w2 ⟨rfl,a⟩);go_ret;exact ⟨by unfold Zcq;rw [if_pos f,if_neg d];rfl,Zaa c a c.size⟩
  ·have hc:=q.cell 2;have f:=l.out (by omega);have y:=B.out (by omega);by_cases d:u=0
   ·have z:(u != 0)=false:=by simp [d]
    go_wp2_with (refine (K3.out f y wr c).mono ?_;rintro e w2 ⟨rfl,a⟩);go_roundw
    case rel=>exact ⟨3,by go_num,by omega,fun _=>f,fun _=>y,fun _=>d,Zaa c a c.size⟩
    case measure=>simp [intOf]
   ·have z:(u != 0)=true:=by simp [d]
    go_wp2_with (refine (K3.out f y wr c).mono ?_;rintro e w2 ⟨rfl,a⟩);go_ret;exact ⟨by unfold Zcq;rw [if_pos f,if_pos y];rfl,Zaa c a c.size⟩
  ·have f:=l.out (by omega);have y:=B.out (by omega);have z3:=J.out (by omega);go_wp2_with fail;go_ret;exact ⟨by unfold Zcq;rw [if_pos f,if_pos y,z3];rfl,c⟩
structure CyS (w:World) (C V:Array Value) (h:Hd) (i:Int) (s:Nat) (A:Option Addr) (c:Nat) (ps:List Nat) (a:Option Fil):Prop where
 cop:Zh7 C h i V s (O A ps.length c)
 act:Zud w V a
 len:ps.length<=100
 cap:ps.length<=c
 wds:Zbw ps
 slt:s<18446744073709551616
 log:h.log<18446744073709551616
 map:h.map<18446744073709551616
 row:Zgq w A ps
 one:V.all (·.oneCell')=true
theorem CyS.keep {h:Hd} {s:Nat} {c:Nat} {ps:List Nat} {a:Option Fil} (H:CyS w C V h i s A c ps a) (b:Bl w W):CyS W C V h i s A c ps a :=
 ⟨H.cop,H.act.keep b,H.len,H.cap,H.wds,H.slt,H.log,H.map,H.row.keep b,H.one⟩
def avE:Option Fil->Int
 | some _=>0
 | none=>1
def Yjm (nk:Nat):Option Fil->Int
 | some f=>if (nk:Int)<=f.office then 7 else 0
 | none=>0
def Yi7 (ks:List Nat) (h:Hd) (s:Nat) (i:Int) (ps:List Nat):Option Fil->Int
 | some f=>chE (ks.getD f.office.toNat 0) h s i ps (some f)
 | none=>0
def tkE (ks:List Nat) (h:Hd) (s:Nat) (i:Int) (ps:List Nat) (a:Option Fil):Int:=Zcq (avE a) (Yjm ks.length a) (Yi7 ks h s i ps a)
theorem Ybh {a:Option Fil} (d:Zud w V a) (k:w.cell? ⟨0,0,none⟩=some (.int Z 655)) (j:0<w.heap.size):∀ W,Bl w W->Calls prog 38 #[U V] W fun e r=>e=G (.int Z (avE a))/\Bl W r:=by
 intro W b;cases a with
 | none=>exact d.2.1 W b
 | some f =>
  obtain ⟨dv,cv,ev,rfl,c,q⟩:=d;exact Zjt f c dv cv ev W ((b.cell (p:=⟨0,0,none⟩) j).trans k) (ah j b.size) w.heap.size b.size (q.keep (fun p l=>b.cell l) (ag _))
theorem Zfw {h:Hd} {s:Nat} {f:Fil} (b:Zh7 C h i V s p) (c:Zud w V (some f)):C[13]?=some (.int Z f.office)/\C[12]?=some (.int Z f.file)/\0<=f.office:=by
 obtain ⟨dv,cv,ev,rfl,a,_⟩:=c;exact ⟨b.act 4 _ rfl,b.act 3 _ rfl,a.2.2.2.1.1⟩
theorem Yhi {h:Hd} {s:Nat} (j:Zh7 C h i V s p) (d:Nat) (w:World) (c:Int) (f:Blk w d 58 C)
  (k:Hid (∀ W,Bl w W->Calls prog 38 #[U V] W fun e b=>e=G (.int Z c)/\Bl W b)) :
  Calls prog 37 #[I (some ⟨d,0,none⟩)] w fun e b=>e=G (.int Z c)/\Bl w b:=by
 go_enter func37,ntmps37;go_wp2_with (refine Zbd j f _ rfl rfl rfl ?_);refine (k.out w (ap _ _)).mono ?_;rintro e w2 ⟨rfl,a⟩;go_wp2_with fail;go_ret;exact ⟨rfl,a⟩
theorem Yhj (j sb sp:Nat) (C:Array Value) (c d f:Nat) (t:Option Addr) (k:Value) (w:World) (q:Blk w j 58 C) (ho:C[13]?=some (.int Z (c:Int))) (a:Blk w sb 29 #[I (some ⟨sp,0,none⟩)]) (b:Blk w sp 74 #[O t d f,k]) :
  Calls prog 35 #[I (some ⟨j,0,none⟩),I (some ⟨sb,0,none⟩)] w fun e r=>e=G (.int Z (if (d:Int)<=(c:Int) then 7 else 0))/\Bl w r:=by
 have l:=q.cellAt 13 _ ho;have cs:=a.c1.1;have f:=b.c2.1;by_cases hn:d<=c
 ·have hd:=decide_eq_true hn;rw [if_pos (by omega)];go_enter func35,ntmps35;go_wp2_with fail;go_quiet (fail);go_wp2_with fail;go_ret;exact ⟨rfl,Zag (ap _ _) _⟩
 ·have hd:=decide_eq_false hn;rw [if_neg (by omega)];go_enter func35,ntmps35;go_wp2_with fail;go_quiet (fail);go_wp2_with fail;go_ret;exact ⟨rfl,Zag (ap _ _) _⟩
theorem Zpo {d:TypeDesc} (e:prog.underlying T=some d) (hd:d.isRow=true) (hi:(prog.info? T).map (·.size)=some 30) (hs:C.size=30) {a:Act} (x:Operand) (ho:o.op=.load T x) (c:a.eval x=I (some ⟨g,0,none⟩)) (b:∀ W,S W->Blk W g T C) (f:Region.wanted o (yielded ops a.tmps)=true):YieldsIf prog ops S o (U C) a:=by
 have h:=yieldsIf_load_mid (P:=prog) (ops:=ops) (S:=S) f T x ho g 0 c C.toList d (fun w h=>Zc8 (b w h)) e hd (by rw [br,hs];exact hi)
 rwa [bt] at h
theorem Yhk (B sb sp:Nat) (C:Array Value) (v:C.size=30) (r N u:Nat) (b o:Nat) (key:Nat) (X:Value) (J:Int) (w:World) (t:Blk w B 58 C) (ho:C[13]?=some (.int Z (r:Int))) (j:Blk w sb 29 #[I (some ⟨sp,0,none⟩)]) (q:Blk w sp 74 #[O (some ⟨b,o,none⟩) N u,X]) (y:r<N) (c:w.cell? ⟨b,o+r,none⟩=some (.int .u64 (key:Int)))
  (HC:Hid (∀ W,Bl w W->Calls prog 40 #[.int .u64 (key:Int),U C] W fun e f=>e=G (.int Z J)/\Bl W f)) :
  Calls prog 39 #[I (some ⟨sb,0,none⟩),I (some ⟨B,0,none⟩)] w fun e f=>e=G (.int Z J)/\Bl w f:=by
 have z:=t.cellAt 13 _ ho;have cs:=j.c1.1;have u:=q.c2.1;have l1:=t.lt;have P:=j.lt;have Y:=q.lt;have R:=bu w _ c;have hd:=decide_eq_true y;go_enter func39,ntmps39;go_upto_region 1 with fail;refine wp_region_held_drew (S:=(fun V=>Bl w V)) (by kernel_rfl) ?_ (fun d=>?_)
 ·first | done | ((try dsimp only);exact (ap _ _).drew)
 have k:=(ap w.heap.size w).drew;generalize w.drew=w2 at *;refine tq 0 3 rfl ?_ (hy:=by intro f a;(try dsimp only at a);have h1:=(a.cell (p:=⟨sb,0,none⟩) P).trans cs;go_simp;try (with_reducible rfl));refine tq 1 4 rfl ?_;refine tq 2 5 rfl ?_;refine tq 3 6 rfl ?_ (hy:=by intro f a;(try dsimp only at a);have h1:=(a.cell (p:=⟨sp,0,none⟩) Y).trans u;go_simp;try (with_reducible rfl));refine tq 4 7 rfl ?_;refine tq 5 8 rfl ?_;refine tq 6 9 rfl ?_ (hy:=by intro f a;(try dsimp only at a);have h1:=(a.cell (p:=⟨B,13,none⟩) l1).trans z;go_simp;try (with_reducible rfl));refine tq 7 10 rfl ?_;refine tq 8 11 rfl ?_ (hy:=by intro f a;(try dsimp only at a);have h1:=(a.cell (p:=⟨b,o+r,none⟩) R).trans c;go_simp;try (with_reducible rfl));refine ty 9 12 rfl (Zpo underlying58 rfl (by kernel_rfl) v _ rfl rfl (fun V h=>t.keep h) rfl) ?_;refine rd 10 (some 13) rfl fun K L=>?_;go_simp;(refine (HC.out _ k).mono ?_;rintro e w3 ⟨rfl,l⟩);refine L.out _ _ (k.trans (l.mono k.size)) fun d=>?_;clear L K;(try simp only [pS,pB,pZ,pC]);have Q3:=k.trans (l.mono k.size);refine tq 11 2 rfl ?_;refine dn ?_;go_wp2_with fail;go_ret;exact ⟨rfl,Q3⟩
theorem Zia {h:Hd} {s:Nat} {c:Nat} {ps:List Nat} {a:Option Fil} (H:CyS w C V h i s A c ps a) (hG:w.cell? ⟨0,0,none⟩=some (.int Z 655)) (h0:0<w.heap.size) (d:List Nat) (ab:Zbw d) (P:Nat) (L:Option Addr) (B:Value) (X:Zgq w L d) (t sb sp Y:Nat)
  (K:Blk w t 58 C) (u:Blk w sb 29 #[I (some ⟨sp,0,none⟩)]) (v:Blk w sp 74 #[O L d.length P,B])
  (hF:Blk w Y 88 #[.func (.func 37) #[] #[I (some ⟨t,0,none⟩)],.func (.func 35) #[] #[I (some ⟨t,0,none⟩),I (some ⟨sb,0,none⟩)],.func (.func 39) #[] #[I (some ⟨sb,0,none⟩),I (some ⟨t,0,none⟩)]]) :
  Calls prog 36 #[O (some ⟨Y,0,none⟩) 3 3] w fun e w'=>e=G (.int Z (tkE d h s i ps a))/\Bl w w':=by
 refine Zuh _ _ (avE a) (Yjm d.length a) (Yi7 d h s i ps a) w Y hF (fun W j=>?_) (fun R W j=>?_) (fun R z W j=>?_)
 ·exact Yhi H.cop t W (avE a) (K.keep j) (ae (fun J r=>Ybh H.act hG h0 J (Zaa j r j.size)))
 ·cases a with
  | none=>exact absurd R (show ¬ (1:Int)=0 by decide)
  | some f =>
   obtain ⟨ho,_,hp⟩:=Zfw H.cop H.act;have k:f.office=(f.office.toNat:Int):=by omega
   have:=Yhj t sb sp C f.office.toNat d.length P L B W (K.keep j) (by rw [ho,<- k]) (u.keep j) (v.keep j);rw [<- k] at this;exact this
 ·cases a with
  | none=>exact absurd R (show ¬ (1:Int)=0 by decide)
  | some f =>
   obtain ⟨ho,_,hp⟩:=Zfw H.cop H.act;have k:f.office=(f.office.toNat:Int):=by omega
   have l:f.office.toNat<d.length:=by
    have z:(if (d.length:Int)<=f.office then (7:Int) else 0)=0:=z;by_cases N:(d.length:Int)<=f.office
    ·rw [if_pos N] at z;omega
    ·omega
   obtain ⟨b,o,rfl,q⟩:=X _ l;have aa:Yi7 d h s i ps (some f)=chE d[f.office.toNat] h s i ps (some f):=by
    show chE (d.getD f.office.toNat 0) h s i ps (some f)=_;rw [fk,ak l];rfl
   rw [aa];exact Yhk t sb sp C H.cop.size f.office.toNat d.length P b o d[f.office.toNat] B _ W (K.keep j) (by rw [ho,<- k]) (u.keep j) (v.keep j) l ((j.cell (bu w _ q)).trans q)
    (ae (fun J r=>by
     have y:=Zaa j r j.size;exact Zyb H.cop J (H.act.keep y) d[f.office.toNat] (ab _ (aw l)) H.log H.map H.len H.cap H.wds H.slt ((y.cell (p:=⟨0,0,none⟩) h0).trans hG) (ah h0 y.size) (H.row.keep y)))
theorem Zpp (w:World):(zeroValue 48).run prog w=.ok (U Zch) w:=by
 kernel_rfl
theorem Zpq {x:FV} (a:Zby x.f):keyOf prog 3 (.int Z x.f.file)=some (.int Z x.f.file):=Maps.keyOf_int_mk underlying3 (WalkArith.wf_i64 ⟨by have:=a.2.2.1.1;omega,by have:=a.2.2.1.2;omega⟩)
theorem Zn6 {L:List FV} (hn:Zc9 L) {x:FV} (e:x∈L) (d:Zby x.f) (c:W.ownsMap prog 3 Zgr mb nn (Zdm L)):(Instr.lookup 72 (.map (some mb)) (.int Z x.f.file) true).run prog W=.ok (E #[U x.vals,.bool true]) W:=by
 obtain ⟨v,ps,a,b⟩:=c.look_ok (Maps.int_keyed underlying3) underlying72 (Zpp _) (zd:=.held (U Zch)) (zp:=[]) rfl (Zpq d);rw [Zr3 hn e] at a;rw [Zpl hn e] at b;have b:some (DataW.held v,([]:List MemPlace))=some (.held (U x.vals),ps):=b;injection b with b;injection b with b _;injection b with b;rw [b] at a;exact a
theorem Zyg {L:List FV} {x:FV} (e:∀ y∈L,y.f.file≠x.f.file) (d:Zby x.f) (c:W.ownsMap prog 3 Zgr mb nn (Zdm L)):(Instr.lookup 72 (.map (some mb)) (.int Z x.f.file) true).run prog W=.ok (E #[U Zch,.bool false]) W:=by
 obtain ⟨v,ps,a,b⟩:=c.look_ok (Maps.int_keyed underlying3) underlying72 (Zpp _) (zd:=.held (U Zch)) (zp:=[]) rfl (Zpq d);rw [Zmp e] at a;rw [Zhm e] at b;have b:some (DataW.held v,([]:List MemPlace))=some (.held (U Zch),ps):=b;injection b with b;injection b with b _;injection b with b;rw [b] at a;exact a
theorem Yhl {a:Act} {K:Act->World->Prop} (m x v:Operand) (k:o.op=Op.mapUpdate 72 m x v) (L:List FV) (y:FV) (j:Zby y.f) (mb nn:Nat) (hm:a.eval m=.map (some mb)) (c:w.ownsMap prog 3 Zgr mb nn (Zdm L)) (hn:nn<1000) (l:a.eval x=.int Z y.f.file) (q:a.eval v=U y.vals)
  (u:∀ e,e.ownsMap prog 3 Zgr mb (nn+1) (Zdm (L++[y]))->w.grownBy e (some mb)->K (a.put o.dst undef) e):o.wp prog a w K Q:=by
 obtain ⟨e,b,r,t⟩:=c.store (Maps.int_keyed underlying3) underlying72 (by unfold maxLen;omega) (key:=.int Z y.f.file) (val:=U y.vals) (Zpq j) (d:=.held (U y.vals)) (ps:=[]) rfl;unfold Oper.wp;simp [execOp,k,hm,l,q,b,Result.andThen];exact u e (by rw [Zye];exact r) t.grown
end Go.Proofs.YtglkadmfjaecmaaGreatDoor
