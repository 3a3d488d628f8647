import Derived.Test.YtglkadmfjaecmaaGreatDoorD03
set_option maxRecDepth 100000
set_option maxHeartbeats 16000000
namespace Go.Proofs.YtglkadmfjaecmaaGreatDoor
open Go.RowKit Go.Shelf Tryz
open Go.Ending renaming returned->I
open Go.Value renaming pointer->Z, bool->O, int->V, slice->M, agg->E
open Go.Obj renaming cells->G
open Go.IntKind renaming i64->U
attribute [local go_sem] Oper.semAt_some
variable {B Bd By g l n₀:Nat} {W W' w w0:World}
def Za1 (p:TypeId -> Prop) (n₀:Nat) (W W':World):Prop:=Below n₀ W W' /\ ∀ i t cs,p t -> Blk W i t cs -> Blk W' i t cs
theorem Za1.refl (p:TypeId -> Prop) (n₀:Nat) (W:World):Za1 p n₀ W W:=⟨ap _ _,fun _ _ _ _ h => h⟩
theorem Za1.trans {p:TypeId -> Prop} {A B C:World} (h:Za1 p n₀ A B) (k:Za1 p n₀ B C):Za1 p n₀ A C:=⟨h.1.trans k.1,fun i t cs a b => k.2 i t cs a (h.2 i t cs a b)⟩
theorem Za1.put {p:TypeId -> Prop} (hn:n₀ <= w.heap.size) (W:World) (l:Nat) (o o':Obj) (hl:w.heap.size <= l) (h:W.heap[l]? = some o) (hc:o.isCells = false) (b:o.isWalk = false):Za1 p n₀ W (W.putObj l o') :=
 ⟨belowK_b hn W l o o' hl h hc b,fun i t cs _ a => a.grown (grownBy_putObj' W l o') (fun e => by
  cases e;unfold Blk at a;rw [a] at h;cases h;cases hc)⟩
theorem Za1.alloc {p:TypeId -> Prop} (W:World) (h:n₀ <= W.heap.size) (o:Obj):Za1 p n₀ W (W.alloc o):=⟨(ap _ _).alloc h o,fun _ _ _ _ a => a.alloc o⟩
theorem Za1.below {p:TypeId -> Prop} (h:Bl W W') (hn:n₀ <= W.heap.size):Za1 p n₀ W W':=⟨h.mono hn,fun _ _ _ _ a => a.keep h⟩
theorem Zzt (w:World) (n₀:Nat) (l:List F) (v:Value) (hr:Rep w n₀ v (.s 4 (l.flatMap F.cells))) (hl:l.length <= 1000000) (K:World -> World -> Prop) (m:∀ A B,K A B -> Below n₀ A B) (P:∀ A,K A A) (u:∀ A B C,K A B -> K B C -> K A C) (g:FuncId) (hg:∀ q w,(callFunc g q).run prog w = .ok (.enter g q) w) (R:Value) (J:Nat -> World -> Prop) (Jx:Nat -> World -> Prop)
  (h:∀ (k:Nat) (hk:k < l.length) (y:Zan w n₀) (W:World),y.t = l[k] -> J k W -> K w W -> Calls prog g #[E #[y.a,y.b,y.c,y.d],R] W fun e W' =>
   (e = I (O false) /\ J (k + 1) W' /\ K W W') ∨ (e = I (O true) /\ Jx k W'))
  (W:World) (X:J 0 W) (S:K w W) :
  Calls prog 214 #[v,.func (.func g) #[] #[R]] W fun e W' =>
   (e = I (V U (-1)) /\ J l.length W' /\ K W W') ∨ (∃ k:Nat,k < l.length /\ e = I (V U (k:Int)) /\ Jx k W'):=by
 obtain ⟨A,c,rfl,hc,j⟩:=hr.formulas;clear hr;go_enter func214,ntmps214;go_wp2;go_loopw [8] (fun i wr => ∃ k:Nat,i = V U (k:Int) /\ k <= l.length /\ J k wr /\ K W wr) (fun i _ => l.length - (intOf i).toNat)
 case atStart => exact ⟨0,rfl,bi _,X,P _⟩
 case round =>
  obtain ⟨k,rfl,hk,Q,L⟩:=hrel;by_cases r:k < l.length
  ·obtain ⟨b,o,y,rfl,x,hy,Y,c1,c2,T⟩:=j k r;have f:=u _ _ _ S L;have d0:=((m _ _ f).cell (p:=⟨b,o + k * 4,none⟩) x).trans Y;have d1:=((m _ _ f).cell (p:=⟨b,o + k * 4 + 1,none⟩) x).trans c1;have d2:=((m _ _ f).cell (p:=⟨b,o + k * 4 + 2,none⟩) x).trans c2;have d3:=((m _ _ f).cell (p:=⟨b,o + k * 4 + 3,none⟩) x).trans T;have HC:=ae (h k r y wr hy Q f);clear h j Y c1 c2 T hy Q X S;go_wp2_with (refine HC.out.mono ?_;rintro e w2 (⟨rfl,H,z⟩ | ⟨rfl,hx⟩))
   ·go_roundw
    case rel => exact ⟨k + 1,by go_num,by omega,H,u _ _ _ L z⟩
    case measure => simp [intOf];omega
   ·go_ret;exact .inr ⟨k,r,rfl,hx⟩
  ·obtain rfl:k = l.length:=by omega
   go_wp2_with fail;go_ret;exact .inl ⟨rfl,Q,L⟩
theorem Zj8 (w:World) (n₀:Nat) (l:List F) (v:Value) (hr:Rep w n₀ v (.s 4 (l.flatMap F.cells))) (hl:l.length <= 1000000) (K:World -> World -> Prop) (m:∀ A B,K A B -> Below n₀ A B) (r:∀ A,K A A) (u:∀ A B C,K A B -> K B C -> K A C) (g:FuncId) (P:∀ h w,(callFunc g h).run prog w = .ok (.enter g h) w) (p:Value) (J:Nat -> World -> Prop) (Jx:Nat -> World -> Prop)
  (f:∀ (k:Nat) (R:k < l.length) (y:Zan w n₀) (W:World),y.t = l[k] -> J k W -> K w W -> Calls prog g #[E #[y.a,y.b,y.c,y.d],p] W fun e W' =>
   (e = I (O false) /\ J (k + 1) W' /\ K W W') ∨ (e = I (O true) /\ Jx k W'))
  (W:World) (z:J 0 W) (x:K w W) :
  Calls prog 197 #[v,.func (.func g) #[] #[p]] W fun e W' =>
   (e = I (O false) /\ J l.length W' /\ K W W') ∨ (∃ k:Nat,k < l.length /\ e = I (O true) /\ Jx k W'):=by
 have H:=ae (Zzt w n₀ l v hr hl K m r u g P p J Jx f W z x);obtain ⟨A,c,rfl,hc,i⟩:=hr.formulas;clear hr i f z x hc;go_enter func197,ntmps197;go_wp2_with (go_at_call 214;refine H.out.mono ?_;rintro e w2 (⟨rfl,q,j⟩ | ⟨k,o,rfl,Q⟩))
 ·go_ret;exact .inl ⟨rfl,q,j⟩
 ·have L:(0:Int) <= (k:Int):=by omega
  go_wp2_with fail;go_ret;exact .inr ⟨k,o,rfl,Q⟩
def Zgv (t:TypeId):Prop:=t = 191 ∨ t = 46
section
variable (l By Bd:Nat) (w0:World) (n₀ N:Nat) (J Jx:List (Zan w0 n₀) -> World -> Prop)
def Zzu (W:World):Prop:=Za1 Zgv n₀ w0 W /\ n₀ <= W.heap.size /\ Blk W By 191 #[.func (.yield l) #[] #[]] /\ Blk W Bd 191 #[.func (.func 196) #[] #[Z (some ⟨By,0,none⟩),Z (some ⟨Bd,0,none⟩)]]
def Yid (x:Zan w0 n₀):Prop:=∀ (pre:List (Zan w0 n₀)) (W:World),J pre W -> pre.length + x.t.size <= N -> Zzu l By Bd w0 n₀ W ->
 Calls prog 196 #[E #[x.a,x.b,x.c,x.d],Z (some ⟨By,0,none⟩),Z (some ⟨Bd,0,none⟩)] W fun e W' =>
  (e = I (O true) /\ ∃ ys:List (Zan w0 n₀),ys.map Zan.t = x.t.nodes /\ J (pre ++ ys) W' /\ Za1 Zgv n₀ W W') ∨ (e = I (O false) /\ ∃ q:List (Zan w0 n₀),q.map Zan.t <+: x.t.nodes /\ Jx (pre ++ q) W')
end
theorem Zzu.keep (h:Zzu l By Bd w0 n₀ W) (k:Za1 Zgv n₀ W W'):Zzu l By Bd w0 n₀ W' :=
 ⟨h.1.trans k,aj h.2.1 k.1.size,k.2 _ _ _ (.inl rfl) h.2.2.1,k.2 _ _ _ (.inl rfl) h.2.2.2⟩
theorem Ygo (l By Bd:Nat) (w0:World) (n₀ N:Nat) (J Jx:List (Zan w0 n₀) -> World -> Prop) (r:∀ f W o,J f W -> J f (W.alloc o)) (x:Zan w0 n₀) (u:Yid l By Bd w0 n₀ N J Jx x)
  (f:List (Zan w0 n₀)) (W:World) (s:J f W) (y:f.length + x.t.size <= N) (h:Zzu l By Bd w0 n₀ W) :
  Calls prog 198 #[E #[x.a,x.b,x.c,x.d],Z (some ⟨Bd,0,none⟩)] W fun e W' =>
   (e = I (O false) /\ ∃ i:List (Zan w0 n₀),i.map Zan.t = x.t.nodes /\ J (f ++ i) W' /\ Za1 Zgv n₀ W W') ∨ (e = I (O true) /\ ∃ q:List (Zan w0 n₀),q.map Zan.t <+: x.t.nodes /\ Jx (f ++ q) W'):=by
 have j:Za1 Zgv n₀ W (W.alloc (G #[x.a,x.b,x.c,x.d] 46)):=Za1.alloc W h.2.1 _;have v:=ae (u f _ (r _ _ _ s) y (h.keep j));have hc:=(h.keep j).2.2.2.c1;have z:=ae j;clear s h u r j;go_enter func198,ntmps198;go_wp2_with (refine v.out.mono ?_;rintro e w2 (⟨rfl,i,hy,m,k⟩ | ⟨rfl,q,A,p⟩))
 ·go_ret;exact .inl ⟨rfl,i,hy,m,z.out.trans k⟩
 ·go_ret;exact .inr ⟨rfl,q,A,p⟩
theorem Znl (l:List F) (k:Nat) (h:k < l.length):(l.take (k + 1)).flatMap F.nodes = (l.take k).flatMap F.nodes ++ l[k].nodes:=by
 rw [dq,ak h,bm];simp
theorem Zal (l:List F):(l.flatMap F.nodes).length = Zbr l:=by rw [<- Zim,Zeu]
theorem kids_le:∀ l:List F,l.length <= Zbr l
 | [] => by simp
 | a :: l => by
  have h1:=a.size_pos;have b:=kids_le l;rw [au,Zbr];omega
theorem Ydg (P:F -> Prop) (hP:∀ t,P t -> ∀ k ∈ t.kids,P k) (l By Bd:Nat) (w0:World) (n₀ N:Nat) (J Jx:List (Zan w0 n₀) -> World -> Prop) (a2:N <= 1000000) (hJ:∀ f W o,J f W -> J f (W.alloc o))
  (hY:∀ m f (x:Zan w0 n₀) W,P x.t -> J f W -> f.length < N -> YieldAt Fence.wide m prog l #[E #[x.a,x.b,x.c,x.d]] W fun e W' =>
   (e = I (O true) /\ J (f ++ [x]) W' /\ Za1 Zgv n₀ W W') ∨ (e = I (O false) /\ Jx (f ++ [x]) W')) :
  ∀ (n:Nat) (x:Zan w0 n₀),P x.t -> x.t.size <= n -> Yid l By Bd w0 n₀ N J Jx x:=by
 intro n;induction n with
 | zero => intro x _ h;have:=x.t.size_pos;omega
 | succ n ih =>
  intro x L ab f W h0 hN hB;have hK:Za1 Zgv n₀ W (W.alloc (G #[x.a,x.b,x.c,x.d] 46)):=Za1.alloc W hB.2.1 _;have K:=hB.keep hK;have A:=Blk.new W 46 #[x.a,x.b,x.c,x.d];have hc:=K.2.2.1.c1;have r:=x.t.nodes_eq;have X:=x.t.nodes_length;rw [r,au,Zal] at X;have hy:=YieldAt.mono (hY 4 f x _ L (hJ _ _ _ h0) (by omega)) (R':=fun e u =>
   (e = I (O true) /\ (u.cell? ⟨W.heap.size,0,none⟩ = some x.a /\ u.cell? ⟨W.heap.size,1,none⟩ = some x.b /\ u.cell? ⟨W.heap.size,2,none⟩ = some x.c /\ u.cell? ⟨W.heap.size,3,none⟩ = some x.d) /\
    Calls prog 197 #[x.d,.func (.func 198) #[] #[Z (some ⟨Bd,0,none⟩)]] u fun e W' =>
     (e = I (O false) /\ (∃ j:List (Zan w0 n₀),j.map Zan.t = x.t.nodes /\ J (f ++ j) W') /\ Za1 Zgv n₀ W W') ∨ (e = I (O true) /\ ∃ q:List (Zan w0 n₀),q.map Zan.t <+: x.t.nodes /\ Jx (f ++ q) W')) ∨
   (e = I (O false) /\ Jx (f ++ [x]) u)) (fun e u h => by
    rcases h with ⟨v,hj,C⟩ | h
    ·have R:=K.keep C;refine .inl ⟨v,(C.2 _ _ _ (.inr rfl) A).c4,?_⟩;have al:x.t.kids.length <= 1000000:=by
      have h1:=kids_le x.t.kids;omega
     refine (Zj8 w0 n₀ x.t.kids x.d x.parts.2.2.2 al (Za1 Zgv n₀) (fun _ _ h => h.1) (fun _ => Za1.refl _ _ _) (fun _ _ _ h k => h.trans k)
      198 (enters_of func198 (by kernel_rfl) rfl) (Z (some ⟨Bd,0,none⟩))
      (fun k W' => (∃ j:List (Zan w0 n₀),j.map Zan.t = (x.t.kids.take k).flatMap F.nodes /\ J (f ++ [x] ++ j) W') /\ Za1 Zgv n₀ u W')
      (fun _ W' => ∃ q:List (Zan w0 n₀),q.map Zan.t <+: x.t.kids.flatMap F.nodes /\ Jx (f ++ [x] ++ q) W')
      ?_ u ⟨⟨[],by simp,by simpa using hj⟩,Za1.refl _ _ _⟩ R.1).mono ?_
     ·intro k C y W3 hy ad a0;obtain ⟨⟨j,i,s⟩,p⟩:=ad;have z:y.t ∈ x.t.kids:=by rw [hy];exact aw _
      have an:=F.kid_size z;have av:=Zjj x.t.kids k C;have a1:=Zev x.t.kids (k + 1);have aq:j.length = Zbr (x.t.kids.take k):=by rw [<- Zal,<- i,ba]
      refine (Ygo l By Bd w0 n₀ N J Jx hJ y (ih y (hP _ L _ z) (by omega)) (f ++ [x] ++ j) W3 s ?_ (R.keep p)).mono ?_
      ·rw [hy,ai,ai,ei];omega
      ·rintro e W4 (⟨v,zs,hz,aa,S⟩ | ⟨v,q,Q,af⟩)
       ·refine .inl ⟨v,⟨⟨j ++ zs,?_,by rw [<- ay];exact aa⟩,p.trans S⟩,S⟩;rw [Znl _ _ C,cj,i,hz,hy]
       ·refine .inr ⟨v,j ++ q,?_,by rw [<- ay];exact af⟩;rw [cj,i];refine List.IsPrefix.trans (l₂:=(x.t.kids.take (k + 1)).flatMap F.nodes) ?_ ?_
        ·rw [Znl _ _ C,<- hy];exact (List.prefix_append_right_inj _).2 Q
        ·conv => rhs;rw [<- di (k + 1) x.t.kids]
         rw [bm];exact List.prefix_append _ _
     ·rintro e W3 (⟨v,⟨⟨j,i,s⟩,p⟩,_⟩ | ⟨k,_,v,q,Q,H⟩)
      ·rw [df] at i;refine .inl ⟨v,⟨x :: j,by rw [du,i,r],by simpa using s⟩,hK.trans (C.trans p)⟩
      ·exact .inr ⟨v,x :: q,by rw [du,r];exact List.prefix_cons_inj _ |>.2 Q,by simpa using H⟩
    ·exact .inr h)
  obtain ⟨fn,am,Y,body,a3,hR⟩:=hy;have HR:=ae hR;have T:[x].map Zan.t <+: x.t.nodes:=by
   rw [r];exact ⟨x.t.kids.flatMap F.nodes,rfl⟩
  have HP:=ae T;clear hY hJ ih h0 hB K hR r X hN ab A T hK;refine (callsIn_wide (n:=5)).1 ?_;refine callsIn_of_wp func196 rfl trivial ?_ rfl;simp only [ntmps196,ef,au,dk,Nat.reduceAdd,Nat.reduceSub,ff,ew,fp,fj,dm,dx];gi_wp2_with fail;refine HR.out.mono ?_;rintro e u (⟨rfl,hd,hC⟩ | ⟨rfl,hx⟩)
  ·have HC:=ae hC;clear hC HR hc;gi_wp2_with (refine ⟨trivial,?_⟩;gi_at_call 197;refine (callsIn_wide.2 HC.out).mono ?_;rintro e w3 (⟨rfl,⟨j,i,s⟩,p⟩ | ⟨rfl,q,Q,H⟩))
   ·go_ret;exact .inl ⟨rfl,j,i,s,p⟩
   ·go_ret;exact .inr ⟨rfl,q,Q,H⟩
  ·clear HR hc;gi_wp2_with fail;refine ⟨trivial,?_⟩;gi_wp2_with fail;go_ret;exact .inr ⟨rfl,[x],HP.out,hx⟩
theorem Zzv (P:F -> Prop) (hP:∀ t,P t -> ∀ k ∈ t.kids,P k) (l:Nat) (w0:World) (n₀:Nat) (h:n₀ <= w0.heap.size) (x:Zan w0 n₀) (Q:P x.t) (C:x.t.size <= 1000000) (J Jx:List (Zan w0 n₀) -> World -> Prop) (r:∀ f W o,J f W -> J f (W.alloc o))
  (S:∀ m f (y:Zan w0 n₀) W,P y.t -> J f W -> f.length < x.t.size -> YieldAt Fence.wide m prog l #[E #[y.a,y.b,y.c,y.d]] W fun e W' =>
   (e = I (O true) /\ J (f ++ [y]) W' /\ Za1 Zgv n₀ W W') ∨ (e = I (O false) /\ Jx (f ++ [y]) W'))
  (T:Nat) (W:World) (j:Blk W T 46 #[x.a,x.b,x.c,x.d]) (i:Za1 Zgv n₀ w0 W) (X:J [] W) :
  Calls prog 195 #[.func (.yield l) #[] #[],Z (some ⟨T,0,none⟩)] W fun e W' => (∃ v,e = I v) /\
   ((∃ p:List (Zan w0 n₀),p.map Zan.t = x.t.nodes /\ J p W') ∨ (∃ f:List (Zan w0 n₀),f.map Zan.t <+: x.t.nodes /\ Jx f W')):=by
 have u:∃ z,W.alloc (G #[.func (.yield l) #[] #[]] 191) = z:=⟨_,rfl⟩
 obtain ⟨u,K⟩:=u;have R:=Blk.new W 191 #[.func (.yield l) #[] #[]];have k1:Za1 Zgv n₀ W (W.alloc (G #[.func (.yield l) #[] #[]] 191)):=Za1.alloc W (aj h i.1.size) _;have H:=Blk.new (W.alloc (G #[.func (.yield l) #[] #[]] 191)) 191 #[.func (.func 196) #[] #[Z (some ⟨W.heap.size,0,none⟩),Z (some ⟨W.heap.size + 1,0,none⟩)]];rw [ax] at H;have k2:=k1.trans (Za1.alloc _ (by rw [ax];exact ia (aj h i.1.size)) (G #[.func (.func 196) #[] #[Z (some ⟨W.heap.size,0,none⟩),Z (some ⟨W.heap.size + 1,0,none⟩)]] 191));have Y:=ae (Ydg P hP l W.heap.size (W.heap.size + 1) w0 n₀ x.t.size J Jx C r S x.t.size x Q (ag _) [] _ (r _ _ _ (r _ _ _ X)) (by simp)
  ⟨i.trans k2,aj (aj h i.1.size) k2.1.size,R.alloc _,H⟩)
 have hc:=(k2.2 _ _ _ (.inr rfl) j).c4;clear R H k1 k2 S r X i j u K;go_enter func195,ntmps195;go_wp2_with (refine Y.out.mono ?_;rintro e w3 (⟨rfl,p,L,A,_⟩ | ⟨rfl,q,hq,s⟩))
 ·go_end0;exact ⟨⟨_,rfl⟩,.inl ⟨p,L,by simpa using A⟩⟩
 ·go_end0;exact ⟨⟨_,rfl⟩,.inr ⟨q,hq,by simpa using s⟩⟩
theorem Zio (a b c d:Value) (w:World) :
  Calls prog 153 #[E #[a,b,c,d]] w fun e f => e = I (.func (.func 195) #[] #[Z (some ⟨w.heap.size,0,none⟩)]) /\ f = w.alloc (G #[a,b,c,d] 46):=by
 go_enter func153,ntmps153;go_wp2;go_ret;exact ⟨rfl,rfl⟩
theorem Zqt {F:Fence} (hd:F.depth = none) (k:Nat):F.room k:=fun d h => by rw [hd] at h;cases h
theorem YieldAt.anyDepth {F:Fence} (hd:F.depth = none) {m:Nat} (m':Nat) {P:Program} {b:Array Value} {R:Ending -> World -> Prop} (h:YieldAt F m P l b W R):YieldAt F m' P l b W R:=by
 obtain ⟨fn,d,a,body,hy,e⟩:=h;exact ⟨fn,d,a,body,hy,e.1,fun c cs _ => e.2 c cs (Zqt hd _)⟩
abbrev Zhx (P:F -> Prop) (w:World) (B:Nat):={ y:Zan w B // P y.t }
theorem Zf6 (P:F -> Prop) (X:∀ t,P t -> ∀ k ∈ t.kids,P k) (n:Nat) (w0:World) (n₀:Nat) (v:n₀ <= w0.heap.size) (x:Zan w0 n₀) (L:P x.t) (H:x.t.size <= 1000000) (K:Nat) (w:World) (A:Blk w K 46 #[x.a,x.b,x.c,x.d]) (Q:Za1 Zgv n₀ w0 w) :
  SeqStopsK Fence.wide n prog 195 #[Z (some ⟨K,0,none⟩)] (fun y:Zhx P w0 n₀ => #[E #[y.1.a,y.1.b,y.1.c,y.1.d]]) (Za1 Zgv n₀) (fun s => s.map (fun y => y.1.t) = x.t.nodes) (fun f => f.map (fun y => y.1.t) <+: x.t.nodes) x.t.size w:=fun l J Jx W R Y _ T h0 => by
 have hm:∀ s:List (Zhx P w0 n₀),(s.map Subtype.val).map Zan.t = s.map (fun y => y.1.t):=fun s => iz ..;refine callsIn_wide.2 ((Zzv P X l w0 n₀ v x L H (fun f W => ∃ q:List (Zhx P w0 n₀),q.map Subtype.val = f /\ J q W) (fun f W => ∃ q:List (Zhx P w0 n₀),q.map Subtype.val = f /\ Jx q W)
  (fun f W o ⟨q,i,h⟩ => ⟨q,i,Y _ _ _ _ h (ao W o none) (fun r e => by cases e)⟩)
  (fun m f y W j ⟨q,i,h⟩ hl => (YieldAt.anyDepth rfl m (T q ⟨y,j⟩ W h (by rw [<- i,ba] at hl;exact hl))).mono fun e W' z => ?_) K W (A.keep R) (Q.trans (Za1.below R (aj v Q.1.size))) ⟨[],rfl,h0⟩).mono fun e W' z => ?_)
 ·rcases z with ⟨u,p,C⟩ | ⟨u,p⟩
  ·exact .inl ⟨u,⟨q ++ [⟨y,j⟩],by rw [cj,i];rfl,p⟩,C⟩
  ·exact .inr ⟨u,⟨q ++ [⟨y,j⟩],by rw [cj,i];rfl,p⟩⟩
 ·obtain ⟨u,z⟩:=z;refine ⟨u,?_⟩;rcases z with ⟨s,hy,q,i,p⟩ | ⟨f,S,q,i,p⟩
  ·exact .inl ⟨q,by dsimp only;rw [<- hm,i,hy],p⟩
  ·exact .inr ⟨q,by dsimp only;rw [<- hm,i];exact S,p⟩
theorem Za1.setCell {p:TypeId -> Prop} {t:TypeId} {cs:Array Value} (c:Blk W g t cs) (d:¬ p t) (hn:n₀ <= g) (i:Nat) (u:Value):Za1 p n₀ W (W.setCell ⟨g,i,none⟩ u) :=
 ⟨(ap _ _).setCell (p:=⟨g,i,none⟩) hn u,fun j h f b a => a.far (fun e => by
  dsimp only at e;subst e;unfold Blk at c a;rw [c] at a;injection a with a;injection a with _ ht;subst ht;exact d b) u⟩
theorem Zan.mono {B':Nat} (x:Zan w B) (h:B <= B'):Zax w B' [x.a,x.b,x.c,x.d] x.t.cells:=x.h.keep (fun _ _ => rfl) h
theorem Zd7 {β:Type} (B:Nat) (t:TypeId) (f:β -> Array Value):Own (fun s W => Blk W B t (f s)):=fun s X Y row hs c a =>
 hs.grown c (fun b => by obtain ⟨o,ho,hc⟩:=a B b.symm;rw [show X.heap[B]? = _ from hs] at ho;cases ho;cases hc)
theorem Ydh (w:World) (x:Zan w w.heap.size) (u:x.t.size <= 1000000) :
  Calls prog 151 #[E #[x.a,x.b,x.c,x.d]] w fun e v => e = I (V U (x.t.size:Int)) /\ Bl w v:=by
 refine (callsIn_wide (n:=5)).1 ?_;refine callsIn_of_wp_marks func151 rfl trivial ?_ rfl;simp only [ntmps151,ef,au,dk,Nat.reduceAdd,Nat.reduceSub,ff,ew,fp,fj,dm,dx];gi_wp2_with (refine ⟨trivial,?_⟩;gi_at_call 153;refine (callsIn_wide.2 (Zio _ _ _ _ _)).mono ?_;rintro e v ⟨rfl,rfl⟩);have o:=(Blk.new (w.alloc (G #[x.a,x.b,x.c,x.d] 46)) 3 #[V U 0]).alloc (G #[x.a,x.b,x.c,x.d] 46);rw [ax] at o;have r:=Blk.new ((w.alloc (G #[x.a,x.b,x.c,x.d] 46)).alloc (G #[V U 0] 3)) 46 #[x.a,x.b,x.c,x.d];rw [ax,ax] at r;have i:Bl w (((w.alloc (G #[x.a,x.b,x.c,x.d] 46)).alloc (G #[V U 0] 3)).alloc (G #[x.a,x.b,x.c,x.d] 46)):=((Zab w _).alloc (by simp) _).alloc (by simp;omega) _;refine wpIn_rangeFunc_ownF rfl (by omega) (gf:=195) (lb:=#[Z (some ⟨w.heap.size + 1 + 1,0,none⟩)]) rfl trivial (enters_of func195 (by kernel_rfl) rfl)
  (Zf6 (fun _ => True) (fun _ _ _ _ => trivial) (5 - 1) w w.heap.size (ag _) x trivial u (w.heap.size + 1 + 1) _ r (Za1.below i (ag _))) Za1.trans (Za1.put (by simp;omega)) (ap _ _) (fun _ => rfl)
  (fun f W => Blk W (w.heap.size + 1) 3 #[V U (f.length:Int)] /\ Bl w W)
  (fun _ _ _ => False)
  (OwnFrom.and (Own.from (Zd7 _ _ _) _) (ownFrom_below (ag _) (by simp;omega)))
  (fun _ _ _ _ _ hs _ _ => hs)
  ⟨o,i⟩ ?aa ?assign ?body ?done ?stop
 case assign =>
  intro l y W K q;gi_wp2;exact q
 case body =>
  rintro k f y W ⟨j,s⟩ z;have hc:=j.c1;have C:(f.length:Int) <= 1000000:=by omega
  clear o r i;gi_wp2;refine ⟨KeepsOthers.setCell _ _ _,Za1.setCell j (by unfold Zgv;decide) (by omega) _ _,?_,s.setCell (p:=⟨w.heap.size + 1,0,none⟩) (by simp) _⟩;have:=j.set 0 (V U ((f.length:Int) + 1));rw [ai,ei];exact this
 case done =>
  rintro D H W A m ⟨j,s⟩ q;simp at A;have hl:=congrArg List.length m;rw [ba,F.nodes_length] at hl;rw [hl] at j;clear hl m o r i;have hc:=j.c1;gi_wp2;refine ⟨by simp,.inl ⟨_,_,rfl,run_takeDeferred q,?_⟩⟩;exact ⟨_,results_tmp rfl _ _ _,rfl,s.trans (belowK_b (w:=w) (ag _) W D _ _ (by omega) q rfl rfl)⟩
 case stop =>
  rintro D c f W _ _ h _;exact h.elim
theorem F.deep_eq (t:F):t.deep = Zdd t.kids + 1:=by
 cases t;rw [F.deep];rfl
theorem Zjm:∀ (l:List F) (k:Nat) (h:k < l.length),Zdd (l.take (k + 1)) = max (Zdd (l.take k)) l[k].deep
 | a :: l,0,_ => by simp [Zdd]
 | a :: l,k + 1,h => by
  have:=Zjm l k (by simpa using h);simp only [gy,Zdd,List.getElem_cons_succ,this,Nat.max_assoc]
mutual
theorem F.deep_le:∀ t:F,t.deep <= t.size
 | .mk op n ins kids => by
  have:=Zk2 kids;rw [F.deep,F.size];omega
theorem Zk2:∀ l:List F,Zdd l <= Zbr l
 | [] => by rw [Zdd,Zbr];exact ag _
 | k :: ks => by
  have h1:=F.deep_le k;have a:=Zk2 ks;rw [Zdd,Zbr];omega
end
theorem Ydi:∀ (n:Nat) (w:World) (B:Nat) (x:Zan w B),B <= w.heap.size -> x.t.size <= n -> n <= 1000000 ->
  Calls prog 152 #[E #[x.a,x.b,x.c,x.d]] w fun e w' => e = I (V U (x.t.deep:Int)) /\ Bl w w':=by
 intro n;induction n with
 | zero => intro w B x _ h;have:=x.t.size_pos;omega
 | succ n ih =>
  intro w B x z hx hn;obtain ⟨A,c,hd,hc,f⟩:=x.parts.2.2.2.formulas;have C:=x.t.deep_eq;have HK:=ae (fun (k:F) (h:k ∈ x.t.kids) => F.kid_size h);have P:x.t.kids.length <= 1000000:=by
   have h1:=kids_le x.t.kids;have s:=x.t.nodes_length;rw [x.t.nodes_eq,au,Zal] at s;omega
  have HD:=ae C;have H:Zbr x.t.kids <= 1000000:=by
   have s:=x.t.nodes_length;rw [x.t.nodes_eq,au,Zal] at s;omega
  have H:=ae H;rw [hd];generalize x.t.deep = dp at *;generalize x.t.kids = kids at *;generalize x.a = xa;generalize x.b = xb;generalize x.c = xc;clear C hd;go_enter func152,ntmps152;go_wp2;go_loopw [3,9] (fun n i wr => ∃ k:Nat,n = V U (Zdd (kids.take k):Int) /\ i = V U (k:Int) /\ k <= kids.length /\ Bl w wr) (fun _ i _ => kids.length - (intOf i).toNat)
  case atStart => exact ⟨0,rfl,rfl,bi _,Zab _ _⟩
  case round =>
   obtain ⟨k,rfl,rfl,hk,r⟩:=hrel;by_cases v:k < kids.length
   ·obtain ⟨b,o,y,rfl,hb,hy,X,c1,c2,S⟩:=f k v;have j:b < w.heap.size:=by omega
    have d0:=(r.cell (p:=⟨b,o + k * 4,none⟩) j).trans X;have d1:=(r.cell (p:=⟨b,o + k * 4 + 1,none⟩) j).trans c1;have d2:=(r.cell (p:=⟨b,o + k * 4 + 2,none⟩) j).trans c2;have d3:=(r.cell (p:=⟨b,o + k * 4 + 3,none⟩) j).trans S;have q:kids[k] ∈ kids:=aw _;have K:=HK.out _ q;have Q:=ae (Zjm kids k v);rw [<- hy] at K Q;have m:=r.alloc r.size (G #[y.a,y.b,y.c,y.d] 46);have R:=ae (ih _ B ⟨y.a,y.b,y.c,y.d,y.t,y.h.keep (fun p hp => m.cell (ah hp z)) (ag _)⟩ (aj z m.size) (by dsimp only;omega) (by omega));have g1:(y.t.deep:Int) <= 1000000:=by have:=F.deep_le y.t;omega
    clear X c1 c2 S f ih q hy;dsimp only at R;obtain ⟨ya,yb,yc,yd,Y,T⟩:=y;obtain ⟨A1,n1,q1,A2,n2,q2,e1,e2,e3,e4⟩:=Zaq T;dsimp only at *;subst e1 e2 e3 e4;clear T;go_wp2_with (go_at_call 152;refine R.out.mono ?_;rintro e w2 ⟨rfl,L⟩);have HM:=m.trans (L.mono m.size);go_roundw
    case rel =>
     refine ⟨k + 1,?_,by go_num,by omega,HM⟩;rw [Q.out];congr 1;rw [Nat.max_def];by_cases h1:Zdd (kids.take k) < Y.deep
     ·rw [if_pos h1,if_pos (by omega)]
     ·rw [if_neg h1];by_cases s:Zdd (kids.take k) <= Y.deep
      ·rw [if_pos s];omega
      ·rw [if_neg s]
    case measure => simp [intOf];omega
   ·obtain rfl:k = kids.length:=by omega
    have g1:((Zdd kids:Nat):Int) <= 1000000:=by
     have h1:=Zk2 kids;have s:=H.out;omega
    have u:((Zdd kids:Nat):Int) + 1 = (dp:Int):=by
     rw [HD.out];rfl
    have u:=ae u;go_wp2_with fail;go_ret;exact ⟨rfl,r⟩
def Zeg (t:F):Prop :=
 (t.op = 0 /\ t.n = 0 /\ t.ins = [] /\ t.kids = []) ∨ (t.op = 1 /\ (0 <= t.n /\ t.n < 64) /\ t.ins = [] /\ t.kids = []) ∨ (t.op = 2 /\ (0 <= t.n /\ t.n < 32) /\ Zxb t.ins /\ t.kids = []) ∨
 ((t.op = 3 ∨ t.op = 6) /\ t.n = 0 /\ t.ins = [] /\ t.kids.length = 1) ∨ ((t.op = 4 ∨ t.op = 5) /\ t.n = 0 /\ t.ins = [])
section
variable (A1 A2:Option Addr) (c1 c2:Nat) (w:World)
theorem Ygp:Calls prog 154 #[E #[V U 0,V U 0,M A1 0 c1,M A2 0 c2]] w fun e a => e = I (O true) /\ Bl w a:=by
 go_enter func154,ntmps154;go_wp2;go_ret;exact ⟨rfl,Zab _ _⟩
theorem Ygq (n:Int) (b:0 <= n) (h1:n < 64):Calls prog 154 #[E #[V U 1,V U n,M A1 0 c1,M A2 0 c2]] w fun e a => e = I (O true) /\ Bl w a:=by
 go_enter func154,ntmps154;go_wp2;go_ret;exact ⟨rfl,Zab _ _⟩
theorem Ygr (n:Int) (h:0 <= n) (h1:n < 32) (m:Nat) (c:∀ W,Bl w W -> Calls prog 199 #[M A1 m c1] W fun e a => e = I (V U 0) /\ Bl W a) :
  Calls prog 154 #[E #[V U 2,V U n,M A1 m c1,M A2 0 c2]] w fun e a => e = I (O true) /\ Bl w a:=by
 have d:=ae c;clear c;go_enter func154,ntmps154;go_wp2_with (go_at_call 199;refine (d.out _ (Zab _ _)).mono ?_;rintro e f ⟨rfl,b⟩);go_ret;exact ⟨rfl,Zaa (Zab _ _) b (by simp)⟩
theorem Ygs:Calls prog 154 #[E #[V U 3,V U 0,M A1 0 c1,M A2 1 c2]] w fun e a => e = I (O true) /\ Bl w a:=by
 go_enter func154,ntmps154;go_wp2;go_ret;exact ⟨rfl,Zab _ _⟩
theorem Ygt:Calls prog 154 #[E #[V U 6,V U 0,M A1 0 c1,M A2 1 c2]] w fun e a => e = I (O true) /\ Bl w a:=by
 go_enter func154,ntmps154;go_wp2;go_ret;exact ⟨rfl,Zab _ _⟩
theorem Ygu (m:Nat):Calls prog 154 #[E #[V U 4,V U 0,M A1 0 c1,M A2 m c2]] w fun e a => e = I (O true) /\ Bl w a:=by
 go_enter func154,ntmps154;go_wp2;go_ret;exact ⟨rfl,Zab _ _⟩
theorem Ygv (m:Nat):Calls prog 154 #[E #[V U 5,V U 0,M A1 0 c1,M A2 m c2]] w fun e a => e = I (O true) /\ Bl w a:=by
 go_enter func154,ntmps154;go_wp2;go_ret;exact ⟨rfl,Zab _ _⟩
end
theorem Zxc (w:World) (B:Nat) (k:B <= w.heap.size) (x:Zan w B) (h:Zeg x.t) :
  Calls prog 154 #[E #[x.a,x.b,x.c,x.d]] w fun e s => e = I (O true) /\ Bl w s:=by
 obtain ⟨v,z,o,y⟩:=x.parts;obtain ⟨A1,c1,m,_,_⟩:=o.ivs;obtain ⟨A2,c2,u,_,_⟩:=y.formulas;rw [v,z,m,u];rcases h with ⟨h1,f,i,j⟩ | ⟨h1,f,i,j⟩ | ⟨h1,f,i,j⟩ | ⟨h1,f,i,j⟩ | ⟨h1,f,i⟩
 ·rw [h1,f,i,j];exact Ygp A1 A2 c1 c2 w
 ·rw [h1,i,j];exact Ygq A1 A2 c1 c2 w _ f.1 f.2
 ·rw [h1,j];refine Ygr A1 A2 c1 c2 w _ f.1 f.2 _ (fun W q => ?_);rw [<- m];exact Zon _ i _ W B (aj k q.size) (o.keep (fun p r => q.cell (ah r k)) (ag _))
 ·rw [f,i,j];rcases h1 with h1 | h1
  ·rw [h1];exact Ygs A1 A2 c1 c2 w
  ·rw [h1];exact Ygt A1 A2 c1 c2 w
 ·rw [f,i];rcases h1 with h1 | h1
  ·rw [h1];exact Ygu A1 A2 c1 c2 w _
  ·rw [h1];exact Ygv A1 A2 c1 c2 w _
def OkF (t:F):Prop:=t.size <= 96 /\ t.deep <= 8 /\ ∀ y ∈ t.nodes,Zeg y
def OkN (t:F):Prop:=t.size <= 96 /\ ∀ y ∈ t.nodes,Zeg y
theorem Zk3 (t:F) (h:OkN t) (k:F) (a:k ∈ t.kids):OkN k:=⟨by have:=F.kid_size a;have:=h.1;omega,fun y hy => h.2 y (by
 rw [F.nodes_eq];exact dh _ (List.mem_flatMap.2 ⟨k,a,hy⟩))⟩
def Zan.up {w w':World} {B B':Nat} (x:Zan w B) (hk:∀ p:Addr,p.block < B -> w'.cell? p = w.cell? p) (hB:B <= B'):Zan w' B':=⟨x.a,x.b,x.c,x.d,x.t,x.h.keep hk hB⟩
theorem Zzw (x:Zan w0 B) (W:World) (j:∀ p:Addr,p.block < B -> W.cell? p = w0.cell? p) (h:B <= W.heap.size) (f:x.t.size <= 1000000) :
  Calls prog 151 #[E #[x.a,x.b,x.c,x.d]] W fun e i => e = I (V U (x.t.size:Int)) /\ Bl W i:=Ydh W (x.up j h) f
theorem Zzx (x:Zan w0 B) (W:World) (j:∀ p:Addr,p.block < B -> W.cell? p = w0.cell? p) (h:B <= W.heap.size) (f:x.t.size <= 1000000) :
  Calls prog 152 #[E #[x.a,x.b,x.c,x.d]] W fun e i => e = I (V U (x.t.deep:Int)) /\ Bl W i:=Ydi x.t.size W W.heap.size (x.up j h) (ag _) (ag _) f
theorem Zzy (x:Zan w0 B) (W:World) (j:∀ p:Addr,p.block < B -> W.cell? p = w0.cell? p) (f:B <= W.heap.size) (h:Zeg x.t) :
  Calls prog 154 #[E #[x.a,x.b,x.c,x.d]] W fun e i => e = I (O true) /\ Bl W i:=Zxc W W.heap.size (ag _) (x.up j f) h
theorem Zip (w:World) (B:Nat) (f:B <= w.heap.size) (x:Zan w B) (h:OkF x.t) :
  Calls prog 114 #[E #[x.a,x.b,x.c,x.d]] w fun e S => e = I (V U 0) /\ Bl w S:=by
 obtain ⟨hs,hd,Q⟩:=h;have HO:=ae (show OkN x.t from ⟨hs,Q⟩);have al:(x.t.size:Int) <= 96:=by omega
 have an:(x.t.deep:Int) <= 8:=by omega
 have z:x.t.size <= 1000000:=by omega
 have g1:decide ((96:Int) < (x.t.size:Int)) = false:=by simp;omega
 have g2:decide ((8:Int) < (x.t.deep:Int)) = false:=by simp;omega
 clear Q hs hd;refine (callsIn_wide (n:=5)).1 ?_;refine callsIn_of_wp_marks func114 rfl trivial ?_ rfl;simp only [ntmps114,ef,au,dk,Nat.reduceAdd,Nat.reduceSub,ff,ew,fp,fj,dm,dx];have B0:=(Blk.new w 46 #[x.a,x.b,x.c,x.d]).alloc (G #[V U 0] 53);have R0:=Blk.new (w.alloc (G #[x.a,x.b,x.c,x.d] 46)) 53 #[V U 0];rw [ax] at R0;have j:=(Zab w (G #[x.a,x.b,x.c,x.d] 46)).alloc (by simp) (G #[V U 0] 53);gi_wp2_with fail;generalize (w.alloc (G #[x.a,x.b,x.c,x.d] 46)).alloc (G #[V U 0] 53) = W0 at *;have HK:∀ W,Bl w W -> ∀ p:Addr,p.block < B -> W.cell? p = w.cell? p:=fun W hW p hp => hW.cell (ah hp f);have v:=ae HK;clear HK;refine ⟨trivial,?_⟩;refine (callsIn_wide.2 (Zzw x W0 (v.out _ j) (aj f j.size) z)).mono ?_;rintro e w1 ⟨rfl,o⟩;have m:=j.trans (o.mono j.size);have R:=B0.keep o;have R1:=R0.keep o;have c1:=R.c4;clear B0 R0 j o;gi_wp2_with fail;refine ⟨trivial,?_⟩;refine (callsIn_wide.2 (Zzx x w1 (v.out _ m) (aj f m.size) z)).mono ?_;rintro e w2 ⟨rfl,q⟩;have A:=m.trans (q.mono m.size);have B2:=R.keep q;have R2:=R1.keep q;have c2:=B2.c4;clear R R1 m q c1;gi_wp2_with (refine ⟨trivial,?_⟩;gi_at_call 153;refine (callsIn_wide.2 (Zio _ _ _ _ _)).mono ?_;rintro e S ⟨rfl,rfl⟩);have R3:=R2.alloc (G #[x.a,x.b,x.c,x.d] 46);have B3:=Blk.new w2 46 #[x.a,x.b,x.c,x.d];have k:=A.alloc A.size (G #[x.a,x.b,x.c,x.d] 46);have hz:=ax w2 (G #[x.a,x.b,x.c,x.d] 46);generalize w2.alloc _=w3 at *;clear R2 B2 c2;have am:=A.size;generalize w2.heap.size = H2 at *;refine wpIn_rangeFunc_ownH rfl (by omega) (gf:=195) (lb:=#[Z (some ⟨H2,0,none⟩)]) rfl trivial (enters_of func195 (by kernel_rfl) rfl)
  (Zf6 OkN Zk3 (5 - 1) w B f x HO.out z H2 w3 B3 (Za1.below k f)) Za1.trans (Za1.put (aj f k.size)) (ap _ _) (fun _ => rfl)
  (fun _ W => Blk W (w.heap.size + 1) 53 #[V U 0] /\ Bl w W)
  (fun _ _ _ => False)
  (OwnFrom.and (Own.from (Zd7 _ _ (fun _ => #[V U 0])) _) (ownFrom_below (ag _) k.size))
  (fun _ _ _ _ _ hs _ _ => hs)
  ⟨R3,k⟩
  (fun y T W => ∃ L,Blk W L 46 #[y.1.a,y.1.b,y.1.c,y.1.d] /\ T = { tmps:=#[E #[x.a,x.b,x.c,x.d],Z (some ⟨w.heap.size,0,none⟩),Z (some ⟨w.heap.size + 1,0,none⟩),Z (some ⟨L,0,none⟩),E #[x.a,x.b,x.c,x.d],V U (x.t.size:Int),O false,O false,E #[x.a,x.b,x.c,x.d],V U (x.t.deep:Int),O false,O false,E #[x.a,x.b,x.c,x.d],.func (.func 195) #[] #[Z (some ⟨H2,0,none⟩)],E #[y.1.a,y.1.b,y.1.c,y.1.d],undef,undef,undef],defers:=[] })
  (fun y T _ X Y row hs hg hr => by obtain ⟨L,h2,h3⟩:=hs;exact ⟨L,Zd7 L 46 (fun (_:Unit) => #[y.1.a,y.1.b,y.1.c,y.1.d]) () X Y row h2 hg (fun r e => (hr r e).2),h3⟩)
  ?assign ?body ?done ?stop
 case assign =>
  rintro l P y W K ⟨H,i⟩ hK;obtain ⟨A1,n1,q1,A2,n2,q2,e1,e2,e3,e4⟩:=Zaq y.1.h;gi_wp2_with fail;rw [<- e1,<- e2,<- e3,<- e4];exact hK _ _ ((KeepsOthers.alloc _ _).from _) (Za1.alloc W (aj f i.size) _) ⟨H.alloc _,i.alloc i.size _⟩ ⟨W.heap.size,Blk.new W _ _,rfl⟩
 case body =>
  rintro l P y T W hl ⟨r,hr⟩ ⟨H,i⟩ ⟨L,bX,rfl⟩ af;have hc:=bX.c4;have HF:=ae (Zzy y.1 W (v.out _ i) (aj f i.size) (y.2.2 _ (by rw [F.nodes_eq];exact da)));gi_wp2_with (refine ⟨trivial,?_⟩;gi_at_call 154;refine (CallsIn.inRound l (callsIn_wide.2 HF.out)).mono ?_;rintro e S ⟨rfl,u⟩);exact ⟨(Za3.others (Za3.below u (ag _) i.size)).from _,Za1.below u (aj f i.size),H.keep u,i.trans (u.mono i.size)⟩
 case done =>
  rintro D ys W hD aq ⟨H,i⟩ hK;have hc:=H.c1;gi_wp2_with fail;have s:=(KeepsOthers.setCell W ⟨w.heap.size + 1,0,none⟩ (V U 0)).same D _ hK rfl;have C:=H.set1 (V U 0);have aa:=i.setCell (p:=⟨w.heap.size + 1,0,none⟩) (by simp) (V U 0);have ab:=C.grown (grownBy_putObj' _ D (.deferred none)) (fun e => by
   cases e;unfold Blk at C;rw [C] at s;cases s)
  refine ⟨by simp,.inl ⟨_,_,rfl,run_takeDeferred s,?_⟩⟩;refine ⟨V U 0,?_,rfl,aa.trans (belowK_b (w:=w) (ag _) _ D _ _ (aj k.size hD) s rfl rfl)⟩;have ad:=ab.c1;simp [results,f114,go_sem,ad.1]
 case stop =>
  rintro D c P W _ _ h _;exact h.elim
mutual
def F.tops:F -> List F
 | .mk op n ins kids => if op = 5 then Zqu kids else [.mk op n ins kids]
def Zqu:List F -> List F
 | [] => []
 | k :: ks => k.tops ++ Zqu ks
end
theorem Zoo:∀ l:List F,Zqu l = l.flatMap F.tops
 | [] => by rw [Zqu];rfl
 | a :: l => by rw [Zqu,Zoo l];rfl
theorem F.tops_or {t:F} (h:t.op = 5):t.tops = t.kids.flatMap F.tops:=by
 cases t with
 | mk op n ins kids =>
  rw [F.tops,if_pos (show op = 5 from h),Zoo];rfl
theorem F.tops_no {t:F} (h:¬ t.op = 5):t.tops = [t]:=by
 cases t with
 | mk op n ins kids =>
  rw [F.tops,if_neg (show ¬ op = 5 from h)]
mutual
theorem F.tops_le:∀ t:F,t.tops.length <= t.size
 | .mk op n ins kids => by
  rw [F.tops,F.size];have:=Zop kids;split
  ·omega
  ·rw [ei];omega
theorem Zop:∀ l:List F,(Zqu l).length <= Zbr l
 | [] => by rw [Zqu,Zbr];exact ag _
 | k :: ks => by
  have h1:=F.tops_le k;have a:=Zop ks;rw [Zqu,Zbr,ai];omega
end
theorem Ze4 (l:List F) (k:Nat) (h:k < l.length):(l.take (k + 1)).flatMap F.tops = (l.take k).flatMap F.tops ++ l[k].tops:=by
 rw [dq,ak h,bm];simp
theorem Zeh (l:List F) (k:Nat) (h:k < l.length):((l.take k).flatMap F.tops).length + l[k].tops.length <= (l.flatMap F.tops).length:=by
 conv => rhs;rw [<- di (k + 1) l]
 rw [bm,Ze4 l k h,ai,ai];omega
def Zi5 (t:TypeId):Prop:=t = 191
section
variable (l By Bd:Nat) (w0:World) (n₀ N:Nat) (J Jx:List (Zan w0 n₀) -> World -> Prop)
def Zqv (W:World):Prop:=Za1 Zi5 n₀ w0 W /\ n₀ <= W.heap.size /\ Blk W By 191 #[.func (.yield l) #[] #[]] /\ Blk W Bd 191 #[.func (.func 241) #[] #[Z (some ⟨By,0,none⟩),Z (some ⟨Bd,0,none⟩)]]
def Yfq (x:Zan w0 n₀):Prop:=∀ (pre:List (Zan w0 n₀)) (W:World),J pre W -> pre.length + x.t.tops.length <= N -> Zqv l By Bd w0 n₀ W ->
 Calls prog 241 #[E #[x.a,x.b,x.c,x.d],Z (some ⟨By,0,none⟩),Z (some ⟨Bd,0,none⟩)] W fun e W' =>
  (e = I (O true) /\ ∃ ys:List (Zan w0 n₀),ys.map Zan.t = x.t.tops /\ J (pre ++ ys) W' /\ Za1 Zi5 n₀ W W') ∨ (e = I (O false) /\ ∃ q:List (Zan w0 n₀),q.map Zan.t <+: x.t.tops /\ Jx (pre ++ q) W')
end
theorem Zqv.keep (h:Zqv l By Bd w0 n₀ W) (k:Za1 Zi5 n₀ W W'):Zqv l By Bd w0 n₀ W' :=
 ⟨h.1.trans k,aj h.2.1 k.1.size,k.2 _ _ _ rfl h.2.2.1,k.2 _ _ _ rfl h.2.2.2⟩
theorem Ydj (l By Bd:Nat) (w0:World) (n₀ N:Nat) (J Jx:List (Zan w0 n₀) -> World -> Prop) (r:∀ f W o,J f W -> J f (W.alloc o)) (x:Zan w0 n₀) (u:Yfq l By Bd w0 n₀ N J Jx x)
  (f:List (Zan w0 n₀)) (W:World) (s:J f W) (y:f.length + x.t.tops.length <= N) (h:Zqv l By Bd w0 n₀ W) :
  Calls prog 242 #[E #[x.a,x.b,x.c,x.d],Z (some ⟨Bd,0,none⟩)] W fun e W' =>
   (e = I (O false) /\ ∃ i:List (Zan w0 n₀),i.map Zan.t = x.t.tops /\ J (f ++ i) W' /\ Za1 Zi5 n₀ W W') ∨ (e = I (O true) /\ ∃ q:List (Zan w0 n₀),q.map Zan.t <+: x.t.tops /\ Jx (f ++ q) W'):=by
 have j:Za1 Zi5 n₀ W (W.alloc (G #[x.a,x.b,x.c,x.d] 46)):=Za1.alloc W h.2.1 _;have v:=ae (u f _ (r _ _ _ s) y (h.keep j));have hc:=(h.keep j).2.2.2.c1;have z:=ae j;clear s h u r j;go_enter func242,ntmps242;go_wp2_with (refine v.out.mono ?_;rintro e w2 (⟨rfl,i,hy,m,k⟩ | ⟨rfl,q,A,p⟩))
 ·go_ret;exact .inl ⟨rfl,i,hy,m,z.out.trans k⟩
 ·go_ret;exact .inr ⟨rfl,q,A,p⟩
theorem Zzz (P:F -> Prop) (hP:∀ t,P t -> ∀ k ∈ t.kids,P k) (l By Bd:Nat) (w0:World) (n₀ N:Nat) (J Jx:List (Zan w0 n₀) -> World -> Prop) (T:∀ f W o,J f W -> J f (W.alloc o))
  (hY:∀ m f (x:Zan w0 n₀) W,P x.t -> J f W -> f.length < N -> YieldAt Fence.wide m prog l #[E #[x.a,x.b,x.c,x.d]] W fun e W' =>
   (e = I (O true) /\ J (f ++ [x]) W' /\ Za1 Zi5 n₀ W W') ∨ (e = I (O false) /\ Jx (f ++ [x]) W')) :
  ∀ (n:Nat) (x:Zan w0 n₀),P x.t -> x.t.size <= n -> n <= 1000000 -> Yfq l By Bd w0 n₀ N J Jx x:=by
 intro n;induction n with
 | zero => intro x _ h;have:=x.t.size_pos;omega
 | succ n ih =>
  intro x H C a3 f W X L Y;have A:Za1 Zi5 n₀ W (W.alloc (G #[x.a,x.b,x.c,x.d] 46)):=Za1.alloc W Y.2.1 _;have i:=Y.keep A;have K:=x.parts.1;by_cases h5:x.t.op = 5
  ·rw [F.tops_or h5] at L ⊢;have an:x.t.kids.length <= 1000000:=by
    have:=kids_le x.t.kids;have h2:=x.t.nodes_length;rw [x.t.nodes_eq,au,Zal] at h2;omega
   have HC:=ae ((Zj8 w0 n₀ x.t.kids x.d x.parts.2.2.2 an (Za1 Zi5 n₀) (fun _ _ h => h.1) (fun _ => Za1.refl _ _ _) (fun _ _ _ h k => h.trans k)
    242 (enters_of func242 (by kernel_rfl) rfl) (Z (some ⟨Bd,0,none⟩))
    (fun k W' => (∃ p:List (Zan w0 n₀),p.map Zan.t = (x.t.kids.take k).flatMap F.tops /\ J (f ++ p) W') /\ Za1 Zi5 n₀ (W.alloc (G #[x.a,x.b,x.c,x.d] 46)) W')
    (fun _ W' => ∃ q:List (Zan w0 n₀),q.map Zan.t <+: x.t.kids.flatMap F.tops /\ Jx (f ++ q) W')
    (by
     intro k u y W3 hy ad a2;obtain ⟨⟨p,j,v⟩,r⟩:=ad;have s:y.t ∈ x.t.kids:=by rw [hy];exact aw _
     have av:=F.kid_size s;have a0:=Zeh x.t.kids k u;have a1:p.length = ((x.t.kids.take k).flatMap F.tops).length:=by rw [<- j,ba]
     refine (Ydj l By Bd w0 n₀ N J Jx T y (ih y (hP _ H _ s) (by omega) (by omega)) (f ++ p) W3 v ?_ (i.keep r)).mono ?_
     ·rw [hy,ai];omega
     ·rintro e W4 (⟨R,zs,hz,ab,Q⟩ | ⟨R,q,hq,am⟩)
      ·refine .inl ⟨R,⟨⟨p ++ zs,?_,by rw [<- ay];exact ab⟩,r.trans Q⟩,Q⟩;rw [Ze4 _ _ u,cj,j,hz,hy]
      ·refine .inr ⟨R,p ++ q,?_,by rw [<- ay];exact am⟩;rw [cj,j];refine List.IsPrefix.trans (l₂:=(x.t.kids.take (k + 1)).flatMap F.tops) ?_ ?_
       ·rw [Ze4 _ _ u,<- hy];exact (List.prefix_append_right_inj _).2 hq
       ·conv => rhs;rw [<- di (k + 1) x.t.kids]
        rw [bm];exact List.prefix_append _ _)
    (W.alloc (G #[x.a,x.b,x.c,x.d] 46)) ⟨⟨[],by simp,by rw [bv];exact T _ _ _ X⟩,Za1.refl _ _ _⟩ i.1))
   have HK:=ae A;rw [h5] at K;rw [K] at HC HK ⊢;have z:(x.t.kids.take x.t.kids.length) = x.t.kids:=df;rw [z] at HC;clear hY T ih X Y i L C A K z;go_enter func241,ntmps241;go_wp2_with (go_at_call 197;refine HC.out.mono ?_;rintro e w3 (⟨rfl,⟨⟨p,j,v⟩,r⟩,_⟩ | ⟨k,_,rfl,q,hq,af⟩))
   ·go_ret;exact .inl ⟨rfl,p,j,v,HK.out.trans r⟩
   ·go_ret;exact .inr ⟨rfl,q,hq,af⟩
  ·rw [F.tops_no h5] at L ⊢;have hc:=i.2.2.1.c1;have hy:=YieldAt.mono (hY 4 f x _ H (T _ _ _ X) (by rw [ei] at L;omega)) (R':=fun e S =>
    (e = I (O true) /\ J (f ++ [x]) S /\ Za1 Zi5 n₀ W S) ∨ (e = I (O false) /\ Jx (f ++ [x]) S)) (fun e S h => by
     rcases h with ⟨R,hj,u⟩ | h
     ·exact .inl ⟨R,hj,A.trans u⟩
     ·exact .inr h)
   obtain ⟨fn,aq,aa,body,al,hR⟩:=hy;have HR:=ae hR;have a4:(x.t.op != 5) = true:=by simpa using h5
   have HX:∃ x':Zan w0 n₀,x' = x:=⟨_,rfl⟩;rw [K] at HR hc al ⊢;clear hY T ih X Y i hR L C A K;refine (callsIn_wide (n:=5)).1 ?_;refine callsIn_of_wp func241 rfl trivial ?_ rfl;simp only [ntmps241,ef,au,dk,Nat.reduceAdd,Nat.reduceSub,ff,ew,fp,fj,dm,dx];gi_wp2_with fail;refine HR.out.mono ?_;rintro e S (⟨rfl,hj,u⟩ | ⟨rfl,hx⟩)
   ·gi_wp2_with fail;go_ret;exact .inl ⟨rfl,[x],rfl,hj,u⟩
   ·gi_wp2_with fail;go_ret;exact .inr ⟨rfl,[x],List.prefix_refl _,hx⟩
theorem Ydk (P:F -> Prop) (hP:∀ t,P t -> ∀ k ∈ t.kids,P k) (l:Nat) (w0:World) (n₀:Nat) (h:n₀ <= w0.heap.size) (x:Zan w0 n₀) (Q:P x.t) (C:x.t.size <= 1000000) (J Jx:List (Zan w0 n₀) -> World -> Prop) (r:∀ f W o,J f W -> J f (W.alloc o))
  (S:∀ m f (y:Zan w0 n₀) W,P y.t -> J f W -> f.length < x.t.tops.length -> YieldAt Fence.wide m prog l #[E #[y.a,y.b,y.c,y.d]] W fun e W' =>
   (e = I (O true) /\ J (f ++ [y]) W' /\ Za1 Zi5 n₀ W W') ∨ (e = I (O false) /\ Jx (f ++ [y]) W'))
  (T:Nat) (W:World) (j:Blk W T 46 #[x.a,x.b,x.c,x.d]) (i:Za1 Zi5 n₀ w0 W) (X:J [] W) :
  Calls prog 240 #[.func (.yield l) #[] #[],Z (some ⟨T,0,none⟩)] W fun e W' => (∃ v,e = I v) /\
   ((∃ p:List (Zan w0 n₀),p.map Zan.t = x.t.tops /\ J p W') ∨ (∃ f:List (Zan w0 n₀),f.map Zan.t <+: x.t.tops /\ Jx f W')):=by
 have u:∃ z,W.alloc (G #[.func (.yield l) #[] #[]] 191) = z:=⟨_,rfl⟩
 obtain ⟨u,K⟩:=u;have R:=Blk.new W 191 #[.func (.yield l) #[] #[]];have k1:Za1 Zi5 n₀ W (W.alloc (G #[.func (.yield l) #[] #[]] 191)):=Za1.alloc W (aj h i.1.size) _;have H:=Blk.new (W.alloc (G #[.func (.yield l) #[] #[]] 191)) 191 #[.func (.func 241) #[] #[Z (some ⟨W.heap.size,0,none⟩),Z (some ⟨W.heap.size + 1,0,none⟩)]];rw [ax] at H;have k2:=k1.trans (Za1.alloc _ (by rw [ax];exact ia (aj h i.1.size)) (G #[.func (.func 241) #[] #[Z (some ⟨W.heap.size,0,none⟩),Z (some ⟨W.heap.size + 1,0,none⟩)]] 191));have Y:=ae (Zzz P hP l W.heap.size (W.heap.size + 1) w0 n₀ x.t.tops.length J Jx r S x.t.size x Q (ag _) C [] _ (r _ _ _ (r _ _ _ X)) (by simp)
  ⟨i.trans k2,aj (aj h i.1.size) k2.1.size,R.alloc _,H⟩)
 have hc:=((j.alloc (G #[.func (.yield l) #[] #[]] 191)).alloc (G #[.func (.func 241) #[] #[Z (some ⟨W.heap.size,0,none⟩),Z (some ⟨W.heap.size + 1,0,none⟩)]] 191)).c4;clear R H k1 k2 S r X i j u K;go_enter func240,ntmps240;go_wp2_with (refine Y.out.mono ?_;rintro e w3 (⟨rfl,p,L,A,_⟩ | ⟨rfl,q,hq,s⟩))
 ·go_end0;exact ⟨⟨_,rfl⟩,.inl ⟨p,L,by simpa using A⟩⟩
 ·go_end0;exact ⟨⟨_,rfl⟩,.inr ⟨q,hq,by simpa using s⟩⟩
theorem Ydl (a b c d:Value) (w:World) :
  Calls prog 235 #[E #[a,b,c,d]] w fun e f => e = I (.func (.func 240) #[] #[Z (some ⟨w.heap.size,0,none⟩)]) /\ f = w.alloc (G #[a,b,c,d] 46):=by
 go_enter func235,ntmps235;go_wp2;go_ret;exact ⟨rfl,rfl⟩
theorem Zxd (P:F -> Prop) (X:∀ t,P t -> ∀ k ∈ t.kids,P k) (n:Nat) (w0:World) (n₀:Nat) (v:n₀ <= w0.heap.size) (x:Zan w0 n₀) (L:P x.t) (H:x.t.size <= 1000000) (K:Nat) (w:World) (A:Blk w K 46 #[x.a,x.b,x.c,x.d]) (Q:Za1 Zi5 n₀ w0 w) :
  SeqStopsK Fence.wide n prog 240 #[Z (some ⟨K,0,none⟩)] (fun y:Zhx P w0 n₀ => #[E #[y.1.a,y.1.b,y.1.c,y.1.d]]) (Za1 Zi5 n₀) (fun s => s.map (fun y => y.1.t) = x.t.tops) (fun f => f.map (fun y => y.1.t) <+: x.t.tops) x.t.tops.length w:=fun l J Jx W R Y _ T h0 => by
 have hm:∀ s:List (Zhx P w0 n₀),(s.map Subtype.val).map Zan.t = s.map (fun y => y.1.t):=fun s => iz ..;refine callsIn_wide.2 ((Ydk P X l w0 n₀ v x L H (fun f W => ∃ q:List (Zhx P w0 n₀),q.map Subtype.val = f /\ J q W) (fun f W => ∃ q:List (Zhx P w0 n₀),q.map Subtype.val = f /\ Jx q W)
  (fun f W o ⟨q,i,h⟩ => ⟨q,i,Y _ _ _ _ h (ao W o none) (fun r e => by cases e)⟩)
  (fun m f y W j ⟨q,i,h⟩ hl => (YieldAt.anyDepth rfl m (T q ⟨y,j⟩ W h (by rw [<- i,ba] at hl;exact hl))).mono fun e W' z => ?_) K W (A.keep R) (Q.trans (Za1.below R (aj v Q.1.size))) ⟨[],rfl,h0⟩).mono fun e W' z => ?_)
 ·rcases z with ⟨u,p,C⟩ | ⟨u,p⟩
  ·exact .inl ⟨u,⟨q ++ [⟨y,j⟩],by rw [cj,i];rfl,p⟩,C⟩
  ·exact .inr ⟨u,⟨q ++ [⟨y,j⟩],by rw [cj,i];rfl,p⟩⟩
 ·obtain ⟨u,z⟩:=z;refine ⟨u,?_⟩;rcases z with ⟨s,hy,q,i,p⟩ | ⟨f,S,q,i,p⟩
  ·exact .inl ⟨q,by dsimp only;rw [<- hm,i,hy],p⟩
  ·exact .inr ⟨q,by dsimp only;rw [<- hm,i];exact S,p⟩
structure Cl where
 refs:List Int
 body:F
def Cl.cells (c:Cl):List D:=.s 1 (Zdv (Zdj c.refs)) :: c.body.cells
theorem Cl.cells_length (c:Cl):c.cells.length = 5:=by unfold Cl.cells;rw [au,F.cells_length]
structure Zko (w:World) (B:Nat) where
 r:Value
 a:Value
 b:Value
 c:Value
 d:Value
 t:Cl
 hr:Rep w B r (.s 1 (Zdv (Zdj t.refs)))
 h:Zax w B [a,b,c,d] t.body.cells
def Zko.body {w:World} {B:Nat} (x:Zko w B):Zan w B:=⟨x.a,x.b,x.c,x.d,x.t.body,x.h⟩
theorem Rep.claims {v:Value} {l:List Cl} (h:Rep w B v (.s 5 (l.flatMap Cl.cells))):∃ (A:Option Addr) (c:Nat),v = M A l.length c /\ l.length <= c /\
  ∀ (k:Nat) (C:k < l.length),∃ (b o:Nat) (y:Zko w B),A = some ⟨b,o,none⟩ /\ b < B /\ y.t = l[k] /\ w.cell? ⟨b,o + k * 5,none⟩ = some y.r /\ w.cell? ⟨b,o + k * 5 + 1,none⟩ = some y.a /\ w.cell? ⟨b,o + k * 5 + 2,none⟩ = some y.b /\ w.cell? ⟨b,o + k * 5 + 3,none⟩ = some y.c /\ w.cell? ⟨b,o + k * 5 + 4,none⟩ = some y.d:=by
 obtain ⟨A,n,c,rfl,hn,hl,hc⟩:=h.slice;have q:=Zai (l:=l) (f:=Cl.cells) (k:=5) (fun x _ => x.cells_length);have p:n = l.length:=by omega
 subst p;refine ⟨A,c,rfl,hn,fun k C => ?_⟩;obtain ⟨b,o,cs,rfl,T,hr,j⟩:=hc (by omega);have X:=Zcd (l:=l) (f:=Cl.cells) (k:=5) (i:=k) (a:=l[k]) (fun x _ => x.cells_length) (ak C);have m:=(hr.drop (k * 5)).take 5;rw [X] at m;have z:cs.length = l.length * 5:=hr.1.trans q;have P:k * 5 < cs.length:=by omega
 have h1:k * 5 + 1 < cs.length:=by omega
 have K:k * 5 + 2 < cs.length:=by omega
 have H:k * 5 + 3 < cs.length:=by omega
 have L:k * 5 + 4 < cs.length:=by omega
 have e:(cs.drop (k * 5)).take 5 = [cs[k * 5],cs[k * 5 + 1],cs[k * 5 + 2],cs[k * 5 + 3],cs[k * 5 + 4]]:=by
  rw [ct P,ct h1,ct K,ct H,ct L];rfl
 rw [e] at m;obtain ⟨u,Q,R,S,Y⟩:=Zax.inv m;injection R with e1 e2;subst e1 e2;exact ⟨b,o,⟨_,_,_,_,_,l[k],S,Y⟩,rfl,T,rfl,j _ _ (ak P),j _ _ (ak h1),j _ _ (ak K),j _ _ (ak H),j _ _ (ak L)⟩
def Zd5 (r:List Int) (i:Nat):Prop:=∀ j (h:j < r.length),0 <= r[j] /\ r[j] < (i:Int) /\ ∀ (h2:0 < j),r[j - 1] < r[j]
def Zs1 (r:List Int) (k:Nat):Int:=if k = 0 then -1 else r.getD (k - 1) 0
theorem Ydm {r:List Int} {i:Nat} (h:Zd5 r i) (k:Nat) (a:k < r.length):Zs1 r k < r[k]:=by
 unfold Zs1;by_cases e:k = 0
 ·rw [if_pos e];have:=(h k a).1;omega
 ·rw [if_neg e];have:=(h k a).2.2 (by omega);rw [fk,ak (by omega)];exact this
theorem Zxe {r:List Int} (k:Nat) (a:k < r.length):Zs1 r (k + 1) = r[k]:=by
 unfold Zs1;rw [if_neg (by omega),fk,jc,ak a];rfl
theorem Ydn (r:List Int) (i:Nat) (hl:r.length <= 1000) (d:Zd5 r i) (v:Value) (w:World) (B:Nat) (hr:Rep w B v (.s 1 (Zdv (Zdj r)))) :
  Calls prog 145 #[v,V U (i:Int)] w fun e h => e = I (O true) /\ h = w:=by
 obtain ⟨A,c,rfl,hc,a⟩:=hr.row;rw [Zb1] at hc ⊢;clear hr;go_enter func145,ntmps145;go_wp2;go_loopw [5,10] (fun q j wr => ∃ k:Nat,q = V U (Zs1 r k) /\ j = V U (k:Int) /\ k <= r.length /\ wr = w) (fun _ j _ => r.length - (intOf j).toNat)
 case atStart => exact ⟨0,rfl,rfl,bi _,rfl⟩
 case round =>
  obtain ⟨k,rfl,rfl,u,rfl⟩:=hrel;by_cases f:k < r.length
  ·obtain ⟨b,o,rfl,t,p⟩:=a k _ (Zbx r k f);have h1:=Ydm d k f;have m:=(d k f).2.1;have hs:=Zxe k f;have d1:decide (r[k] <= Zs1 r k) = false:=by simp;omega
   have d2:decide ((i:Int) <= r[k]) = false:=by simp;omega
   generalize Zs1 r k = q at *;generalize r[k] = z at *;clear a d;go_wp2_with fail;go_roundw
   case rel => exact ⟨k + 1,by rw [hs],by go_num,by omega,trivial⟩
   case measure => simp [intOf];omega
  ·obtain rfl:k = r.length:=by omega
   clear a d;go_wp2_with fail;go_ret;exact ⟨rfl,rfl⟩
theorem Blk.c5 {t:TypeId} {a b c d e:Value} (h:Blk W g t #[a,b,c,d,e]):W.cell? ⟨g,0,none⟩ = some a /\ W.cell? ⟨g,1,none⟩ = some b /\ W.cell? ⟨g,2,none⟩ = some c /\ W.cell? ⟨g,3,none⟩ = some d /\ W.cell? ⟨g,4,none⟩ = some e:=⟨h.cell 0,h.cell 1,h.cell 2,h.cell 3,h.cell 4⟩
def Zs2 (l:List Cl):Prop:=l.length <= 32 /\ ∀ i (h:i < l.length),Zd5 l[i].refs i /\ l[i].refs.length <= 8 /\ OkF l[i].body
theorem Ziq (x:Zko w B):∃ o m A1 k i A2 j f,x.r = M o x.t.refs.length m /\ x.a = V U x.t.body.op /\ x.b = V U x.t.body.n /\ x.c = M A1 k i /\ x.d = M A2 j f:=by
 obtain ⟨o,m,e,_,_⟩:=x.hr.row;rw [Zb1] at e;obtain ⟨A1,k,i,A2,j,f,q,u,s,p⟩:=Zaq x.h;exact ⟨o,m,A1,k,i,A2,j,f,e,q,u,s,p⟩
theorem Zjn (l:List Cl) (Q:Zs2 l) (v:Value) (w:World) (B:Nat) (m:B <= w.heap.size) (hr:Rep w B v (.s 5 (l.flatMap Cl.cells))) :
  Calls prog 109 #[v] w fun e w' => e = I (V U 0) /\ Bl w w':=by
 obtain ⟨A,c,rfl,hc,f⟩:=hr.claims;obtain ⟨hl,hi⟩:=Q;have HI:=ae hi;have u:=ae f;have d0:decide ((32:Int) < (l.length:Int)) = false:=by simp;omega
 clear hr f hi;go_enter func109,ntmps109;go_wp2_with fail;go_loopw [11] (fun j wr => ∃ k:Nat,j = V U (k:Int) /\ k <= l.length /\ Bl w wr) (fun j _ => l.length - (intOf j).toNat)
 case atStart => exact ⟨0,rfl,bi _,ap _ _⟩
 case round =>
  obtain ⟨k,rfl,hk,h⟩:=hrel;by_cases z:k < l.length
  ·obtain ⟨b,o,y,rfl,hb,hy,c0,c1,c2,c3,c4⟩:=u.out k z;have d:b < w.heap.size:=ah hb m;have e0:=(h.cell (p:=⟨b,o + k * 5,none⟩) d).trans c0;have X:=(h.cell (p:=⟨b,o + k * 5 + 1,none⟩) d).trans c1;have e2:=(h.cell (p:=⟨b,o + k * 5 + 2,none⟩) d).trans c2;have Y:=(h.cell (p:=⟨b,o + k * 5 + 3,none⟩) d).trans c3;have e4:=(h.cell (p:=⟨b,o + k * 5 + 4,none⟩) d).trans c4;obtain ⟨i,H,q⟩:=HI.out k z;rw [<- hy] at i H q;have a:∀ W,Bl w W -> ∀ p:Addr,p.block < B -> W.cell? p = w.cell? p:=fun W x p hp => x.cell (ah hp m);have HR:=ae (fun (W:World) (x:Bl w W) => Ydn y.t.refs k (by omega) i y.r W B (y.hr.keep (a W x) (ag _)));have P:=ae (fun (W:World) (x:Bl w W) => Zip W B (aj m x.size) (y.body.up (a W x) (ag _)) q);obtain ⟨A0,q0,A1,n1,T,A2,n2,q2,R,L,f2,K,f4⟩:=Ziq y;dsimp only [Zan.up,Zko.body] at P;have d1:decide ((8:Int) < (y.t.refs.length:Int)) = false:=by simp;omega
   rw [R] at HR;rw [L,f2,K,f4] at P;rw [R] at e0;rw [L] at X;rw [f2] at e2;rw [K] at Y;rw [f4] at e4;clear c0 c1 c2 c3 c4 R L f2 K f4 hy i q a;generalize y.t.refs.length = rl at *;generalize y.t.body.op = op at *;generalize y.t.body.n = nn at *;have X0:=Blk.new wr 129 #[M A0 rl q0,V U op,V U nn,M A1 n1 T,M A2 n2 q2];have C:=h.alloc h.size (G #[M A0 rl q0,V U op,V U nn,M A1 n1 T,M A2 n2 q2] 129);go_wp2_with fail;refine (HR.out _ C).mono ?_;rintro e w1 ⟨rfl,rfl⟩;go_wp2_with fail;refine (P.out _ C).mono ?_;rintro e w2 ⟨rfl,S⟩;have Q2:=Zaa C S C.size;clear e0 X e2 Y e4;go_wp2_with fail;go_roundw
   case rel => exact ⟨k + 1,by go_num,by omega,Q2⟩
   case measure => simp [intOf];omega
  ·obtain rfl:k = l.length:=by omega
   go_wp2_with fail;go_ret;exact ⟨rfl,h⟩
end Go.Proofs.YtglkadmfjaecmaaGreatDoor
