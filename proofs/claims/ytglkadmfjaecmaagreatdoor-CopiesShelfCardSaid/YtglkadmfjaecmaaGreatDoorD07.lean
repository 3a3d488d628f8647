import Derived.Test.YtglkadmfjaecmaaGreatDoorD06
set_option maxRecDepth 100000
set_option maxHeartbeats 16000000
namespace Go.Proofs.YtglkadmfjaecmaaGreatDoor
open Go.RowKit Go.Shelf Tryz
open Go.Value renaming slice->I, int->Z
open Go.IntKind renaming i64->G
attribute [local go_sem] Oper.semAt_some
variable {A W W' w w0 w1:World} {B d' g gf i j n₀ s' sz:Nat} {Q:Exit -> Act -> World -> Prop} {cs:Array Value} {ds:List D} {kv u:Value} {l:List F} {o:Oper} {ops:Array Oper}
def Zgp (a b:F):F:=.mk 4 0 [] (a.parts ++ b.parts)
def Zcx (p q:List F):List F:=p.flatMap fun a => q.map (Zgp a)
theorem Zf9 (p q:List F):(Zcx p q).length = p.length * q.length:=by
 unfold Zcx;induction p with
 | nil => simp
 | cons a p ih => rw [de,ai,ba,ih,au,ix,Nat.one_mul,Nat.add_comm]
def Zno (c:Cl) (A:List (List F)):List F:=if c.refs = [] then c.body.tops else c.refs.flatMap fun r => Zcx (A.getD r.toNat []) c.body.tops
def Zdg (l:List Cl):Nat -> List (List F)
 | 0 => []
 | k + 1 => Zdg l k ++ [match l[k]? with | some c => Zno c (Zdg l k) | none => []]
theorem Zbf (l:List Cl) (k:Nat):(Zdg l k).length = k:=by
 induction k with
 | zero => rfl
 | succ k ih => rw [Zdg,ai,ih,ei]
theorem Zxt (l:List Cl) (k:Nat) (h:k < l.length):Zdg l (k + 1) = Zdg l k ++ [Zno l[k] (Zdg l k)]:=by
 rw [Zdg,ak h]
theorem Zc4 (l:List Cl) (k j:Nat) (b:j < k) (a:k <= l.length):(Zdg l k).getD j [] = Zno (l[j]'(by omega)) (Zdg l j):=by
 induction k with
 | zero => omega
 | succ k ih =>
  rw [Zxt l k (by omega)];by_cases h:j < k
  ·rw [<- ih h (by omega),fk,fk,d9 (by rw [Zbf];exact h)]
  ·obtain rfl:j = k:=by omega
   rw [fk,dg (by rw [Zbf];exact ag _),Zbf,ic];rfl
def Zz6 (c:Cl) (A:List (List F)):Prop:=c.body.tops.length <= 64 /\ (Zno c A).length <= 64 /\ (∀ r ∈ c.refs,0 <= r /\ r.toNat < A.length) /\ (c.refs ≠ [] -> ∀ f ∈ Zno c A,OkF f)
def Zlw (l:List Cl):Prop:=∀ k (h:k < l.length),Zz6 l[k] (Zdg l k)
def Sm (s d:Nat) (t:F):Prop:=t.size <= s /\ t.deep <= d /\ ∀ y ∈ t.nodes,Zeg y
theorem Sm.mono {s d:Nat} {t:F} (h:Sm s d t) (hs:s <= s') (hd:d <= d'):Sm s' d' t:=⟨aj h.1 hs,aj h.2.1 hd,h.2.2⟩
theorem Sm.ok {s d:Nat} {t:F} (h:Sm s d t) (hs:s <= 96) (hd:d <= 8):OkF t:=⟨aj h.1 hs,aj h.2.1 hd,h.2.2⟩
theorem Zq5:∀ {l:List F} {k:F},k ∈ l -> k.deep <= Zdd l
 | a :: l,k,h => by
  rw [Zdd];rcases List.mem_cons.1 h with rfl | h
  ·omega
  ·have:=Zq5 h;omega
theorem Zq6:∀ (a b:List F),Zdd (a ++ b) = max (Zdd a) (Zdd b)
 | [],b => by simp [Zdd]
 | x :: a,b => by rw [dx,Zdd,Zdd,Zq6 a b,Nat.max_assoc]
theorem Zq7:∀ (a b:List F),Zbr (a ++ b) = Zbr a + Zbr b
 | [],b => by simp [Zbr]
 | x :: a,b => by rw [dx,Zbr,Zbr,Zq7 a b,i7]
theorem F.size_eq' (t:F):t.size = 1 + Zbr t.kids:=by
 cases t;rw [F.size];rfl
theorem Sm.kid {s d:Nat} {t k:F} (h:Sm s d t) (a:k ∈ t.kids):Sm s d k:=by
 have h1:=F.kid_size a;have c:=Zq5 a;have b:=t.deep_eq;refine ⟨by have:=h.1;omega,by have:=h.2.1;omega,fun y hy => h.2.2 y ?_⟩;rw [F.nodes_eq];exact dh _ (List.mem_flatMap.2 ⟨k,a,hy⟩)
theorem Sm.tops {s d:Nat}:∀ (n:Nat) {t:F},t.size <= n -> Sm s d t -> ∀ y ∈ t.tops,Sm s d y
 | 0,t,hn,_ => by have:=t.size_pos;omega
 | n + 1,t,hn,h => by
  intro y hy;by_cases b:t.op = 5
  ·rw [F.tops_or b] at hy;obtain ⟨k,a,hy⟩:=List.mem_flatMap.1 hy;exact Sm.tops n (by have:=F.kid_size a;omega) (h.kid a) y hy
  ·rw [F.tops_no b,jd] at hy;rw [hy];exact h
theorem Sm.parts {s d:Nat} {t:F} (h:Sm s d t):Zbr t.parts <= s /\ Zdd t.parts <= d /\ ∀ y ∈ t.parts.flatMap F.nodes,Zeg y:=by
 unfold F.parts;by_cases a:t.op = 4
 ·rw [if_pos a];refine ⟨by have:=h.1;rw [F.size_eq'] at this;omega,by have:=h.2.1;rw [F.deep_eq] at this;omega,fun y hy => h.2.2 y ?_⟩;rw [F.nodes_eq];exact dh _ hy
 ·rw [if_neg a];refine ⟨by have:=h.1;simp only [Zbr];omega,by have:=h.2.1;simp only [Zdd];omega,fun y hy => h.2.2 y (by simpa using hy)⟩
theorem Sm.and {s d:Nat} {a b:F} (h:Sm s d a) (k:Sm s' d' b):Sm (1 + s + s') (max d d' + 1) (Zgp a b):=by
 obtain ⟨p,m,e⟩:=h.parts;obtain ⟨f,q,c⟩:=k.parts;refine ⟨?_,?_,fun y hy => ?_⟩
 ·rw [F.size_eq'];show 1 + Zbr (a.parts ++ b.parts) <= _;rw [Zq7];omega
 ·rw [F.deep_eq];show Zdd (a.parts ++ b.parts) + 1 <= _;rw [Zq6];omega
 ·rw [F.nodes_eq] at hy;rcases List.mem_cons.1 hy with rfl | hy
  ·exact .inr (.inr (.inr (.inr ⟨.inl rfl,rfl,rfl⟩)))
  ·rw [show (Zgp a b).kids = a.parts ++ b.parts from rfl,bm] at hy;rcases List.mem_append.1 hy with hy | hy
   ·exact e y hy
   ·exact c y hy
def Zkp (t:F):Prop:=Sm 4 3 t /\ t.tops.length <= 2
theorem Zq8 {r:List Int} {i:Nat} (h:Zd5 r i):∀ j (a:j < r.length),(j:Int) <= r[j]
 | 0,a => by have:=(h 0 a).1;omega
 | j + 1,a => by
  have h1:=Zq8 h j (by omega);have b:=(h (j + 1) a).2.2 (by omega);have c:r[j + 1 - 1]'(by omega) = r[j]:=rfl;rw [c] at b;omega
theorem Znp {r:List Int} (h:Zd5 r i):r.length <= i:=by
 cases hr:r.length with
 | zero => omega
 | succ n =>
  have h1:=Zq8 h n (by omega);have a:=(h n (by omega)).2.1;omega
theorem Zhz {α:Type} {f:α -> List F} {M:Nat}:∀ {l:List α},(∀ a ∈ l,(f a).length <= M) -> (l.flatMap f).length <= l.length * M
 | [],_ => by simp
 | a :: l,h => by
  rw [de,ai,au,ix,Nat.one_mul,Nat.add_comm];have h1:=h a da;have c:=Zhz (f:=f) (M:=M) (l:=l) (fun x b => h x (dh _ b));omega
theorem Zou {c:Cl} {A:List (List F)} {M s d:Nat} (m:Zkp c.body) (hr:Zd5 c.refs A.length) (t:∀ j,j < A.length -> (A.getD j []).length <= M /\ ∀ f ∈ A.getD j [],Sm s d f) (hs:4 <= s) (hd:3 <= d) :
  (Zno c A).length <= max 2 (A.length * (M * 2)) /\ ∀ f ∈ Zno c A,Sm (s + 5) (d + 1) f:=by
 have q:=Sm.tops _ (ag _) m.1;unfold Zno;by_cases p:c.refs = []
 ·rw [if_pos p];refine ⟨by have:=m.2;omega,fun f e => (q f e).mono (by omega) (by omega)⟩
 ·rw [if_neg p];have k:∀ r ∈ c.refs,r.toNat < A.length:=fun r h => by
   obtain ⟨j,v,rfl⟩:=ee h;have:=hr j v;omega
  refine ⟨?_,fun f e => ?_⟩
  ·have h1:=Zhz (f:=fun r => Zcx (A.getD r.toNat []) c.body.tops) (M:=M * 2) (l:=c.refs) (fun r h => by
    rw [Zf9];exact Nat.mul_le_mul (t _ (k r h)).1 m.2)
   have y:=Znp hr;have C:=ie (M * 2) y;omega
  ·obtain ⟨r,h,e⟩:=List.mem_flatMap.1 e;obtain ⟨a,x,e⟩:=List.mem_flatMap.1 e;obtain ⟨b,z,rfl⟩:=List.mem_map.1 e;exact (((t _ (k r h)).2 a x).and (q b z)).mono (by omega) (by omega)
def Zq9 (l:List Cl):Prop:=l.length <= 3 /\ ∀ i (h:i < l.length),Zd5 l[i].refs i /\ Zkp l[i].body
theorem Zq9.ok {l:List Cl} (h:Zq9 l):Zs2 l :=
 ⟨by have:=h.1;omega,fun i hi => ⟨(h.2 i hi).1,by have:=Znp (h.2 i hi).1;have:=h.1;omega,(h.2 i hi).2.1.ok (by omega) (by omega)⟩⟩
def Zga:Nat -> Nat
 | 0 => 2
 | 1 => 4
 | _ => 16
theorem Zq9.alts {l:List Cl} (h:Zq9 l):∀ k,k <= l.length -> ∀ j,j < k -> ((Zdg l k).getD j []).length <= Zga j /\ ∀ f ∈ (Zdg l k).getD j [],Sm (4 + 5 * (j + 1)) (3 + (j + 1)) f:=by
 intro k;induction k with
 | zero => intro _ j e;omega
 | succ k ih =>
  intro q j e;by_cases a:j < k
  ·have:=ih (by omega) j a;rw [Zc4 l k j a (by omega)] at this;rw [Zc4 l (k + 1) j e (by omega)];exact this
  ·obtain rfl:j = k:=by omega
   rw [Zc4 l (j + 1) j e (by omega)];have hl:=h.1;have c:=h.2 j (by omega);have hr:Zd5 l[j].refs (Zdg l j).length:=by rw [Zbf];exact c.1
   have p:j = 0 ∨ j = 1 ∨ j = 2:=by omega
   rcases p with rfl | rfl | rfl
   ·have:=Zou (M:=2) (s:=4) (d:=3) c.2 hr (fun i hi => by rw [Zbf] at hi;omega) (by omega) (by omega);rw [Zbf] at this;exact this
   ·have:=Zou (M:=2) (s:=9) (d:=4) c.2 hr (fun i hi => by
     rw [Zbf] at hi;obtain rfl:i = 0:=by omega
     have:=ih (by omega) 0 (by omega);exact this) (by omega) (by omega)
    rw [Zbf] at this;exact this
   ·have:=Zou (M:=4) (s:=14) (d:=5) c.2 hr (fun i hi => by
     rw [Zbf] at hi;have b:=ih (by omega) i (by omega);have:i = 0 ∨ i = 1:=by omega
     rcases this with rfl | rfl
     ·exact ⟨aj b.1 (by decide),fun f m => (b.2 f m).mono (by omega) (by omega)⟩
     ·exact ⟨b.1,fun f m => (b.2 f m).mono (by omega) (by omega)⟩) (by omega) (by omega)
    rw [Zbf] at this;exact this
theorem Ztc (j:Nat):Zga j <= 16:=by
 unfold Zga;split <;> omega
theorem Zq9.altsOk {l:List Cl} (h:Zq9 l):Zlw l:=by
 intro k d;have a:=h.2 k d;have h1:=h.alts (k + 1) (by omega) k (by omega);rw [Zc4 l (k + 1) k (by omega) (by omega)] at h1;have hl:=h.1;refine ⟨by have:=a.2.2;omega,by have:=Ztc k;omega,fun r hr => ?_,fun _ f c => (h1.2 f c).ok (by omega) (by omega)⟩;obtain ⟨j,b,rfl⟩:=ee hr;have:=a.1 j b;rw [Zbf];omega
def Zeo (n₀:Nat) (W W':World):Prop:=KeepsOthers W W' /\ Za1 Zi5 n₀ W W'
theorem Zeo.refl (n₀:Nat) (W:World):Zeo n₀ W W:=⟨KeepsOthers.refl W,Za1.refl _ _ _⟩
theorem Zeo.trans {B C:World} (h:Zeo n₀ A B) (k:Zeo n₀ B C):Zeo n₀ A C:=⟨h.1.trans k.1,h.2.trans k.2⟩
theorem Zeo.alloc (h:Zeo n₀ A W) (hn:n₀ <= W.heap.size) (o:Obj):Zeo n₀ A (W.alloc o):=h.trans ⟨KeepsOthers.alloc _ _,Za1.alloc W hn o⟩
theorem Zeo.drew (h:Zeo n₀ A W):Zeo n₀ A W.drew:=h.trans ⟨KeepsOthers.drew _,⟨(ap _ _).drew,fun _ _ _ _ h => h⟩⟩
theorem Zeo.set {t:TypeId} (h:Zeo n₀ A W) (b:Blk W g t cs) (a:¬ Zi5 t) (hn:n₀ <= g) (i:Nat) (u:Value):Zeo n₀ A (W.setCell ⟨g,i,none⟩ u) :=
 h.trans ⟨KeepsOthers.setCell _ _ _,Za1.setCell b a hn i u⟩
theorem Zcm.block {base:Nat} {v:Value} (h:Zcm w0 B W base v ds) (b:v.ownBlock = some g):base <= g /\ ∃ a,Blk W g 46 a:=by
 obtain ⟨n,e,⟨_,h1⟩,_⟩:=h;rcases h1 with ⟨rfl,_⟩ | ⟨g',cap,a,rfl,c,d,_⟩
 ·cases b
 ·cases b;exact ⟨c,a,d⟩
theorem Zeo.grown {base:Nat} {v:Value} (h:Zeo n₀ A W) (ho:Zcm w0 B W base v ds) (d:W.grownBy W' v.ownBlock) (q:n₀ <= base) (hn:n₀ <= W.heap.size):Zeo n₀ A W':=by
 refine h.trans ⟨KeepsOthers.of_grownBy d (fun j o m f => ?_),?_⟩
 ·obtain ⟨_,c,b⟩:=ho.block m;rw [show W.heap[j]? = _ from b] at f;cases f;rfl
 ·refine ⟨(ap _ _).grown d hn (fun k r => aj q (ho.lt k r)),fun i t cs p b => b.grown d (fun e => ?_)⟩;obtain ⟨_,c,a⟩:=ho.block e.symm;unfold Blk at b a;rw [b] at a;cases a;exact absurd p (by unfold Zi5;decide)
def zF:F:=.mk 0 0 [] []
theorem Yft (w0:World) (B:Nat):Zax w0 B [Z G 0,Z G 0,I none 0 0,I none 0 0] zF.cells:=by
 rw [F.cells_eq];exact Zax.cons (.v _) (Zax.cons (.v _) (Zax.cons (.nil 8) (Zax.cons (.nil 4) (Zax.nil _ _))))
def st4at (W:World) (g o:Nat) (a b c d:Value):World:=(((W.setCell ⟨g,o,none⟩ a).setCell ⟨g,o + 1,none⟩ b).setCell ⟨g,o + 2,none⟩ c).setCell ⟨g,o + 3,none⟩ d
theorem Zra {α:Type}:∀ (n:Nat) (e:List α) (f:List α) (a b c d k b' m d':α),e.take (n + 4) = f ++ [a,b,c,d] -> f.length = n ->
  ((((e.set n k).set (n + 1) b').set (n + 2) m).set (n + 3) d').take (n + 4) = f ++ [k,b',m,d']
 | 0,e,f,a,b,c,d,k,b',m,d',h,hx => by
  obtain rfl:=bj hx
  match e,h with
  | [],h => simp at h
  | [_],h => simp at h
  | [_,_],h => simp at h
  | [_,_,_],h => simp at h
  | _ :: _ :: _ :: _ :: r,h => simp
 | n + 1,e,f,a,b,c,d,k,b',m,d',h,hx => by
  match f,hx with
  | x :: f,hx =>
   match e,h with
   | [],h => simp at h
   | y :: e,h =>
    rw [show n + 1 + 4 = (n + 4) + 1 from by omega,gy,dx,List.cons.injEq] at h;have:=Zra n e f a b c d k b' m d' h.2 (by simpa using hx);rw [show n + 1 + 4 = (n + 4) + 1 from by omega,List.set_cons_succ,show n + 1 + 1 = (n + 1) + 1 from rfl,List.set_cons_succ,show n + 1 + 2 = (n + 2) + 1 from by omega,List.set_cons_succ,show n + 1 + 3 = (n + 3) + 1 from by omega,List.set_cons_succ,gy,this,h.1];rfl
theorem Blk.st4at {t:TypeId} (h:Blk W g t cs) (o:Nat) (a b c d:Value):Blk (st4at W g o a b c d) g t ((((cs.setIfInBounds o a).setIfInBounds (o + 1) b).setIfInBounds (o + 2) c).setIfInBounds (o + 3) d) :=
 (((h.set o a).set (o + 1) b).set (o + 2) c).set (o + 3) d
theorem Blk.far4at {g':Nat} {t:TypeId} (h:Blk W g t cs) (e:g ≠ g') (o:Nat) (a b c d:Value):Blk (Go.Proofs.YtglkadmfjaecmaaGreatDoor.st4at W g' o a b c d) g t cs :=
 (((h.far (p:=⟨g',o,none⟩) e a).far (p:=⟨g',o + 1,none⟩) e b).far (p:=⟨g',o + 2,none⟩) e c).far (p:=⟨g',o + 3,none⟩) e d
theorem Zeo.st4at {t:TypeId} (h:Zeo n₀ A W) (f:Blk W g t cs) (e:¬ Zi5 t) (hn:n₀ <= g) (o:Nat) (a b c d:Value):Zeo n₀ A (st4at W g o a b c d) :=
 (((h.set f e hn o a).set (f.set o a) e hn (o + 1) b).set ((f.set o a).set (o + 1) b) e hn (o + 2) c).set (((f.set o a).set (o + 1) b).set (o + 2) c) e hn (o + 3) d
theorem Zcm.put {base:Nat} {v:Value} (h:Zcm w0 B W base v ((l ++ [zF]).flatMap F.cells)) {a b c d:Value} {t:F} (V:Zax w0 B [a,b,c,d] t.cells) :
  ∃ g cap,v = I (some ⟨g,0,none⟩) (l.length + 1) cap /\ base <= g /\ (∃ m,Blk W g 46 m) /\ l.length + 1 <= cap /\ (∃ p q r s,(W.cell? ⟨g,l.length * 4,none⟩ = some p /\ W.frozen? ⟨g,l.length * 4,none⟩ = false) /\ (W.cell? ⟨g,l.length * 4 + 1,none⟩ = some q /\ W.frozen? ⟨g,l.length * 4 + 1,none⟩ = false) /\ (W.cell? ⟨g,l.length * 4 + 2,none⟩ = some r /\ W.frozen? ⟨g,l.length * 4 + 2,none⟩ = false) /\ W.cell? ⟨g,l.length * 4 + 3,none⟩ = some s /\ W.frozen? ⟨g,l.length * 4 + 3,none⟩ = false) /\ Zcm w0 B (st4at W g (l.length * 4) a b c d) base v ((l ++ [t]).flatMap F.cells):=by
 obtain ⟨n,y,⟨X,h1⟩,L⟩:=h;have O:=Zai (l:=l ++ [zF]) (f:=F.cells) (k:=4) (fun x _ => x.cells_length);have H:=Zai (l:=l) (f:=F.cells) (k:=4) (fun x _ => x.cells_length);have T:=L.1;rw [ai,ei] at O;obtain rfl:n = l.length + 1:=by omega
 rcases h1 with ⟨_,h1⟩ | ⟨g,cap,m,rfl,R,K,J,C,E,M⟩
 ·omega
 ·refine ⟨g,cap,rfl,R,⟨m,K⟩,J,?_,?_⟩
  ·have z:Blk W g 46 m:=K;have e:∀ i (hi:i < m.size),W.cell? ⟨g,i,none⟩ = some m[i]:=fun i hi => (z.cell i).trans (eh hi);exact ⟨_,_,_,_,⟨e _ (by omega),z.frozen _⟩,⟨e _ (by omega),z.frozen _⟩,⟨e _ (by omega),z.frozen _⟩,e _ (by omega),z.frozen _⟩
  have S:(l ++ [zF]).flatMap F.cells = l.flatMap F.cells ++ zF.cells:=by rw [bm];simp
  have U:(l ++ [t]).flatMap F.cells = l.flatMap F.cells ++ t.cells:=by rw [bm];simp
  rw [S] at L;rw [U];have P:=L.take (l.length * 4);rw [List.take_left' H] at P;have N:y = y.take (l.length * 4) ++ [y[l.length * 4],y[l.length * 4 + 1],y[l.length * 4 + 2],y[l.length * 4 + 3]]:=by
   conv => lhs;rw [<- di (l.length * 4) y]
   congr 1;rw [ct (by omega),ct (by omega),ct (by omega),ct (by omega),List.drop_of_length_le (by omega)]
  have hs:=Zra (l.length * 4) m.toList (y.take (l.length * 4)) _ _ _ _ a b c d (by rw [show l.length * 4 + 4 = (l.length + 1) * 4 from by omega,M];exact N) (by rw [cw];omega);refine ⟨l.length + 1,y.take (l.length * 4) ++ [a,b,c,d],⟨?_,.inr ⟨g,cap,_,rfl,R,Blk.st4at K (l.length * 4) a b c d,J,C,?_,?_⟩⟩,P.append V⟩
  ·rw [ai,cw,ik (by omega)];simp;omega
  ·simp only [gt];exact E
  ·rw [<- hs];simp only [Array.toList_setIfInBounds];rw [show (l.length + 1) * 4 = l.length * 4 + 4 from by omega]
theorem Zcm.kept {base:Nat} {v:Value} {row:Option Nat} (h:Zcm w0 B W base v ds) (m:W.grownBy W' row) (a:∀ r,row = some r -> ∃ o:Obj,W.heap[r]? = some o /\ o.isCells = false):Zcm w0 B W' base v ds:=by
 obtain ⟨n,d,h1,f⟩:=h;refine ⟨n,d,h1.kept m ?_,f⟩;rcases h1.2 with ⟨e,_⟩ | ⟨k,c,b,e,_,p,_⟩
 ·subst e;exact .inl rfl
 ·subst e;refine .inr (fun e => ?_);obtain ⟨o,ho,hc⟩:=a k e.symm;rw [p] at ho;cases ho;cases hc
theorem Zcm.far {base:Nat} {v:Value} (h:Zcm w0 B W base v ds) {b:Nat} (a:v.ownBlock ≠ some b) (u:Value):Zcm w0 B (W.setCell ⟨b,0,none⟩ u) base v ds:=by
 obtain ⟨n,f,h1,m⟩:=h;refine ⟨n,f,h1.kept (grownBy_setCell' W b u) ?_,m⟩;rcases h1.2 with ⟨e,_⟩ | ⟨k,c,d,e,_⟩
 ·subst e;exact .inl rfl
 ·exact .inr a
def Yh5 (w:World) (x:Zko w w.heap.size) (l:List F) (W:World):Prop :=
 ∃ v,Blk W (w.heap.size + 1) 39 #[v] /\ Zcm w w.heap.size W (w.heap.size + 1 + 1) v (l.flatMap F.cells) /\ Blk W w.heap.size 129 #[x.r,x.a,x.b,x.c,x.d]
theorem Zvr {β:Type} (w:World) (x:Zko w w.heap.size) (f:β -> List F) (B:Nat):OwnFrom B (fun s W => Yh5 w x (f s) W):=fun s X Y row hs k h => by
 obtain ⟨v,h1,m,p⟩:=hs;exact ⟨v,Zd7 (w.heap.size + 1) 39 (fun _:Unit => #[v]) () X Y row h1 k (fun r e => (h r e).2),m.kept k (fun r e => (h r e).2),Zd7 w.heap.size 129 (fun _:Unit => #[x.r,x.a,x.b,x.c,x.d]) () X Y row p k (fun r e => (h r e).2)⟩
def Zxu (c:Cl) (A:List (List F)) (k:Nat):List F:=(c.refs.take k).flatMap fun r => Zcx (A.getD r.toNat []) c.body.tops
theorem Zlx (c:Cl) (A:List (List F)) (k:Nat) (h:k < c.refs.length):Zxu c A (k + 1) = Zxu c A k ++ Zcx (A.getD c.refs[k].toNat []) c.body.tops:=by
 unfold Zxu;rw [dq,ak h,bm];simp
theorem Zvs (c:Cl) (A:List (List F)) (h:¬ c.refs = []):Zxu c A c.refs.length = Zno c A:=by
 unfold Zxu Zno;rw [if_neg h,df]
theorem Ydt (c:Cl) (A:List (List F)) (k:Nat) (h:¬ c.refs = []):∃ r,Zno c A = Zxu c A k ++ r:=by
 unfold Zxu Zno;rw [if_neg h];refine ⟨(c.refs.drop k).flatMap fun r => Zcx (A.getD r.toNat []) c.body.tops,?_⟩
 conv => lhs;rw [<- di k c.refs]
 rw [bm]
theorem Zly (p q:List F) (j:Nat) (h:j < p.length):Zcx (p.take (j + 1)) q = Zcx (p.take j) q ++ q.map (Zgp p[j]):=by
 unfold Zcx;rw [dq,ak h,bm];simp
theorem Zvt (f:F -> F) (q:List F) (i:Nat) (h:i < q.length):(q.take (i + 1)).map f = (q.take i).map f ++ [f q[i]]:=by
 rw [dq,ak h,cj];simp
theorem Zxv (p q:List F) (j:Nat):∃ r,Zcx p q = Zcx (p.take j) q ++ r:=by
 unfold Zcx;refine ⟨(p.drop j).flatMap fun a => q.map (Zgp a),?_⟩
 conv => lhs;rw [<- di j p]
 rw [bm]
theorem Zlz {c:Cl} {A:List (List F)} (a:Zz6 c A) (b:¬ c.refs = []) {k:Nat} (d:k < c.refs.length) :
  (Zxu c A k).length + (A.getD c.refs[k].toNat []).length * c.body.tops.length <= 64:=by
 obtain ⟨r,hr⟩:=Ydt c A (k + 1) b;have h1:=congrArg List.length hr;rw [Zlx c A k d,ai,ai,Zf9] at h1;have:=a.2.1;omega
theorem Znq {c:Cl} {A:List (List F)} (a:Zz6 c A) (b:¬ c.refs = []) {k:Nat} (e:k < c.refs.length) (d:j < (A.getD c.refs[k].toNat []).length) (i:Nat) (hi:i <= c.body.tops.length) :
  (Zxu c A k ++ Zcx ((A.getD c.refs[k].toNat []).take j) c.body.tops ++ (c.body.tops.take i).map (Zgp (A.getD c.refs[k].toNat [])[j])).length <= 64:=by
 have h1:=Zlz a b e;rw [ai,ai,Zf9,ba,cw,cw,ik (by omega),ik hi];have f:(j + 1) * c.body.tops.length <= (A.getD c.refs[k].toNat []).length * c.body.tops.length:=ie _ d;rw [ix,Nat.one_mul] at f;omega
theorem Yfu {c:Cl} {A:List (List F)} (b:Zz6 c A) (a:¬ c.refs = []) {k:Nat} (d:k < c.refs.length) (e:j < (A.getD c.refs[k].toNat []).length) (hi:i < c.body.tops.length) :
  OkF (Zgp (A.getD c.refs[k].toNat [])[j] c.body.tops[i]):=by
 refine b.2.2.2 a _ ?_;unfold Zno;rw [if_neg a];exact List.mem_flatMap.2 ⟨_,aw d,List.mem_flatMap.2 ⟨_,aw e,List.mem_map.2 ⟨_,aw hi,rfl⟩⟩⟩
theorem Zjq (a b:F):(Zgp a b).cells = [.v (Z G 4),.v (Z G 0),.s 8 [],.s 4 ((a.parts ++ b.parts).flatMap F.cells)]:=by
 rw [F.cells_eq];rfl
theorem Yg0 {base:Nat} {a b:F} (h:Zcm w0 w0.heap.size W base u ((a.parts ++ b.parts).flatMap F.cells)) (c:Bl w0 W):Zax W W.heap.size [Z G 4,Z G 0,I none 0 0,u] (Zgp a b).cells:=by
 rw [Zjq];exact Zax.cons (.v _) (Zax.cons (.v _) (Zax.cons (.nil 8) (Zax.cons (h.src.rep (fun p d => c.cell d) c.size) (Zax.nil _ _))))
theorem Ydu {base:Nat} {a b:F} (h:Zcm w0 w0.heap.size W base u ((a.parts ++ b.parts).flatMap F.cells)) (s:Bl w0 W) {r:Option Nat} (hr:∀ g,r = some g -> w0.heap.size <= g /\ g < base):Zax (Zjh W r) W.heap.size [Z G 4,Z G 0,I none 0 0,u] (Zgp a b).cells:=by
 rw [Zjq];refine Zax.cons (.v _) (Zax.cons (.v _) (Zax.cons (.nil 8) (Zax.cons ?_ (Zax.nil _ _))));have q:=h.lt;rcases h.src with ⟨rfl,e⟩ | ⟨g,o,k,c,cs,rfl,f,m,hl,d,hc⟩
 ·rw [e];exact .nil 4
 ·have z:=q g rfl;refine Rep.mk (by rw [<- d.1,hl]) f m (d.keep (fun p t => ?_) s.size) (fun j x y => ?_)
  ·rw [Zd6 (fun e => by have:=hr _ e;omega)];exact s.cell t
  ·rw [Zd6 (fun e => by have:=hr _ e;dsimp only at this;omega)];exact hc j x y
theorem Ydv {r:Option Nat} {t:F} (b:Blk W g 46 cs) (hr:Zax (Zjh W r) W.heap.size cs.toList t.cells) (a:r ≠ some g):Rep (Zjh W r) W.heap.size (I (some ⟨g,0,none⟩) 1 1) (.s 4 ([t].flatMap F.cells)):=by
 have c:[t].flatMap F.cells = t.cells:=by simp
 rw [c];refine Rep.mk (by rw [F.cells_length]) (ag _) b.lt hr (fun j u d => ?_);rw [Zd6 a,cz,b.cell j,<- d,dj]
theorem Rep.putObj {v:Value} {d:D} (h:Rep W B v d) {l:Nat} {o:Obj} (o':Obj) (hl:W.heap[l]? = some o) (ho:o.isCells = false):Rep (W.putObj l o') B v d :=
 h.mono (fun p u _ hc => by
  have a:p.block ≠ l:=fun e => by
   obtain ⟨f,b,c⟩:=cells_of_cell hc;rw [e,hl] at b;cases b;rw [ho] at c;cases c
  rw [dc (World.putObj_heap_other a)];exact hc) (ag _)
theorem Zji.src {base:Nat} {v:Value} (h:Zji w base 46 4 v (l.flatMap F.cells)):∃ A c,v = I A l.length c /\ l.length <= c:=by
 have e:=Zai (l:=l) (f:=F.cells) (k:=4) (fun x _ => x.cells_length);obtain ⟨n,m,⟨h1,b⟩,d⟩:=h;have:=d.1;obtain rfl:n = l.length:=by omega
 rcases b with ⟨rfl,hn⟩ | ⟨g,cap,a,rfl,_,_,hc,_⟩
 ·rw [hn];exact ⟨_,_,rfl,ag _⟩
 ·exact ⟨_,_,rfl,hc⟩
theorem Zji.lt {base:Nat} {e:TypeId} {v:Value} (h:Zji w base e sz v ds):∀ k,v.ownBlock = some k -> base <= k /\ k < w.heap.size:=by
 obtain ⟨n,b,h,_⟩:=h;exact fun k a => h.lt k a
theorem Zji.rep {base:Nat} {e:TypeId} {v:Value} (h:Zji w base e sz v ds):Rep w w.heap.size v (.s sz ds):=by
 obtain ⟨n,f,h1,d⟩:=h;refine Rep.of_own h1 (d.mono (fun p u c b => ?_) (ag _)) (ag _);by_cases a:v.ownBlock = some p.block
 ·rw [a,Zlj c rfl] at b;cases b
 ·rw [<- Zd6 a];exact b
theorem w64 {n:Int} (a:0 <= n) (h1:n <= 1000000):wrap64 n = n:=by
 unfold wrap64;omega
theorem Zz7 (lo a b:Nat) (h:lo + a * b <= 64):∃ P:Nat,wrap64 ((a:Int) * (b:Int)) = (P:Int) /\ lo + P <= 64:=by
 refine ⟨a * b,?_,h⟩;rw [<- Int.natCast_mul];generalize a * b = p at *;exact w64 (by omega) (by omega)
def Yjj (Q:Exit -> Act -> World -> Prop):Exit -> Act -> World -> Prop:=fun e a w => Q e a w /\ e = .normal
theorem Znr {id:Nat} {b:Bool} {a:Act} (h:(Code.region id ops b).wp prog (Yjj Q) a w):(Code.region id ops b).wp prog Q a w:=wp_mono h (fun _ _ _ h => h.1)
theorem Zl0 (W:World) (p:Addr) (v:Value):W.grownBy (W.setCell p v) (some p.block) :=
 ⟨rfl,rfl,rfl,(KeepsWalks.setCell W _ v).size,fun k _ a => je _ _ _ k (fun e => a (by rw [e]))⟩
theorem Zcm.cell {base:Nat} {v:Value} (h:Zcm w0 B W base v ds) (p:Addr) (a:v.ownBlock ≠ some p.block) (u:Value):Zcm w0 B (W.setCell p u) base v ds:=by
 obtain ⟨n,d,h1,f⟩:=h;refine ⟨n,d,h1.kept (Zl0 W p u) ?_,f⟩;rcases h1.2 with ⟨e,_⟩ | ⟨k,c,b,e,_⟩
 ·subst e;exact .inl rfl
 ·exact .inr a
theorem Zcm.far4 {base:Nat} {v:Value} (h:Zcm w0 B W base v ds) (e:v.ownBlock ≠ some g) (a b c d:Value):Zcm w0 B (st4 W g a b c d) base v ds :=
 (((h.cell ⟨g,0,none⟩ e a).cell ⟨g,1,none⟩ e b).cell ⟨g,2,none⟩ e c).cell ⟨g,3,none⟩ e d
theorem Zl1 (w0:World) (B:Nat) (l m p:List F) (c:p = l ++ m) (g:Nat) (W:World) (u v:Value) (a:Blk W g 39 #[u,v]) (h1:Zjp w0 B W u (l.flatMap F.cells)) (d:Zjp w0 B W v (m.flatMap F.cells)) (hl:p.length <= 1000) :
  Calls prog 236 #[I (some ⟨g,0,none⟩) 2 2] W fun e b => ∃ u,e = .returned u /\ Zcm w0 B b W.heap.size u (p.flatMap F.cells) /\ Bl W b:=by
 subst c;have:=Zxs w0 B [l,m] g W a.lt (fun k f => by
  match k,f with
  | 0,_ => exact ⟨u,a.cell 0,h1⟩
  | 1,_ => exact ⟨v,a.cell 1,d⟩) (by simp at hl ⊢;omega) (by simp)
 have e:[l,m].flatten = l ++ m:=by simp
 rw [e] at this;exact this
theorem Zrb {a b:F} (h:OkF (Zgp a b)):(a.parts ++ b.parts).length <= 96:=by
 have h1:=kids_le (Zgp a b).kids;have c:=(Zgp a b).nodes_length;rw [(Zgp a b).nodes_eq,au,Zal] at c;have d:=h.1;show (Zgp a b).kids.length <= 96;omega
theorem Zbq {r q s t:Value} (h:Blk W g 46 #[r,q,s,t]) {a:Act} {K:Act -> World -> Prop} (p v:Operand) (ho:o.op = .store 46 p v)
  (k:a.eval p = .pointer (some ⟨g,0,none⟩)) {x y:Int} {e d:Option Addr} {f c1 c c2:Nat} (m:a.eval v = .agg #[Z G x,Z G y,I e f c1,I d c c2]) (b:K (a.put o.dst undef) (st4 W g (Z G x) (Z G y) (I e f c1) (I d c c2))) (hd:o.dst = none):o.wp prog a W K Q:=by
 have hc:=h.c4;have z:=h.f4;unfold Oper.wp;rw [hd] at b;unfold st4 at b;simp only [execOp,ho,k,m];go_simp;exact b
theorem Ziu {a e n c:Nat} {A:Option Addr} {h k:Array Value} (p:Blk W a 46 h) (q:Blk W e 46 k) (m:Bl w1 W) (f:Blk W gf 46 #[Z G 0,Z G 0,I none 0 0,I none 0 0]) (b:w1.heap.size <= gf) (s:a < w1.heap.size) (r:e < w1.heap.size)
  (ho:Zcm w0 w0.heap.size W w1.heap.size (I A n c) (l.flatMap F.cells)) (d:(Value.slice A n c).ownBlock ≠ some gf) :
  (Blk (st4 W gf (Z G 4) (Z G 0) (I none 0 0) (I A n c)) a 46 h /\ Blk (st4 W gf (Z G 4) (Z G 0) (I none 0 0) (I A n c)) e 46 k /\ Bl w1 (st4 W gf (Z G 4) (Z G 0) (I none 0 0) (I A n c))) /\
  Blk (st4 W gf (Z G 4) (Z G 0) (I none 0 0) (I A n c)) gf 46 #[Z G 4,Z G 0,I none 0 0,I A n c] /\ Zcm w0 w0.heap.size (st4 W gf (Z G 4) (Z G 0) (I none 0 0) (I A n c)) w1.heap.size (I A n c) (l.flatMap F.cells) :=
 ⟨⟨p.far4 (by omega) _ _ _ _,q.far4 (by omega) _ _ _ _,Zbk m b _ _ _ _⟩,f.set4 _ _ _ _,ho.far4 d _ _ _ _⟩
def Zdz (w0:World) (B:Nat) (W:World) (base:Nat) (a b c d:Value) (f:F):Prop :=
 Zax w0 B [a,b,c,d] f.cells ∨ (a = Z G 4 /\ b = Z G 0 /\ c = I none 0 0 /\ f.op = 4 /\ f.n = 0 /\ f.ins = [] /\ (∀ g,d.ownBlock = some g -> base <= g /\ g < W.heap.size) /\ Zjp w0 B W d (f.kids.flatMap F.cells))
theorem Zdz.below {base:Nat} {a b c d:Value} {f:F} (h:Zdz w0 B W base a b c d f) (k:Bl W W'):Zdz w0 B W' base a b c d f:=by
 rcases h with h | ⟨h1,s,t,q,v,p,e,r⟩
 ·exact .inl h
 ·exact .inr ⟨h1,s,t,q,v,p,fun g m => ⟨(e g m).1,ah (e g m).2 k.size⟩,r.below k⟩
theorem Zdz.grown {base:Nat} {a b c d:Value} {f:F} {row:Option Nat} (h:Zdz w0 B W base a b c d f) (m:W.grownBy W' row) (k:∀ g,row = some g -> d.ownBlock ≠ some g):Zdz w0 B W' base a b c d f:=by
 rcases h with h | ⟨h1,q,r,t,x,s,p,v⟩
 ·exact .inl h
 ·exact .inr ⟨h1,q,r,t,x,s,fun g e => ⟨(p g e).1,ah (p g e).2 m.size⟩,v.grown m k⟩
theorem Zdz.mono {base base':Nat} {a b c d:Value} {f:F} (h:Zdz w0 B W base a b c d f) (q:base' <= base):Zdz w0 B W base' a b c d f:=by
 rcases h with h | ⟨h1,m,p,s,v,r,k,t⟩
 ·exact .inl h
 ·exact .inr ⟨h1,m,p,s,v,r,fun g e => ⟨aj q (k g e).1,(k g e).2⟩,t⟩
theorem Zdz.at {base:Nat} {a b c d:Value} {f:F} (h:Zdz w1 B W base a b c d f) (r:∀ p:Addr,p.block < B -> w0.cell? p = w1.cell? p):Zdz w0 B W base a b c d f:=by
 rcases h with h | ⟨h1,s,z,x,C,t,v,y⟩
 ·exact .inl (h.keep r (ag _))
 ·refine .inr ⟨h1,s,z,x,C,t,v,?_⟩;rcases y with h | ⟨b,o,k,c,cs,e,q,m,hl,hr,hc⟩
  ·exact .inl h
  ·exact .inr ⟨b,o,k,c,cs,e,q,m,hl,hr.keep r (ag _),hc⟩
theorem Zdz.form {base:Nat} {a b c d:Value} {f:F} (h:Zdz w0 B W base a b c d f):∃ r q k p m e,a = Z G f.op /\ b = Z G f.n /\ c = I r q k /\ d = I p m e:=by
 rcases h with h | ⟨rfl,rfl,rfl,s,v,x,y,t⟩
 ·exact Zaq h
 ·obtain ⟨A,c,rfl,_⟩:=t.slice;exact ⟨_,_,_,_,_,_,by rw [s],by rw [v],rfl,rfl⟩
def Zco (w0:World) (B:Nat) (W:World) (base:Nat) (r:Option Nat):List Value -> List F -> Prop
 | [],[] => True
 | a :: b :: c :: d :: xs,f :: l => (Zdz w0 B W base a b c d f /\ ∀ g,r = some g -> d.ownBlock ≠ some g ∨ Zax w0 B [a,b,c,d] f.cells) /\ Zco w0 B W base r xs l
 | _,_ => False
theorem Zco.step {w0 w1 W W':World} {B base base':Nat} {r k:Option Nat} (m:∀ a b c d f,Zdz w0 B W base a b c d f -> (∀ g,r = some g -> d.ownBlock ≠ some g ∨ Zax w0 B [a,b,c,d] f.cells) -> Zdz w1 B W' base' a b c d f /\ ∀ g,k = some g -> d.ownBlock ≠ some g ∨ Zax w1 B [a,b,c,d] f.cells) :
  ∀ {e:List Value} {l:List F},Zco w0 B W base r e l -> Zco w1 B W' base' k e l
 | [],[],_ => trivial
 | a :: b :: c :: d :: e,f :: l,h => ⟨m _ _ _ _ _ h.1.1 h.1.2,Zco.step m h.2⟩
 | [],_ :: _,h => h.elim
 | [_],_,h => by cases ‹List F› <;> exact h.elim
 | [_,_],_,h => by cases ‹List F› <;> exact h.elim
 | [_,_,_],_,h => by cases ‹List F› <;> exact h.elim
 | _ :: _ :: _ :: _ :: _,[],h => h.elim
theorem Zco.app {w0 W:World} {B base:Nat} {r:Option Nat} {p:List Value} {m:List F} (k:Zco w0 B W base r p m):∀ {e:List Value} {l:List F},Zco w0 B W base r e l -> Zco w0 B W base r (e ++ p) (l ++ m)
 | [],[],_ => k
 | a :: b :: c :: d :: e,f :: l,h => ⟨h.1,Zco.app k h.2⟩
 | [],_ :: _,h => h.elim
 | [_],_,h => by cases ‹List F› <;> exact h.elim
 | [_,_],_,h => by cases ‹List F› <;> exact h.elim
 | [_,_,_],_,h => by cases ‹List F› <;> exact h.elim
 | _ :: _ :: _ :: _ :: _,[],h => h.elim
theorem Zco.length {w0 W:World} {B base:Nat} {r:Option Nat}:∀ {e:List Value} {l:List F},Zco w0 B W base r e l -> e.length = l.length * 4
 | [],[],_ => rfl
 | a :: b :: c :: d :: e,f :: l,h => by
  have:=Zco.length h.2;simp only [au];omega
 | [],_ :: _,h => h.elim
 | [_],_,h => by cases ‹List F› <;> exact h.elim
 | [_,_],_,h => by cases ‹List F› <;> exact h.elim
 | [_,_,_],_,h => by cases ‹List F› <;> exact h.elim
 | _ :: _ :: _ :: _ :: _,[],h => h.elim
theorem Zco.get {w0 W:World} {B base:Nat} {r:Option Nat}:∀ {e:List Value} {l:List F},Zco w0 B W base r e l -> ∀ (j:Nat) (k:j < l.length),∃ a b c d,e[j * 4]? = some a /\ e[j * 4 + 1]? = some b /\ e[j * 4 + 2]? = some c /\ e[j * 4 + 3]? = some d /\ Zdz w0 B W base a b c d l[j]
 | a :: b :: c :: d :: e,f :: l,h,0,_ => ⟨a,b,c,d,rfl,rfl,rfl,rfl,h.1.1⟩
 | a :: b :: c :: d :: e,f :: l,h,j + 1,k => by
  obtain ⟨q,b',s,d',t,x,v,m,p⟩:=Zco.get h.2 j (by simpa using k);refine ⟨q,b',s,d',?_,?_,?_,?_,by simpa using p⟩
  ·rw [show (j + 1) * 4 = j * 4 + 4 from by omega];simpa using t
  ·rw [show (j + 1) * 4 + 1 = j * 4 + 1 + 4 from by omega];simpa using x
  ·rw [show (j + 1) * 4 + 2 = j * 4 + 2 + 4 from by omega];simpa using v
  ·rw [show (j + 1) * 4 + 3 = j * 4 + 3 + 4 from by omega];simpa using m
 | [],_ :: _,h,_,_ => h.elim
 | [_],_,h,_,_ => by cases ‹List F› <;> exact h.elim
 | [_,_],_,h,_,_ => by cases ‹List F› <;> exact h.elim
 | [_,_,_],_,h,_,_ => by cases ‹List F› <;> exact h.elim
 | _ :: _ :: _ :: _ :: _,[],h,_,_ => h.elim
theorem Zco.of_rep {w0 W:World} {B base:Nat} {r:Option Nat}:∀ {l:List F} {e:List Value},Zax w0 B e (l.flatMap F.cells) -> Zco w0 B W base r e l
 | [],e,h => by
  have:=h.inv_nil;subst this;trivial
 | f :: l,e,h => by
  rw [de] at h;have k:=h.take 4;have hd:=h.drop 4;rw [List.take_left' f.cells_length] at k;rw [List.drop_left' f.cells_length] at hd;have hl:=h.1;rw [ai,F.cells_length] at hl
  match e,hl,k,hd with
  | a :: b :: c :: d :: e,_,k,hd => exact ⟨⟨.inl k,fun _ _ => .inr k⟩,Zco.of_rep hd⟩
  | [],hl,_,_ => exact absurd hl (by rw [dk];omega)
  | [_],hl,_,_ => exact absurd hl (by simp only [au,dk];omega)
  | [_,_],hl,_,_ => exact absurd hl (by simp only [au,dk];omega)
  | [_,_,_],hl,_,_ => exact absurd hl (by simp only [au,dk];omega)
def Zh0 (w0:World) (B:Nat) (W:World) (base:Nat) (v:Value) (l:List F):Prop:=∃ n xs,W.ownsRow base 46 4 v n xs /\ Zco w0 B W base v.ownBlock xs l
theorem Zh0.nil (w0:World) (B:Nat) (W:World) (base:Nat):Zh0 w0 B W base (I none 0 0) []:=⟨0,[],d8 _ _ _ _,trivial⟩
theorem Zh0.lt {base:Nat} {v:Value} (h:Zh0 w0 B W base v l):∀ k,v.ownBlock = some k -> base <= k /\ k < W.heap.size:=by
 obtain ⟨n,b,h,_⟩:=h;exact fun k a => h.lt k a
theorem Zh0.slice {base:Nat} {v:Value} (h:Zh0 w0 B W base v l):∃ A c,v = I A l.length c /\ l.length <= c:=by
 obtain ⟨n,e,⟨h1,b⟩,d⟩:=h;have:=d.length;obtain rfl:n = l.length:=by omega
 rcases b with ⟨rfl,hn⟩ | ⟨g,cap,a,rfl,_,_,hc,_⟩
 ·rw [hn];exact ⟨_,_,rfl,ag _⟩
 ·exact ⟨_,_,rfl,hc⟩
theorem Zh0.below {base:Nat} {v:Value} (h:Zh0 w0 B W base v l) (m:Bl W W'):Zh0 w0 B W' base v l:=by
 obtain ⟨n,q,h1,r⟩:=h;have s:W.grownBy W' none:=⟨m.os,m.tape,m.output,m.size,fun i hi _ => m.block i hi⟩
 refine ⟨n,q,h1.kept s ?_,r.step (fun a b c d f h hr => ⟨h.below m,hr⟩)⟩;rcases h1.2 with ⟨e,_⟩ | ⟨k,c,p,e,_⟩
 ·subst e;exact .inl rfl
 ·subst e;exact .inr (by simp [Value.ownBlock])
theorem Zh0.of_ownR {base:Nat} {v:Value} (h:Zcm w0 B W base v (l.flatMap F.cells)):Zh0 w0 B W base v l:=by
 obtain ⟨n,b,h1,a⟩:=h;exact ⟨n,b,h1,Zco.of_rep a⟩
theorem Zh0.at {base:Nat} {v:Value} (h:Zh0 w1 B W base v l) (e:∀ p:Addr,p.block < B -> w0.cell? p = w1.cell? p):Zh0 w0 B W base v l:=by
 obtain ⟨n,k,h1,m⟩:=h;exact ⟨n,k,h1,m.step (fun a b c d f h hr => ⟨h.at e,fun g q => (hr g q).elim .inl (fun h => .inr (h.keep e (ag _)))⟩)⟩
theorem Ydw (w:World) (ty:TypeId) (base:Nat) (v:Value) (l:List F) (s:Zh0 w0 B w base v l) (g:Nat) {f:F} (U:Blk w g 46 #[Z G 4,Z G 0,I none 0 0,kv]) (hf:Zdz w0 B w base (Z G 4) (Z G 0) (I none 0 0) kv f)
  (K:∀ i,v.ownBlock = some i -> kv.ownBlock ≠ some i) (E:∃ A n c,kv = I A n c) (R:∀ i,kv.ownBlock = some i -> i < w.heap.size) (hl:l.length + 1 <= 1000000) (q:base <= w.heap.size) :
  ∃ p r,(Builtin.append_ #[39,39] ty #[v,I (some ⟨g,0,none⟩) 1 1]).run prog w = .ok p r /\ Zh0 w0 B r base p (l ++ [f]) /\ w.grownBy r v.ownBlock /\ (p.ownBlock = v.ownBlock ∨ p.ownBlock = some w.heap.size):=by
 obtain ⟨n,xs,h1,M⟩:=s;obtain ⟨i0,hi,J,C,H⟩:=info_parts info46;have aa:=M.length;have O:=h1.1;obtain rfl:n = l.length:=by omega
 obtain ⟨X,Y,T,rfl⟩:=E;obtain ⟨p,r,S,V,L,_,N⟩:=run_append_own_at (P:=prog) w base 39 ty 46 i0 _ 4 64 underlying39 hi J C H rfl (by decide) v _ _ h1 ⟨g,0,none⟩ 1 1 [Z G 4,Z G 0,I none 0 0,I X Y T] rfl
  (fun j u y => by
   rw [Addr.add_lit,cz,U.cell j,<- y];simp) (fun u y => by
    simp only [dt,dl,or_false] at y;rcases y with rfl | rfl | rfl | rfl <;> rfl) (by unfold maxLen;omega) (by omega) q
 have t:∀ (d:Value) (x:∀ i,v.ownBlock = some i -> d.ownBlock ≠ some i) (z:∀ i,d.ownBlock = some i -> i < w.heap.size),∀ i,p.ownBlock = some i -> d.ownBlock ≠ some i:=fun d x z i k e => by
  rcases N with h | h
  ·exact x i (h ▸ k) e
  ·rw [h] at k;cases k;exact absurd (z _ e) (Nat.lt_irrefl _)
 have step:∀ a b c d f,Zdz w0 B w base a b c d f -> (∀ g,v.ownBlock = some g -> d.ownBlock ≠ some g ∨ Zax w0 B [a,b,c,d] f.cells) -> Zdz w0 B r base a b c d f /\ ∀ g,p.ownBlock = some g -> d.ownBlock ≠ some g ∨ Zax w0 B [a,b,c,d] f.cells:=fun a b c d f h hr => by
  by_cases m:Zax w0 B [a,b,c,d] f.cells
  ·exact ⟨.inl m,fun _ _ => .inr m⟩
  ·have x:∀ i,v.ownBlock = some i -> d.ownBlock ≠ some i:=fun i k => (hr i k).resolve_right m;have z:∀ i,d.ownBlock = some i -> i < w.heap.size:=by
    rcases h with h | h
    ·exact absurd h m
    ·exact fun i k => (h.2.2.2.2.2.2.1 i k).2
   exact ⟨h.grown L x,fun i k => .inl (t d x z i k)⟩
 refine ⟨p,r,S,⟨_,_,V,Zco.app ?_ (M.step step)⟩,L,N⟩;exact ⟨step _ _ _ _ _ hf (fun i k => .inl (K i k)),trivial⟩
theorem Ztd {rest:List Oper} {o:Oper} {a:Act} (r:o.guard = none) (s x:Operand)
  (ho:o.op = .call {callee:=.builtin .append,args:=#[s,x],argTypes:=#[39,39] })
  (base:Nat) (v:Value) (l:List F) (hs:a.eval s = v) (k:Zh0 w0 B w base v l) (g:Nat) {f:F} (t:a.eval x = I (some ⟨g,0,none⟩) 1 1) (C:Blk w g 46 #[Z G 4,Z G 0,I none 0 0,kv]) (z:Zdz w0 B w base (Z G 4) (Z G 0) (I none 0 0) kv f)
  (q:∀ i,v.ownBlock = some i -> kv.ownBlock ≠ some i) (p:∃ A n c,kv = I A n c) (m:∀ i,kv.ownBlock = some i -> i < w.heap.size) (hl:l.length + 1 <= 1000000) (b:base <= w.heap.size)
  (h:∀ d e,Zh0 w0 B e base d (l ++ [f]) -> w.grownBy e v.ownBlock -> (d.ownBlock = v.ownBlock ∨ d.ownBlock = some w.heap.size) -> wpList prog ops Q rest (a.put o.dst d) e):wpList prog ops Q (o :: rest) a w :=
 wpList_plain r fun _ y =>
  let ⟨d,e,hrun,h2,h3,h4⟩:=Ydw w o.type base v l k g C z q p m hl b
  Zct s x 39 v _ d ho hs t hrun (y _ _ (h d e h2 h3 h4))
theorem Zh0.nodes {base:Nat} (h:Zh0 w0 B W base u l):∃ (A:Option Addr) (cap:Nat),u = I A l.length cap /\ l.length <= cap /\
  ∀ (k:Nat) (q:k < l.length),∃ (g:Nat) (a b c d:Value),A = some ⟨g,0,none⟩ /\ base <= g /\ g < W.heap.size /\ W.cell? ⟨g,0 + k * 4,none⟩ = some a /\ W.cell? ⟨g,0 + k * 4 + 1,none⟩ = some b /\ W.cell? ⟨g,0 + k * 4 + 2,none⟩ = some c /\ W.cell? ⟨g,0 + k * 4 + 3,none⟩ = some d /\ Zdz w0 B W base a b c d l[k]:=by
 obtain ⟨n,f,h1,s⟩:=h;have L:=s.length;have v:=h1.1;obtain rfl:n = l.length:=by omega
 rcases h1.2 with ⟨rfl,hn⟩ | ⟨g,cap,t,rfl,K,M,hc,r,x,N⟩
 ·exact ⟨none,0,by rw [hn],by omega,fun k q => by omega⟩
 ·refine ⟨_,cap,rfl,hc,fun k q => ?_⟩;obtain ⟨a,b,c,d,y,C,z,H,J⟩:=s.get k q;have m:=(h1.lt g rfl).2;have e:∀ j u,f[j]? = some u -> W.cell? ⟨g,j,none⟩ = some u:=fun j u p => by
   have E:j < f.length:=by
    rcases ir j f.length with h | h
    ·exact h
    ·rw [gj h] at p;cases p
   rw [h1.cellAt j (by rw [<- h1.1];exact E),p]
  rw [cz];exact ⟨g,a,b,c,d,rfl,K,m,e _ _ y,e _ _ C,e _ _ z,e _ _ H,J⟩
theorem Zrc {base:Nat} {a b c d:Value} {f:F} (h:Zdz w0 B w base a b c d f) (q:Below B w0 w) (k:B <= w.heap.size) :
  Calls prog 234 #[.agg #[a,b,c,d]] w fun e p => ∃ u,e = .returned u /\ Zjp w0 B p u (f.parts.flatMap F.cells) /\ Bl w p:=by
 rcases h with h | ⟨rfl,rfl,rfl,v,C,z,t,m⟩
 ·exact Zkb w0 B ⟨a,b,c,d,f,h⟩ w q k
 ·have r:=Zab w (.cells #[Z G 4,Z G 0,I none 0 0,d] 46);have s:=ae (m.below r);unfold F.parts;rw [if_pos v];obtain ⟨x,y,rfl,_⟩:=m.slice;clear m q t;go_enter func234,ntmps234;go_wp2_with fail;go_ret;exact ⟨_,rfl,s.out,r⟩
theorem Zcp {a:World} {n c:Nat} {A:Option Addr} (e:Bl a W) (f:Blk W gf 46 #[Z G 0,Z G 0,I none 0 0,I none 0 0]) (b:a.heap.size <= gf)
  (ho:Zcm w0 B W a.heap.size (I A n c) ds) (d:(Value.slice A n c).ownBlock ≠ some gf) :
  Blk (st4 W gf (Z G 4) (Z G 0) (I none 0 0) (I A n c)) gf 46 #[Z G 4,Z G 0,I none 0 0,I A n c] /\ Zcm w0 B (st4 W gf (Z G 4) (Z G 0) (I none 0 0) (I A n c)) a.heap.size (I A n c) ds /\
  Bl a (st4 W gf (Z G 4) (Z G 0) (I none 0 0) (I A n c)) :=
 ⟨f.set4 _ _ _ _,ho.far4 d _ _ _ _,Zbk e b _ _ _ _⟩
end Go.Proofs.YtglkadmfjaecmaaGreatDoor
