/- The alternatives of claims, plain: what they are, and that those of generated claims are few and small. What a list of formulas that is kept in a box becomes when a formula is put behind it. What the loops of alternatives have made so far; and a formula that was just put together. The alternatives of a claim in the reference: the rows that they lie in. -/
import Derived.Test.YtbeaijjaecaidaaGreatDoorM06
import Derived.Test.YtbeaijjaecaidaaGreatDoorM01
set_option maxRecDepth 100000
set_option maxHeartbeats 16000000
namespace Go.Proofs.YtbeaijjaecaidaaGreatDoor
open Go.RowKit Go.Shelf
attribute [local go_sem] Oper.semAt_some
def andF (a b:F):F:=.mk 4 0 [] (a.parts ++ b.parts)
def crossF (p q:List F):List F:=p.flatMap fun a => q.map (andF a)
theorem crossF_length (p q:List F):(crossF p q).length = p.length * q.length:=by
 unfold crossF
 induction p with
 | nil => simp
 | cons a p ih => rw [List.flatMap_cons,List.length_append,List.length_map,ih,List.length_cons,Nat.add_mul,Nat.one_mul,Nat.add_comm]
def altF (c:Cl) (A:List (List F)):List F:=if c.refs = [] then c.body.tops else c.refs.flatMap fun r => crossF (A.getD r.toNat []) c.body.tops
def altsL (l:List Cl):Nat → List (List F)
 | 0 => []
 | k + 1 => altsL l k ++ [match l[k]? with | some c => altF c (altsL l k) | none => []]
theorem altsL_length (l:List Cl) (k:Nat):(altsL l k).length = k:=by
 induction k with
 | zero => rfl
 | succ k ih => rw [altsL,List.length_append,ih,List.length_singleton]
theorem altsL_succ (l:List Cl) (k:Nat) (h:k < l.length):altsL l (k + 1) = altsL l k ++ [altF l[k] (altsL l k)]:=by
 rw [altsL,List.getElem?_eq_getElem h]
theorem altsL_get (l:List Cl) (k j:Nat) (hj:j < k) (hk:k ≤ l.length):(altsL l k).getD j [] = altF (l[j]'(by omega)) (altsL l j):=by
 induction k with
 | zero => omega
 | succ k ih =>
  rw [altsL_succ l k (by omega)]
  by_cases h:j < k
  ·rw [← ih h (by omega),List.getD_eq_getElem?_getD,List.getD_eq_getElem?_getD,List.getElem?_append_left (by rw [altsL_length];exact h)]
  ·obtain rfl:j = k:=by omega
   rw [List.getD_eq_getElem?_getD,List.getElem?_append_right (by rw [altsL_length];exact Nat.le_refl _),altsL_length,Nat.sub_self]
   rfl
def AltOk (c:Cl) (A:List (List F)):Prop:=c.body.tops.length ≤ 64 ∧ (altF c A).length ≤ 64 ∧ (∀ r ∈ c.refs,0 ≤ r ∧ r.toNat < A.length) ∧ (c.refs ≠ [] → ∀ f ∈ altF c A,OkF f)
def AltsOk (l:List Cl):Prop:=∀ k (h:k < l.length),AltOk l[k] (altsL l k)
def Sm (s d:Nat) (t:F):Prop:=t.size ≤ s ∧ t.deep ≤ d ∧ ∀ y ∈ t.nodes,OkNode y
theorem Sm.mono {s d s' d':Nat} {t:F} (h:Sm s d t) (hs:s ≤ s') (hd:d ≤ d'):Sm s' d' t:=⟨Nat.le_trans h.1 hs,Nat.le_trans h.2.1 hd,h.2.2⟩
theorem Sm.ok {s d:Nat} {t:F} (h:Sm s d t) (hs:s ≤ 96) (hd:d ≤ 8):OkF t:=⟨Nat.le_trans h.1 hs,Nat.le_trans h.2.1 hd,h.2.2⟩
theorem deepL_mem:∀ {l:List F} {k:F},k ∈ l → k.deep ≤ deepL l
 | a :: l,k,h => by
  rw [deepL];rcases List.mem_cons.1 h with rfl | h
  ·omega
  ·have:=deepL_mem h
   omega
theorem deepL_app:∀ (a b:List F),deepL (a ++ b) = max (deepL a) (deepL b)
 | [],b => by simp [deepL]
 | x :: a,b => by rw [List.cons_append,deepL,deepL,deepL_app a b,Nat.max_assoc]
theorem sizeL_app:∀ (a b:List F),sizeL (a ++ b) = sizeL a + sizeL b
 | [],b => by simp [sizeL]
 | x :: a,b => by rw [List.cons_append,sizeL,sizeL,sizeL_app a b,Nat.add_assoc]
theorem F.size_eq' (t:F):t.size = 1 + sizeL t.kids:=by
 cases t
 rw [F.size];rfl
theorem Sm.kid {s d:Nat} {t k:F} (h:Sm s d t) (hk:k ∈ t.kids):Sm s d k:=by
 have h1:=F.kid_size hk;have h2:=deepL_mem hk;have h3:=t.deep_eq;refine ⟨by have:=h.1;omega,by have:=h.2.1;omega,fun y hy => h.2.2 y ?_⟩
 rw [F.nodes_eq];exact List.mem_cons_of_mem _ (List.mem_flatMap.2 ⟨k,hk,hy⟩)
theorem Sm.tops {s d:Nat}:∀ (n:Nat) {t:F},t.size ≤ n → Sm s d t → ∀ y ∈ t.tops,Sm s d y
 | 0,t,hn,_ => by have:=t.size_pos;omega
 | n + 1,t,hn,h => by
  intro y hy;by_cases h5:t.op = 5
  ·rw [F.tops_or h5] at hy
   obtain ⟨k,hk,hy⟩:=List.mem_flatMap.1 hy;exact Sm.tops n (by have:=F.kid_size hk;omega) (h.kid hk) y hy
  ·rw [F.tops_no h5,List.mem_singleton] at hy
   rw [hy];exact h
theorem Sm.parts {s d:Nat} {t:F} (h:Sm s d t):sizeL t.parts ≤ s ∧ deepL t.parts ≤ d ∧ ∀ y ∈ t.parts.flatMap F.nodes,OkNode y:=by
 unfold F.parts;by_cases h4:t.op = 4
 ·rw [if_pos h4]
  refine ⟨by have:=h.1;rw [F.size_eq'] at this;omega,by have:=h.2.1;rw [F.deep_eq] at this;omega,fun y hy => h.2.2 y ?_⟩
  rw [F.nodes_eq];exact List.mem_cons_of_mem _ hy
 ·rw [if_neg h4]
  refine ⟨by have:=h.1;simp only [sizeL];omega,by have:=h.2.1;simp only [deepL];omega,fun y hy => h.2.2 y (by simpa using hy)⟩
theorem Sm.and {s d s' d':Nat} {a b:F} (h:Sm s d a) (k:Sm s' d' b):Sm (1 + s + s') (max d d' + 1) (andF a b):=by
 obtain ⟨a1,a2,a3⟩:=h.parts;obtain ⟨b1,b2,b3⟩:=k.parts;refine ⟨?_,?_,fun y hy => ?_⟩
 ·rw [F.size_eq']
  show 1 + sizeL (a.parts ++ b.parts) ≤ _
  rw [sizeL_app];omega
 ·rw [F.deep_eq]
  show deepL (a.parts ++ b.parts) + 1 ≤ _
  rw [deepL_app];omega
 ·rw [F.nodes_eq] at hy
  rcases List.mem_cons.1 hy with rfl | hy
  ·exact .inr (.inr (.inr (.inr ⟨.inl rfl,rfl,rfl⟩)))
  ·rw [show (andF a b).kids = a.parts ++ b.parts from rfl,List.flatMap_append] at hy
   rcases List.mem_append.1 hy with hy | hy
   ·exact a3 y hy
   ·exact b3 y hy
def Feat (t:F):Prop:=Sm 4 3 t ∧ t.tops.length ≤ 2
theorem refsOk_at {r:List Int} {i:Nat} (h:RefsOk r i):∀ j (hj:j < r.length),(j:Int) ≤ r[j]
 | 0,hj => by have:=(h 0 hj).1;omega
 | j + 1,hj => by
  have h1:=refsOk_at h j (by omega)
  have h2:=(h (j + 1) hj).2.2 (by omega)
  have h3:r[j + 1 - 1]'(by omega) = r[j]:=rfl
  rw [h3] at h2;omega
theorem refsOk_len {r:List Int} {i:Nat} (h:RefsOk r i):r.length ≤ i:=by
 cases hr:r.length with
 | zero => omega
 | succ n =>
  have h1:=refsOk_at h n (by omega)
  have h2:=(h n (by omega)).2.1
  omega
theorem flat_len_le {α:Type} {f:α → List F} {M:Nat}:∀ {l:List α},(∀ a ∈ l,(f a).length ≤ M) → (l.flatMap f).length ≤ l.length * M
 | [],_ => by simp
 | a :: l,h => by
  rw [List.flatMap_cons,List.length_append,List.length_cons,Nat.add_mul,Nat.one_mul,Nat.add_comm];have h1:=h a List.mem_cons_self;have h2:=flat_len_le (f:=f) (M:=M) (l:=l) (fun x hx => h x (List.mem_cons_of_mem _ hx))
  omega
theorem alt_step {c:Cl} {A:List (List F)} {M s d:Nat} (hf:Feat c.body) (hr:RefsOk c.refs A.length) (hA:∀ j,j < A.length → (A.getD j []).length ≤ M ∧ ∀ f ∈ A.getD j [],Sm s d f) (hs:4 ≤ s) (hd:3 ≤ d) :
  (altF c A).length ≤ max 2 (A.length * (M * 2)) ∧ ∀ f ∈ altF c A,Sm (s + 5) (d + 1) f:=by
 have ht:=Sm.tops _ (Nat.le_refl _) hf.1;unfold altF;by_cases h0:c.refs = []
 ·rw [if_pos h0]
  refine ⟨by have:=hf.2;omega,fun f hfm => (ht f hfm).mono (by omega) (by omega)⟩
 ·rw [if_neg h0]
  have hin:∀ r ∈ c.refs,r.toNat < A.length:=fun r hrm => by
   obtain ⟨j,hj,rfl⟩:=List.getElem_of_mem hrm;have:=hr j hj;omega
  refine ⟨?_,fun f hfm => ?_⟩
  ·have h1:=flat_len_le (f:=fun r => crossF (A.getD r.toNat []) c.body.tops) (M:=M * 2) (l:=c.refs) (fun r hrm => by
    rw [crossF_length];exact Nat.mul_le_mul (hA _ (hin r hrm)).1 hf.2)
   have h2:=refsOk_len hr;have h3:=Nat.mul_le_mul_right (M * 2) h2;omega
  ·obtain ⟨r,hrm,hfm⟩:=List.mem_flatMap.1 hfm
   obtain ⟨a,ha,hfm⟩:=List.mem_flatMap.1 hfm;obtain ⟨b,hb,rfl⟩:=List.mem_map.1 hfm;exact (((hA _ (hin r hrm)).2 a ha).and (ht b hb)).mono (by omega) (by omega)
def GenCl (l:List Cl):Prop:=l.length ≤ 3 ∧ ∀ i (h:i < l.length),RefsOk l[i].refs i ∧ Feat l[i].body
theorem GenCl.ok {l:List Cl} (h:GenCl l):OkCl l :=
 ⟨by have:=h.1;omega,fun i hi => ⟨(h.2 i hi).1,by have:=refsOk_len (h.2 i hi).1;have:=h.1;omega,(h.2 i hi).2.1.ok (by omega) (by omega)⟩⟩
def mostAlts:Nat → Nat
 | 0 => 2
 | 1 => 4
 | _ => 16
theorem GenCl.alts {l:List Cl} (h:GenCl l):∀ k,k ≤ l.length → ∀ j,j < k → ((altsL l k).getD j []).length ≤ mostAlts j ∧ ∀ f ∈ (altsL l k).getD j [],Sm (4 + 5 * (j + 1)) (3 + (j + 1)) f:=by
 intro k
 induction k with
 | zero => intro _ j hj;omega
 | succ k ih =>
  intro hk j hj;by_cases hjk:j < k
  ·have:=ih (by omega) j hjk
   rw [altsL_get l k j hjk (by omega)] at this
   rw [altsL_get l (k + 1) j hj (by omega)]
   exact this
  ·obtain rfl:j = k:=by omega
   rw [altsL_get l (j + 1) j hj (by omega)]
   have hl:=h.1;have hg:=h.2 j (by omega)
   have hr:RefsOk l[j].refs (altsL l j).length:=by rw [altsL_length];exact hg.1
   have h3:j = 0 ∨ j = 1 ∨ j = 2:=by omega
   rcases h3 with rfl | rfl | rfl
   ·have:=alt_step (M:=2) (s:=4) (d:=3) hg.2 hr (fun i hi => by rw [altsL_length] at hi;omega) (by omega) (by omega)
    rw [altsL_length] at this;exact this
   ·have:=alt_step (M:=2) (s:=9) (d:=4) hg.2 hr (fun i hi => by
     rw [altsL_length] at hi;obtain rfl:i = 0:=by omega
     have:=ih (by omega) 0 (by omega)
     exact this) (by omega) (by omega)
    rw [altsL_length] at this;exact this
   ·have:=alt_step (M:=4) (s:=14) (d:=5) hg.2 hr (fun i hi => by
     rw [altsL_length] at hi;have h2:=ih (by omega) i (by omega)
     have:i = 0 ∨ i = 1:=by omega
     rcases this with rfl | rfl
     ·exact ⟨Nat.le_trans h2.1 (by decide),fun f hf => (h2.2 f hf).mono (by omega) (by omega)⟩
     ·exact ⟨h2.1,fun f hf => (h2.2 f hf).mono (by omega) (by omega)⟩) (by omega) (by omega)
    rw [altsL_length] at this;exact this
theorem mostAlts_le (j:Nat):mostAlts j ≤ 16:=by
 unfold mostAlts;split <;> omega
theorem GenCl.altsOk {l:List Cl} (h:GenCl l):AltsOk l:=by
 intro k hk;have hg:=h.2 k hk;have h1:=h.alts (k + 1) (by omega) k (by omega)
 rw [altsL_get l (k + 1) k (by omega) (by omega)] at h1
 have hl:=h.1;refine ⟨by have:=hg.2.2;omega,by have:=mostAlts_le k;omega,fun r hr => ?_,fun _ f hf => (h1.2 f hf).ok (by omega) (by omega)⟩
 obtain ⟨j,hj,rfl⟩:=List.getElem_of_mem hr;have:=hg.1 j hj;rw [altsL_length];omega
def KeepF (n₀:Nat) (W W':World):Prop:=KeepsOthers W W' ∧ KeepT topT n₀ W W'
theorem KeepF.refl (n₀:Nat) (W:World):KeepF n₀ W W:=⟨KeepsOthers.refl W,KeepT.refl _ _ _⟩
theorem KeepF.trans {n₀:Nat} {A B C:World} (h:KeepF n₀ A B) (k:KeepF n₀ B C):KeepF n₀ A C:=⟨h.1.trans k.1,h.2.trans k.2⟩
theorem KeepF.alloc {n₀:Nat} {A W:World} (h:KeepF n₀ A W) (hn:n₀ ≤ W.heap.size) (o:Obj):KeepF n₀ A (W.alloc o):=h.trans ⟨KeepsOthers.alloc _ _,KeepT.alloc W hn o⟩
theorem KeepF.drew {n₀:Nat} {A W:World} (h:KeepF n₀ A W):KeepF n₀ A W.drew:=h.trans ⟨KeepsOthers.drew _,⟨(Below.refl _ _).drew,fun _ _ _ _ h => h⟩⟩
theorem KeepF.set {n₀ g:Nat} {A W:World} {t:TypeId} {cs:Array Value} (h:KeepF n₀ A W) (hb:Blk W g t cs) (hp:¬ topT t) (hn:n₀ ≤ g) (i:Nat) (u:Value):KeepF n₀ A (W.setCell ⟨g,i,none⟩ u) :=
 h.trans ⟨KeepsOthers.setCell _ _ _,KeepT.setCell hb hp hn i u⟩
theorem OwnR.block {w0 W:World} {B base:Nat} {v:Value} {ds:List D} (h:OwnR w0 B W base v ds) {g:Nat} (hg:v.ownBlock = some g):base ≤ g ∧ ∃ cur,Blk W g 39 cur:=by
 obtain ⟨n,xs,⟨_,h1⟩,_⟩:=h;rcases h1 with ⟨rfl,_⟩ | ⟨g',cap,cur,rfl,hb,hh,_⟩
 ·cases hg
 ·cases hg
  exact ⟨hb,cur,hh⟩
theorem KeepF.grown {n₀ B base:Nat} {A w0 W W':World} {v:Value} {ds:List D} (h:KeepF n₀ A W) (ho:OwnR w0 B W base v ds) (hg:W.grownBy W' v.ownBlock) (hb:n₀ ≤ base) (hn:n₀ ≤ W.heap.size):KeepF n₀ A W':=by
 refine h.trans ⟨KeepsOthers.of_grownBy hg (fun j o hj hh => ?_),?_⟩
 ·obtain ⟨_,cur,hB⟩:=ho.block hj
  rw [show W.heap[j]? = _ from hB] at hh
  cases hh
  rfl
 ·refine ⟨(Below.refl _ _).grown hg hn (fun k hk => Nat.le_trans hb (ho.lt k hk)),fun i t cs ht hB => hB.grown hg (fun e => ?_)⟩
  obtain ⟨_,cur,hB2⟩:=ho.block e.symm;unfold Blk at hB hB2;rw [hB] at hB2;cases hB2
  exact absurd ht (by unfold topT;decide)
def zF:F:=.mk 0 0 [] []
theorem zF_rep (w0:World) (B:Nat):RepL w0 B [.int .i64 0,.int .i64 0,.slice none 0 0,.slice none 0 0] zF.cells:=by
 rw [F.cells_eq];exact RepL.cons (.v _) (RepL.cons (.v _) (RepL.cons (.nil 8) (RepL.cons (.nil 4) (RepL.nil _ _))))
def st4at (W:World) (g o:Nat) (a b c d:Value):World:=(((W.setCell ⟨g,o,none⟩ a).setCell ⟨g,o + 1,none⟩ b).setCell ⟨g,o + 2,none⟩ c).setCell ⟨g,o + 3,none⟩ d
theorem take_set4 {α:Type}:∀ (n:Nat) (cur:List α) (xs:List α) (a b c d a' b' c' d':α),cur.take (n + 4) = xs ++ [a,b,c,d] → xs.length = n →
  ((((cur.set n a').set (n + 1) b').set (n + 2) c').set (n + 3) d').take (n + 4) = xs ++ [a',b',c',d']
 | 0,cur,xs,a,b,c,d,a',b',c',d',h,hx => by
  obtain rfl:=List.eq_nil_of_length_eq_zero hx
  match cur,h with
  | [],h => simp at h
  | [_],h => simp at h
  | [_,_],h => simp at h
  | [_,_,_],h => simp at h
  | _ :: _ :: _ :: _ :: r,h => simp
 | n + 1,cur,xs,a,b,c,d,a',b',c',d',h,hx => by
  match xs,hx with
  | x :: xs,hx =>
   match cur,h with
   | [],h => simp at h
   | y :: cur,h =>
    rw [show n + 1 + 4 = (n + 4) + 1 from by omega,List.take_succ_cons,List.cons_append,List.cons.injEq] at h
    have:=take_set4 n cur xs a b c d a' b' c' d' h.2 (by simpa using hx)
    rw [show n + 1 + 4 = (n + 4) + 1 from by omega,List.set_cons_succ,show n + 1 + 1 = (n + 1) + 1 from rfl,List.set_cons_succ,show n + 1 + 2 = (n + 2) + 1 from by omega,List.set_cons_succ,show n + 1 + 3 = (n + 3) + 1 from by omega,List.set_cons_succ,List.take_succ_cons,this,h.1]
    rfl
theorem Blk.st4at {W:World} {g:Nat} {t:TypeId} {cs:Array Value} (h:Blk W g t cs) (o:Nat) (a b c d:Value):Blk (st4at W g o a b c d) g t ((((cs.setIfInBounds o a).setIfInBounds (o + 1) b).setIfInBounds (o + 2) c).setIfInBounds (o + 3) d) :=
 (((h.set o a).set (o + 1) b).set (o + 2) c).set (o + 3) d
theorem Blk.far4at {W:World} {g g':Nat} {t:TypeId} {cs:Array Value} (h:Blk W g t cs) (hne:g ≠ g') (o:Nat) (a b c d:Value):Blk (Go.Proofs.YtbeaijjaecaidaaGreatDoor.st4at W g' o a b c d) g t cs :=
 (((h.far (p:=⟨g',o,none⟩) hne a).far (p:=⟨g',o + 1,none⟩) hne b).far (p:=⟨g',o + 2,none⟩) hne c).far (p:=⟨g',o + 3,none⟩) hne d
theorem KeepF.st4at {n₀ g:Nat} {A W:World} {t:TypeId} {cs:Array Value} (h:KeepF n₀ A W) (hb:Blk W g t cs) (hp:¬ topT t) (hn:n₀ ≤ g) (o:Nat) (a b c d:Value):KeepF n₀ A (st4at W g o a b c d) :=
 (((h.set hb hp hn o a).set (hb.set o a) hp hn (o + 1) b).set ((hb.set o a).set (o + 1) b) hp hn (o + 2) c).set (((hb.set o a).set (o + 1) b).set (o + 2) c) hp hn (o + 3) d
theorem OwnR.put {w0 W:World} {B base:Nat} {v:Value} {l:List F} (h:OwnR w0 B W base v ((l ++ [zF]).flatMap F.cells)) {a b c d:Value} {t:F} (hx:RepL w0 B [a,b,c,d] t.cells) :
  ∃ g cap,v = .slice (some ⟨g,0,none⟩) (l.length + 1) cap ∧ base ≤ g ∧ (∃ cur,Blk W g 39 cur) ∧ l.length + 1 ≤ cap ∧ (∃ p q r s,(W.cell? ⟨g,l.length * 4,none⟩ = some p ∧ W.frozen? ⟨g,l.length * 4,none⟩ = false) ∧ (W.cell? ⟨g,l.length * 4 + 1,none⟩ = some q ∧ W.frozen? ⟨g,l.length * 4 + 1,none⟩ = false) ∧ (W.cell? ⟨g,l.length * 4 + 2,none⟩ = some r ∧ W.frozen? ⟨g,l.length * 4 + 2,none⟩ = false) ∧ W.cell? ⟨g,l.length * 4 + 3,none⟩ = some s ∧ W.frozen? ⟨g,l.length * 4 + 3,none⟩ = false) ∧ OwnR w0 B (st4at W g (l.length * 4) a b c d) base v ((l ++ [t]).flatMap F.cells):=by
 obtain ⟨n,xs,⟨h0,h1⟩,h2⟩:=h;have hfl:=flat_length (l:=l ++ [zF]) (f:=F.cells) (k:=4) (fun x _ => x.cells_length)
 have hfl2:=flat_length (l:=l) (f:=F.cells) (k:=4) (fun x _ => x.cells_length)
 have h21:=h2.1;rw [List.length_append,List.length_singleton] at hfl;obtain rfl:n = l.length + 1:=by omega
 rcases h1 with ⟨_,h1⟩ | ⟨g,cap,cur,rfl,hg,hb,hnc,hcap,hcur,hxs⟩
 ·omega
 ·refine ⟨g,cap,rfl,hg,⟨cur,hb⟩,hnc,?_,?_⟩
  ·have hB:Blk W g 39 cur:=hb
   have e:∀ i (hi:i < cur.size),W.cell? ⟨g,i,none⟩ = some cur[i]:=fun i hi => (hB.cell i).trans (Array.getElem?_eq_getElem hi)
   exact ⟨_,_,_,_,⟨e _ (by omega),hB.frozen _⟩,⟨e _ (by omega),hB.frozen _⟩,⟨e _ (by omega),hB.frozen _⟩,e _ (by omega),hB.frozen _⟩
  have e1:(l ++ [zF]).flatMap F.cells = l.flatMap F.cells ++ zF.cells:=by rw [List.flatMap_append];simp
  have e2:(l ++ [t]).flatMap F.cells = l.flatMap F.cells ++ t.cells:=by rw [List.flatMap_append];simp
  rw [e1] at h2;rw [e2];have hp:=h2.take (l.length * 4);rw [List.take_left' hfl2] at hp
  have hxl:xs = xs.take (l.length * 4) ++ [xs[l.length * 4],xs[l.length * 4 + 1],xs[l.length * 4 + 2],xs[l.length * 4 + 3]]:=by
   conv => lhs;rw [← List.take_append_drop (l.length * 4) xs]
   congr 1;rw [List.drop_eq_getElem_cons (by omega),List.drop_eq_getElem_cons (by omega),List.drop_eq_getElem_cons (by omega),List.drop_eq_getElem_cons (by omega),List.drop_of_length_le (by omega)]
  have hs:=take_set4 (l.length * 4) cur.toList (xs.take (l.length * 4)) _ _ _ _ a b c d (by rw [show l.length * 4 + 4 = (l.length + 1) * 4 from by omega,hxs];exact hxl) (by rw [List.length_take];omega)
  refine ⟨l.length + 1,xs.take (l.length * 4) ++ [a,b,c,d],⟨?_,.inr ⟨g,cap,_,rfl,hg,Blk.st4at hb (l.length * 4) a b c d,hnc,hcap,?_,?_⟩⟩,hp.append hx⟩
  ·rw [List.length_append,List.length_take,Nat.min_eq_left (by omega)]
   simp;omega
  ·simp only [Array.size_setIfInBounds]
   exact hcur
  ·rw [← hs]
   simp only [Array.toList_setIfInBounds];rw [show (l.length + 1) * 4 = l.length * 4 + 4 from by omega]
theorem OwnR.kept {w0 W W':World} {B base:Nat} {v:Value} {ds:List D} {row:Option Nat} (h:OwnR w0 B W base v ds) (hg:W.grownBy W' row) (hrow:∀ r,row = some r → ∃ o:Obj,W.heap[r]? = some o ∧ o.isCells = false):OwnR w0 B W' base v ds:=by
 obtain ⟨n,xs,h1,h2⟩:=h;refine ⟨n,xs,h1.kept hg ?_,h2⟩
 rcases h1.2 with ⟨e,_⟩ | ⟨k,c,cur,e,_,hb,_⟩
 ·subst e;exact .inl rfl
 ·subst e
  refine .inr (fun e => ?_)
  obtain ⟨o,ho,hc⟩:=hrow k e.symm;rw [hb] at ho;cases ho
  cases hc
theorem OwnR.far {w0 W:World} {B base:Nat} {v:Value} {ds:List D} (h:OwnR w0 B W base v ds) {b:Nat} (hne:v.ownBlock ≠ some b) (u:Value):OwnR w0 B (W.setCell ⟨b,0,none⟩ u) base v ds:=by
 obtain ⟨n,xs,h1,h2⟩:=h;refine ⟨n,xs,h1.kept (grownBy_setCell' W b u) ?_,h2⟩
 rcases h1.2 with ⟨e,_⟩ | ⟨k,c,cur,e,_⟩
 ·subst e;exact .inl rfl
 ·exact .inr hne
def TopI (w:World) (x:CNode w w.heap.size) (l:List F) (W:World):Prop :=
 ∃ v,Blk W (w.heap.size + 1) 32 #[v] ∧ OwnR w w.heap.size W (w.heap.size + 1 + 1) v (l.flatMap F.cells) ∧ Blk W w.heap.size 169 #[x.r,x.a,x.b,x.c,x.d]
theorem topI_own {β:Type} (w:World) (x:CNode w w.heap.size) (f:β → List F) (B:Nat):OwnFrom B (fun s W => TopI w x (f s) W):=fun s X Y row hs hg hrow => by
 obtain ⟨v,h1,h2,h3⟩:=hs;exact ⟨v,blk_own (w.heap.size + 1) 32 (fun _:Unit => #[v]) () X Y row h1 hg (fun r e => (hrow r e).2),h2.kept hg (fun r e => (hrow r e).2),blk_own w.heap.size 169 (fun _:Unit => #[x.r,x.a,x.b,x.c,x.d]) () X Y row h3 hg (fun r e => (hrow r e).2)⟩
def outF (c:Cl) (A:List (List F)) (k:Nat):List F:=(c.refs.take k).flatMap fun r => crossF (A.getD r.toNat []) c.body.tops
theorem outF_succ (c:Cl) (A:List (List F)) (k:Nat) (h:k < c.refs.length):outF c A (k + 1) = outF c A k ++ crossF (A.getD c.refs[k].toNat []) c.body.tops:=by
 unfold outF;rw [List.take_add_one,List.getElem?_eq_getElem h,List.flatMap_append]
 simp
theorem outF_all (c:Cl) (A:List (List F)) (h:¬ c.refs = []):outF c A c.refs.length = altF c A:=by
 unfold outF altF;rw [if_neg h,List.take_length]
theorem outF_pre (c:Cl) (A:List (List F)) (k:Nat) (h:¬ c.refs = []):∃ r,altF c A = outF c A k ++ r:=by
 unfold outF altF;rw [if_neg h];refine ⟨(c.refs.drop k).flatMap fun r => crossF (A.getD r.toNat []) c.body.tops,?_⟩
 conv => lhs;rw [← List.take_append_drop k c.refs]
 rw [List.flatMap_append]
theorem crossF_take (p q:List F) (j:Nat) (h:j < p.length):crossF (p.take (j + 1)) q = crossF (p.take j) q ++ q.map (andF p[j]):=by
 unfold crossF;rw [List.take_add_one,List.getElem?_eq_getElem h,List.flatMap_append]
 simp
theorem map_take (f:F → F) (q:List F) (i:Nat) (h:i < q.length):(q.take (i + 1)).map f = (q.take i).map f ++ [f q[i]]:=by
 rw [List.take_add_one,List.getElem?_eq_getElem h,List.map_append]
 simp
theorem crossF_pre (p q:List F) (j:Nat):∃ r,crossF p q = crossF (p.take j) q ++ r:=by
 unfold crossF;refine ⟨(p.drop j).flatMap fun a => q.map (andF a),?_⟩
 conv => lhs;rw [← List.take_append_drop j p]
 rw [List.flatMap_append]
theorem out_bound {c:Cl} {A:List (List F)} (hok:AltOk c A) (hne:¬ c.refs = []) {k:Nat} (hk:k < c.refs.length) :
  (outF c A k).length + (A.getD c.refs[k].toNat []).length * c.body.tops.length ≤ 64:=by
 obtain ⟨r,hr⟩:=outF_pre c A (k + 1) hne;have h1:=congrArg List.length hr;rw [outF_succ c A k hk,List.length_append,List.length_append,crossF_length] at h1;have:=hok.2.1;omega
theorem out_bound2 {c:Cl} {A:List (List F)} (hok:AltOk c A) (hne:¬ c.refs = []) {k:Nat} (hk:k < c.refs.length) {j:Nat} (hj:j < (A.getD c.refs[k].toNat []).length) (i:Nat) (hi:i ≤ c.body.tops.length) :
  (outF c A k ++ crossF ((A.getD c.refs[k].toNat []).take j) c.body.tops ++ (c.body.tops.take i).map (andF (A.getD c.refs[k].toNat [])[j])).length ≤ 64:=by
 have h1:=out_bound hok hne hk;rw [List.length_append,List.length_append,crossF_length,List.length_map,List.length_take,List.length_take,Nat.min_eq_left (by omega),Nat.min_eq_left hi]
 have h2:(j + 1) * c.body.tops.length ≤ (A.getD c.refs[k].toNat []).length * c.body.tops.length:=Nat.mul_le_mul_right _ hj;rw [Nat.add_mul,Nat.one_mul] at h2;omega
theorem out_ok {c:Cl} {A:List (List F)} (hok:AltOk c A) (hne:¬ c.refs = []) {k:Nat} (hk:k < c.refs.length) {j:Nat} (hj:j < (A.getD c.refs[k].toNat []).length) {i:Nat} (hi:i < c.body.tops.length) :
  OkF (andF (A.getD c.refs[k].toNat [])[j] c.body.tops[i]):=by
 refine hok.2.2.2 hne _ ?_
 unfold altF;rw [if_neg hne];exact List.mem_flatMap.2 ⟨_,List.getElem_mem hk,List.mem_flatMap.2 ⟨_,List.getElem_mem hj,List.mem_map.2 ⟨_,List.getElem_mem hi,rfl⟩⟩⟩
theorem andF_cells (a b:F):(andF a b).cells = [.v (.int .i64 4),.v (.int .i64 0),.s 8 [],.s 4 ((a.parts ++ b.parts).flatMap F.cells)]:=by
 rw [F.cells_eq];rfl
theorem and_rep {w0 W:World} {base:Nat} {u:Value} {a b:F} (h:OwnR w0 w0.heap.size W base u ((a.parts ++ b.parts).flatMap F.cells)) (hb:Below w0.heap.size w0 W):RepL W W.heap.size [.int .i64 4,.int .i64 0,.slice none 0 0,u] (andF a b).cells:=by
 rw [andF_cells];exact RepL.cons (.v _) (RepL.cons (.v _) (RepL.cons (.nil 8) (RepL.cons (h.src.rep (fun p hp => hb.cell hp) hb.size) (RepL.nil _ _))))
theorem and_mask {w0 W:World} {base:Nat} {u:Value} {a b:F} (h:OwnR w0 w0.heap.size W base u ((a.parts ++ b.parts).flatMap F.cells)) (hb:Below w0.heap.size w0 W) {r:Option Nat} (hr:∀ g,r = some g → w0.heap.size ≤ g ∧ g < base):RepL (maskW W r) W.heap.size [.int .i64 4,.int .i64 0,.slice none 0 0,u] (andF a b).cells:=by
 rw [andF_cells];refine RepL.cons (.v _) (RepL.cons (.v _) (RepL.cons (.nil 8) (RepL.cons ?_ (RepL.nil _ _))))
 have hlt:=h.lt;rcases h.src with ⟨rfl,e⟩ | ⟨g,o,k,c,cs,rfl,hkc,hgl,hl,hcr,hc⟩
 ·rw [e]
  exact .nil 4
 ·have hg:=hlt g rfl
  refine Rep.mk (by rw [← hcr.1,hl]) hkc hgl (hcr.keep (fun p hp => ?_) hb.size) (fun j x hx => ?_)
  ·rw [mask_other (fun e => by have:=hr _ e;omega)]
   exact hb.cell hp
  ·rw [mask_other (fun e => by have:=hr _ e;dsimp only at this;omega)]
   exact hc j x hx
theorem one_mask {W:World} {r:Option Nat} {g:Nat} {cs:Array Value} {t:F} (hB:Blk W g 39 cs) (hr:RepL (maskW W r) W.heap.size cs.toList t.cells) (hne:r ≠ some g):Rep (maskW W r) W.heap.size (.slice (some ⟨g,0,none⟩) 1 1) (.s 4 ([t].flatMap F.cells)):=by
 have he:[t].flatMap F.cells = t.cells:=by simp
 rw [he];refine Rep.mk (by rw [F.cells_length]) (Nat.le_refl _) hB.lt hr (fun j u hu => ?_)
 rw [mask_other hne,Nat.zero_add,hB.cell j,← hu,Array.getElem?_toList]
theorem Rep.putObj {W:World} {B:Nat} {v:Value} {d:D} (h:Rep W B v d) {l:Nat} {o:Obj} (o':Obj) (hl:W.heap[l]? = some o) (ho:o.isCells = false):Rep (W.putObj l o') B v d :=
 h.mono (fun p u _ hc => by
  have hne:p.block ≠ l:=fun e => by
   obtain ⟨o2,h2,h3⟩:=cells_of_cell hc;rw [e,hl] at h2;cases h2
   rw [ho] at h3;cases h3
  rw [World.cell?_of_block (World.putObj_heap_other hne)]
  exact hc) (Nat.le_refl _)
theorem OwnL.src {w:World} {base:Nat} {v:Value} {l:List F} (h:OwnL w base 39 4 v (l.flatMap F.cells)):∃ A c,v = .slice A l.length c ∧ l.length ≤ c:=by
 have hfl:=flat_length (l:=l) (f:=F.cells) (k:=4) (fun x _ => x.cells_length)
 obtain ⟨n,xs,⟨h1,h2⟩,h3⟩:=h;have:=h3.1;obtain rfl:n = l.length:=by omega
 rcases h2 with ⟨rfl,hn⟩ | ⟨g,cap,cur,rfl,_,_,hc,_⟩
 ·rw [hn]
  exact ⟨_,_,rfl,Nat.le_refl _⟩
 ·exact ⟨_,_,rfl,hc⟩
theorem OwnL.lt {w:World} {base:Nat} {e:TypeId} {sz:Nat} {v:Value} {ds:List D} (h:OwnL w base e sz v ds):∀ k,v.ownBlock = some k → base ≤ k ∧ k < w.heap.size:=by
 obtain ⟨n,xs,h,_⟩:=h;exact fun k hk => h.lt k hk
theorem OwnL.rep {w:World} {base:Nat} {e:TypeId} {sz:Nat} {v:Value} {ds:List D} (h:OwnL w base e sz v ds):Rep w w.heap.size v (.s sz ds):=by
 obtain ⟨n,xs,h1,h2⟩:=h;refine Rep.of_own h1 (h2.mono (fun p u hp hu => ?_) (Nat.le_refl _)) (Nat.le_refl _)
 by_cases hne:v.ownBlock = some p.block
 ·rw [hne,mask_none hp rfl] at hu
  cases hu
 ·rw [← mask_other hne]
  exact hu
theorem w64 {n:Int} (h0:0 ≤ n) (h1:n ≤ 1000000):wrap64 n = n:=by
 unfold wrap64;omega
theorem alt_num (lo la tp:Nat) (h:lo + la * tp ≤ 64):∃ P:Nat,wrap64 ((la:Int) * (tp:Int)) = (P:Int) ∧ lo + P ≤ 64:=by
 refine ⟨la * tp,?_,h⟩
 rw [← Int.natCast_mul];generalize la * tp = p at *;exact w64 (by omega) (by omega)
def NormQ (Q:Exit → Act → World → Prop):Exit → Act → World → Prop:=fun e a w => Q e a w ∧ e = .normal
theorem drawn_norm {id:Nat} {ops:Array Oper} {b:Bool} {Q:Exit → Act → World → Prop} {a:Act} {w:World} (h:(Code.region id ops b).wp Tryz.prog (NormQ Q) a w):(Code.region id ops b).wp Tryz.prog Q a w:=wp_mono h (fun _ _ _ h => h.1)
theorem grownBy_setCell (W:World) (p:Addr) (v:Value):W.grownBy (W.setCell p v) (some p.block) :=
 ⟨rfl,rfl,rfl,(KeepsWalks.setCell W _ v).size,fun k _ hk => Below.heap_setCell _ _ _ k (fun e => hk (by rw [e]))⟩
theorem OwnR.cell {w0 W:World} {B base:Nat} {v:Value} {ds:List D} (h:OwnR w0 B W base v ds) (p:Addr) (hne:v.ownBlock ≠ some p.block) (u:Value):OwnR w0 B (W.setCell p u) base v ds:=by
 obtain ⟨n,xs,h1,h2⟩:=h;refine ⟨n,xs,h1.kept (grownBy_setCell W p u) ?_,h2⟩
 rcases h1.2 with ⟨e,_⟩ | ⟨k,c,cur,e,_⟩
 ·subst e;exact .inl rfl
 ·exact .inr hne
theorem OwnR.far4 {w0 W:World} {B base:Nat} {v:Value} {ds:List D} (h:OwnR w0 B W base v ds) {g:Nat} (hne:v.ownBlock ≠ some g) (a b c d:Value):OwnR w0 B (st4 W g a b c d) base v ds :=
 (((h.cell ⟨g,0,none⟩ hne a).cell ⟨g,1,none⟩ hne b).cell ⟨g,2,none⟩ hne c).cell ⟨g,3,none⟩ hne d
theorem concat2 (w0:World) (B:Nat) (l m p:List F) (hp:p = l ++ m) (g:Nat) (W:World) (u v:Value) (hb:Blk W g 32 #[u,v]) (h1:SrcR w0 B W u (l.flatMap F.cells)) (h2:SrcR w0 B W v (m.flatMap F.cells)) (hl:p.length ≤ 1000) :
  Calls Tryz.prog 205 #[.slice (some ⟨g,0,none⟩) 2 2] W fun e w' => ∃ u,e = .returned u ∧ OwnR w0 B w' W.heap.size u (p.flatMap F.cells) ∧ Below W.heap.size W w':=by
 subst hp
 have:=concat_any w0 B [l,m] g W hb.lt (fun k hk => by
  match k,hk with
  | 0,_ => exact ⟨u,hb.cell 0,h1⟩
  | 1,_ => exact ⟨v,hb.cell 1,h2⟩) (by simp at hl ⊢;omega) (by simp)
 have e:[l,m].flatten = l ++ m:=by simp
 rw [e] at this;exact this
theorem okAnd_len {a b:F} (h:OkF (andF a b)):(a.parts ++ b.parts).length ≤ 96:=by
 have h1:=kids_le (andF a b).kids;have h2:=(andF a b).nodes_length;rw [(andF a b).nodes_eq,List.length_cons,nodes_flat_length] at h2;have h3:=h.1
 show (andF a b).kids.length ≤ 96
 omega
theorem wp_store4 {W:World} {g:Nat} {p0 p1 p2 p3:Value} (h:Blk W g 39 #[p0,p1,p2,p3]) {o:Oper} {a:Act} {K:Act → World → Prop} {Q:Exit → Act → World → Prop} (p v:Operand) (ho:o.op = .store 39 p v)
  (hp:a.eval p = .pointer (some ⟨g,0,none⟩)) {x y:Int} {A1 A2:Option Addr} {n1 c1 n2 c2:Nat} (hv:a.eval v = .agg #[.int .i64 x,.int .i64 y,.slice A1 n1 c1,.slice A2 n2 c2]) (hK:K (a.put o.dst undef) (st4 W g (.int .i64 x) (.int .i64 y) (.slice A1 n1 c1) (.slice A2 n2 c2))) (hd:o.dst = none):o.wp Tryz.prog a W K Q:=by
 have hc:=h.c4;have hf:=h.f4;unfold Oper.wp;rw [hd] at hK;unfold st4 at hK;simp only [execOp,ho,hp,hv];go_simp;exact hK
theorem and_done {w0 w1 W:World} {ga gb gf n c:Nat} {A:Option Addr} {l:List F} {ca cb:Array Value} (hX:Blk W ga 39 ca) (hY:Blk W gb 39 cb) (hB:Below w1.heap.size w1 W) (f:Blk W gf 39 #[.int .i64 0,.int .i64 0,.slice none 0 0,.slice none 0 0]) (hge:w1.heap.size ≤ gf) (ha:ga < w1.heap.size) (hb:gb < w1.heap.size)
  (ho:OwnR w0 w0.heap.size W w1.heap.size (.slice A n c) (l.flatMap F.cells)) (hne:(Value.slice A n c).ownBlock ≠ some gf) :
  (Blk (st4 W gf (.int .i64 4) (.int .i64 0) (.slice none 0 0) (.slice A n c)) ga 39 ca ∧ Blk (st4 W gf (.int .i64 4) (.int .i64 0) (.slice none 0 0) (.slice A n c)) gb 39 cb ∧ Below w1.heap.size w1 (st4 W gf (.int .i64 4) (.int .i64 0) (.slice none 0 0) (.slice A n c))) ∧
  Blk (st4 W gf (.int .i64 4) (.int .i64 0) (.slice none 0 0) (.slice A n c)) gf 39 #[.int .i64 4,.int .i64 0,.slice none 0 0,.slice A n c] ∧ OwnR w0 w0.heap.size (st4 W gf (.int .i64 4) (.int .i64 0) (.slice none 0 0) (.slice A n c)) w1.heap.size (.slice A n c) (l.flatMap F.cells) :=
 ⟨⟨hX.far4 (by omega) _ _ _ _,hY.far4 (by omega) _ _ _ _,below_set4 hB hge _ _ _ _⟩,f.set4 _ _ _ _,ho.far4 hne _ _ _ _⟩
def ANode (w0:World) (B:Nat) (W:World) (base:Nat) (a b c d:Value) (f:F):Prop :=
 RepL w0 B [a,b,c,d] f.cells ∨ (a = .int .i64 4 ∧ b = .int .i64 0 ∧ c = .slice none 0 0 ∧ f.op = 4 ∧ f.n = 0 ∧ f.ins = [] ∧ (∀ g,d.ownBlock = some g → base ≤ g ∧ g < W.heap.size) ∧ SrcR w0 B W d (f.kids.flatMap F.cells))
theorem ANode.below {w0 W W':World} {B base:Nat} {a b c d:Value} {f:F} (h:ANode w0 B W base a b c d f) (hb:Below W.heap.size W W'):ANode w0 B W' base a b c d f:=by
 rcases h with h | ⟨h1,h2,h3,h4,h5,h6,h7,h8⟩
 ·exact .inl h
 ·exact .inr ⟨h1,h2,h3,h4,h5,h6,fun g hg => ⟨(h7 g hg).1,Nat.lt_of_lt_of_le (h7 g hg).2 hb.size⟩,h8.below hb⟩
theorem ANode.grown {w0 W W':World} {B base:Nat} {a b c d:Value} {f:F} {row:Option Nat} (h:ANode w0 B W base a b c d f) (hg:W.grownBy W' row) (hne:∀ g,row = some g → d.ownBlock ≠ some g):ANode w0 B W' base a b c d f:=by
 rcases h with h | ⟨h1,h2,h3,h4,h5,h6,h7,h8⟩
 ·exact .inl h
 ·exact .inr ⟨h1,h2,h3,h4,h5,h6,fun g hgd => ⟨(h7 g hgd).1,Nat.lt_of_lt_of_le (h7 g hgd).2 hg.size⟩,h8.grown hg hne⟩
theorem ANode.mono {w0 W:World} {B base base':Nat} {a b c d:Value} {f:F} (h:ANode w0 B W base a b c d f) (hb:base' ≤ base):ANode w0 B W base' a b c d f:=by
 rcases h with h | ⟨h1,h2,h3,h4,h5,h6,h7,h8⟩
 ·exact .inl h
 ·exact .inr ⟨h1,h2,h3,h4,h5,h6,fun g hg => ⟨Nat.le_trans hb (h7 g hg).1,(h7 g hg).2⟩,h8⟩
theorem ANode.at {w0 w1 W:World} {B base:Nat} {a b c d:Value} {f:F} (h:ANode w1 B W base a b c d f) (hk:∀ p:Addr,p.block < B → w0.cell? p = w1.cell? p):ANode w0 B W base a b c d f:=by
 rcases h with h | ⟨h1,h2,h3,h4,h5,h6,h7,h8⟩
 ·exact .inl (h.keep hk (Nat.le_refl _))
 ·refine .inr ⟨h1,h2,h3,h4,h5,h6,h7,?_⟩
  rcases h8 with h | ⟨b,o,k,c,cs,e,hk1,hlt,hl,hr,hc⟩
  ·exact .inl h
  ·exact .inr ⟨b,o,k,c,cs,e,hk1,hlt,hl,hr.keep hk (Nat.le_refl _),hc⟩
theorem ANode.form {w0 W:World} {B base:Nat} {a b c d:Value} {f:F} (h:ANode w0 B W base a b c d f):∃ A1 n1 q1 A2 n2 q2,a = .int .i64 f.op ∧ b = .int .i64 f.n ∧ c = .slice A1 n1 q1 ∧ d = .slice A2 n2 q2:=by
 rcases h with h | ⟨rfl,rfl,rfl,h4,h5,h6,h7,h8⟩
 ·exact node_form h
 ·obtain ⟨A,c,rfl,_⟩:=h8.slice
  exact ⟨_,_,_,_,_,_,by rw [h4],by rw [h5],rfl,rfl⟩
def ANodes (w0:World) (B:Nat) (W:World) (base:Nat) (r:Option Nat):List Value → List F → Prop
 | [],[] => True
 | a :: b :: c :: d :: xs,f :: l => (ANode w0 B W base a b c d f ∧ ∀ g,r = some g → d.ownBlock ≠ some g ∨ RepL w0 B [a,b,c,d] f.cells) ∧ ANodes w0 B W base r xs l
 | _,_ => False
theorem ANodes.step {w0 w1 W W':World} {B base base':Nat} {r r':Option Nat} (hA:∀ a b c d f,ANode w0 B W base a b c d f → (∀ g,r = some g → d.ownBlock ≠ some g ∨ RepL w0 B [a,b,c,d] f.cells) → ANode w1 B W' base' a b c d f ∧ ∀ g,r' = some g → d.ownBlock ≠ some g ∨ RepL w1 B [a,b,c,d] f.cells) :
  ∀ {xs:List Value} {l:List F},ANodes w0 B W base r xs l → ANodes w1 B W' base' r' xs l
 | [],[],_ => trivial
 | a :: b :: c :: d :: xs,f :: l,h => ⟨hA _ _ _ _ _ h.1.1 h.1.2,ANodes.step hA h.2⟩
 | [],_ :: _,h => h.elim
 | [_],_,h => by cases ‹List F› <;> exact h.elim
 | [_,_],_,h => by cases ‹List F› <;> exact h.elim
 | [_,_,_],_,h => by cases ‹List F› <;> exact h.elim
 | _ :: _ :: _ :: _ :: _,[],h => h.elim
theorem ANodes.app {w0 W:World} {B base:Nat} {r:Option Nat} {ys:List Value} {m:List F} (k:ANodes w0 B W base r ys m):∀ {xs:List Value} {l:List F},ANodes w0 B W base r xs l → ANodes w0 B W base r (xs ++ ys) (l ++ m)
 | [],[],_ => k
 | a :: b :: c :: d :: xs,f :: l,h => ⟨h.1,ANodes.app k h.2⟩
 | [],_ :: _,h => h.elim
 | [_],_,h => by cases ‹List F› <;> exact h.elim
 | [_,_],_,h => by cases ‹List F› <;> exact h.elim
 | [_,_,_],_,h => by cases ‹List F› <;> exact h.elim
 | _ :: _ :: _ :: _ :: _,[],h => h.elim
theorem ANodes.length {w0 W:World} {B base:Nat} {r:Option Nat}:∀ {xs:List Value} {l:List F},ANodes w0 B W base r xs l → xs.length = l.length * 4
 | [],[],_ => rfl
 | a :: b :: c :: d :: xs,f :: l,h => by
  have:=ANodes.length h.2;simp only [List.length_cons];omega
 | [],_ :: _,h => h.elim
 | [_],_,h => by cases ‹List F› <;> exact h.elim
 | [_,_],_,h => by cases ‹List F› <;> exact h.elim
 | [_,_,_],_,h => by cases ‹List F› <;> exact h.elim
 | _ :: _ :: _ :: _ :: _,[],h => h.elim
theorem ANodes.get {w0 W:World} {B base:Nat} {r:Option Nat}:∀ {xs:List Value} {l:List F},ANodes w0 B W base r xs l → ∀ (j:Nat) (hj:j < l.length),∃ a b c d,xs[j * 4]? = some a ∧ xs[j * 4 + 1]? = some b ∧ xs[j * 4 + 2]? = some c ∧ xs[j * 4 + 3]? = some d ∧ ANode w0 B W base a b c d l[j]
 | a :: b :: c :: d :: xs,f :: l,h,0,_ => ⟨a,b,c,d,rfl,rfl,rfl,rfl,h.1.1⟩
 | a :: b :: c :: d :: xs,f :: l,h,j + 1,hj => by
  obtain ⟨a',b',c',d',e1,e2,e3,e4,e5⟩:=ANodes.get h.2 j (by simpa using hj)
  refine ⟨a',b',c',d',?_,?_,?_,?_,by simpa using e5⟩
  ·rw [show (j + 1) * 4 = j * 4 + 4 from by omega];simpa using e1
  ·rw [show (j + 1) * 4 + 1 = j * 4 + 1 + 4 from by omega];simpa using e2
  ·rw [show (j + 1) * 4 + 2 = j * 4 + 2 + 4 from by omega];simpa using e3
  ·rw [show (j + 1) * 4 + 3 = j * 4 + 3 + 4 from by omega];simpa using e4
 | [],_ :: _,h,_,_ => h.elim
 | [_],_,h,_,_ => by cases ‹List F› <;> exact h.elim
 | [_,_],_,h,_,_ => by cases ‹List F› <;> exact h.elim
 | [_,_,_],_,h,_,_ => by cases ‹List F› <;> exact h.elim
 | _ :: _ :: _ :: _ :: _,[],h,_,_ => h.elim
theorem ANodes.of_rep {w0 W:World} {B base:Nat} {r:Option Nat}:∀ {l:List F} {xs:List Value},RepL w0 B xs (l.flatMap F.cells) → ANodes w0 B W base r xs l
 | [],xs,h => by
  have:=h.inv_nil;subst this;trivial
 | f :: l,xs,h => by
  rw [List.flatMap_cons] at h;have h4:=h.take 4;have hd:=h.drop 4;rw [List.take_left' f.cells_length] at h4;rw [List.drop_left' f.cells_length] at hd;have hl:=h.1;rw [List.length_append,F.cells_length] at hl
  match xs,hl,h4,hd with
  | a :: b :: c :: d :: xs,_,h4,hd => exact ⟨⟨.inl h4,fun _ _ => .inr h4⟩,ANodes.of_rep hd⟩
  | [],hl,_,_ => exact absurd hl (by rw [List.length_nil];omega)
  | [_],hl,_,_ => exact absurd hl (by simp only [List.length_cons,List.length_nil];omega)
  | [_,_],hl,_,_ => exact absurd hl (by simp only [List.length_cons,List.length_nil];omega)
  | [_,_,_],hl,_,_ => exact absurd hl (by simp only [List.length_cons,List.length_nil];omega)
def OwnA (w0:World) (B:Nat) (W:World) (base:Nat) (v:Value) (l:List F):Prop:=∃ n xs,W.ownsRow base 39 4 v n xs ∧ ANodes w0 B W base v.ownBlock xs l
theorem OwnA.nil (w0:World) (B:Nat) (W:World) (base:Nat):OwnA w0 B W base (.slice none 0 0) []:=⟨0,[],World.ownsRow_nil _ _ _ _,trivial⟩
theorem OwnA.lt {w0 W:World} {B base:Nat} {v:Value} {l:List F} (h:OwnA w0 B W base v l):∀ k,v.ownBlock = some k → base ≤ k ∧ k < W.heap.size:=by
 obtain ⟨n,xs,h,_⟩:=h;exact fun k hk => h.lt k hk
theorem OwnA.slice {w0 W:World} {B base:Nat} {v:Value} {l:List F} (h:OwnA w0 B W base v l):∃ A c,v = .slice A l.length c ∧ l.length ≤ c:=by
 obtain ⟨n,xs,⟨h1,h2⟩,h3⟩:=h;have:=h3.length;obtain rfl:n = l.length:=by omega
 rcases h2 with ⟨rfl,hn⟩ | ⟨g,cap,cur,rfl,_,_,hc,_⟩
 ·rw [hn]
  exact ⟨_,_,rfl,Nat.le_refl _⟩
 ·exact ⟨_,_,rfl,hc⟩
theorem OwnA.below {w0 W W':World} {B base:Nat} {v:Value} {l:List F} (h:OwnA w0 B W base v l) (hb:Below W.heap.size W W'):OwnA w0 B W' base v l:=by
 obtain ⟨n,xs,h1,h2⟩:=h;have hg:W.grownBy W' none:=⟨hb.os,hb.tape,hb.output,hb.size,fun i hi _ => hb.block i hi⟩
 refine ⟨n,xs,h1.kept hg ?_,h2.step (fun a b c d f h hr => ⟨h.below hb,hr⟩)⟩
 rcases h1.2 with ⟨e,_⟩ | ⟨k,c,cur,e,_⟩
 ·subst e;exact .inl rfl
 ·subst e;exact .inr (by simp [Value.ownBlock])
theorem OwnA.of_ownR {w0 W:World} {B base:Nat} {v:Value} {l:List F} (h:OwnR w0 B W base v (l.flatMap F.cells)):OwnA w0 B W base v l:=by
 obtain ⟨n,xs,h1,h2⟩:=h;exact ⟨n,xs,h1,ANodes.of_rep h2⟩
theorem OwnA.at {w0 w1 W:World} {B base:Nat} {v:Value} {l:List F} (h:OwnA w1 B W base v l) (hk:∀ p:Addr,p.block < B → w0.cell? p = w1.cell? p):OwnA w0 B W base v l:=by
 obtain ⟨n,xs,h1,h2⟩:=h;exact ⟨n,xs,h1,h2.step (fun a b c d f h hr => ⟨h.at hk,fun g hg => (hr g hg).elim .inl (fun h => .inr (h.keep hk (Nat.le_refl _)))⟩)⟩
theorem run_app1 {w0:World} {B:Nat} (w:World) (ty:TypeId) (base:Nat) (v:Value) (l:List F) (hown:OwnA w0 B w base v l) (g:Nat) {kv:Value} {f:F} (hz:Blk w g 39 #[.int .i64 4,.int .i64 0,.slice none 0 0,kv]) (hf:ANode w0 B w base (.int .i64 4) (.int .i64 0) (.slice none 0 0) kv f)
  (hne:∀ i,v.ownBlock = some i → kv.ownBlock ≠ some i) (hk1:∃ A n c,kv = .slice A n c) (hkv:∀ i,kv.ownBlock = some i → i < w.heap.size) (hl:l.length + 1 ≤ 1000000) (hbase:base ≤ w.heap.size) :
  ∃ v' w',(Builtin.append_ #[32,32] ty #[v,.slice (some ⟨g,0,none⟩) 1 1]).run Tryz.prog w = .ok v' w' ∧ OwnA w0 B w' base v' (l ++ [f]) ∧ w.grownBy w' v.ownBlock ∧ (v'.ownBlock = v.ownBlock ∨ v'.ownBlock = some w.heap.size):=by
 obtain ⟨n,xs,h1,h2⟩:=hown;obtain ⟨i0,hi,hz0,hz1,hz2⟩:=info_parts Tryz.info39;have hxl:=h2.length;have h11:=h1.1;obtain rfl:n = l.length:=by omega
 obtain ⟨Ak,nk,ck,rfl⟩:=hk1
 obtain ⟨v',w',q1,q2,q3,_,q5⟩:=run_append_own_at (P:=Tryz.prog) w base 32 ty 39 i0 _ 4 64 Tryz.underlying32 hi hz0 hz1 hz2 rfl (by decide) v _ _ h1 ⟨g,0,none⟩ 1 1 [.int .i64 4,.int .i64 0,.slice none 0 0,.slice Ak nk ck] rfl
  (fun j u hu => by
   rw [Addr.add_lit,Nat.zero_add,hz.cell j,← hu]
   simp) (fun u hu => by
    simp only [List.mem_cons,List.not_mem_nil,or_false] at hu;rcases hu with rfl | rfl | rfl | rfl <;> rfl) (by unfold maxLen;omega) (by omega) hbase
 have hrow:∀ (d:Value) (h0:∀ i,v.ownBlock = some i → d.ownBlock ≠ some i) (h3:∀ i,d.ownBlock = some i → i < w.heap.size),∀ i,v'.ownBlock = some i → d.ownBlock ≠ some i:=fun d h0 h3 i hi' e => by
  rcases q5 with h | h
  ·exact h0 i (h ▸ hi') e
  ·rw [h] at hi'
   cases hi'
   exact absurd (h3 _ e) (Nat.lt_irrefl _)
 have step:∀ a b c d f,ANode w0 B w base a b c d f → (∀ g,v.ownBlock = some g → d.ownBlock ≠ some g ∨ RepL w0 B [a,b,c,d] f.cells) → ANode w0 B w' base a b c d f ∧ ∀ g,v'.ownBlock = some g → d.ownBlock ≠ some g ∨ RepL w0 B [a,b,c,d] f.cells:=fun a b c d f h hr => by
  by_cases hrep:RepL w0 B [a,b,c,d] f.cells
  ·exact ⟨.inl hrep,fun _ _ => .inr hrep⟩
  ·have h0:∀ i,v.ownBlock = some i → d.ownBlock ≠ some i:=fun i hi' => (hr i hi').resolve_right hrep
   have h3:∀ i,d.ownBlock = some i → i < w.heap.size:=by
    rcases h with h | h
    ·exact absurd h hrep
    ·exact fun i hi' => (h.2.2.2.2.2.2.1 i hi').2
   exact ⟨h.grown q3 h0,fun i hi' => .inl (hrow d h0 h3 i hi')⟩
 refine ⟨v',w',q1,⟨_,_,q2,ANodes.app ?_ (h2.step step)⟩,q3,q5⟩
 exact ⟨step _ _ _ _ _ hf (fun i hi' => .inl (hne i hi')),trivial⟩
theorem wpList_app1 {w0:World} {B:Nat} {w:World} {ops:Array Oper} {rest:List Oper} {o:Oper} {a:Act} {Q:Exit → Act → World → Prop} (hgd:o.guard = none) (s x:Operand)
  (ho:o.op = .call { callee:=.builtin .append,args:=#[s,x],argTypes:=#[32,32] })
  (base:Nat) (v:Value) (l:List F) (hs:a.eval s = v) (hown:OwnA w0 B w base v l) (g:Nat) {kv:Value} {f:F} (hx:a.eval x = .slice (some ⟨g,0,none⟩) 1 1) (hz:Blk w g 39 #[.int .i64 4,.int .i64 0,.slice none 0 0,kv]) (hf:ANode w0 B w base (.int .i64 4) (.int .i64 0) (.slice none 0 0) kv f)
  (hne:∀ i,v.ownBlock = some i → kv.ownBlock ≠ some i) (hk1:∃ A n c,kv = .slice A n c) (hkv:∀ i,kv.ownBlock = some i → i < w.heap.size) (hl:l.length + 1 ≤ 1000000) (hbase:base ≤ w.heap.size)
  (h:∀ v' w',OwnA w0 B w' base v' (l ++ [f]) → w.grownBy w' v.ownBlock → (v'.ownBlock = v.ownBlock ∨ v'.ownBlock = some w.heap.size) → wpList Tryz.prog ops Q rest (a.put o.dst v') w'):wpList Tryz.prog ops Q (o :: rest) a w :=
 wpList_plain hgd fun _ hK =>
  let ⟨v',w',hrun,h2,h3,h4⟩:=run_app1 w o.type base v l hown g hz hf hne hk1 hkv hl hbase
  wp_app_run s x 32 v _ v' ho hs hx hrun (hK _ _ (h v' w' h2 h3 h4))
theorem OwnA.nodes {w0 W:World} {B base:Nat} {u:Value} {l:List F} (h:OwnA w0 B W base u l):∃ (A:Option Addr) (cap:Nat),u = .slice A l.length cap ∧ l.length ≤ cap ∧
  ∀ (k:Nat) (hk:k < l.length),∃ (g:Nat) (a b c d:Value),A = some ⟨g,0,none⟩ ∧ base ≤ g ∧ g < W.heap.size ∧ W.cell? ⟨g,0 + k * 4,none⟩ = some a ∧ W.cell? ⟨g,0 + k * 4 + 1,none⟩ = some b ∧ W.cell? ⟨g,0 + k * 4 + 2,none⟩ = some c ∧ W.cell? ⟨g,0 + k * 4 + 3,none⟩ = some d ∧ ANode w0 B W base a b c d l[k]:=by
 obtain ⟨n,xs,h1,h2⟩:=h;have hxl:=h2.length;have h11:=h1.1;obtain rfl:n = l.length:=by omega
 rcases h1.2 with ⟨rfl,hn⟩ | ⟨g,cap,cur,rfl,hg,hb,hc,hcap,hcs,hx⟩
 ·exact ⟨none,0,by rw [hn],by omega,fun k hk => by omega⟩
 ·refine ⟨_,cap,rfl,hc,fun k hk => ?_⟩
  obtain ⟨a,b,c,d,e1,e2,e3,e4,e5⟩:=h2.get k hk;have hlt:=(h1.lt g rfl).2
  have hcell:∀ j u,xs[j]? = some u → W.cell? ⟨g,j,none⟩ = some u:=fun j u hu => by
   have hj:j < xs.length:=by
    rcases Nat.lt_or_ge j xs.length with h | h
    ·exact h
    ·rw [List.getElem?_eq_none h] at hu;cases hu
   rw [h1.cellAt j (by rw [← h1.1];exact hj),hu]
  rw [Nat.zero_add];exact ⟨g,a,b,c,d,rfl,hg,hlt,hcell _ _ e1,hcell _ _ e2,hcell _ _ e3,hcell _ _ e4,e5⟩
theorem refparts_alt {w0 w:World} {B base:Nat} {a b c d:Value} {f:F} (h:ANode w0 B w base a b c d f) (hb:Below B w0 w) (hBw:B ≤ w.heap.size) :
  Calls Tryz.prog 219 #[.agg #[a,b,c,d]] w fun e w' => ∃ u,e = .returned u ∧ SrcR w0 B w' u (f.parts.flatMap F.cells) ∧ Below w.heap.size w w':=by
 rcases h with h | ⟨rfl,rfl,rfl,h4,h5,h6,h7,h8⟩
 ·exact refparts_src w0 B ⟨a,b,c,d,f,h⟩ w hb hBw
 ·have P0:=below_new w (.cells #[.int .i64 4,.int .i64 0,.slice none 0 0,d] 39)
  have hR:=Lib.hid (h8.below P0);unfold F.parts;rw [if_pos h4];obtain ⟨Ad,cd,rfl,_⟩:=h8.slice;clear h8 hb h7;go_enter Tryz.func219,Tryz.ntmps219
  go_wp2_with fail;go_ret;exact ⟨_,rfl,hR.out,P0⟩
theorem and_doneR {w0 wa W:World} {B gf n c:Nat} {A:Option Addr} {ds:List D} (hB:Below wa.heap.size wa W) (f:Blk W gf 39 #[.int .i64 0,.int .i64 0,.slice none 0 0,.slice none 0 0]) (hge:wa.heap.size ≤ gf)
  (ho:OwnR w0 B W wa.heap.size (.slice A n c) ds) (hne:(Value.slice A n c).ownBlock ≠ some gf) :
  Blk (st4 W gf (.int .i64 4) (.int .i64 0) (.slice none 0 0) (.slice A n c)) gf 39 #[.int .i64 4,.int .i64 0,.slice none 0 0,.slice A n c] ∧ OwnR w0 B (st4 W gf (.int .i64 4) (.int .i64 0) (.slice none 0 0) (.slice A n c)) wa.heap.size (.slice A n c) ds ∧
  Below wa.heap.size wa (st4 W gf (.int .i64 4) (.int .i64 0) (.slice none 0 0) (.slice A n c)) :=
 ⟨f.set4 _ _ _ _,ho.far4 hne _ _ _ _,below_set4 hB hge _ _ _ _⟩
end Go.Proofs.YtbeaijjaecaidaaGreatDoor
