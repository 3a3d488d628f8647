/- The alternatives of a claim in the reference: the rows that they lie in. -/
import Derived.Test.YtbeaijjaecaidaaGreatDoorE07
import Derived.Test.YtbeaijjaecaidaaGreatDoorE01
namespace Go.Proofs.YtbeaijjaecaidaaGreatDoor
open Go.RowKit Go.Shelf
attribute [local go_sem] Oper.semAt_some
def ANode (w0 : World) (B : Nat) (W : World) (base : Nat) (a b c d : Value) (f : F) : Prop :=
 RepL w0 B [a, b, c, d] f.cells ∨ (a = .int .i64 4 ∧ b = .int .i64 0 ∧ c = .slice none 0 0 ∧ f.op = 4 ∧ f.n = 0 ∧ f.ins = [] ∧ (∀ g, d.ownBlock = some g → base ≤ g ∧ g < W.heap.size) ∧ SrcR w0 B W d (f.kids.flatMap F.cells))
theorem ANode.below {w0 W W' : World} {B base : Nat} {a b c d : Value} {f : F} (h : ANode w0 B W base a b c d f) (hb : Below W.heap.size W W') : ANode w0 B W' base a b c d f := by
 rcases h with h | ⟨h1, h2, h3, h4, h5, h6, h7, h8⟩
 ·exact .inl h
 ·exact .inr ⟨h1, h2, h3, h4, h5, h6, fun g hg => ⟨(h7 g hg).1, Nat.lt_of_lt_of_le (h7 g hg).2 hb.size⟩, h8.below hb⟩
theorem ANode.grown {w0 W W' : World} {B base : Nat} {a b c d : Value} {f : F} {row : Option Nat} (h : ANode w0 B W base a b c d f) (hg : W.grownBy W' row) (hne : ∀ g, row = some g → d.ownBlock ≠ some g) : ANode w0 B W' base a b c d f := by
 rcases h with h | ⟨h1, h2, h3, h4, h5, h6, h7, h8⟩
 ·exact .inl h
 ·exact .inr ⟨h1, h2, h3, h4, h5, h6, fun g hgd => ⟨(h7 g hgd).1, Nat.lt_of_lt_of_le (h7 g hgd).2 hg.size⟩, h8.grown hg hne⟩
theorem ANode.mono {w0 W : World} {B base base' : Nat} {a b c d : Value} {f : F} (h : ANode w0 B W base a b c d f) (hb : base' ≤ base) : ANode w0 B W base' a b c d f := by
 rcases h with h | ⟨h1, h2, h3, h4, h5, h6, h7, h8⟩
 ·exact .inl h
 ·exact .inr ⟨h1, h2, h3, h4, h5, h6, fun g hg => ⟨Nat.le_trans hb (h7 g hg).1, (h7 g hg).2⟩, h8⟩
theorem ANode.at {w0 w1 W : World} {B base : Nat} {a b c d : Value} {f : F} (h : ANode w1 B W base a b c d f) (hk : ∀ p : Addr, p.block < B → w0.cell? p = w1.cell? p) : ANode w0 B W base a b c d f := by
 rcases h with h | ⟨h1, h2, h3, h4, h5, h6, h7, h8⟩
 ·exact .inl (h.keep hk (Nat.le_refl _))
 ·refine .inr ⟨h1, h2, h3, h4, h5, h6, h7, ?_⟩
  rcases h8 with h | ⟨b, o, k, c, cs, e, hk1, hlt, hl, hr, hc⟩
  ·exact .inl h
  ·exact .inr ⟨b, o, k, c, cs, e, hk1, hlt, hl, hr.keep hk (Nat.le_refl _), hc⟩
theorem ANode.form {w0 W : World} {B base : Nat} {a b c d : Value} {f : F} (h : ANode w0 B W base a b c d f) : ∃ A1 n1 q1 A2 n2 q2, a = .int .i64 f.op ∧ b = .int .i64 f.n ∧ c = .slice A1 n1 q1 ∧ d = .slice A2 n2 q2 := by
 rcases h with h | ⟨rfl, rfl, rfl, h4, h5, h6, h7, h8⟩
 ·exact node_form h
 ·obtain ⟨A, c, rfl, _⟩ := h8.slice
  exact ⟨_, _, _, _, _, _, by rw [h4], by rw [h5], rfl, rfl⟩
def ANodes (w0 : World) (B : Nat) (W : World) (base : Nat) (r : Option Nat) : List Value → List F → Prop
 | [], [] => True
 | a :: b :: c :: d :: xs, f :: l => (ANode w0 B W base a b c d f ∧ ∀ g, r = some g → d.ownBlock ≠ some g ∨ RepL w0 B [a, b, c, d] f.cells) ∧ ANodes w0 B W base r xs l
 | _, _ => False
theorem ANodes.step {w0 w1 W W' : World} {B base base' : Nat} {r r' : Option Nat} (hA : ∀ a b c d f, ANode w0 B W base a b c d f → (∀ g, r = some g → d.ownBlock ≠ some g ∨ RepL w0 B [a, b, c, d] f.cells) → ANode w1 B W' base' a b c d f ∧ ∀ g, r' = some g → d.ownBlock ≠ some g ∨ RepL w1 B [a, b, c, d] f.cells) :
  ∀ {xs : List Value} {l : List F}, ANodes w0 B W base r xs l → ANodes w1 B W' base' r' xs l
 | [], [], _ => trivial
 | a :: b :: c :: d :: xs, f :: l, h => ⟨hA _ _ _ _ _ h.1.1 h.1.2, ANodes.step hA h.2⟩
 | [], _ :: _, h => h.elim
 | [_], _, h => by cases ‹List F› <;> exact h.elim
 | [_, _], _, h => by cases ‹List F› <;> exact h.elim
 | [_, _, _], _, h => by cases ‹List F› <;> exact h.elim
 | _ :: _ :: _ :: _ :: _, [], h => h.elim
theorem ANodes.app {w0 W : World} {B base : Nat} {r : Option Nat} {ys : List Value} {m : List F} (k : ANodes w0 B W base r ys m) : ∀ {xs : List Value} {l : List F}, ANodes w0 B W base r xs l → ANodes w0 B W base r (xs ++ ys) (l ++ m)
 | [], [], _ => k
 | a :: b :: c :: d :: xs, f :: l, h => ⟨h.1, ANodes.app k h.2⟩
 | [], _ :: _, h => h.elim
 | [_], _, h => by cases ‹List F› <;> exact h.elim
 | [_, _], _, h => by cases ‹List F› <;> exact h.elim
 | [_, _, _], _, h => by cases ‹List F› <;> exact h.elim
 | _ :: _ :: _ :: _ :: _, [], h => h.elim
theorem ANodes.length {w0 W : World} {B base : Nat} {r : Option Nat} : ∀ {xs : List Value} {l : List F}, ANodes w0 B W base r xs l → xs.length = l.length * 4
 | [], [], _ => rfl
 | a :: b :: c :: d :: xs, f :: l, h => by
  have := ANodes.length h.2
  simp only [List.length_cons]
  omega
 | [], _ :: _, h => h.elim
 | [_], _, h => by cases ‹List F› <;> exact h.elim
 | [_, _], _, h => by cases ‹List F› <;> exact h.elim
 | [_, _, _], _, h => by cases ‹List F› <;> exact h.elim
 | _ :: _ :: _ :: _ :: _, [], h => h.elim
theorem ANodes.get {w0 W : World} {B base : Nat} {r : Option Nat} : ∀ {xs : List Value} {l : List F}, ANodes w0 B W base r xs l → ∀ (j : Nat) (hj : j < l.length), ∃ a b c d, xs[j * 4]? = some a ∧ xs[j * 4 + 1]? = some b ∧ xs[j * 4 + 2]? = some c ∧ xs[j * 4 + 3]? = some d ∧ ANode w0 B W base a b c d l[j]
 | a :: b :: c :: d :: xs, f :: l, h, 0, _ => ⟨a, b, c, d, rfl, rfl, rfl, rfl, h.1.1⟩
 | a :: b :: c :: d :: xs, f :: l, h, j + 1, hj => by
  obtain ⟨a', b', c', d', e1, e2, e3, e4, e5⟩ := ANodes.get h.2 j (by simpa using hj)
  refine ⟨a', b', c', d', ?_, ?_, ?_, ?_, by simpa using e5⟩
  ·rw [show (j + 1) * 4 = j * 4 + 4 from by omega]; simpa using e1
  ·rw [show (j + 1) * 4 + 1 = j * 4 + 1 + 4 from by omega]; simpa using e2
  ·rw [show (j + 1) * 4 + 2 = j * 4 + 2 + 4 from by omega]; simpa using e3
  ·rw [show (j + 1) * 4 + 3 = j * 4 + 3 + 4 from by omega]; simpa using e4
 | [], _ :: _, h, _, _ => h.elim
 | [_], _, h, _, _ => by cases ‹List F› <;> exact h.elim
 | [_, _], _, h, _, _ => by cases ‹List F› <;> exact h.elim
 | [_, _, _], _, h, _, _ => by cases ‹List F› <;> exact h.elim
 | _ :: _ :: _ :: _ :: _, [], h, _, _ => h.elim
theorem ANodes.of_rep {w0 W : World} {B base : Nat} {r : Option Nat} : ∀ {l : List F} {xs : List Value}, RepL w0 B xs (l.flatMap F.cells) → ANodes w0 B W base r xs l
 | [], xs, h => by
  have := h.inv_nil
  subst this
  trivial
 | f :: l, xs, h => by
  rw [List.flatMap_cons] at h
  have h4 := h.take 4
  have hd := h.drop 4
  rw [List.take_left' f.cells_length] at h4
  rw [List.drop_left' f.cells_length] at hd
  have hl := h.1
  rw [List.length_append, F.cells_length] at hl
  match xs, hl, h4, hd with
  | a :: b :: c :: d :: xs, _, h4, hd => exact ⟨⟨.inl h4, fun _ _ => .inr h4⟩, ANodes.of_rep hd⟩
  | [], hl, _, _ => exact absurd hl (by rw [List.length_nil]; omega)
  | [_], hl, _, _ => exact absurd hl (by simp only [List.length_cons, List.length_nil]; omega)
  | [_, _], hl, _, _ => exact absurd hl (by simp only [List.length_cons, List.length_nil]; omega)
  | [_, _, _], hl, _, _ => exact absurd hl (by simp only [List.length_cons, List.length_nil]; omega)
def OwnA (w0 : World) (B : Nat) (W : World) (base : Nat) (v : Value) (l : List F) : Prop := ∃ n xs, W.ownsRow base 39 4 v n xs ∧ ANodes w0 B W base v.ownBlock xs l
theorem OwnA.nil (w0 : World) (B : Nat) (W : World) (base : Nat) : OwnA w0 B W base (.slice none 0 0) [] := ⟨0, [], World.ownsRow_nil _ _ _ _, trivial⟩
theorem OwnA.lt {w0 W : World} {B base : Nat} {v : Value} {l : List F} (h : OwnA w0 B W base v l) : ∀ k, v.ownBlock = some k → base ≤ k ∧ k < W.heap.size := by
 obtain ⟨n, xs, h, _⟩ := h
 exact fun k hk => h.lt k hk
theorem OwnA.slice {w0 W : World} {B base : Nat} {v : Value} {l : List F} (h : OwnA w0 B W base v l) : ∃ A c, v = .slice A l.length c ∧ l.length ≤ c := by
 obtain ⟨n, xs, ⟨h1, h2⟩, h3⟩ := h
 have := h3.length
 obtain rfl : n = l.length := by omega
 rcases h2 with ⟨rfl, hn⟩ | ⟨g, cap, cur, rfl, _, _, hc, _⟩
 ·rw [hn]
  exact ⟨_, _, rfl, Nat.le_refl _⟩
 ·exact ⟨_, _, rfl, hc⟩
theorem OwnA.below {w0 W W' : World} {B base : Nat} {v : Value} {l : List F} (h : OwnA w0 B W base v l) (hb : Below W.heap.size W W') : OwnA w0 B W' base v l := by
 obtain ⟨n, xs, h1, h2⟩ := h
 have hg : W.grownBy W' none := ⟨hb.os, hb.tape, hb.output, hb.size, fun i hi _ => hb.block i hi⟩
 refine ⟨n, xs, h1.kept hg ?_, h2.step (fun a b c d f h hr => ⟨h.below hb, hr⟩)⟩
 rcases h1.2 with ⟨e, _⟩ | ⟨k, c, cur, e, _⟩
 ·subst e; exact .inl rfl
 ·subst e; exact .inr (by simp [Value.ownBlock])
theorem OwnA.of_ownR {w0 W : World} {B base : Nat} {v : Value} {l : List F} (h : OwnR w0 B W base v (l.flatMap F.cells)) : OwnA w0 B W base v l := by
 obtain ⟨n, xs, h1, h2⟩ := h
 exact ⟨n, xs, h1, ANodes.of_rep h2⟩
theorem OwnA.at {w0 w1 W : World} {B base : Nat} {v : Value} {l : List F} (h : OwnA w1 B W base v l) (hk : ∀ p : Addr, p.block < B → w0.cell? p = w1.cell? p) : OwnA w0 B W base v l := by
 obtain ⟨n, xs, h1, h2⟩ := h
 exact ⟨n, xs, h1, h2.step (fun a b c d f h hr => ⟨h.at hk, fun g hg => (hr g hg).elim .inl (fun h => .inr (h.keep hk (Nat.le_refl _)))⟩)⟩
theorem run_app1 {w0 : World} {B : Nat} (w : World) (ty : TypeId) (base : Nat) (v : Value) (l : List F) (hown : OwnA w0 B w base v l) (g : Nat) {kv : Value} {f : F} (hz : Blk w g 39 #[.int .i64 4, .int .i64 0, .slice none 0 0, kv]) (hf : ANode w0 B w base (.int .i64 4) (.int .i64 0) (.slice none 0 0) kv f)
  (hne : ∀ i, v.ownBlock = some i → kv.ownBlock ≠ some i) (hk1 : ∃ A n c, kv = .slice A n c) (hkv : ∀ i, kv.ownBlock = some i → i < w.heap.size) (hl : l.length + 1 ≤ 1000000) (hbase : base ≤ w.heap.size) :
  ∃ v' w', (Builtin.append_ #[32, 32] ty #[v, .slice (some ⟨g, 0, none⟩) 1 1]).run Tryz.prog w = .ok v' w' ∧ OwnA w0 B w' base v' (l ++ [f]) ∧ w.grownBy w' v.ownBlock ∧ (v'.ownBlock = v.ownBlock ∨ v'.ownBlock = some w.heap.size) := by
 obtain ⟨n, xs, h1, h2⟩ := hown
 obtain ⟨i0, hi, hz0, hz1, hz2⟩ := info_parts Tryz.info39
 have hxl := h2.length
 have h11 := h1.1
 obtain rfl : n = l.length := by omega
 obtain ⟨Ak, nk, ck, rfl⟩ := hk1
 obtain ⟨v', w', q1, q2, q3, _, q5⟩ := run_append_own_at (P := Tryz.prog) w base 32 ty 39 i0 _ 4 64 Tryz.underlying32 hi hz0 hz1 hz2 rfl (by decide) v _ _ h1 ⟨g, 0, none⟩ 1 1 [.int .i64 4, .int .i64 0, .slice none 0 0, .slice Ak nk ck] rfl
  (fun j u hu => by
   rw [Addr.add_lit, Nat.zero_add, hz.cell j, ← hu]
   simp) (fun u hu => by
    simp only [List.mem_cons, List.not_mem_nil, or_false] at hu
    rcases hu with rfl | rfl | rfl | rfl <;> rfl) (by unfold maxLen; omega) (by omega) hbase
 have hrow : ∀ (d : Value) (h0 : ∀ i, v.ownBlock = some i → d.ownBlock ≠ some i) (h3 : ∀ i, d.ownBlock = some i → i < w.heap.size), ∀ i, v'.ownBlock = some i → d.ownBlock ≠ some i := fun d h0 h3 i hi' e => by
  rcases q5 with h | h
  ·exact h0 i (h ▸ hi') e
  ·rw [h] at hi'
   cases hi'
   exact absurd (h3 _ e) (Nat.lt_irrefl _)
 have step : ∀ a b c d f, ANode w0 B w base a b c d f → (∀ g, v.ownBlock = some g → d.ownBlock ≠ some g ∨ RepL w0 B [a, b, c, d] f.cells) → ANode w0 B w' base a b c d f ∧ ∀ g, v'.ownBlock = some g → d.ownBlock ≠ some g ∨ RepL w0 B [a, b, c, d] f.cells := fun a b c d f h hr => by
  by_cases hrep : RepL w0 B [a, b, c, d] f.cells
  ·exact ⟨.inl hrep, fun _ _ => .inr hrep⟩
  ·have h0 : ∀ i, v.ownBlock = some i → d.ownBlock ≠ some i := fun i hi' => (hr i hi').resolve_right hrep
   have h3 : ∀ i, d.ownBlock = some i → i < w.heap.size := by
    rcases h with h | h
    ·exact absurd h hrep
    ·exact fun i hi' => (h.2.2.2.2.2.2.1 i hi').2
   exact ⟨h.grown q3 h0, fun i hi' => .inl (hrow d h0 h3 i hi')⟩
 refine ⟨v', w', q1, ⟨_, _, q2, ANodes.app ?_ (h2.step step)⟩, q3, q5⟩
 exact ⟨step _ _ _ _ _ hf (fun i hi' => .inl (hne i hi')), trivial⟩
theorem wpList_app1 {w0 : World} {B : Nat} {w : World} {ops : Array Oper} {rest : List Oper} {o : Oper} {a : Act} {Q : Exit → Act → World → Prop} (hgd : o.guard = none) (s x : Operand)
  (ho : o.op = .call { callee := .builtin .append, args := #[s, x], argTypes := #[32, 32] })
  (base : Nat) (v : Value) (l : List F) (hs : a.eval s = v) (hown : OwnA w0 B w base v l) (g : Nat) {kv : Value} {f : F} (hx : a.eval x = .slice (some ⟨g, 0, none⟩) 1 1) (hz : Blk w g 39 #[.int .i64 4, .int .i64 0, .slice none 0 0, kv]) (hf : ANode w0 B w base (.int .i64 4) (.int .i64 0) (.slice none 0 0) kv f)
  (hne : ∀ i, v.ownBlock = some i → kv.ownBlock ≠ some i) (hk1 : ∃ A n c, kv = .slice A n c) (hkv : ∀ i, kv.ownBlock = some i → i < w.heap.size) (hl : l.length + 1 ≤ 1000000) (hbase : base ≤ w.heap.size)
  (h : ∀ v' w', OwnA w0 B w' base v' (l ++ [f]) → w.grownBy w' v.ownBlock → (v'.ownBlock = v.ownBlock ∨ v'.ownBlock = some w.heap.size) → wpList Tryz.prog ops Q rest (a.put o.dst v') w') : wpList Tryz.prog ops Q (o :: rest) a w :=
 wpList_plain hgd fun _ hK =>
  let ⟨v', w', hrun, h2, h3, h4⟩ := run_app1 w o.type base v l hown g hz hf hne hk1 hkv hl hbase
  wp_app_run s x 32 v _ v' ho hs hx hrun (hK _ _ (h v' w' h2 h3 h4))
theorem OwnA.nodes {w0 W : World} {B base : Nat} {u : Value} {l : List F} (h : OwnA w0 B W base u l) : ∃ (A : Option Addr) (cap : Nat), u = .slice A l.length cap ∧ l.length ≤ cap ∧
  ∀ (k : Nat) (hk : k < l.length), ∃ (g : Nat) (a b c d : Value), A = some ⟨g, 0, none⟩ ∧ base ≤ g ∧ g < W.heap.size ∧ W.cell? ⟨g, 0 + k * 4, none⟩ = some a ∧ W.cell? ⟨g, 0 + k * 4 + 1, none⟩ = some b ∧ W.cell? ⟨g, 0 + k * 4 + 2, none⟩ = some c ∧ W.cell? ⟨g, 0 + k * 4 + 3, none⟩ = some d ∧ ANode w0 B W base a b c d l[k] := by
 obtain ⟨n, xs, h1, h2⟩ := h
 have hxl := h2.length
 have h11 := h1.1
 obtain rfl : n = l.length := by omega
 rcases h1.2 with ⟨rfl, hn⟩ | ⟨g, cap, cur, rfl, hg, hb, hc, hcap, hcs, hx⟩
 ·exact ⟨none, 0, by rw [hn], by omega, fun k hk => by omega⟩
 ·refine ⟨_, cap, rfl, hc, fun k hk => ?_⟩
  obtain ⟨a, b, c, d, e1, e2, e3, e4, e5⟩ := h2.get k hk
  have hlt := (h1.lt g rfl).2
  have hcell : ∀ j u, xs[j]? = some u → W.cell? ⟨g, j, none⟩ = some u := fun j u hu => by
   have hj : j < xs.length := by
    rcases Nat.lt_or_ge j xs.length with h | h
    ·exact h
    ·rw [List.getElem?_eq_none h] at hu; cases hu
   rw [h1.cellAt j (by rw [← h1.1]; exact hj), hu]
  rw [Nat.zero_add]
  exact ⟨g, a, b, c, d, rfl, hg, hlt, hcell _ _ e1, hcell _ _ e2, hcell _ _ e3, hcell _ _ e4, e5⟩
set_option maxRecDepth 100000 in
set_option maxHeartbeats 1000000 in
theorem refparts_alt {w0 w : World} {B base : Nat} {a b c d : Value} {f : F} (h : ANode w0 B w base a b c d f) (hb : Below B w0 w) (hBw : B ≤ w.heap.size) :
  Calls Tryz.prog 219 #[.agg #[a, b, c, d]] w fun e w' => ∃ u, e = .returned u ∧ SrcR w0 B w' u (f.parts.flatMap F.cells) ∧ Below w.heap.size w w' := by
 rcases h with h | ⟨rfl, rfl, rfl, h4, h5, h6, h7, h8⟩
 ·exact refparts_src w0 B ⟨a, b, c, d, f, h⟩ w hb hBw
 ·have P0 := below_new w (.cells #[.int .i64 4, .int .i64 0, .slice none 0 0, d] 39)
  have hR := Lib.hid (h8.below P0)
  unfold F.parts
  rw [if_pos h4]
  obtain ⟨Ad, cd, rfl, _⟩ := h8.slice
  clear h8 hb h7
  go_enter Tryz.func219, Tryz.ntmps219
  go_wp2_with fail
  go_ret
  exact ⟨_, rfl, hR.out, P0⟩
theorem and_doneR {w0 wa W : World} {B gf n c : Nat} {A : Option Addr} {ds : List D} (hB : Below wa.heap.size wa W) (f : Blk W gf 39 #[.int .i64 0, .int .i64 0, .slice none 0 0, .slice none 0 0]) (hge : wa.heap.size ≤ gf)
  (ho : OwnR w0 B W wa.heap.size (.slice A n c) ds) (hne : (Value.slice A n c).ownBlock ≠ some gf) :
  Blk (st4 W gf (.int .i64 4) (.int .i64 0) (.slice none 0 0) (.slice A n c)) gf 39 #[.int .i64 4, .int .i64 0, .slice none 0 0, .slice A n c] ∧ OwnR w0 B (st4 W gf (.int .i64 4) (.int .i64 0) (.slice none 0 0) (.slice A n c)) wa.heap.size (.slice A n c) ds ∧
  Below wa.heap.size wa (st4 W gf (.int .i64 4) (.int .i64 0) (.slice none 0 0) (.slice A n c)) :=
 ⟨f.set4 _ _ _ _, ho.far4 hne _ _ _ _, below_set4 hB hge _ _ _ _⟩
end Go.Proofs.YtbeaijjaecaidaaGreatDoor
