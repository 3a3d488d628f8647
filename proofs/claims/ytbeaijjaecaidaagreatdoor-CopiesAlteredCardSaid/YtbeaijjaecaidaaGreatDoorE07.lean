/- Rows of formulas whose elements lead to memory that stood ahead of the call. slices.Grow and slices.Concat over formulas. The tops of a formula, as the reference lists them; the parts of a text, in the program and in the reference. The parts of a formula that stood ahead: as a slice that one reads. The alternatives of claims, plain: what they are, and that those of generated claims are few and small. What a list of formulas that is kept in a box becomes when a formula is put behind it. What the loops of alternatives have made so far; and a formula that was just put together. -/
import Derived.Test.YtbeaijjaecaidaaGreatDoorE06
import Derived.Test.YtbeaijjaecaidaaGreatDoorE01
import Derived.Lib.AppendZerosOnto
import Derived.Lib.SliceRun
namespace Go.Proofs.YtbeaijjaecaidaaGreatDoor
open Go.RowKit Go.Shelf
attribute [local go_sem] Oper.semAt_some
def OwnR (w0 : World) (B : Nat) (w : World) (base : Nat) (v : Value) (ds : List D) : Prop := ∃ n xs, w.ownsRow base 39 4 v n xs ∧ RepL w0 B xs ds
def SrcR (w0 : World) (B : Nat) (w : World) (u : Value) (ds : List D) : Prop :=
 (u = .slice none 0 0 ∧ ds = []) ∨ ∃ b o k c cs, u = .slice (some ⟨b, o, none⟩) k c ∧ k ≤ c ∧ b < w.heap.size ∧ cs.length = k * 4 ∧ RepL w0 B cs ds ∧ ∀ (j : Nat) (x : Value), cs[j]? = some x → w.cell? ⟨b, o + j, none⟩ = some x
theorem OwnR.nil (w0 : World) (B : Nat) (w : World) (base : Nat) : OwnR w0 B w base (.slice none 0 0) [] := ⟨0, [], World.ownsRow_nil _ _ _ _, RepL.nil _ _⟩
theorem OwnR.lt {w0 w : World} {B base : Nat} {v : Value} {ds : List D} (h : OwnR w0 B w base v ds) : ∀ k, v.ownBlock = some k → base ≤ k := by
 obtain ⟨n, xs, h, _⟩ := h
 exact fun k hk => (h.lt k hk).1
theorem OwnR.low {w0 w : World} {B base : Nat} {v : Value} {ds : List D} (h : OwnR w0 B w base v ds) : ∀ k, v.ownBlock = some k → k < w.heap.size := by
 obtain ⟨n, xs, h, _⟩ := h
 exact fun k hk => (h.lt k hk).2
theorem OwnR.below {w0 w w' : World} {B base : Nat} {v : Value} {ds : List D} (h : OwnR w0 B w base v ds) (hb : Below w.heap.size w w') : OwnR w0 B w' base v ds := by
 obtain ⟨n, xs, h1, h2⟩ := h
 have hg : w.grownBy w' none := ⟨hb.os, hb.tape, hb.output, hb.size, fun i hi _ => hb.block i hi⟩
 refine ⟨n, xs, h1.kept hg ?_, h2⟩
 rcases h1.2 with ⟨e, _⟩ | ⟨k, c, cur, e, _⟩
 ·subst e; exact .inl rfl
 ·subst e; exact .inr (by simp [Value.ownBlock])
theorem OwnR.mono {w0 w : World} {B base base' : Nat} {v : Value} {ds : List D} (h : OwnR w0 B w base v ds) (hb : base' ≤ base) : OwnR w0 B w base' v ds := by
 obtain ⟨n, xs, ⟨h1, h2⟩, h3⟩ := h
 refine ⟨n, xs, ⟨h1, ?_⟩, h3⟩
 rcases h2 with h2 | ⟨g, cap, cur, e, hg, h4⟩
 ·exact .inl h2
 ·exact .inr ⟨g, cap, cur, e, Nat.le_trans hb hg, h4⟩
theorem OwnR.src {w0 w : World} {B base : Nat} {v : Value} {ds : List D} (h : OwnR w0 B w base v ds) : SrcR w0 B w v ds := by
 obtain ⟨n, xs, h1, h2⟩ := h
 rcases h1.2 with ⟨rfl, hn⟩ | ⟨g, cap, cur, rfl, hg, hb, hnc, hcap, hcur, hx⟩
 ·have hl := h1.1
  rw [hn, Nat.zero_mul] at hl
  exact .inl ⟨rfl, List.eq_nil_of_length_eq_zero (by rw [← h2.1]; exact hl)⟩
 ·refine .inr ⟨g, 0, n, cap, xs, rfl, hnc, (h1.lt g rfl).2, h1.1, h2, fun j u hu => ?_⟩
  have hj : j < xs.length := by
   rcases Nat.lt_or_ge j xs.length with h | h
   ·exact h
   ·rw [List.getElem?_eq_none h] at hu; cases hu
  rw [Nat.zero_add, h1.cellAt j (by rw [← h1.1]; exact hj), hu]
theorem SrcR.below {w0 w w' : World} {B : Nat} {u : Value} {ds : List D} (h : SrcR w0 B w u ds) (hb : Below w.heap.size w w') : SrcR w0 B w' u ds := by
 rcases h with h | ⟨b, o, k, c, cs, rfl, hk, hlt, hl, hr, hc⟩
 ·exact .inl h
 ·exact .inr ⟨b, o, k, c, cs, rfl, hk, Nat.lt_of_lt_of_le hlt hb.size, hl, hr, fun j x hx => (hb.cell (p := ⟨b, o + j, none⟩) hlt).trans (hc j x hx)⟩
theorem SrcR.grown {w0 w w' : World} {B : Nat} {u : Value} {ds : List D} {row : Option Nat} (h : SrcR w0 B w u ds) (hg : w.grownBy w' row) (hne : ∀ g, row = some g → u.ownBlock ≠ some g) : SrcR w0 B w' u ds := by
 rcases h with h | ⟨b, o, k, c, cs, rfl, hk, hlt, hl, hr, hc⟩
 ·exact .inl h
 ·exact .inr ⟨b, o, k, c, cs, rfl, hk, Nat.lt_of_lt_of_le hlt hg.size, hl, hr, fun j x hx => (World.cell?_of_block (hg.block b hlt (fun e => hne b e.symm rfl))).trans (hc j x hx)⟩
theorem Rep.src {w0 w : World} {B : Nat} {u : Value} {ds : List D} (h : Rep w0 B u (.s 4 ds)) (hb : Below B w0 w) (hB : B ≤ w.heap.size) : SrcR w0 B w u ds := by
 cases h with
 | nil => exact .inl ⟨rfl, rfl⟩
 | s hc hd hn hlt cells sub => exact .inr ⟨_, _, _, _, _, rfl, hn, Nat.lt_of_lt_of_le hlt hB, hc, ⟨hc.trans hd.symm, sub⟩, fun j x hx => (hb.cell (p := ⟨_, _, none⟩) hlt).trans (cells j x hx)⟩
theorem SrcR.slice {w0 w : World} {B : Nat} {u : Value} {m : List F} (h : SrcR w0 B w u (m.flatMap F.cells)) : ∃ A c, u = .slice A m.length c ∧ m.length ≤ c := by
 have hfl := flat_length (l := m) (f := F.cells) (k := 4) (fun x _ => x.cells_length)
 rcases h with ⟨rfl, h⟩ | ⟨b, o, k, c, cs, rfl, hk, hlt, hl, hr, hc⟩
 ·rw [h, List.length_nil] at hfl
  obtain rfl : m = [] := List.eq_nil_of_length_eq_zero (by omega)
  exact ⟨_, _, rfl, Nat.le_refl _⟩
 ·have := hr.1
  obtain rfl : k = m.length := by omega
  exact ⟨_, _, rfl, hk⟩
theorem SrcR.rep {w0 w : World} {B : Nat} {u : Value} {ds : List D} (h : SrcR w0 B w u ds) (hk : ∀ p : Addr, p.block < B → w.cell? p = w0.cell? p) (hB : B ≤ w.heap.size) : Rep w w.heap.size u (.s 4 ds) := by
 rcases h with ⟨rfl, rfl⟩ | ⟨b, o, k, c, cs, rfl, hkc, hlt, hl, hr, hc⟩
 ·exact .nil 4
 ·exact Rep.mk (by rw [← hr.1, hl]) hkc hlt (hr.keep hk hB) hc
theorem SrcR.nodes {w0 w : World} {B : Nat} {u : Value} {l : List F} (h : SrcR w0 B w u (l.flatMap F.cells)) : ∃ (A : Option Addr) (c : Nat), u = .slice A l.length c ∧ l.length ≤ c ∧
  ∀ (k : Nat) (hk : k < l.length), ∃ (b o : Nat) (y : FNode w0 B), A = some ⟨b, o, none⟩ ∧ b < w.heap.size ∧ y.t = l[k] ∧ w.cell? ⟨b, o + k * 4, none⟩ = some y.a ∧ w.cell? ⟨b, o + k * 4 + 1, none⟩ = some y.b ∧ w.cell? ⟨b, o + k * 4 + 2, none⟩ = some y.c ∧ w.cell? ⟨b, o + k * 4 + 3, none⟩ = some y.d := by
 have hfl := flat_length (l := l) (f := F.cells) (k := 4) (fun x _ => x.cells_length)
 rcases h with ⟨rfl, h⟩ | ⟨b, o, n, c, cs, rfl, hkc, hlt, hl, hr, hcell⟩
 ·rw [h, List.length_nil] at hfl
  obtain rfl : l = [] := List.eq_nil_of_length_eq_zero (by omega)
  exact ⟨none, 0, rfl, Nat.le_refl _, fun k hk => absurd hk (Nat.not_lt_zero k)⟩
 ·have h1 := hr.1
  obtain rfl : n = l.length := by omega
  refine ⟨_, c, rfl, hkc, fun k hk => ?_⟩
  have hp := flat_part (l := l) (f := F.cells) (k := 4) (i := k) (a := l[k]) (fun x _ => x.cells_length) (List.getElem?_eq_getElem hk)
  have hr2 := (hr.drop (k * 4)).take 4
  rw [hp] at hr2
  have g0 : k * 4 < cs.length := by omega
  have g1 : k * 4 + 1 < cs.length := by omega
  have g2 : k * 4 + 2 < cs.length := by omega
  have g3 : k * 4 + 3 < cs.length := by omega
  have e : (cs.drop (k * 4)).take 4 = [cs[k * 4], cs[k * 4 + 1], cs[k * 4 + 2], cs[k * 4 + 3]] := by
   rw [List.drop_eq_getElem_cons g0, List.drop_eq_getElem_cons g1, List.drop_eq_getElem_cons g2, List.drop_eq_getElem_cons g3]
   rfl
  rw [e] at hr2
  exact ⟨b, o, ⟨cs[k * 4], cs[k * 4 + 1], cs[k * 4 + 2], cs[k * 4 + 3], l[k], hr2⟩, rfl, hlt, rfl, hcell _ _ (List.getElem?_eq_getElem g0), hcell _ _ (List.getElem?_eq_getElem g1), hcell _ _ (List.getElem?_eq_getElem g2), hcell _ _ (List.getElem?_eq_getElem g3)⟩
theorem run_appR {w0 : World} {B : Nat} (w : World) (ty : TypeId) (base : Nat) (v : Value) (l : List F) (hown : OwnR w0 B w base v (l.flatMap F.cells)) (src : Value) (m : List F) (hr : SrcR w0 B w src (m.flatMap F.cells)) (hl : l.length + m.length ≤ 1000000) (hbase : base ≤ w.heap.size) :
  ∃ v' w', (Builtin.append_ #[32, 32] ty #[v, src]).run Tryz.prog w = .ok v' w' ∧ OwnR w0 B w' base v' ((l ++ m).flatMap F.cells) ∧ w.grownBy w' v.ownBlock ∧ (v'.ownBlock = v.ownBlock ∨ v'.ownBlock = some w.heap.size) := by
 obtain ⟨n, xs, h1, h2⟩ := hown
 obtain ⟨i0, hi, hz0, hz1, hz2⟩ := info_parts Tryz.info39
 have hfl := flat_length (l := l) (f := F.cells) (k := 4) (fun x _ => x.cells_length)
 have hfm := flat_length (l := m) (f := F.cells) (k := 4) (fun x _ => x.cells_length)
 have h21 := h2.1
 have hxl := h1.1
 obtain rfl : n = l.length := by omega
 rw [List.flatMap_append]
 rcases hr with ⟨rfl, h⟩ | ⟨b, o, k, c, cs, rfl, hkc, hlt, hcl, hcr, hcell⟩
 ·rw [h, List.append_nil]
  exact ⟨v, w, run_append_owned_none (P := Tryz.prog) (w := w) base 32 ty 39 i0 4 Tryz.underlying32 hi v _ _ h1, ⟨_, xs, h1, h2⟩, World.grownBy.refl w _, .inl rfl⟩
 ·have := hcr.1
  obtain rfl : k = m.length := by omega
  obtain ⟨v', w', q1, q2, q3, _, q5⟩ := run_append_own_at (P := Tryz.prog) w base 32 ty 39 i0 _ 4 64 Tryz.underlying32 hi hz0 hz1 hz2 rfl (by decide) v _ _ h1 ⟨b, o, none⟩ m.length c cs hcl
   (fun j u hu => by
    rw [Addr.add_lit]
    exact hcell j u hu) (cells_one hcr) (by unfold maxLen; omega) (by omega) hbase
  exact ⟨v', w', q1, ⟨_, _, q2, h2.append hcr⟩, q3, q5⟩
theorem wp_appR {w0 : World} {B : Nat} {w : World} {o : Oper} {a : Act} {K : Act → World → Prop} {Q : Exit → Act → World → Prop} (s x : Operand)
  (ho : o.op = .call { callee := .builtin .append, args := #[s, x], argTypes := #[32, 32] })
  (base : Nat) (v : Value) (l : List F) (hs : a.eval s = v) (hown : OwnR w0 B w base v (l.flatMap F.cells)) (src : Value) (m : List F) (hx : a.eval x = src) (hr : SrcR w0 B w src (m.flatMap F.cells)) (hl : l.length + m.length ≤ 1000000) (hbase : base ≤ w.heap.size)
  (h : ∀ v' w', OwnR w0 B w' base v' ((l ++ m).flatMap F.cells) → w.grownBy w' v.ownBlock → (v'.ownBlock = v.ownBlock ∨ v'.ownBlock = some w.heap.size) → K (a.put o.dst v') w') : o.wp Tryz.prog a w K Q :=
 let ⟨v', w', hrun, h2, h3, h4⟩ := run_appR w o.type base v l hown src m hr hl hbase
 wp_app_run s x 32 v src v' ho hs hx hrun (h v' w' h2 h3 h4)
theorem wpList_appR {w0 : World} {B : Nat} {w : World} {ops : Array Oper} {rest : List Oper} {o : Oper} {a : Act} {Q : Exit → Act → World → Prop} (hgd : o.guard = none) (s x : Operand)
  (ho : o.op = .call { callee := .builtin .append, args := #[s, x], argTypes := #[32, 32] })
  (base : Nat) (v : Value) (l : List F) (hs : a.eval s = v) (hown : OwnR w0 B w base v (l.flatMap F.cells)) (src : Value) (m : List F) (hx : a.eval x = src) (hr : SrcR w0 B w src (m.flatMap F.cells)) (hl : l.length + m.length ≤ 1000000) (hbase : base ≤ w.heap.size)
  (h : ∀ v' w', OwnR w0 B w' base v' ((l ++ m).flatMap F.cells) → w.grownBy w' v.ownBlock → (v'.ownBlock = v.ownBlock ∨ v'.ownBlock = some w.heap.size) → wpList Tryz.prog ops Q rest (a.put o.dst v') w') : wpList Tryz.prog ops Q (o :: rest) a w :=
 wpList_plain hgd fun _ hK => wp_appR s x ho base v l hs hown src m hx hr hl hbase fun v' w' h2 h3 h4 => hK _ _ (h v' w' h2 h3 h4)
theorem ownR_one {w0 W : World} {B base : Nat} {a b c d : Value} {t : F} (hb : base ≤ W.heap.size) (h : RepL w0 B [a, b, c, d] t.cells) :
  OwnR w0 B (W.alloc (.cells #[a, b, c, d] 39)) base (.slice (some ⟨W.heap.size, 0, none⟩) 1 1) ([t].flatMap F.cells) := by
 refine ⟨1, [a, b, c, d], ⟨rfl, .inr ⟨W.heap.size, 1, #[a, b, c, d], rfl, hb, heap_alloc_new W _, Nat.le_refl _, by unfold maxLen; omega, rfl, rfl⟩⟩, ?_⟩
 have he : [t].flatMap F.cells = t.cells := by simp
 rw [he]
 exact h
end Go.Proofs.YtbeaijjaecaidaaGreatDoor
namespace Go.Proofs.YtbeaijjaecaidaaGreatDoor
open Go.RowKit Go.Shelf
attribute [local go_sem] Oper.semAt_some
set_option maxRecDepth 100000 in
set_option maxHeartbeats 1000000 in
theorem grow_any (w0 : World) (B n : Nat) (hn : n ≤ 1000000) (w : World) :
  Calls Tryz.prog 217 #[.slice none 0 0, .int .i64 (n : Int)] w fun e w' => ∃ v, e = .returned v ∧ OwnR w0 B w' w.heap.size v [] ∧ Below w.heap.size w w' := by
 obtain ⟨i0, hi, hz0, hz1, hz2⟩ := info_parts Tryz.info39
 by_cases h0 : n = 0
 ·subst h0
  go_enter Tryz.func217, Tryz.ntmps217
  go_wp2_with fail
  go_ret
  exact ⟨_, rfl, OwnR.nil _ _ _ _, Below.refl _ _⟩
 ·have hGn : n ≤ grownCap w n 0 39 := grownCap_ge w _ _ _
  have hGm := grownCap_le_maxLen w n 0 39 (by unfold maxLen; omega)
  have hrz : ∀ ty, (Builtin.append_ #[32, 3] ty #[.slice none 0 0, .int .i64 (n : Int)]).run Tryz.prog w = _ := fun ty =>
   Lib.run_append_nil_zeros w 32 3 ty 39 i0 _ .i64 .i64 Tryz.underlying32 Tryz.underlying3 hi hz0 n (by omega) (by omega) (by omega) (by rw [hz2]; omega)
  have hcs : (Builtin.zeroCells (Value.agg #[.int .i64 0, .int .i64 0, .slice none 0 0, .slice none 0 0]).cells n ++ Builtin.zeroCells (Value.agg #[.int .i64 0, .int .i64 0, .slice none 0 0, .slice none 0 0]).cells (grownCap w n 0 39 - n)).size = grownCap w n 0 39 * 4 := by
   rw [Array.size_append]
   simp [Builtin.zeroCells, Value.cells]
   omega
  have HCS := Lib.hid hcs
  have hG63 : grownCap w n 0 39 ≤ 9223372036854775807 := by unfold maxLen at hGm; omega
  generalize grownCap w n 0 39 = G at *
  generalize Builtin.zeroCells (Value.agg #[.int .i64 0, .int .i64 0, .slice none 0 0, .slice none 0 0]).cells n ++ Builtin.zeroCells (Value.agg #[.int .i64 0, .int .i64 0, .slice none 0 0, .slice none 0 0]).cells (G - n) = cur at *
  clear hcs hz0 hz1 hz2 hi
  have hnn : ¬ ((n : Int) < 0) := by omega
  have hn0 : ¬ ((n : Int) = 0) := by omega
  go_enter Tryz.func217, Tryz.ntmps217
  go_wp2_with (at_builtin; refine Lib.wpList_append_run _ rfl _ _ _ _ rfl _ _ rfl rfl _ _ (hrz _) ?_)
  go_ret
  refine ⟨_, rfl, ⟨0, [], ⟨rfl, .inr ⟨w.heap.size, G, cur, rfl, Nat.le_refl _, ?_, Nat.zero_le _, hGm, HCS.out, by simp⟩⟩, RepL.nil _ _⟩, ?_⟩
  ·exact heap_alloc_new w.drew _
  ·exact (Below.refl _ w).drew.alloc (by simp) _
theorem flat_take {α : Type} (ls : List (List α)) (k : Nat) (h : k < ls.length) : (ls.take (k + 1)).flatten = (ls.take k).flatten ++ ls[k] := by
 rw [List.take_add_one, List.getElem?_eq_getElem h, List.flatten_append]
 simp
theorem flat_take_le {α : Type} (ls : List (List α)) (k : Nat) : ((ls.take k).flatten).length ≤ ls.flatten.length := by
 conv => rhs; rw [← List.take_append_drop k ls]
 rw [List.flatten_append, List.length_append]
 omega
set_option maxRecDepth 100000 in
set_option maxHeartbeats 1000000 in
theorem concat_any (w0 : World) (B : Nat) (ls : List (List F)) (g : Nat) (w : World) (hg : g < w.heap.size) (hcell : ∀ (k : Nat) (hk : k < ls.length), ∃ u, w.cell? ⟨g, k, none⟩ = some u ∧ SrcR w0 B w u (ls[k].flatMap F.cells)) (hl : ls.flatten.length ≤ 100000) (hll : ls.length ≤ 100000) :
  Calls Tryz.prog 205 #[.slice (some ⟨g, 0, none⟩) ls.length ls.length] w fun e w' => ∃ u, e = .returned u ∧ OwnR w0 B w' w.heap.size u (ls.flatten.flatMap F.cells) ∧ Below w.heap.size w w' := by
 have HCELL := Lib.hid hcell
 have HG := Lib.hid (fun W => grow_any w0 B ls.flatten.length (by omega) W)
 clear hcell
 go_enter Tryz.func205, Tryz.ntmps205
 go_wp2_with fail
 go_loopw [3, 11] (fun s i wr => ∃ k : Nat, s = .int .i64 (((ls.take k).flatten.length : Nat) : Int) ∧ i = .int .i64 (k : Int) ∧ k ≤ ls.length ∧ w = wr) (fun _ i _ => ls.length - (intOf i).toNat)
 case atStart => exact ⟨0, rfl, rfl, Nat.zero_le _, rfl⟩
 case round =>
  obtain ⟨k, rfl, rfl, hk, rfl⟩ := hrel
  by_cases hlt : k < ls.length
  ·obtain ⟨u, c0, hu⟩ := HCELL.out k hlt
   obtain ⟨A1, q1, rfl, hq⟩ := hu.slice
   have h1 := flat_take ls k hlt
   have h2 := flat_take_le ls (k + 1)
   have h3 := congrArg List.length h1
   rw [List.length_append] at h3
   have H3 := Lib.hid h3
   rw [h3] at h2
   clear hu h1 h3 hq
   generalize ls[k].length = n1 at *
   generalize (ls.take k).flatten.length = S at *
   have d0 : ¬ ((S : Int) + (n1 : Int) < 0) := by omega
   go_wp2_with fail
   go_roundw
   case rel => exact ⟨k + 1, by rw [H3.out]; go_num, by go_num, by omega, trivial⟩
   case measure => simp [intOf]; omega
  ·obtain rfl : k = ls.length := by omega
   rw [List.take_length]
   generalize hN : ls.flatten.length = N at *
   have HN := Lib.hid hN
   clear hN
   go_wp2_with fail
   refine (HG.out _).mono ?_
   rintro e w1 ⟨v1, rfl, o1, hb1⟩
   go_wp2_with fail
   go_loopw [6, 27] (fun u i wr => ∃ k : Nat, i = .int .i64 (k : Int) ∧ k ≤ ls.length ∧ OwnR w0 B wr w.heap.size u ((ls.take k).flatten.flatMap F.cells) ∧ Below w.heap.size w wr) (fun _ i _ => ls.length - (intOf i).toNat)
   case atStart => exact ⟨0, rfl, Nat.zero_le _, by simpa using o1, hb1⟩
   case round =>
    obtain ⟨k, rfl, hk2, hor, hbr⟩ := hrel
    by_cases hlt2 : k < ls.length
    ·obtain ⟨u, c0, hu⟩ := HCELL.out k hlt2
     have e0 := (hbr.cell (p := ⟨g, k, none⟩) hg).trans c0
     have HR := Lib.hid (hu.below hbr)
     have h1 := flat_take ls k hlt2
     have h2 := flat_take_le ls (k + 1)
     rw [h1, List.length_append, HN.out] at h2
     have H1 := Lib.hid h1
     clear hu h1 c0
     generalize ls[k] = m at *
     generalize (ls.take k).flatten = bs at *
     go_wp2_with (at_builtin; refine wpList_appR rfl _ _ rfl w.heap.size _ bs rfl hor _ m rfl HR.out (by omega) hbr.size ?_; intro v3 w3 ho3 hg3 _)
     rw [← H1.out] at ho3
     have hb3 := hbr.grown hg3 hbr.size hor.lt
     go_roundw
     case rel => exact ⟨k + 1, by go_num, by omega, ho3, hb3⟩
     case measure => simp [intOf]; omega
    ·obtain rfl : k = ls.length := by omega
     rw [List.take_length] at hor
     have HO := Lib.hid hor
     clear hor o1
     go_wp2_with fail
     go_ret
     exact ⟨_, rfl, HO.out, hbr⟩
end Go.Proofs.YtbeaijjaecaidaaGreatDoor
namespace Go.Proofs.YtbeaijjaecaidaaGreatDoor
open Go.RowKit Go.Shelf
attribute [local go_sem] Oper.semAt_some
theorem SrcR.at {w0 W w : World} {B : Nat} {u : Value} {ds : List D} (h : SrcR W B w u ds) (hk : ∀ p : Addr, p.block < B → w0.cell? p = W.cell? p) : SrcR w0 B w u ds := by
 rcases h with h | ⟨b, o, k, c, cs, e, hk1, hlt, hl, hr, hc⟩
 ·exact .inl h
 ·exact .inr ⟨b, o, k, c, cs, e, hk1, hlt, hl, hr.keep hk (Nat.le_refl _), hc⟩
set_option maxRecDepth 100000 in
set_option maxHeartbeats 1000000 in
theorem reftops_any : ∀ (n : Nat) (w : World) (B : Nat) (x : FNode w B), B ≤ w.heap.size → x.t.size ≤ n → n ≤ 100000 →
  Calls Tryz.prog 218 #[.agg #[x.a, x.b, x.c, x.d]] w fun e w' => ∃ u, e = .returned u ∧ OwnR w B w' w.heap.size u (x.t.tops.flatMap F.cells) ∧ Below w.heap.size w w' := by
 intro n
 induction n with
 | zero => intro w B x _ h; have := x.t.size_pos; omega
 | succ n ih =>
  intro w B x hBw hx hn
  have P0 := below_new w (.cells #[x.a, x.b, x.c, x.d] 39)
  have X0 := Blk.new w 39 #[x.a, x.b, x.c, x.d]
  by_cases h5 : x.t.op = 5
  ·have hT := F.tops_or h5
   have hle := F.tops_le x.t
   rw [hT] at hle ⊢
   obtain ⟨A, c, hd, hc, hcell⟩ := x.parts.2.2.2.formulas
   have e1 := x.parts.1
   have e2 := x.parts.2.1
   have hks := fun (k : F) (h : k ∈ x.t.kids) => F.kid_size h
   have HKS := Lib.hid hks
   have HCELL := Lib.hid hcell
   have HIH := Lib.hid ih
   have HT := Lib.hid (fun k (hk : k < x.t.kids.length) => tops_take x.t.kids k hk)
   have HL := Lib.hid (fun k (hk : k < x.t.kids.length) => tops_take_le x.t.kids k hk)
   have HBX := Lib.hid hBw
   have hcv := x.parts.2.2.1
   obtain ⟨A1, n1, q1, ec, _⟩ := hcv.slice
   have hlen : x.t.kids.length ≤ 1000000 := by
    have h1 := kids_le x.t.kids
    have h2 := x.t.nodes_length
    rw [x.t.nodes_eq, List.length_cons, nodes_flat_length] at h2
    omega
   rw [h5] at e1
   rw [e1, e2, ec, hd] at P0 X0 ⊢
   clear hT hks hcell ih e1 e2 ec hd hcv h5
   generalize x.t.n = xn at *
   generalize x.t.kids = kids at *
   go_enter Tryz.func218, Tryz.ntmps218
   go_wp2_with fail
   go_loopw [3, 4] (fun u i wr => ∃ k : Nat, i = .int .i64 (k : Int) ∧ k ≤ kids.length ∧ OwnR w B wr (w.heap.size + 1) u (((kids.take k).flatMap F.tops).flatMap F.cells) ∧ Below w.heap.size w wr ∧ Blk wr w.heap.size 39 #[.int .i64 5, .int .i64 xn, .slice A1 n1 q1, .slice A kids.length c]) (fun _ i _ => kids.length - (intOf i).toNat)
   case atStart => exact ⟨0, rfl, Nat.zero_le _, OwnR.nil _ _ _ _, P0, X0⟩
   case round =>
    obtain ⟨k, rfl, hk, hor, hbr, hX⟩ := hrel
    have hcx := hX.c4
    by_cases hlt : k < kids.length
    ·obtain ⟨b, o, y, rfl, hb, hy, c0, c1, c2, c3⟩ := HCELL.out k hlt
     have hb' : b < w.heap.size := Nat.lt_of_lt_of_le hb hBw
     have d0 := (hbr.cell (p := ⟨b, o + k * 4, none⟩) hb').trans c0
     have d1 := (hbr.cell (p := ⟨b, o + k * 4 + 1, none⟩) hb').trans c1
     have d2 := (hbr.cell (p := ⟨b, o + k * 4 + 2, none⟩) hb').trans c2
     have d3 := (hbr.cell (p := ⟨b, o + k * 4 + 3, none⟩) hb').trans c3
     have hmem : kids[k] ∈ kids := List.getElem_mem _
     have hsz := HKS.out _ hmem
     have hT := HT.out k hlt
     have hL := HL.out k hlt
     rw [← hy] at hsz hT hL
     have HTH := Lib.hid hT
     have HI := Lib.hid (fun (W : World) (hW : Below w.heap.size w W) => HIH.out W B ⟨y.a, y.b, y.c, y.d, y.t, y.h.keep (fun p hp => hW.cell (Nat.lt_of_lt_of_le hp hBw)) (Nat.le_refl _)⟩ (Nat.le_trans hBw hW.size) (by dsimp only; omega) (by omega))
     clear c0 c1 c2 c3 hmem hy hT
     dsimp only at HI
     obtain ⟨ya, yb, yc, yd, yt, yh⟩ := y
     obtain ⟨B1, m1, p1, B2, m2, p2, e1, e2, e3, e4⟩ := node_form yh
     dsimp only at *
     subst e1 e2 e3 e4
     clear yh
     generalize (kids.take k).flatMap F.tops = bs at *
     generalize yt.tops = ms at *
     go_wp2_with (first
      | (go_at_call 218; refine (HI.out _ hbr).mono ?_; rintro e w2 ⟨v2, rfl, ho2, hb2⟩)
      | (at_builtin; refine wpList_appR rfl _ _ rfl (w.heap.size + 1) _ bs rfl (hor.below hb2) _ ms rfl (ho2.src.at (fun p hp => (hbr.cell (Nat.lt_of_lt_of_le hp hBw)).symm)) (by omega) (Nat.le_trans hX.lt hb2.size) ?_; intro v3 w3 ho3 hg3 _))
     rw [← HTH.out] at ho3
     have hb3 := (hbr.trans (hb2.mono hbr.size)).grown hg3 (Nat.le_trans hbr.size hb2.size) (fun q hq => Nat.le_of_succ_le (hor.lt q hq))
     have hX3 := (hX.keep hb2).grown hg3 (fun e => by have := hor.lt _ e.symm; omega)
     go_roundw
     case rel => exact ⟨k + 1, by go_num, by omega, ho3, hb3, hX3⟩
     case measure => simp [intOf]; omega
    ·obtain rfl : k = kids.length := by omega
     rw [List.take_length] at hor
     have HO := Lib.hid hor
     clear hor
     go_wp2_with fail
     go_ret
     exact ⟨_, rfl, HO.out.mono (Nat.le_succ _), hbr⟩
  ·rw [F.tops_no h5]
   have hne : (x.t.op != 5) = true := by simpa using h5
   have Q0 := P0.alloc P0.size (.cells #[x.a, x.b, x.c, x.d] 39)
   have hR := ownR_one (t := x.t) P0.size x.h
   rw [World.size_alloc] at hR
   have HR := Lib.hid hR
   obtain ⟨A1, n1, q1, A2, n2, q2, e1, e2, e3, e4⟩ := node_form x.h
   rw [e1, e2, e3, e4] at HR Q0 ⊢
   clear e1 e2 e3 e4 ih hR P0 X0
   go_enter Tryz.func218, Tryz.ntmps218
   go_wp2_with fail
   go_ret
   exact ⟨_, rfl, HR.out, Q0⟩
set_option maxRecDepth 100000 in
set_option maxHeartbeats 1000000 in
theorem refParts_any : ∀ (n : Nat) (w : World) (B : Nat) (x : FNode w B), B ≤ w.heap.size → x.t.size ≤ n → n ≤ 100000 →
  Calls Tryz.prog 199 #[.agg #[x.a, x.b, x.c, x.d]] w fun e w' => ∃ u, e = .returned u ∧ OwnR w B w' w.heap.size u (x.t.tops.flatMap F.cells) ∧ Below w.heap.size w w' := by
 intro n
 induction n with
 | zero => intro w B x _ h; have := x.t.size_pos; omega
 | succ n ih =>
  intro w B x hBw hx hn
  have P0 := below_new w (.cells #[x.a, x.b, x.c, x.d] 39)
  have X0 := Blk.new w 39 #[x.a, x.b, x.c, x.d]
  by_cases h5 : x.t.op = 5
  ·have hT := F.tops_or h5
   have hle := F.tops_le x.t
   rw [hT] at hle ⊢
   obtain ⟨A, c, hd, hc, hcell⟩ := x.parts.2.2.2.formulas
   have e1 := x.parts.1
   have e2 := x.parts.2.1
   have hks := fun (k : F) (h : k ∈ x.t.kids) => F.kid_size h
   have HKS := Lib.hid hks
   have HCELL := Lib.hid hcell
   have HIH := Lib.hid ih
   have HT := Lib.hid (fun k (hk : k < x.t.kids.length) => tops_take x.t.kids k hk)
   have HL := Lib.hid (fun k (hk : k < x.t.kids.length) => tops_take_le x.t.kids k hk)
   have HBX := Lib.hid hBw
   have hcv := x.parts.2.2.1
   obtain ⟨A1, n1, q1, ec, _⟩ := hcv.slice
   have hlen : x.t.kids.length ≤ 1000000 := by
    have h1 := kids_le x.t.kids
    have h2 := x.t.nodes_length
    rw [x.t.nodes_eq, List.length_cons, nodes_flat_length] at h2
    omega
   rw [h5] at e1
   rw [e1, e2, ec, hd] at P0 X0 ⊢
   clear hT hks hcell ih e1 e2 ec hd hcv h5
   generalize x.t.n = xn at *
   generalize x.t.kids = kids at *
   go_enter Tryz.func199, Tryz.ntmps199
   go_wp2_with fail
   go_loopw [3, 4] (fun u i wr => ∃ k : Nat, i = .int .i64 (k : Int) ∧ k ≤ kids.length ∧ OwnR w B wr (w.heap.size + 1) u (((kids.take k).flatMap F.tops).flatMap F.cells) ∧ Below w.heap.size w wr ∧ Blk wr w.heap.size 39 #[.int .i64 5, .int .i64 xn, .slice A1 n1 q1, .slice A kids.length c]) (fun _ i _ => kids.length - (intOf i).toNat)
   case atStart => exact ⟨0, rfl, Nat.zero_le _, OwnR.nil _ _ _ _, P0, X0⟩
   case round =>
    obtain ⟨k, rfl, hk, hor, hbr, hX⟩ := hrel
    have hcx := hX.c4
    by_cases hlt : k < kids.length
    ·obtain ⟨b, o, y, rfl, hb, hy, c0, c1, c2, c3⟩ := HCELL.out k hlt
     have hb' : b < w.heap.size := Nat.lt_of_lt_of_le hb hBw
     have d0 := (hbr.cell (p := ⟨b, o + k * 4, none⟩) hb').trans c0
     have d1 := (hbr.cell (p := ⟨b, o + k * 4 + 1, none⟩) hb').trans c1
     have d2 := (hbr.cell (p := ⟨b, o + k * 4 + 2, none⟩) hb').trans c2
     have d3 := (hbr.cell (p := ⟨b, o + k * 4 + 3, none⟩) hb').trans c3
     have hmem : kids[k] ∈ kids := List.getElem_mem _
     have hsz := HKS.out _ hmem
     have hT := HT.out k hlt
     have hL := HL.out k hlt
     rw [← hy] at hsz hT hL
     have HTH := Lib.hid hT
     have HI := Lib.hid (fun (W : World) (hW : Below w.heap.size w W) => HIH.out W B ⟨y.a, y.b, y.c, y.d, y.t, y.h.keep (fun p hp => hW.cell (Nat.lt_of_lt_of_le hp hBw)) (Nat.le_refl _)⟩ (Nat.le_trans hBw hW.size) (by dsimp only; omega) (by omega))
     clear c0 c1 c2 c3 hmem hy hT
     dsimp only at HI
     obtain ⟨ya, yb, yc, yd, yt, yh⟩ := y
     obtain ⟨B1, m1, p1, B2, m2, p2, e1, e2, e3, e4⟩ := node_form yh
     dsimp only at *
     subst e1 e2 e3 e4
     clear yh
     generalize (kids.take k).flatMap F.tops = bs at *
     generalize yt.tops = ms at *
     go_wp2_with (first
      | (go_at_call 199; refine (HI.out _ hbr).mono ?_; rintro e w2 ⟨v2, rfl, ho2, hb2⟩)
      | (at_builtin; refine wpList_appR rfl _ _ rfl (w.heap.size + 1) _ bs rfl (hor.below hb2) _ ms rfl (ho2.src.at (fun p hp => (hbr.cell (Nat.lt_of_lt_of_le hp hBw)).symm)) (by omega) (Nat.le_trans hX.lt hb2.size) ?_; intro v3 w3 ho3 hg3 _))
     rw [← HTH.out] at ho3
     have hb3 := (hbr.trans (hb2.mono hbr.size)).grown hg3 (Nat.le_trans hbr.size hb2.size) (fun q hq => Nat.le_of_succ_le (hor.lt q hq))
     have hX3 := (hX.keep hb2).grown hg3 (fun e => by have := hor.lt _ e.symm; omega)
     go_roundw
     case rel => exact ⟨k + 1, by go_num, by omega, ho3, hb3, hX3⟩
     case measure => simp [intOf]; omega
    ·obtain rfl : k = kids.length := by omega
     rw [List.take_length] at hor
     have HO := Lib.hid hor
     clear hor
     go_wp2_with fail
     go_ret
     exact ⟨_, rfl, HO.out.mono (Nat.le_succ _), hbr⟩
  ·rw [F.tops_no h5]
   have hne : (x.t.op != 5) = true := by simpa using h5
   have Q0 := P0.alloc P0.size (.cells #[x.a, x.b, x.c, x.d] 39)
   have hR := ownR_one (t := x.t) P0.size x.h
   rw [World.size_alloc] at hR
   have HR := Lib.hid hR
   obtain ⟨A1, n1, q1, A2, n2, q2, e1, e2, e3, e4⟩ := node_form x.h
   rw [e1, e2, e3, e4] at HR Q0 ⊢
   clear e1 e2 e3 e4 ih hR P0 X0
   go_enter Tryz.func199, Tryz.ntmps199
   go_wp2_with fail
   go_ret
   exact ⟨_, rfl, HR.out, Q0⟩
end Go.Proofs.YtbeaijjaecaidaaGreatDoor
namespace Go.Proofs.YtbeaijjaecaidaaGreatDoor
open Go.RowKit Go.Shelf
attribute [local go_sem] Oper.semAt_some
set_option maxRecDepth 100000 in
set_option maxHeartbeats 1000000 in
theorem parts_src (w0 : World) (B : Nat) (x : FNode w0 B) (w : World) (hb : Below B w0 w) (hBw : B ≤ w.heap.size) :
  Calls Tryz.prog 206 #[.agg #[x.a, x.b, x.c, x.d]] w fun e w' => ∃ u, e = .returned u ∧ SrcR w0 B w' u (x.t.parts.flatMap F.cells) ∧ Below w.heap.size w w' := by
 obtain ⟨A1, n1, q1, A2, n2, q2, e1, e2, e3, e4⟩ := node_form x.h
 have hr := x.parts.2.2.2
 have P0 := below_new w (.cells #[x.a, x.b, x.c, x.d] 39)
 by_cases h4 : x.t.op = 4
 ·have hR := Lib.hid (hr.src (hb.trans (P0.mono hBw)) (Nat.le_trans hBw P0.size))
  unfold F.parts
  rw [if_pos h4]
  rw [h4] at e1
  rw [e1, e2, e3, e4] at hR P0 ⊢
  clear e1 e2 e3 e4 hr hb
  go_enter Tryz.func206, Tryz.ntmps206
  go_wp2_with fail
  go_ret
  exact ⟨_, rfl, hR.out, P0⟩
 ·unfold F.parts
  rw [if_neg h4]
  have P1 := P0.alloc P0.size (.cells #[x.a, x.b, x.c, x.d] 39)
  have hR := (ownR_one (base := w.heap.size) (t := x.t) P0.size x.h).src
  rw [World.size_alloc] at hR
  have hR := Lib.hid hR
  have hne : (x.t.op == 4) = false := by simpa using h4
  rw [e1, e2, e3, e4] at hR P1 ⊢
  clear e1 e2 e3 e4 hr P0 hb
  go_enter Tryz.func206, Tryz.ntmps206
  go_wp2_with fail
  go_ret
  exact ⟨_, rfl, hR.out, P1⟩
set_option maxRecDepth 100000 in
set_option maxHeartbeats 1000000 in
theorem refparts_src (w0 : World) (B : Nat) (x : FNode w0 B) (w : World) (hb : Below B w0 w) (hBw : B ≤ w.heap.size) :
  Calls Tryz.prog 219 #[.agg #[x.a, x.b, x.c, x.d]] w fun e w' => ∃ u, e = .returned u ∧ SrcR w0 B w' u (x.t.parts.flatMap F.cells) ∧ Below w.heap.size w w' := by
 obtain ⟨A1, n1, q1, A2, n2, q2, e1, e2, e3, e4⟩ := node_form x.h
 have hr := x.parts.2.2.2
 have P0 := below_new w (.cells #[x.a, x.b, x.c, x.d] 39)
 by_cases h4 : x.t.op = 4
 ·have hR := Lib.hid (hr.src (hb.trans (P0.mono hBw)) (Nat.le_trans hBw P0.size))
  unfold F.parts
  rw [if_pos h4]
  rw [h4] at e1
  rw [e1, e2, e3, e4] at hR P0 ⊢
  clear e1 e2 e3 e4 hr hb
  go_enter Tryz.func219, Tryz.ntmps219
  go_wp2_with fail
  go_ret
  exact ⟨_, rfl, hR.out, P0⟩
 ·unfold F.parts
  rw [if_neg h4]
  have P1 := P0.alloc P0.size (.cells #[x.a, x.b, x.c, x.d] 39)
  have hR := (ownR_one (base := w.heap.size) (t := x.t) P0.size x.h).src
  rw [World.size_alloc] at hR
  have hR := Lib.hid hR
  have hne : (x.t.op == 4) = false := by simpa using h4
  rw [e1, e2, e3, e4] at hR P1 ⊢
  clear e1 e2 e3 e4 hr P0 hb
  go_enter Tryz.func219, Tryz.ntmps219
  go_wp2_with fail
  go_ret
  exact ⟨_, rfl, hR.out, P1⟩
end Go.Proofs.YtbeaijjaecaidaaGreatDoor
namespace Go.Proofs.YtbeaijjaecaidaaGreatDoor
open Go.RowKit Go.Shelf
def andF (a b : F) : F := .mk 4 0 [] (a.parts ++ b.parts)
def crossF (p q : List F) : List F := p.flatMap fun a => q.map (andF a)
theorem crossF_length (p q : List F) : (crossF p q).length = p.length * q.length := by
 unfold crossF
 induction p with
 | nil => simp
 | cons a p ih => rw [List.flatMap_cons, List.length_append, List.length_map, ih, List.length_cons, Nat.add_mul, Nat.one_mul, Nat.add_comm]
def altF (c : Cl) (A : List (List F)) : List F := if c.refs = [] then c.body.tops else c.refs.flatMap fun r => crossF (A.getD r.toNat []) c.body.tops
def altsL (l : List Cl) : Nat → List (List F)
 | 0 => []
 | k + 1 => altsL l k ++ [match l[k]? with | some c => altF c (altsL l k) | none => []]
theorem altsL_length (l : List Cl) (k : Nat) : (altsL l k).length = k := by
 induction k with
 | zero => rfl
 | succ k ih => rw [altsL, List.length_append, ih, List.length_singleton]
theorem altsL_succ (l : List Cl) (k : Nat) (h : k < l.length) : altsL l (k + 1) = altsL l k ++ [altF l[k] (altsL l k)] := by
 rw [altsL, List.getElem?_eq_getElem h]
theorem altsL_get (l : List Cl) (k j : Nat) (hj : j < k) (hk : k ≤ l.length) : (altsL l k).getD j [] = altF (l[j]'(by omega)) (altsL l j) := by
 induction k with
 | zero => omega
 | succ k ih =>
  rw [altsL_succ l k (by omega)]
  by_cases h : j < k
  ·rw [← ih h (by omega), List.getD_eq_getElem?_getD, List.getD_eq_getElem?_getD, List.getElem?_append_left (by rw [altsL_length]; exact h)]
  ·obtain rfl : j = k := by omega
   rw [List.getD_eq_getElem?_getD, List.getElem?_append_right (by rw [altsL_length]; exact Nat.le_refl _), altsL_length, Nat.sub_self]
   rfl
def AltOk (c : Cl) (A : List (List F)) : Prop := c.body.tops.length ≤ 64 ∧ (altF c A).length ≤ 64 ∧ (∀ r ∈ c.refs, 0 ≤ r ∧ r.toNat < A.length) ∧ (c.refs ≠ [] → ∀ f ∈ altF c A, OkF f)
def AltsOk (l : List Cl) : Prop := ∀ k (h : k < l.length), AltOk l[k] (altsL l k)
def Sm (s d : Nat) (t : F) : Prop := t.size ≤ s ∧ t.deep ≤ d ∧ ∀ y ∈ t.nodes, OkNode y
theorem Sm.mono {s d s' d' : Nat} {t : F} (h : Sm s d t) (hs : s ≤ s') (hd : d ≤ d') : Sm s' d' t := ⟨Nat.le_trans h.1 hs, Nat.le_trans h.2.1 hd, h.2.2⟩
theorem Sm.ok {s d : Nat} {t : F} (h : Sm s d t) (hs : s ≤ 96) (hd : d ≤ 8) : OkF t := ⟨Nat.le_trans h.1 hs, Nat.le_trans h.2.1 hd, h.2.2⟩
theorem deepL_mem : ∀ {l : List F} {k : F}, k ∈ l → k.deep ≤ deepL l
 | a :: l, k, h => by
  rw [deepL]
  rcases List.mem_cons.1 h with rfl | h
  ·omega
  ·have := deepL_mem h
   omega
theorem deepL_app : ∀ (a b : List F), deepL (a ++ b) = max (deepL a) (deepL b)
 | [], b => by simp [deepL]
 | x :: a, b => by rw [List.cons_append, deepL, deepL, deepL_app a b, Nat.max_assoc]
theorem sizeL_app : ∀ (a b : List F), sizeL (a ++ b) = sizeL a + sizeL b
 | [], b => by simp [sizeL]
 | x :: a, b => by rw [List.cons_append, sizeL, sizeL, sizeL_app a b, Nat.add_assoc]
theorem F.size_eq' (t : F) : t.size = 1 + sizeL t.kids := by
 cases t
 rw [F.size]
 rfl
theorem Sm.kid {s d : Nat} {t k : F} (h : Sm s d t) (hk : k ∈ t.kids) : Sm s d k := by
 have h1 := F.kid_size hk
 have h2 := deepL_mem hk
 have h3 := t.deep_eq
 refine ⟨by have := h.1; omega, by have := h.2.1; omega, fun y hy => h.2.2 y ?_⟩
 rw [F.nodes_eq]
 exact List.mem_cons_of_mem _ (List.mem_flatMap.2 ⟨k, hk, hy⟩)
theorem Sm.tops {s d : Nat} : ∀ (n : Nat) {t : F}, t.size ≤ n → Sm s d t → ∀ y ∈ t.tops, Sm s d y
 | 0, t, hn, _ => by have := t.size_pos; omega
 | n + 1, t, hn, h => by
  intro y hy
  by_cases h5 : t.op = 5
  ·rw [F.tops_or h5] at hy
   obtain ⟨k, hk, hy⟩ := List.mem_flatMap.1 hy
   exact Sm.tops n (by have := F.kid_size hk; omega) (h.kid hk) y hy
  ·rw [F.tops_no h5, List.mem_singleton] at hy
   rw [hy]
   exact h
theorem Sm.parts {s d : Nat} {t : F} (h : Sm s d t) : sizeL t.parts ≤ s ∧ deepL t.parts ≤ d ∧ ∀ y ∈ t.parts.flatMap F.nodes, OkNode y := by
 unfold F.parts
 by_cases h4 : t.op = 4
 ·rw [if_pos h4]
  refine ⟨by have := h.1; rw [F.size_eq'] at this; omega, by have := h.2.1; rw [F.deep_eq] at this; omega, fun y hy => h.2.2 y ?_⟩
  rw [F.nodes_eq]
  exact List.mem_cons_of_mem _ hy
 ·rw [if_neg h4]
  refine ⟨by have := h.1; simp only [sizeL]; omega, by have := h.2.1; simp only [deepL]; omega, fun y hy => h.2.2 y (by simpa using hy)⟩
theorem Sm.and {s d s' d' : Nat} {a b : F} (h : Sm s d a) (k : Sm s' d' b) : Sm (1 + s + s') (max d d' + 1) (andF a b) := by
 obtain ⟨a1, a2, a3⟩ := h.parts
 obtain ⟨b1, b2, b3⟩ := k.parts
 refine ⟨?_, ?_, fun y hy => ?_⟩
 ·rw [F.size_eq']
  show 1 + sizeL (a.parts ++ b.parts) ≤ _
  rw [sizeL_app]
  omega
 ·rw [F.deep_eq]
  show deepL (a.parts ++ b.parts) + 1 ≤ _
  rw [deepL_app]
  omega
 ·rw [F.nodes_eq] at hy
  rcases List.mem_cons.1 hy with rfl | hy
  ·exact .inr (.inr (.inr (.inr ⟨.inl rfl, rfl, rfl⟩)))
  ·rw [show (andF a b).kids = a.parts ++ b.parts from rfl, List.flatMap_append] at hy
   rcases List.mem_append.1 hy with hy | hy
   ·exact a3 y hy
   ·exact b3 y hy
def Feat (t : F) : Prop := Sm 4 3 t ∧ t.tops.length ≤ 2
theorem refsOk_at {r : List Int} {i : Nat} (h : RefsOk r i) : ∀ j (hj : j < r.length), (j : Int) ≤ r[j]
 | 0, hj => by have := (h 0 hj).1; omega
 | j + 1, hj => by
  have h1 := refsOk_at h j (by omega)
  have h2 := (h (j + 1) hj).2.2 (by omega)
  have h3 : r[j + 1 - 1]'(by omega) = r[j] := rfl
  rw [h3] at h2
  omega
theorem refsOk_len {r : List Int} {i : Nat} (h : RefsOk r i) : r.length ≤ i := by
 cases hr : r.length with
 | zero => omega
 | succ n =>
  have h1 := refsOk_at h n (by omega)
  have h2 := (h n (by omega)).2.1
  omega
theorem flat_len_le {α : Type} {f : α → List F} {M : Nat} : ∀ {l : List α}, (∀ a ∈ l, (f a).length ≤ M) → (l.flatMap f).length ≤ l.length * M
 | [], _ => by simp
 | a :: l, h => by
  rw [List.flatMap_cons, List.length_append, List.length_cons, Nat.add_mul, Nat.one_mul, Nat.add_comm]
  have h1 := h a List.mem_cons_self
  have h2 := flat_len_le (f := f) (M := M) (l := l) (fun x hx => h x (List.mem_cons_of_mem _ hx))
  omega
theorem alt_step {c : Cl} {A : List (List F)} {M s d : Nat} (hf : Feat c.body) (hr : RefsOk c.refs A.length) (hA : ∀ j, j < A.length → (A.getD j []).length ≤ M ∧ ∀ f ∈ A.getD j [], Sm s d f) (hs : 4 ≤ s) (hd : 3 ≤ d) :
  (altF c A).length ≤ max 2 (A.length * (M * 2)) ∧ ∀ f ∈ altF c A, Sm (s + 5) (d + 1) f := by
 have ht := Sm.tops _ (Nat.le_refl _) hf.1
 unfold altF
 by_cases h0 : c.refs = []
 ·rw [if_pos h0]
  refine ⟨by have := hf.2; omega, fun f hfm => (ht f hfm).mono (by omega) (by omega)⟩
 ·rw [if_neg h0]
  have hin : ∀ r ∈ c.refs, r.toNat < A.length := fun r hrm => by
   obtain ⟨j, hj, rfl⟩ := List.getElem_of_mem hrm
   have := hr j hj
   omega
  refine ⟨?_, fun f hfm => ?_⟩
  ·have h1 := flat_len_le (f := fun r => crossF (A.getD r.toNat []) c.body.tops) (M := M * 2) (l := c.refs) (fun r hrm => by
    rw [crossF_length]
    exact Nat.mul_le_mul (hA _ (hin r hrm)).1 hf.2)
   have h2 := refsOk_len hr
   have h3 := Nat.mul_le_mul_right (M * 2) h2
   omega
  ·obtain ⟨r, hrm, hfm⟩ := List.mem_flatMap.1 hfm
   obtain ⟨a, ha, hfm⟩ := List.mem_flatMap.1 hfm
   obtain ⟨b, hb, rfl⟩ := List.mem_map.1 hfm
   exact (((hA _ (hin r hrm)).2 a ha).and (ht b hb)).mono (by omega) (by omega)
def GenCl (l : List Cl) : Prop := l.length ≤ 3 ∧ ∀ i (h : i < l.length), RefsOk l[i].refs i ∧ Feat l[i].body
theorem GenCl.ok {l : List Cl} (h : GenCl l) : OkCl l :=
 ⟨by have := h.1; omega, fun i hi => ⟨(h.2 i hi).1, by have := refsOk_len (h.2 i hi).1; have := h.1; omega, (h.2 i hi).2.1.ok (by omega) (by omega)⟩⟩
def mostAlts : Nat → Nat
 | 0 => 2
 | 1 => 4
 | _ => 16
theorem GenCl.alts {l : List Cl} (h : GenCl l) : ∀ k, k ≤ l.length → ∀ j, j < k → ((altsL l k).getD j []).length ≤ mostAlts j ∧ ∀ f ∈ (altsL l k).getD j [], Sm (4 + 5 * (j + 1)) (3 + (j + 1)) f := by
 intro k
 induction k with
 | zero => intro _ j hj; omega
 | succ k ih =>
  intro hk j hj
  by_cases hjk : j < k
  ·have := ih (by omega) j hjk
   rw [altsL_get l k j hjk (by omega)] at this
   rw [altsL_get l (k + 1) j hj (by omega)]
   exact this
  ·obtain rfl : j = k := by omega
   rw [altsL_get l (j + 1) j hj (by omega)]
   have hl := h.1
   have hg := h.2 j (by omega)
   have hr : RefsOk l[j].refs (altsL l j).length := by rw [altsL_length]; exact hg.1
   have h3 : j = 0 ∨ j = 1 ∨ j = 2 := by omega
   rcases h3 with rfl | rfl | rfl
   ·have := alt_step (M := 2) (s := 4) (d := 3) hg.2 hr (fun i hi => by rw [altsL_length] at hi; omega) (by omega) (by omega)
    rw [altsL_length] at this
    exact this
   ·have := alt_step (M := 2) (s := 9) (d := 4) hg.2 hr (fun i hi => by
     rw [altsL_length] at hi
     obtain rfl : i = 0 := by omega
     have := ih (by omega) 0 (by omega)
     exact this) (by omega) (by omega)
    rw [altsL_length] at this
    exact this
   ·have := alt_step (M := 4) (s := 14) (d := 5) hg.2 hr (fun i hi => by
     rw [altsL_length] at hi
     have h2 := ih (by omega) i (by omega)
     have : i = 0 ∨ i = 1 := by omega
     rcases this with rfl | rfl
     ·exact ⟨Nat.le_trans h2.1 (by decide), fun f hf => (h2.2 f hf).mono (by omega) (by omega)⟩
     ·exact ⟨h2.1, fun f hf => (h2.2 f hf).mono (by omega) (by omega)⟩) (by omega) (by omega)
    rw [altsL_length] at this
    exact this
theorem mostAlts_le (j : Nat) : mostAlts j ≤ 16 := by
 unfold mostAlts
 split <;> omega
theorem GenCl.altsOk {l : List Cl} (h : GenCl l) : AltsOk l := by
 intro k hk
 have hg := h.2 k hk
 have h1 := h.alts (k + 1) (by omega) k (by omega)
 rw [altsL_get l (k + 1) k (by omega) (by omega)] at h1
 have hl := h.1
 refine ⟨by have := hg.2.2; omega, by have := mostAlts_le k; omega, fun r hr => ?_, fun _ f hf => (h1.2 f hf).ok (by omega) (by omega)⟩
 obtain ⟨j, hj, rfl⟩ := List.getElem_of_mem hr
 have := hg.1 j hj
 rw [altsL_length]
 omega
end Go.Proofs.YtbeaijjaecaidaaGreatDoor
namespace Go.Proofs.YtbeaijjaecaidaaGreatDoor
open Go.RowKit Go.Shelf
attribute [local go_sem] Oper.semAt_some
def KeepF (n₀ : Nat) (W W' : World) : Prop := KeepsOthers W W' ∧ KeepT topT n₀ W W'
theorem KeepF.refl (n₀ : Nat) (W : World) : KeepF n₀ W W := ⟨KeepsOthers.refl W, KeepT.refl _ _ _⟩
theorem KeepF.trans {n₀ : Nat} {A B C : World} (h : KeepF n₀ A B) (k : KeepF n₀ B C) : KeepF n₀ A C := ⟨h.1.trans k.1, h.2.trans k.2⟩
theorem KeepF.alloc {n₀ : Nat} {A W : World} (h : KeepF n₀ A W) (hn : n₀ ≤ W.heap.size) (o : Obj) : KeepF n₀ A (W.alloc o) := h.trans ⟨KeepsOthers.alloc _ _, KeepT.alloc W hn o⟩
theorem KeepF.drew {n₀ : Nat} {A W : World} (h : KeepF n₀ A W) : KeepF n₀ A W.drew := h.trans ⟨KeepsOthers.drew _, ⟨(Below.refl _ _).drew, fun _ _ _ _ h => h⟩⟩
theorem KeepF.set {n₀ g : Nat} {A W : World} {t : TypeId} {cs : Array Value} (h : KeepF n₀ A W) (hb : Blk W g t cs) (hp : ¬ topT t) (hn : n₀ ≤ g) (i : Nat) (u : Value) : KeepF n₀ A (W.setCell ⟨g, i, none⟩ u) :=
 h.trans ⟨KeepsOthers.setCell _ _ _, KeepT.setCell hb hp hn i u⟩
theorem OwnR.block {w0 W : World} {B base : Nat} {v : Value} {ds : List D} (h : OwnR w0 B W base v ds) {g : Nat} (hg : v.ownBlock = some g) : base ≤ g ∧ ∃ cur, Blk W g 39 cur := by
 obtain ⟨n, xs, ⟨_, h1⟩, _⟩ := h
 rcases h1 with ⟨rfl, _⟩ | ⟨g', cap, cur, rfl, hb, hh, _⟩
 ·cases hg
 ·cases hg
  exact ⟨hb, cur, hh⟩
theorem KeepF.grown {n₀ B base : Nat} {A w0 W W' : World} {v : Value} {ds : List D} (h : KeepF n₀ A W) (ho : OwnR w0 B W base v ds) (hg : W.grownBy W' v.ownBlock) (hb : n₀ ≤ base) (hn : n₀ ≤ W.heap.size) : KeepF n₀ A W' := by
 refine h.trans ⟨KeepsOthers.of_grownBy hg (fun j o hj hh => ?_), ?_⟩
 ·obtain ⟨_, cur, hB⟩ := ho.block hj
  rw [show W.heap[j]? = _ from hB] at hh
  cases hh
  rfl
 ·refine ⟨(Below.refl _ _).grown hg hn (fun k hk => Nat.le_trans hb (ho.lt k hk)), fun i t cs ht hB => hB.grown hg (fun e => ?_)⟩
  obtain ⟨_, cur, hB2⟩ := ho.block e.symm
  unfold Blk at hB hB2
  rw [hB] at hB2
  cases hB2
  exact absurd ht (by unfold topT; decide)
def zF : F := .mk 0 0 [] []
theorem zF_rep (w0 : World) (B : Nat) : RepL w0 B [.int .i64 0, .int .i64 0, .slice none 0 0, .slice none 0 0] zF.cells := by
 rw [F.cells_eq]
 exact RepL.cons (.v _) (RepL.cons (.v _) (RepL.cons (.nil 8) (RepL.cons (.nil 4) (RepL.nil _ _))))
def st4at (W : World) (g o : Nat) (a b c d : Value) : World := (((W.setCell ⟨g, o, none⟩ a).setCell ⟨g, o + 1, none⟩ b).setCell ⟨g, o + 2, none⟩ c).setCell ⟨g, o + 3, none⟩ d
theorem take_set4 {α : Type} : ∀ (n : Nat) (cur : List α) (xs : List α) (a b c d a' b' c' d' : α), cur.take (n + 4) = xs ++ [a, b, c, d] → xs.length = n →
  ((((cur.set n a').set (n + 1) b').set (n + 2) c').set (n + 3) d').take (n + 4) = xs ++ [a', b', c', d']
 | 0, cur, xs, a, b, c, d, a', b', c', d', h, hx => by
  obtain rfl := List.eq_nil_of_length_eq_zero hx
  match cur, h with
  | [], h => simp at h
  | [_], h => simp at h
  | [_, _], h => simp at h
  | [_, _, _], h => simp at h
  | _ :: _ :: _ :: _ :: r, h => simp
 | n + 1, cur, xs, a, b, c, d, a', b', c', d', h, hx => by
  match xs, hx with
  | x :: xs, hx =>
   match cur, h with
   | [], h => simp at h
   | y :: cur, h =>
    rw [show n + 1 + 4 = (n + 4) + 1 from by omega, List.take_succ_cons, List.cons_append, List.cons.injEq] at h
    have := take_set4 n cur xs a b c d a' b' c' d' h.2 (by simpa using hx)
    rw [show n + 1 + 4 = (n + 4) + 1 from by omega, List.set_cons_succ, show n + 1 + 1 = (n + 1) + 1 from rfl, List.set_cons_succ, show n + 1 + 2 = (n + 2) + 1 from by omega, List.set_cons_succ, show n + 1 + 3 = (n + 3) + 1 from by omega, List.set_cons_succ, List.take_succ_cons, this, h.1]
    rfl
theorem Blk.st4at {W : World} {g : Nat} {t : TypeId} {cs : Array Value} (h : Blk W g t cs) (o : Nat) (a b c d : Value) : Blk (st4at W g o a b c d) g t ((((cs.setIfInBounds o a).setIfInBounds (o + 1) b).setIfInBounds (o + 2) c).setIfInBounds (o + 3) d) :=
 (((h.set o a).set (o + 1) b).set (o + 2) c).set (o + 3) d
theorem Blk.far4at {W : World} {g g' : Nat} {t : TypeId} {cs : Array Value} (h : Blk W g t cs) (hne : g ≠ g') (o : Nat) (a b c d : Value) : Blk (Go.Proofs.YtbeaijjaecaidaaGreatDoor.st4at W g' o a b c d) g t cs :=
 (((h.far (p := ⟨g', o, none⟩) hne a).far (p := ⟨g', o + 1, none⟩) hne b).far (p := ⟨g', o + 2, none⟩) hne c).far (p := ⟨g', o + 3, none⟩) hne d
theorem KeepF.st4at {n₀ g : Nat} {A W : World} {t : TypeId} {cs : Array Value} (h : KeepF n₀ A W) (hb : Blk W g t cs) (hp : ¬ topT t) (hn : n₀ ≤ g) (o : Nat) (a b c d : Value) : KeepF n₀ A (st4at W g o a b c d) :=
 (((h.set hb hp hn o a).set (hb.set o a) hp hn (o + 1) b).set ((hb.set o a).set (o + 1) b) hp hn (o + 2) c).set (((hb.set o a).set (o + 1) b).set (o + 2) c) hp hn (o + 3) d
theorem OwnR.put {w0 W : World} {B base : Nat} {v : Value} {l : List F} (h : OwnR w0 B W base v ((l ++ [zF]).flatMap F.cells)) {a b c d : Value} {t : F} (hx : RepL w0 B [a, b, c, d] t.cells) :
  ∃ g cap, v = .slice (some ⟨g, 0, none⟩) (l.length + 1) cap ∧ base ≤ g ∧ (∃ cur, Blk W g 39 cur) ∧ l.length + 1 ≤ cap ∧ (∃ p q r s, (W.cell? ⟨g, l.length * 4, none⟩ = some p ∧ W.frozen? ⟨g, l.length * 4, none⟩ = false) ∧ (W.cell? ⟨g, l.length * 4 + 1, none⟩ = some q ∧ W.frozen? ⟨g, l.length * 4 + 1, none⟩ = false) ∧ (W.cell? ⟨g, l.length * 4 + 2, none⟩ = some r ∧ W.frozen? ⟨g, l.length * 4 + 2, none⟩ = false) ∧ W.cell? ⟨g, l.length * 4 + 3, none⟩ = some s ∧ W.frozen? ⟨g, l.length * 4 + 3, none⟩ = false) ∧ OwnR w0 B (st4at W g (l.length * 4) a b c d) base v ((l ++ [t]).flatMap F.cells) := by
 obtain ⟨n, xs, ⟨h0, h1⟩, h2⟩ := h
 have hfl := flat_length (l := l ++ [zF]) (f := F.cells) (k := 4) (fun x _ => x.cells_length)
 have hfl2 := flat_length (l := l) (f := F.cells) (k := 4) (fun x _ => x.cells_length)
 have h21 := h2.1
 rw [List.length_append, List.length_singleton] at hfl
 obtain rfl : n = l.length + 1 := by omega
 rcases h1 with ⟨_, h1⟩ | ⟨g, cap, cur, rfl, hg, hb, hnc, hcap, hcur, hxs⟩
 ·omega
 ·refine ⟨g, cap, rfl, hg, ⟨cur, hb⟩, hnc, ?_, ?_⟩
  ·have hB : Blk W g 39 cur := hb
   have e : ∀ i (hi : i < cur.size), W.cell? ⟨g, i, none⟩ = some cur[i] := fun i hi => (hB.cell i).trans (Array.getElem?_eq_getElem hi)
   exact ⟨_, _, _, _, ⟨e _ (by omega), hB.frozen _⟩, ⟨e _ (by omega), hB.frozen _⟩, ⟨e _ (by omega), hB.frozen _⟩, e _ (by omega), hB.frozen _⟩
  have e1 : (l ++ [zF]).flatMap F.cells = l.flatMap F.cells ++ zF.cells := by rw [List.flatMap_append]; simp
  have e2 : (l ++ [t]).flatMap F.cells = l.flatMap F.cells ++ t.cells := by rw [List.flatMap_append]; simp
  rw [e1] at h2
  rw [e2]
  have hp := h2.take (l.length * 4)
  rw [List.take_left' hfl2] at hp
  have hxl : xs = xs.take (l.length * 4) ++ [xs[l.length * 4], xs[l.length * 4 + 1], xs[l.length * 4 + 2], xs[l.length * 4 + 3]] := by
   conv => lhs; rw [← List.take_append_drop (l.length * 4) xs]
   congr 1
   rw [List.drop_eq_getElem_cons (by omega), List.drop_eq_getElem_cons (by omega), List.drop_eq_getElem_cons (by omega), List.drop_eq_getElem_cons (by omega), List.drop_of_length_le (by omega)]
  have hs := take_set4 (l.length * 4) cur.toList (xs.take (l.length * 4)) _ _ _ _ a b c d (by rw [show l.length * 4 + 4 = (l.length + 1) * 4 from by omega, hxs]; exact hxl) (by rw [List.length_take]; omega)
  refine ⟨l.length + 1, xs.take (l.length * 4) ++ [a, b, c, d], ⟨?_, .inr ⟨g, cap, _, rfl, hg, Blk.st4at hb (l.length * 4) a b c d, hnc, hcap, ?_, ?_⟩⟩, hp.append hx⟩
  ·rw [List.length_append, List.length_take, Nat.min_eq_left (by omega)]
   simp
   omega
  ·simp only [Array.size_setIfInBounds]
   exact hcur
  ·rw [← hs]
   simp only [Array.toList_setIfInBounds]
   rw [show (l.length + 1) * 4 = l.length * 4 + 4 from by omega]
theorem OwnR.kept {w0 W W' : World} {B base : Nat} {v : Value} {ds : List D} {row : Option Nat} (h : OwnR w0 B W base v ds) (hg : W.grownBy W' row) (hrow : ∀ r, row = some r → ∃ o : Obj, W.heap[r]? = some o ∧ o.isCells = false) : OwnR w0 B W' base v ds := by
 obtain ⟨n, xs, h1, h2⟩ := h
 refine ⟨n, xs, h1.kept hg ?_, h2⟩
 rcases h1.2 with ⟨e, _⟩ | ⟨k, c, cur, e, _, hb, _⟩
 ·subst e; exact .inl rfl
 ·subst e
  refine .inr (fun e => ?_)
  obtain ⟨o, ho, hc⟩ := hrow k e.symm
  rw [hb] at ho
  cases ho
  cases hc
theorem OwnR.far {w0 W : World} {B base : Nat} {v : Value} {ds : List D} (h : OwnR w0 B W base v ds) {b : Nat} (hne : v.ownBlock ≠ some b) (u : Value) : OwnR w0 B (W.setCell ⟨b, 0, none⟩ u) base v ds := by
 obtain ⟨n, xs, h1, h2⟩ := h
 refine ⟨n, xs, h1.kept (grownBy_setCell' W b u) ?_, h2⟩
 rcases h1.2 with ⟨e, _⟩ | ⟨k, c, cur, e, _⟩
 ·subst e; exact .inl rfl
 ·exact .inr hne
def TopI (w : World) (x : CNode w w.heap.size) (l : List F) (W : World) : Prop :=
 ∃ v, Blk W (w.heap.size + 1) 32 #[v] ∧ OwnR w w.heap.size W (w.heap.size + 1 + 1) v (l.flatMap F.cells) ∧ Blk W w.heap.size 169 #[x.r, x.a, x.b, x.c, x.d]
theorem topI_own {β : Type} (w : World) (x : CNode w w.heap.size) (f : β → List F) (B : Nat) : OwnFrom B (fun s W => TopI w x (f s) W) := fun s X Y row hs hg hrow => by
 obtain ⟨v, h1, h2, h3⟩ := hs
 exact ⟨v, blk_own (w.heap.size + 1) 32 (fun _ : Unit => #[v]) () X Y row h1 hg (fun r e => (hrow r e).2), h2.kept hg (fun r e => (hrow r e).2), blk_own w.heap.size 169 (fun _ : Unit => #[x.r, x.a, x.b, x.c, x.d]) () X Y row h3 hg (fun r e => (hrow r e).2)⟩
end Go.Proofs.YtbeaijjaecaidaaGreatDoor
namespace Go.Proofs.YtbeaijjaecaidaaGreatDoor
open Go.RowKit Go.Shelf
def outF (c : Cl) (A : List (List F)) (k : Nat) : List F := (c.refs.take k).flatMap fun r => crossF (A.getD r.toNat []) c.body.tops
theorem outF_succ (c : Cl) (A : List (List F)) (k : Nat) (h : k < c.refs.length) : outF c A (k + 1) = outF c A k ++ crossF (A.getD c.refs[k].toNat []) c.body.tops := by
 unfold outF
 rw [List.take_add_one, List.getElem?_eq_getElem h, List.flatMap_append]
 simp
theorem outF_all (c : Cl) (A : List (List F)) (h : ¬ c.refs = []) : outF c A c.refs.length = altF c A := by
 unfold outF altF
 rw [if_neg h, List.take_length]
theorem outF_pre (c : Cl) (A : List (List F)) (k : Nat) (h : ¬ c.refs = []) : ∃ r, altF c A = outF c A k ++ r := by
 unfold outF altF
 rw [if_neg h]
 refine ⟨(c.refs.drop k).flatMap fun r => crossF (A.getD r.toNat []) c.body.tops, ?_⟩
 conv => lhs; rw [← List.take_append_drop k c.refs]
 rw [List.flatMap_append]
theorem crossF_take (p q : List F) (j : Nat) (h : j < p.length) : crossF (p.take (j + 1)) q = crossF (p.take j) q ++ q.map (andF p[j]) := by
 unfold crossF
 rw [List.take_add_one, List.getElem?_eq_getElem h, List.flatMap_append]
 simp
theorem map_take (f : F → F) (q : List F) (i : Nat) (h : i < q.length) : (q.take (i + 1)).map f = (q.take i).map f ++ [f q[i]] := by
 rw [List.take_add_one, List.getElem?_eq_getElem h, List.map_append]
 simp
theorem crossF_pre (p q : List F) (j : Nat) : ∃ r, crossF p q = crossF (p.take j) q ++ r := by
 unfold crossF
 refine ⟨(p.drop j).flatMap fun a => q.map (andF a), ?_⟩
 conv => lhs; rw [← List.take_append_drop j p]
 rw [List.flatMap_append]
theorem out_bound {c : Cl} {A : List (List F)} (hok : AltOk c A) (hne : ¬ c.refs = []) {k : Nat} (hk : k < c.refs.length) :
  (outF c A k).length + (A.getD c.refs[k].toNat []).length * c.body.tops.length ≤ 64 := by
 obtain ⟨r, hr⟩ := outF_pre c A (k + 1) hne
 have h1 := congrArg List.length hr
 rw [outF_succ c A k hk, List.length_append, List.length_append, crossF_length] at h1
 have := hok.2.1
 omega
theorem out_bound2 {c : Cl} {A : List (List F)} (hok : AltOk c A) (hne : ¬ c.refs = []) {k : Nat} (hk : k < c.refs.length) {j : Nat} (hj : j < (A.getD c.refs[k].toNat []).length) (i : Nat) (hi : i ≤ c.body.tops.length) :
  (outF c A k ++ crossF ((A.getD c.refs[k].toNat []).take j) c.body.tops ++ (c.body.tops.take i).map (andF (A.getD c.refs[k].toNat [])[j])).length ≤ 64 := by
 have h1 := out_bound hok hne hk
 rw [List.length_append, List.length_append, crossF_length, List.length_map, List.length_take, List.length_take, Nat.min_eq_left (by omega), Nat.min_eq_left hi]
 have h2 : (j + 1) * c.body.tops.length ≤ (A.getD c.refs[k].toNat []).length * c.body.tops.length := Nat.mul_le_mul_right _ hj
 rw [Nat.add_mul, Nat.one_mul] at h2
 omega
theorem out_ok {c : Cl} {A : List (List F)} (hok : AltOk c A) (hne : ¬ c.refs = []) {k : Nat} (hk : k < c.refs.length) {j : Nat} (hj : j < (A.getD c.refs[k].toNat []).length) {i : Nat} (hi : i < c.body.tops.length) :
  OkF (andF (A.getD c.refs[k].toNat [])[j] c.body.tops[i]) := by
 refine hok.2.2.2 hne _ ?_
 unfold altF
 rw [if_neg hne]
 exact List.mem_flatMap.2 ⟨_, List.getElem_mem hk, List.mem_flatMap.2 ⟨_, List.getElem_mem hj, List.mem_map.2 ⟨_, List.getElem_mem hi, rfl⟩⟩⟩
theorem andF_cells (a b : F) : (andF a b).cells = [.v (.int .i64 4), .v (.int .i64 0), .s 8 [], .s 4 ((a.parts ++ b.parts).flatMap F.cells)] := by
 rw [F.cells_eq]
 rfl
theorem and_rep {w0 W : World} {base : Nat} {u : Value} {a b : F} (h : OwnR w0 w0.heap.size W base u ((a.parts ++ b.parts).flatMap F.cells)) (hb : Below w0.heap.size w0 W) : RepL W W.heap.size [.int .i64 4, .int .i64 0, .slice none 0 0, u] (andF a b).cells := by
 rw [andF_cells]
 exact RepL.cons (.v _) (RepL.cons (.v _) (RepL.cons (.nil 8) (RepL.cons (h.src.rep (fun p hp => hb.cell hp) hb.size) (RepL.nil _ _))))
theorem and_mask {w0 W : World} {base : Nat} {u : Value} {a b : F} (h : OwnR w0 w0.heap.size W base u ((a.parts ++ b.parts).flatMap F.cells)) (hb : Below w0.heap.size w0 W) {r : Option Nat} (hr : ∀ g, r = some g → w0.heap.size ≤ g ∧ g < base) : RepL (maskW W r) W.heap.size [.int .i64 4, .int .i64 0, .slice none 0 0, u] (andF a b).cells := by
 rw [andF_cells]
 refine RepL.cons (.v _) (RepL.cons (.v _) (RepL.cons (.nil 8) (RepL.cons ?_ (RepL.nil _ _))))
 have hlt := h.lt
 rcases h.src with ⟨rfl, e⟩ | ⟨g, o, k, c, cs, rfl, hkc, hgl, hl, hcr, hc⟩
 ·rw [e]
  exact .nil 4
 ·have hg := hlt g rfl
  refine Rep.mk (by rw [← hcr.1, hl]) hkc hgl (hcr.keep (fun p hp => ?_) hb.size) (fun j x hx => ?_)
  ·rw [mask_other (fun e => by have := hr _ e; omega)]
   exact hb.cell hp
  ·rw [mask_other (fun e => by have := hr _ e; dsimp only at this; omega)]
   exact hc j x hx
theorem one_mask {W : World} {r : Option Nat} {g : Nat} {cs : Array Value} {t : F} (hB : Blk W g 39 cs) (hr : RepL (maskW W r) W.heap.size cs.toList t.cells) (hne : r ≠ some g) : Rep (maskW W r) W.heap.size (.slice (some ⟨g, 0, none⟩) 1 1) (.s 4 ([t].flatMap F.cells)) := by
 have he : [t].flatMap F.cells = t.cells := by simp
 rw [he]
 refine Rep.mk (by rw [F.cells_length]) (Nat.le_refl _) hB.lt hr (fun j u hu => ?_)
 rw [mask_other hne, Nat.zero_add, hB.cell j, ← hu, Array.getElem?_toList]
theorem Rep.putObj {W : World} {B : Nat} {v : Value} {d : D} (h : Rep W B v d) {l : Nat} {o : Obj} (o' : Obj) (hl : W.heap[l]? = some o) (ho : o.isCells = false) : Rep (W.putObj l o') B v d :=
 h.mono (fun p u _ hc => by
  have hne : p.block ≠ l := fun e => by
   obtain ⟨o2, h2, h3⟩ := cells_of_cell hc
   rw [e, hl] at h2
   cases h2
   rw [ho] at h3
   cases h3
  rw [World.cell?_of_block (World.putObj_heap_other hne)]
  exact hc) (Nat.le_refl _)
theorem OwnL.src {w : World} {base : Nat} {v : Value} {l : List F} (h : OwnL w base 39 4 v (l.flatMap F.cells)) : ∃ A c, v = .slice A l.length c ∧ l.length ≤ c := by
 have hfl := flat_length (l := l) (f := F.cells) (k := 4) (fun x _ => x.cells_length)
 obtain ⟨n, xs, ⟨h1, h2⟩, h3⟩ := h
 have := h3.1
 obtain rfl : n = l.length := by omega
 rcases h2 with ⟨rfl, hn⟩ | ⟨g, cap, cur, rfl, _, _, hc, _⟩
 ·rw [hn]
  exact ⟨_, _, rfl, Nat.le_refl _⟩
 ·exact ⟨_, _, rfl, hc⟩
theorem OwnL.lt {w : World} {base : Nat} {e : TypeId} {sz : Nat} {v : Value} {ds : List D} (h : OwnL w base e sz v ds) : ∀ k, v.ownBlock = some k → base ≤ k ∧ k < w.heap.size := by
 obtain ⟨n, xs, h, _⟩ := h
 exact fun k hk => h.lt k hk
theorem OwnL.rep {w : World} {base : Nat} {e : TypeId} {sz : Nat} {v : Value} {ds : List D} (h : OwnL w base e sz v ds) : Rep w w.heap.size v (.s sz ds) := by
 obtain ⟨n, xs, h1, h2⟩ := h
 refine Rep.of_own h1 (h2.mono (fun p u hp hu => ?_) (Nat.le_refl _)) (Nat.le_refl _)
 by_cases hne : v.ownBlock = some p.block
 ·rw [hne, mask_none hp rfl] at hu
  cases hu
 ·rw [← mask_other hne]
  exact hu
theorem w64 {n : Int} (h0 : 0 ≤ n) (h1 : n ≤ 1000000) : wrap64 n = n := by
 unfold wrap64
 omega
theorem alt_num (lo la tp : Nat) (h : lo + la * tp ≤ 64) : ∃ P : Nat, wrap64 ((la : Int) * (tp : Int)) = (P : Int) ∧ lo + P ≤ 64 := by
 refine ⟨la * tp, ?_, h⟩
 rw [← Int.natCast_mul]
 generalize la * tp = p at *
 exact w64 (by omega) (by omega)
def NormQ (Q : Exit → Act → World → Prop) : Exit → Act → World → Prop := fun e a w => Q e a w ∧ e = .normal
theorem drawn_norm {id : Nat} {ops : Array Oper} {b : Bool} {Q : Exit → Act → World → Prop} {a : Act} {w : World} (h : (Code.region id ops b).wp Tryz.prog (NormQ Q) a w) : (Code.region id ops b).wp Tryz.prog Q a w := wp_mono h (fun _ _ _ h => h.1)
theorem grownBy_setCell (W : World) (p : Addr) (v : Value) : W.grownBy (W.setCell p v) (some p.block) :=
 ⟨rfl, rfl, rfl, (KeepsWalks.setCell W _ v).size, fun k _ hk => Below.heap_setCell _ _ _ k (fun e => hk (by rw [e]))⟩
theorem OwnR.cell {w0 W : World} {B base : Nat} {v : Value} {ds : List D} (h : OwnR w0 B W base v ds) (p : Addr) (hne : v.ownBlock ≠ some p.block) (u : Value) : OwnR w0 B (W.setCell p u) base v ds := by
 obtain ⟨n, xs, h1, h2⟩ := h
 refine ⟨n, xs, h1.kept (grownBy_setCell W p u) ?_, h2⟩
 rcases h1.2 with ⟨e, _⟩ | ⟨k, c, cur, e, _⟩
 ·subst e; exact .inl rfl
 ·exact .inr hne
theorem OwnR.far4 {w0 W : World} {B base : Nat} {v : Value} {ds : List D} (h : OwnR w0 B W base v ds) {g : Nat} (hne : v.ownBlock ≠ some g) (a b c d : Value) : OwnR w0 B (st4 W g a b c d) base v ds :=
 (((h.cell ⟨g, 0, none⟩ hne a).cell ⟨g, 1, none⟩ hne b).cell ⟨g, 2, none⟩ hne c).cell ⟨g, 3, none⟩ hne d
theorem concat2 (w0 : World) (B : Nat) (l m p : List F) (hp : p = l ++ m) (g : Nat) (W : World) (u v : Value) (hb : Blk W g 32 #[u, v]) (h1 : SrcR w0 B W u (l.flatMap F.cells)) (h2 : SrcR w0 B W v (m.flatMap F.cells)) (hl : p.length ≤ 1000) :
  Calls Tryz.prog 205 #[.slice (some ⟨g, 0, none⟩) 2 2] W fun e w' => ∃ u, e = .returned u ∧ OwnR w0 B w' W.heap.size u (p.flatMap F.cells) ∧ Below W.heap.size W w' := by
 subst hp
 have := concat_any w0 B [l, m] g W hb.lt (fun k hk => by
  match k, hk with
  | 0, _ => exact ⟨u, hb.cell 0, h1⟩
  | 1, _ => exact ⟨v, hb.cell 1, h2⟩) (by simp at hl ⊢; omega) (by simp)
 have e : [l, m].flatten = l ++ m := by simp
 rw [e] at this
 exact this
theorem okAnd_len {a b : F} (h : OkF (andF a b)) : (a.parts ++ b.parts).length ≤ 96 := by
 have h1 := kids_le (andF a b).kids
 have h2 := (andF a b).nodes_length
 rw [(andF a b).nodes_eq, List.length_cons, nodes_flat_length] at h2
 have h3 := h.1
 show (andF a b).kids.length ≤ 96
 omega
set_option maxHeartbeats 1000000 in
theorem wp_store4 {W : World} {g : Nat} {p0 p1 p2 p3 : Value} (h : Blk W g 39 #[p0, p1, p2, p3]) {o : Oper} {a : Act} {K : Act → World → Prop} {Q : Exit → Act → World → Prop} (p v : Operand) (ho : o.op = .store 39 p v)
  (hp : a.eval p = .pointer (some ⟨g, 0, none⟩)) {x y : Int} {A1 A2 : Option Addr} {n1 c1 n2 c2 : Nat} (hv : a.eval v = .agg #[.int .i64 x, .int .i64 y, .slice A1 n1 c1, .slice A2 n2 c2]) (hK : K (a.put o.dst undef) (st4 W g (.int .i64 x) (.int .i64 y) (.slice A1 n1 c1) (.slice A2 n2 c2))) (hd : o.dst = none) : o.wp Tryz.prog a W K Q := by
 have hc := h.c4
 have hf := h.f4
 unfold Oper.wp
 rw [hd] at hK
 unfold st4 at hK
 simp only [execOp, ho, hp, hv]
 go_simp
 exact hK
theorem and_done {w0 w1 W : World} {ga gb gf n c : Nat} {A : Option Addr} {l : List F} {ca cb : Array Value} (hX : Blk W ga 39 ca) (hY : Blk W gb 39 cb) (hB : Below w1.heap.size w1 W) (f : Blk W gf 39 #[.int .i64 0, .int .i64 0, .slice none 0 0, .slice none 0 0]) (hge : w1.heap.size ≤ gf) (ha : ga < w1.heap.size) (hb : gb < w1.heap.size)
  (ho : OwnR w0 w0.heap.size W w1.heap.size (.slice A n c) (l.flatMap F.cells)) (hne : (Value.slice A n c).ownBlock ≠ some gf) :
  (Blk (st4 W gf (.int .i64 4) (.int .i64 0) (.slice none 0 0) (.slice A n c)) ga 39 ca ∧ Blk (st4 W gf (.int .i64 4) (.int .i64 0) (.slice none 0 0) (.slice A n c)) gb 39 cb ∧ Below w1.heap.size w1 (st4 W gf (.int .i64 4) (.int .i64 0) (.slice none 0 0) (.slice A n c))) ∧
  Blk (st4 W gf (.int .i64 4) (.int .i64 0) (.slice none 0 0) (.slice A n c)) gf 39 #[.int .i64 4, .int .i64 0, .slice none 0 0, .slice A n c] ∧ OwnR w0 w0.heap.size (st4 W gf (.int .i64 4) (.int .i64 0) (.slice none 0 0) (.slice A n c)) w1.heap.size (.slice A n c) (l.flatMap F.cells) :=
 ⟨⟨hX.far4 (by omega) _ _ _ _, hY.far4 (by omega) _ _ _ _, below_set4 hB hge _ _ _ _⟩, f.set4 _ _ _ _, ho.far4 hne _ _ _ _⟩
end Go.Proofs.YtbeaijjaecaidaaGreatDoor
