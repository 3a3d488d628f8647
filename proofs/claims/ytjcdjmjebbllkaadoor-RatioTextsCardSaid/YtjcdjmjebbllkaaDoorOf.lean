/- What Of returns. -/
import Derived.Test.YtjcdjmjebbllkaaDoorRef
namespace Go.Proofs.YtjcdjmjebbllkaaDoor
open Go.RowKit

/-- The quotient by what Of computes: x and y are the two quotients behind the change of the signs. -/
theorem of_yes (n d x y : Int) (h0 : d ≠ 0) (hx : x = if d < 0 then -(n.tdiv (Int.gcd n d)) else n.tdiv (Int.gcd n d)) (hy : y = if d < 0 then -(d.tdiv (Int.gcd n d)) else d.tdiv (Int.gcd n d))
    (h1 : x ≤ 1099511627776) (h2 : -1099511627776 ≤ x) (h3 : y ≤ 1048576) : newN n d = x ∧ newD n d = y ∧ newE n d = 0 := by
  have hg := gcd_pos_right n d h0
  have e1 : (n.tdiv (Int.gcd n d)).natAbs = n.natAbs / Int.gcd n d := by rw [Int.natAbs_tdiv]; rfl
  have e2 : (d.tdiv (Int.gcd n d)).natAbs = d.natAbs / Int.gcd n d := by rw [Int.natAbs_tdiv]; rfl
  have s1 : n < 0 → n.tdiv (Int.gcd n d) ≤ 0 := fun h => by
    have h' := Int.tdiv_nonneg (a := -n) (b := (Int.gcd n d : Int)) (by omega) (by omega)
    rw [Int.neg_tdiv] at h'; omega
  have s2 : 0 ≤ n → 0 ≤ n.tdiv (Int.gcd n d) := fun h => Int.tdiv_nonneg h (by omega)
  have s3 : d < 0 → d.tdiv (Int.gcd n d) ≤ 0 := fun h => by
    have h' := Int.tdiv_nonneg (a := -d) (b := (Int.gcd n d : Int)) (by omega) (by omega)
    rw [Int.neg_tdiv] at h'; omega
  have s4 : 0 ≤ d → 0 ≤ d.tdiv (Int.gcd n d) := fun h => Int.tdiv_nonneg h (by omega)
  have he : newE n d = 0 := by
    unfold newE
    rw [if_neg h0, if_neg]
    rw [← e1, ← e2]
    generalize n.tdiv (Int.gcd n d) = X at *
    generalize d.tdiv (Int.gcd n d) = Y at *
    split at hx <;> split at hy <;> omega
  refine ⟨?_, ?_, he⟩
  · unfold newN
    rw [if_pos he, ← e1, hx]
    generalize n.tdiv (Int.gcd n d) = X at *
    by_cases a : n < 0 <;> by_cases b : d < 0 <;> simp [a, b] at s1 s2 ⊢ <;> omega
  · unfold newD
    rw [if_pos he, ← e2, hy]
    generalize d.tdiv (Int.gcd n d) = X at *
    by_cases b : d < 0 <;> simp [b] at s3 s4 ⊢ <;> omega
theorem of_no (n d x y : Int) (h0 : d ≠ 0) (hx : x = if d < 0 then -(n.tdiv (Int.gcd n d)) else n.tdiv (Int.gcd n d)) (hy : y = if d < 0 then -(d.tdiv (Int.gcd n d)) else d.tdiv (Int.gcd n d))
    (h1 : 1099511627776 < x ∨ x < -1099511627776 ∨ 1048576 < y) : newN n d = 0 ∧ newD n d = 0 ∧ newE n d = 5 := by
  have e1 : (n.tdiv (Int.gcd n d)).natAbs = n.natAbs / Int.gcd n d := by rw [Int.natAbs_tdiv]; rfl
  have e2 : (d.tdiv (Int.gcd n d)).natAbs = d.natAbs / Int.gcd n d := by rw [Int.natAbs_tdiv]; rfl
  have he : newE n d = 5 := by
    unfold newE
    rw [if_neg h0, if_pos]
    rw [← e1, ← e2]
    generalize n.tdiv (Int.gcd n d) = X at *
    generalize d.tdiv (Int.gcd n d) = Y at *
    split at hx <;> split at hy <;> omega
  exact ⟨by unfold newN; rw [he]; rfl, by unfold newD; rw [he]; rfl, he⟩
theorem tdiv_bd (n : Int) (g : Nat) (h : -9223372036854775807 ≤ n) (h' : n ≤ 9223372036854775807) : -9223372036854775807 ≤ n.tdiv g ∧ n.tdiv g ≤ 9223372036854775807 := by
  have e1 : (n.tdiv g).natAbs = n.natAbs / g := by rw [Int.natAbs_tdiv]; rfl
  have := Nat.div_le_self n.natAbs g
  generalize n.tdiv g = X at *
  omega

set_option maxHeartbeats 400000 in
theorem of_any (n d : Int) (w : World) (hn0 : -9223372036854775807 ≤ n) (hn : n ≤ 9223372036854775807) (hd0 : -9223372036854775807 ≤ d) (hd : d ≤ 9223372036854775807) (h0 : d ≠ 0) :
    Calls Tryd.prog 43 #[.int .i64 n, .int .i64 d] w fun e w' => e = .returned (.tuple #[rat (newN n d) (newD n d), .int .i64 (newE n d)]) ∧ Below w.heap.size w w' := by
  have hg : 0 < Int.gcd n d := gcd_pos_right n d h0
  have e' : Int.gcd (-n) (-d) = Int.gcd n d := by simp
  have H1 := Lib.hid (of_yes n d)
  have H2 := Lib.hid (of_no n d)
  generalize hgg : Int.gcd n d = g at *
  have HG := Lib.hid hgg
  have HG' := Lib.hid e'
  clear hgg e'
  have b1 := tdiv_bd n g hn0 hn
  have b2 := tdiv_bd d g hd0 hd
  by_cases h1 : d < 0
  · have hw1 : IntKind.i64.wrap (-n.tdiv g) = -n.tdiv g := IntWalk.i64_in _ (by omega)
    have hw2 : IntKind.i64.wrap (-d.tdiv g) = -d.tdiv g := IntWalk.i64_in _ (by omega)
    go_enter Tryd.func43, Tryd.ntmps43
    go_wp2_with (go_at_call 58; refine (common_any (-n) (-d) _ (by omega) (by omega) (by omega) (by omega)).mono ?_; rintro e w' ⟨rfl, q, rfl⟩; rw [HG'.out])
    all_goals clear hw1 hw2
    all_goals
      by_cases hA : -n.tdiv g ≤ 1099511627776 ∧ -1099511627776 ≤ -n.tdiv g ∧ -d.tdiv g ≤ 1048576
      · obtain ⟨e1, e2, e3⟩ := H1.out (-n.tdiv g) (-d.tdiv g) h0 (by rw [if_pos h1]) (by rw [if_pos h1]) hA.1 hA.2.1 hA.2.2
        rw [e1, e2, e3]
        first
          | (exfalso; omega)
          | exact bodyPost_ret (v := .tuple #[rat (-n.tdiv g) (-d.tdiv g), .int .i64 0]) (by simp [*, results, Tryd.results43, go_sem]) rfl ⟨rfl, (by repeat (first | exact Below.refl _ _ | assumption | refine Below.setCell ?_ (by (first | omega | (simp <;> omega))) _ | refine below_drewN ?_ _ | refine Below.drew ?_ | refine Below.alloc ?_ (by (first | omega | (simp <;> omega))) _ | (refine after (h1 := by assumption) ?_ ?_; rotate_left; (first | omega | (simp <;> omega)))))⟩
      · obtain ⟨e1, e2, e3⟩ := H2.out (-n.tdiv g) (-d.tdiv g) h0 (by rw [if_pos h1]) (by rw [if_pos h1]) (by omega)
        rw [e1, e2, e3]
        first
          | (exfalso; omega)
          | exact bodyPost_ret (v := .tuple #[rat 0 0, .int .i64 5]) (by simp [*, results, Tryd.results43, go_sem]) rfl ⟨rfl, (by repeat (first | exact Below.refl _ _ | assumption | refine Below.setCell ?_ (by (first | omega | (simp <;> omega))) _ | refine below_drewN ?_ _ | refine Below.drew ?_ | refine Below.alloc ?_ (by (first | omega | (simp <;> omega))) _ | (refine after (h1 := by assumption) ?_ ?_; rotate_left; (first | omega | (simp <;> omega)))))⟩
  · have e4 : d.tdiv g = d / g := Int.tdiv_eq_ediv_of_nonneg (by omega)
    have HE := Lib.hid e4
    clear e4
    have b3 : d / g ≤ d := Int.ediv_le_self _ (by omega)
    go_enter Tryd.func43, Tryd.ntmps43
    go_wp2_with (go_at_call 58; refine (common_any n d _ (by omega) (by omega) (by omega) (by omega)).mono ?_; rintro e w' ⟨rfl, q, rfl⟩; rw [HG.out])
    all_goals
      have hE := HE.out
      by_cases hA : n.tdiv g ≤ 1099511627776 ∧ -1099511627776 ≤ n.tdiv g ∧ d / g ≤ 1048576
      · obtain ⟨e1, e2, e3⟩ := H1.out (n.tdiv g) (d / g) h0 (by rw [if_neg (by omega)]) (by rw [if_neg (by omega), HE.out]) hA.1 hA.2.1 hA.2.2
        rw [e1, e2, e3]
        first
          | (exfalso; omega)
          | exact bodyPost_ret (v := .tuple #[rat (n.tdiv g) (d / g), .int .i64 0]) (by simp [*, results, Tryd.results43, go_sem]) rfl ⟨rfl, (by repeat (first | exact Below.refl _ _ | assumption | refine Below.setCell ?_ (by (first | omega | (simp <;> omega))) _ | refine below_drewN ?_ _ | refine Below.drew ?_ | refine Below.alloc ?_ (by (first | omega | (simp <;> omega))) _ | (refine after (h1 := by assumption) ?_ ?_; rotate_left; (first | omega | (simp <;> omega)))))⟩
      · obtain ⟨e1, e2, e3⟩ := H2.out (n.tdiv g) (d / g) h0 (by rw [if_neg (by omega)]) (by rw [if_neg (by omega), HE.out]) (by omega)
        rw [e1, e2, e3]
        first
          | (exfalso; omega)
          | exact bodyPost_ret (v := .tuple #[rat 0 0, .int .i64 5]) (by simp [*, results, Tryd.results43, go_sem]) rfl ⟨rfl, (by repeat (first | exact Below.refl _ _ | assumption | refine Below.setCell ?_ (by (first | omega | (simp <;> omega))) _ | refine below_drewN ?_ _ | refine Below.drew ?_ | refine Below.alloc ?_ (by (first | omega | (simp <;> omega))) _ | (refine after (h1 := by assumption) ?_ ?_; rotate_left; (first | omega | (simp <;> omega)))))⟩
end Go.Proofs.YtjcdjmjebbllkaaDoor
