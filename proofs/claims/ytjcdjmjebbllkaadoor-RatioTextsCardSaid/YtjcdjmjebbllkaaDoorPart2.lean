/- What Part and its reference return. -/
import Derived.Test.YtjcdjmjebbllkaaDoorPart
namespace Go.Proofs.YtjcdjmjebbllkaaDoor
open Go.RowKit
attribute [local go_sem] le_add_one'

/-- The part of a number. -/
def partE (n a b : Int) : Int := if valE a b = 0 ∧ 0 ≤ n ∧ n ≤ 1099511627776 ∧ 0 ≤ a then (if n * a / b ≤ 1099511627776 then 0 else 5) else 1
def partN (n a b : Int) : Int := if partE n a b = 0 then n * a / b else 0
theorem part_arg {n a b : Int} (h : ¬ (valE a b = 0 ∧ 0 ≤ n ∧ n ≤ 1099511627776 ∧ 0 ≤ a)) : partE n a b = 1 ∧ partN n a b = 0 := by
  have e : partE n a b = 1 := by unfold partE; rw [if_neg h]
  exact ⟨e, by unfold partN; rw [e]; rfl⟩
theorem part_split (n a b : Int) (hb : 1 ≤ b) : n * a / b = n / b * a + n % b * a / b := by
  have e : n * a = n % b * a + b * (n / b * a) := by
    have := Int.emod_add_mul_ediv n b
    calc n * a = (n % b + b * (n / b)) * a := by rw [this]
      _ = _ := by rw [Int.add_mul, Int.mul_assoc]
  rw [e, Int.add_mul_ediv_left _ _ (by omega : b ≠ 0)]
  omega
theorem part_big {n a b : Int} (h0 : valE a b = 0) (h1 : 0 ≤ n) (h2 : n ≤ 1099511627776) (h3 : 0 ≤ a) (hq : 0 < n / b) (h : 1099511627776 / (n / b) < a) : partE n a b = 5 ∧ partN n a b = 0 := by
  have hb := (valE_ok h0).1
  have hs := part_split n a b hb
  have hr : 0 ≤ n % b * a / b := Int.ediv_nonneg (Int.mul_nonneg (Int.emod_nonneg _ (by omega)) h3) (by omega)
  have hm : 1099511627776 < n / b * a := by
    rw [Int.mul_comm]
    exact (Int.ediv_lt_iff_lt_mul hq).1 h
  have e : partE n a b = 5 := by
    unfold partE
    rw [if_pos ⟨h0, h1, h2, h3⟩, if_neg (by omega)]
  exact ⟨e, by unfold partN; rw [e]; rfl⟩
theorem part_mid {n a b : Int} (h0 : valE a b = 0) (h1 : 0 ≤ n) (h2 : n ≤ 1099511627776) (h3 : 0 ≤ a) (h : n / b ≤ 0 ∨ a ≤ 1099511627776 / (n / b)) :
    0 ≤ n / b ∧ n / b ≤ 1099511627776 ∧ 0 ≤ n % b ∧ n % b ≤ 1048576 ∧ 0 ≤ n / b * a ∧ n / b * a ≤ 1099511627776 ∧ 0 ≤ n % b * a ∧ n % b * a ≤ 1152921504606846976 ∧ 0 ≤ n % b * a / b ∧ n % b * a / b ≤ 1152921504606846976 ∧
    (1099511627776 < n / b * a + n % b * a / b → partE n a b = 5 ∧ partN n a b = 0) ∧ (n / b * a + n % b * a / b ≤ 1099511627776 → partE n a b = 0 ∧ partN n a b = n / b * a + n % b * a / b) := by
  obtain ⟨hb1, hb2, ha1, ha2, _⟩ := valE_ok h0
  have hs := part_split n a b hb1
  have k1 : 0 ≤ n / b := Int.ediv_nonneg h1 (by omega)
  have k2 : n / b ≤ n := Int.ediv_le_self _ h1
  have k3 : 0 ≤ n % b := Int.emod_nonneg _ (by omega)
  have k4 : n % b < b := Int.emod_lt_of_pos _ (by omega)
  have k5 : 0 ≤ n / b * a := Int.mul_nonneg k1 h3
  have k6 : n / b * a ≤ 1099511627776 := by
    rcases h with h | h
    · rw [show n / b = 0 from by omega]; omega
    · by_cases hq : n / b = 0
      · rw [hq]; omega
      · rw [Int.mul_comm]
        exact (Int.le_ediv_iff_mul_le (by omega)).1 h
  have k7 : 0 ≤ n % b * a := Int.mul_nonneg k3 h3
  have k8 := mul_bd ha1 ha2 k3 (by omega : n % b ≤ 1048576)
  rw [Int.mul_comm] at k8
  have k9 : 0 ≤ n % b * a / b := Int.ediv_nonneg k7 (by omega)
  have k10 : n % b * a / b ≤ n % b * a := Int.ediv_le_self _ k7
  refine ⟨k1, by omega, k3, by omega, k5, k6, k7, k8.2, k9, by omega, fun hgt => ?_, fun hle => ?_⟩
  · have e : partE n a b = 5 := by
      unfold partE
      rw [if_pos ⟨h0, h1, h2, h3⟩, if_neg (by omega)]
    exact ⟨e, by unfold partN; rw [e]; rfl⟩
  · have e : partE n a b = 0 := by
      unfold partE
      rw [if_pos ⟨h0, h1, h2, h3⟩, if_pos (by omega)]
    exact ⟨e, by unfold partN; rw [e, if_pos rfl, hs]⟩

set_option maxHeartbeats 1000000 in
theorem part_any (n a b : Int) (w : World) (hn0 : -9223372036854775808 ≤ n) (hn : n ≤ 9223372036854775807) (ha0 : -9223372036854775808 ≤ a) (ha : a ≤ 9223372036854775807) (hb0 : -9223372036854775808 ≤ b) (hb : b ≤ 9223372036854775807) :
    Calls Tryd.prog 12 #[.int .i64 n, rat a b] w fun e w' => e = .returned (.tuple #[.int .i64 (partN n a b), .int .i64 (partE n a b)]) ∧ Below w.heap.size w w' := by
  have H := Lib.hid (valid_any a b)
  by_cases h0 : valE a b = 0
  · rw [h0] at H
    obtain ⟨b1, b2, b3, b4, _⟩ := valE_ok h0
    by_cases h1 : n < 0
    · obtain ⟨e1, e2⟩ := part_arg (n := n) (a := a) (b := b) (by omega)
      rw [e1, e2]
      clear e1 e2 h0
      go_enter Tryd.func12, Tryd.ntmps12
      go_wp2_with (go_at_call 28; refine (H.out _ ha0 ha hb0 hb).mono ?_; rintro e w1 ⟨rfl, hb1⟩; obtain ⟨hc1, hf1, hz1⟩ := bcell hb1; (try simp at hz1); (try have hw1_0 : w.heap.size < w1.heap.size := by omega); (try have hw1_1 : w.heap.size + 1 < w1.heap.size := by omega); (try have hw1_2 : w.heap.size + 1 + 1 < w1.heap.size := by omega); (try have hw1_3 : w.heap.size + 1 + 1 + 1 < w1.heap.size := by omega); (try have hw1_4 : w.heap.size + 1 + 1 + 1 + 1 < w1.heap.size := by omega); (try have hw1_5 : w.heap.size + 1 + 1 + 1 + 1 + 1 < w1.heap.size := by omega))
      go_ret2
      exact ⟨rfl, (by repeat (first | exact Below.refl _ _ | assumption | refine Below.setCell ?_ (by (first | omega | (simp <;> omega))) _ | refine below_drewN ?_ _ | refine Below.drew ?_ | refine Below.alloc ?_ (by (first | omega | (simp <;> omega))) _ | (refine after (h1 := by assumption) ?_ ?_; rotate_left; (first | omega | (simp <;> omega)))))⟩
    by_cases h2 : 1099511627776 < n
    · obtain ⟨e1, e2⟩ := part_arg (n := n) (a := a) (b := b) (by omega)
      rw [e1, e2]
      clear e1 e2 h0
      go_enter Tryd.func12, Tryd.ntmps12
      go_wp2_with (go_at_call 28; refine (H.out _ ha0 ha hb0 hb).mono ?_; rintro e w1 ⟨rfl, hb1⟩; obtain ⟨hc1, hf1, hz1⟩ := bcell hb1; (try simp at hz1); (try have hw1_0 : w.heap.size < w1.heap.size := by omega); (try have hw1_1 : w.heap.size + 1 < w1.heap.size := by omega); (try have hw1_2 : w.heap.size + 1 + 1 < w1.heap.size := by omega); (try have hw1_3 : w.heap.size + 1 + 1 + 1 < w1.heap.size := by omega); (try have hw1_4 : w.heap.size + 1 + 1 + 1 + 1 < w1.heap.size := by omega); (try have hw1_5 : w.heap.size + 1 + 1 + 1 + 1 + 1 < w1.heap.size := by omega))
      go_ret2
      exact ⟨rfl, (by repeat (first | exact Below.refl _ _ | assumption | refine Below.setCell ?_ (by (first | omega | (simp <;> omega))) _ | refine below_drewN ?_ _ | refine Below.drew ?_ | refine Below.alloc ?_ (by (first | omega | (simp <;> omega))) _ | (refine after (h1 := by assumption) ?_ ?_; rotate_left; (first | omega | (simp <;> omega)))))⟩
    by_cases h3 : a < 0
    · obtain ⟨e1, e2⟩ := part_arg (n := n) (a := a) (b := b) (by omega)
      rw [e1, e2]
      clear e1 e2 h0
      go_enter Tryd.func12, Tryd.ntmps12
      go_wp2_with (go_at_call 28; refine (H.out _ ha0 ha hb0 hb).mono ?_; rintro e w1 ⟨rfl, hb1⟩; obtain ⟨hc1, hf1, hz1⟩ := bcell hb1; (try simp at hz1); (try have hw1_0 : w.heap.size < w1.heap.size := by omega); (try have hw1_1 : w.heap.size + 1 < w1.heap.size := by omega); (try have hw1_2 : w.heap.size + 1 + 1 < w1.heap.size := by omega); (try have hw1_3 : w.heap.size + 1 + 1 + 1 < w1.heap.size := by omega); (try have hw1_4 : w.heap.size + 1 + 1 + 1 + 1 < w1.heap.size := by omega); (try have hw1_5 : w.heap.size + 1 + 1 + 1 + 1 + 1 < w1.heap.size := by omega))
      go_ret2
      exact ⟨rfl, (by repeat (first | exact Below.refl _ _ | assumption | refine Below.setCell ?_ (by (first | omega | (simp <;> omega))) _ | refine below_drewN ?_ _ | refine Below.drew ?_ | refine Below.alloc ?_ (by (first | omega | (simp <;> omega))) _ | (refine after (h1 := by assumption) ?_ ?_; rotate_left; (first | omega | (simp <;> omega)))))⟩
    by_cases h4 : 0 < n / b
    · by_cases h5 : 1099511627776 / (n / b) < a
      · obtain ⟨e1, e2⟩ := part_big h0 (by omega) (by omega) (by omega) h4 h5
        rw [e1, e2]
        clear e1 e2 h0
        go_enter Tryd.func12, Tryd.ntmps12
        go_wp2_with (go_at_call 28; refine (H.out _ ha0 ha hb0 hb).mono ?_; rintro e w1 ⟨rfl, hb1⟩; obtain ⟨hc1, hf1, hz1⟩ := bcell hb1; (try simp at hz1); (try have hw1_0 : w.heap.size < w1.heap.size := by omega); (try have hw1_1 : w.heap.size + 1 < w1.heap.size := by omega); (try have hw1_2 : w.heap.size + 1 + 1 < w1.heap.size := by omega); (try have hw1_3 : w.heap.size + 1 + 1 + 1 < w1.heap.size := by omega); (try have hw1_4 : w.heap.size + 1 + 1 + 1 + 1 < w1.heap.size := by omega); (try have hw1_5 : w.heap.size + 1 + 1 + 1 + 1 + 1 < w1.heap.size := by omega))
        go_quiet (fail)
        go_wp2
        go_quiet (fail)
        go_wp2
        go_ret2
        exact ⟨rfl, (by repeat (first | exact Below.refl _ _ | assumption | refine Below.setCell ?_ (by (first | omega | (simp <;> omega))) _ | refine below_drewN ?_ _ | refine Below.drew ?_ | refine Below.alloc ?_ (by (first | omega | (simp <;> omega))) _ | (refine after (h1 := by assumption) ?_ ?_; rotate_left; (first | omega | (simp <;> omega)))))⟩
      · obtain ⟨k1, k2, k3, k4, k5, k6, k7, k8, k9, k10, f1, f2⟩ := part_mid h0 (by omega) (by omega) (by omega) (.inr (Int.not_lt.1 h5))
        by_cases h6 : 1099511627776 < n / b * a + n % b * a / b
        · obtain ⟨e1, e2⟩ := f1 h6
          rw [e1, e2]
          clear e1 e2 f1 f2 h0
          go_enter Tryd.func12, Tryd.ntmps12
          go_wp2_with (go_at_call 28; refine (H.out _ ha0 ha hb0 hb).mono ?_; rintro e w1 ⟨rfl, hb1⟩; obtain ⟨hc1, hf1, hz1⟩ := bcell hb1; (try simp at hz1); (try have hw1_0 : w.heap.size < w1.heap.size := by omega); (try have hw1_1 : w.heap.size + 1 < w1.heap.size := by omega); (try have hw1_2 : w.heap.size + 1 + 1 < w1.heap.size := by omega); (try have hw1_3 : w.heap.size + 1 + 1 + 1 < w1.heap.size := by omega); (try have hw1_4 : w.heap.size + 1 + 1 + 1 + 1 < w1.heap.size := by omega); (try have hw1_5 : w.heap.size + 1 + 1 + 1 + 1 + 1 < w1.heap.size := by omega))
          go_quiet (fail)
          go_wp2
          go_quiet (fail)
          go_wp2
          go_quiet (fail)
          go_wp2
          go_ret2
          exact ⟨rfl, (by repeat (first | exact Below.refl _ _ | assumption | refine Below.setCell ?_ (by (first | omega | (simp <;> omega))) _ | refine below_drewN ?_ _ | refine Below.drew ?_ | refine Below.alloc ?_ (by (first | omega | (simp <;> omega))) _ | (refine after (h1 := by assumption) ?_ ?_; rotate_left; (first | omega | (simp <;> omega)))))⟩
        · obtain ⟨e1, e2⟩ := f2 (by omega)
          rw [e1, e2]
          clear e1 e2 f1 f2 h0
          go_enter Tryd.func12, Tryd.ntmps12
          go_wp2_with (go_at_call 28; refine (H.out _ ha0 ha hb0 hb).mono ?_; rintro e w1 ⟨rfl, hb1⟩; obtain ⟨hc1, hf1, hz1⟩ := bcell hb1; (try simp at hz1); (try have hw1_0 : w.heap.size < w1.heap.size := by omega); (try have hw1_1 : w.heap.size + 1 < w1.heap.size := by omega); (try have hw1_2 : w.heap.size + 1 + 1 < w1.heap.size := by omega); (try have hw1_3 : w.heap.size + 1 + 1 + 1 < w1.heap.size := by omega); (try have hw1_4 : w.heap.size + 1 + 1 + 1 + 1 < w1.heap.size := by omega); (try have hw1_5 : w.heap.size + 1 + 1 + 1 + 1 + 1 < w1.heap.size := by omega))
          go_quiet (fail)
          go_wp2
          go_quiet (fail)
          go_wp2
          go_quiet (fail)
          go_wp2
          go_ret2
          exact ⟨rfl, (by repeat (first | exact Below.refl _ _ | assumption | refine Below.setCell ?_ (by (first | omega | (simp <;> omega))) _ | refine below_drewN ?_ _ | refine Below.drew ?_ | refine Below.alloc ?_ (by (first | omega | (simp <;> omega))) _ | (refine after (h1 := by assumption) ?_ ?_; rotate_left; (first | omega | (simp <;> omega)))))⟩
    · have h4' : decide (0 < n / b) = false := by simpa using h4
      obtain ⟨k1, k2, k3, k4, k5, k6, k7, k8, k9, k10, f1, f2⟩ := part_mid h0 (by omega) (by omega) (by omega) (.inl (by omega : n / b ≤ 0))
      by_cases h6 : 1099511627776 < n / b * a + n % b * a / b
      · obtain ⟨e1, e2⟩ := f1 h6
        rw [e1, e2]
        clear e1 e2 f1 f2 h0
        go_enter Tryd.func12, Tryd.ntmps12
        go_wp2_with (go_at_call 28; refine (H.out _ ha0 ha hb0 hb).mono ?_; rintro e w1 ⟨rfl, hb1⟩; obtain ⟨hc1, hf1, hz1⟩ := bcell hb1; (try simp at hz1); (try have hw1_0 : w.heap.size < w1.heap.size := by omega); (try have hw1_1 : w.heap.size + 1 < w1.heap.size := by omega); (try have hw1_2 : w.heap.size + 1 + 1 < w1.heap.size := by omega); (try have hw1_3 : w.heap.size + 1 + 1 + 1 < w1.heap.size := by omega); (try have hw1_4 : w.heap.size + 1 + 1 + 1 + 1 < w1.heap.size := by omega); (try have hw1_5 : w.heap.size + 1 + 1 + 1 + 1 + 1 < w1.heap.size := by omega))
        go_quiet (fail)
        go_wp2
        go_quiet (fail)
        go_wp2
        go_quiet (fail)
        go_wp2
        go_ret2
        exact ⟨rfl, (by repeat (first | exact Below.refl _ _ | assumption | refine Below.setCell ?_ (by (first | omega | (simp <;> omega))) _ | refine below_drewN ?_ _ | refine Below.drew ?_ | refine Below.alloc ?_ (by (first | omega | (simp <;> omega))) _ | (refine after (h1 := by assumption) ?_ ?_; rotate_left; (first | omega | (simp <;> omega)))))⟩
      · obtain ⟨e1, e2⟩ := f2 (by omega)
        rw [e1, e2]
        clear e1 e2 f1 f2 h0
        go_enter Tryd.func12, Tryd.ntmps12
        go_wp2_with (go_at_call 28; refine (H.out _ ha0 ha hb0 hb).mono ?_; rintro e w1 ⟨rfl, hb1⟩; obtain ⟨hc1, hf1, hz1⟩ := bcell hb1; (try simp at hz1); (try have hw1_0 : w.heap.size < w1.heap.size := by omega); (try have hw1_1 : w.heap.size + 1 < w1.heap.size := by omega); (try have hw1_2 : w.heap.size + 1 + 1 < w1.heap.size := by omega); (try have hw1_3 : w.heap.size + 1 + 1 + 1 < w1.heap.size := by omega); (try have hw1_4 : w.heap.size + 1 + 1 + 1 + 1 < w1.heap.size := by omega); (try have hw1_5 : w.heap.size + 1 + 1 + 1 + 1 + 1 < w1.heap.size := by omega))
        go_quiet (fail)
        go_wp2
        go_quiet (fail)
        go_wp2
        go_quiet (fail)
        go_wp2
        go_ret2
        exact ⟨rfl, (by repeat (first | exact Below.refl _ _ | assumption | refine Below.setCell ?_ (by (first | omega | (simp <;> omega))) _ | refine below_drewN ?_ _ | refine Below.drew ?_ | refine Below.alloc ?_ (by (first | omega | (simp <;> omega))) _ | (refine after (h1 := by assumption) ?_ ?_; rotate_left; (first | omega | (simp <;> omega)))))⟩
  · obtain ⟨e1, e2⟩ := part_arg (n := n) (a := a) (b := b) (fun h => h0 h.1)
    rw [e1, e2]
    rw [(valE_cases a b).resolve_left h0] at H
    clear e1 e2 h0
    go_enter Tryd.func12, Tryd.ntmps12
    go_wp2_with (go_at_call 28; refine (H.out _ ha0 ha hb0 hb).mono ?_; rintro e w1 ⟨rfl, hb1⟩; obtain ⟨hc1, hf1, hz1⟩ := bcell hb1; (try simp at hz1); (try have hw1_0 : w.heap.size < w1.heap.size := by omega); (try have hw1_1 : w.heap.size + 1 < w1.heap.size := by omega); (try have hw1_2 : w.heap.size + 1 + 1 < w1.heap.size := by omega); (try have hw1_3 : w.heap.size + 1 + 1 + 1 < w1.heap.size := by omega); (try have hw1_4 : w.heap.size + 1 + 1 + 1 + 1 < w1.heap.size := by omega); (try have hw1_5 : w.heap.size + 1 + 1 + 1 + 1 + 1 < w1.heap.size := by omega))
    go_ret2
    exact ⟨rfl, (by repeat (first | exact Below.refl _ _ | assumption | refine Below.setCell ?_ (by (first | omega | (simp <;> omega))) _ | refine below_drewN ?_ _ | refine Below.drew ?_ | refine Below.alloc ?_ (by (first | omega | (simp <;> omega))) _ | (refine after (h1 := by assumption) ?_ ?_; rotate_left; (first | omega | (simp <;> omega)))))⟩
end Go.Proofs.YtjcdjmjebbllkaaDoor
