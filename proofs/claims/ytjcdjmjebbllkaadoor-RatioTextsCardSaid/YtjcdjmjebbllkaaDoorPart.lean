/- What floor, Floor, Part and their references return. -/
import Derived.Test.YtjcdjmjebbllkaaDoorCmp
namespace Go.Proofs.YtjcdjmjebbllkaaDoor
open Go.RowKit
attribute [local go_sem] le_add_one'

theorem floor_lo {n d : Int} (hd : 1 ≤ d) (h : n.tmod d < 0) : n.tdiv d - 1 = n / d := by
  have h1 : ¬ 0 ≤ n := fun h0 => by have := Int.tmod_nonneg d h0; omega
  have h2 : ¬ d ∣ n := fun h0 => by have := Int.tmod_eq_zero_of_dvd h0; omega
  rw [Int.tdiv_eq_ediv, if_neg (by intro h; rcases h with h | h; exact h1 h; exact h2 h), Int.sign_eq_one_of_pos (by omega)]
  omega
theorem floor_hi {n d : Int} (_hd : 1 ≤ d) (h : ¬ n.tmod d < 0) : n.tdiv d = n / d := by
  rw [Int.tdiv_eq_ediv]
  by_cases h0 : 0 ≤ n ∨ d ∣ n
  · rw [if_pos h0]; omega
  · exfalso
    apply h
    have e := Int.tdiv_mul_add_tmod n d   -- n.tdiv d * d + n.tmod d = n
    have h1 : n < 0 := by omega
    have h2 : n.tmod d ≠ 0 := fun e => h0 (.inr (Int.dvd_of_tmod_eq_zero e))
    have h3 : n.tmod d ≤ 0 := by
      have h' := Int.tmod_nonneg d (a := -n) (by omega)
      rw [Int.neg_tmod] at h'; omega
    omega
theorem floor_hi' {n d : Int} (_hd : 1 ≤ d) (h : n.tmod d < 0) : n < n.tdiv d * d := by
  have e := Int.tdiv_mul_add_tmod n d
  omega
theorem floor_lo' {n d : Int} (_hd : 1 ≤ d) (h : ¬ n.tmod d < 0) : n.tdiv d * d ≤ n := by
  have e := Int.tdiv_mul_add_tmod n d
  omega
theorem tdiv_bd' (n d : Int) (h : -1099511627776 ≤ n) (h' : n ≤ 1099511627776) : -1099511627776 ≤ n.tdiv d ∧ n.tdiv d ≤ 1099511627776 := by
  have e1 : (n.tdiv d).natAbs = n.natAbs / d.natAbs := Int.natAbs_tdiv _ _
  have := Nat.div_le_self n.natAbs d.natAbs
  generalize n.tdiv d = X at *
  omega

set_option maxHeartbeats 400000 in
theorem floor_any (n d : Int) (w : World) (h0 : -1099511627776 ≤ n) (h1 : n ≤ 1099511627776) (h2 : 1 ≤ d) (h3 : d ≤ 1048576) :
    Calls Tryd.prog 59 #[.int .i64 n, .int .i64 d] w fun e w' => e = .returned (.int .i64 (n / d)) ∧ w = w' := by
  have b := tdiv_bd' n d h0 h1
  by_cases h : n.tmod d < 0
  · have e := Lib.hid (floor_lo h2 h)
    go_enter Tryd.func59, Tryd.ntmps59
    go_wp2
    go_ret
    exact ⟨ret_int e.out, rfl⟩
  · have e := Lib.hid (floor_hi h2 h)
    go_enter Tryd.func59, Tryd.ntmps59
    go_wp2
    go_ret
    exact ⟨ret_int e.out, rfl⟩

set_option maxHeartbeats 400000 in
theorem reffloor_any (n d : Int) (w : World) (h0 : -1099511627776 ≤ n) (h1 : n ≤ 1099511627776) (h2 : 1 ≤ d) (h3 : d ≤ 1048576) :
    Calls Tryd.prog 31 #[.int .i64 n, .int .i64 d] w fun e w' => e = .returned (.int .i64 (n / d)) ∧ w = w' := by
  have b := tdiv_bd' n d h0 h1
  have m := mul_bd b.1 b.2 (by omega) h3
  by_cases h : n.tmod d < 0
  · have e := Lib.hid (floor_lo h2 h)
    have l := floor_hi' h2 h
    clear h
    go_enter Tryd.func31, Tryd.ntmps31
    go_wp2
    go_ret
    exact ⟨ret_int e.out, rfl⟩
  · have e := Lib.hid (floor_hi h2 h)
    have l := floor_lo' h2 h
    clear h
    go_enter Tryd.func31, Tryd.ntmps31
    go_wp2
    go_ret
    exact ⟨ret_int e.out, rfl⟩

set_option maxHeartbeats 400000 in
theorem Floor_any (a b : Int) (w : World) (ha0 : -9223372036854775808 ≤ a) (ha : a ≤ 9223372036854775807) (hb0 : -9223372036854775808 ≤ b) (hb : b ≤ 9223372036854775807) :
    Calls Tryd.prog 30 #[rat a b] w fun e w' => e = .returned (.tuple #[.int .i64 (sel (valE a b) (a / b) 0), .int .i64 (valE a b)]) ∧ Below w.heap.size w w' := by
  have H := Lib.hid (valid_any a b)
  by_cases h : valE a b = 0
  · rw [sel_ok h, h]
    rw [h] at H
    obtain ⟨b1, b2, b3, b4, _⟩ := valE_ok h
    clear h
    go_enter Tryd.func30, Tryd.ntmps30
    go_wp2_with (first | (go_at_call 28; refine (H.out _ ha0 ha hb0 hb).mono ?_; rintro e w1 ⟨rfl, hb1⟩; obtain ⟨hc1, hf1, hz1⟩ := bcell hb1; (try simp at hz1); (try have hw1_0 : w.heap.size < w1.heap.size := by omega); (try have hw1_1 : w.heap.size + 1 < w1.heap.size := by omega); (try have hw1_2 : w.heap.size + 1 + 1 < w1.heap.size := by omega); (try have hw1_3 : w.heap.size + 1 + 1 + 1 < w1.heap.size := by omega); (try have hw1_4 : w.heap.size + 1 + 1 + 1 + 1 < w1.heap.size := by omega); (try have hw1_5 : w.heap.size + 1 + 1 + 1 + 1 + 1 < w1.heap.size := by omega)) | (go_at_call 59; refine (floor_any a b _ b3 b4 b1 b2).mono ?_; rintro e w2 ⟨rfl, rfl⟩))
    go_ret2
    exact ⟨rfl, (by repeat (first | exact Below.refl _ _ | assumption | refine Below.setCell ?_ (by (first | omega | (simp <;> omega))) _ | refine below_drewN ?_ _ | refine Below.drew ?_ | refine Below.alloc ?_ (by (first | omega | (simp <;> omega))) _ | (refine after (h1 := by assumption) ?_ ?_; rotate_left; (first | omega | (simp <;> omega)))))⟩
  · rw [sel_no h, (valE_cases a b).resolve_left h]
    rw [(valE_cases a b).resolve_left h] at H
    clear h
    go_enter Tryd.func30, Tryd.ntmps30
    go_wp2_with (go_at_call 28; refine (H.out _ ha0 ha hb0 hb).mono ?_; rintro e w1 ⟨rfl, hb1⟩; obtain ⟨hc1, hf1, hz1⟩ := bcell hb1; (try simp at hz1); (try have hw1_0 : w.heap.size < w1.heap.size := by omega); (try have hw1_1 : w.heap.size + 1 < w1.heap.size := by omega); (try have hw1_2 : w.heap.size + 1 + 1 < w1.heap.size := by omega); (try have hw1_3 : w.heap.size + 1 + 1 + 1 < w1.heap.size := by omega); (try have hw1_4 : w.heap.size + 1 + 1 + 1 + 1 < w1.heap.size := by omega); (try have hw1_5 : w.heap.size + 1 + 1 + 1 + 1 + 1 < w1.heap.size := by omega))
    go_ret2
    exact ⟨rfl, (by repeat (first | exact Below.refl _ _ | assumption | refine Below.setCell ?_ (by (first | omega | (simp <;> omega))) _ | refine below_drewN ?_ _ | refine Below.drew ?_ | refine Below.alloc ?_ (by (first | omega | (simp <;> omega))) _ | (refine after (h1 := by assumption) ?_ ?_; rotate_left; (first | omega | (simp <;> omega)))))⟩
end Go.Proofs.YtjcdjmjebbllkaaDoor
