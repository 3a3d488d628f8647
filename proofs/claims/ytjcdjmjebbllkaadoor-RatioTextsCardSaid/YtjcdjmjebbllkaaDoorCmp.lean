/- What cmp, Cmp, Less and the references' Cmp, Add and Neg return. -/
import Derived.Test.YtjcdjmjebbllkaaDoorAdd
namespace Go.Proofs.YtjcdjmjebbllkaaDoor
open Go.RowKit
attribute [local go_sem] le_add_one'

/-- The comparison of two numbers. -/
def sgnI (x y : Int) : Int := if x < y then -1 else if y < x then 1 else 0
def cmpI (a b c d : Int) : Int := sel (val2 a b c d) (sgnI (a * d) (c * b)) 0
theorem ret_pair {a b a' b' : Int} (h : a = a') (h' : b = b') : Ending.returned (.tuple #[.int .i64 a, .int .i64 b]) = .returned (.tuple #[.int .i64 a', .int .i64 b']) := by rw [h, h']

set_option maxHeartbeats 400000 in
theorem cmp_any (a b c d : Int) (w : World) (m1 : -1152921504606846976 ≤ a * d ∧ a * d ≤ 1152921504606846976) (m2 : -1152921504606846976 ≤ c * b ∧ c * b ≤ 1152921504606846976) :
    Calls Tryd.prog 45 #[rat a b, rat c d] w fun e w' => e = .returned (.int .i64 (sgnI (a * d) (c * b))) ∧ Below w.heap.size w w' := by
  by_cases h1 : a * d < c * b
  · rw [show sgnI (a * d) (c * b) = -1 from by unfold sgnI; rw [if_pos h1]]
    go_enter Tryd.func45, Tryd.ntmps45
    go_wp2
    go_quiet (fail)
    go_wp2
    go_ret
    exact ⟨rfl, (by repeat (first | exact Below.refl _ _ | assumption | refine Below.setCell ?_ (by (first | omega | (simp <;> omega))) _ | refine below_drewN ?_ _ | refine Below.drew ?_ | refine Below.alloc ?_ (by (first | omega | (simp <;> omega))) _ | (refine after (h1 := by assumption) ?_ ?_; rotate_left; (first | omega | (simp <;> omega)))))⟩
  by_cases h2 : c * b < a * d
  · rw [show sgnI (a * d) (c * b) = 1 from by unfold sgnI; rw [if_neg h1, if_pos h2]]
    go_enter Tryd.func45, Tryd.ntmps45
    go_wp2
    go_quiet (fail)
    go_wp2
    go_ret
    exact ⟨rfl, (by repeat (first | exact Below.refl _ _ | assumption | refine Below.setCell ?_ (by (first | omega | (simp <;> omega))) _ | refine below_drewN ?_ _ | refine Below.drew ?_ | refine Below.alloc ?_ (by (first | omega | (simp <;> omega))) _ | (refine after (h1 := by assumption) ?_ ?_; rotate_left; (first | omega | (simp <;> omega)))))⟩
  · rw [show sgnI (a * d) (c * b) = 0 from by unfold sgnI; rw [if_neg h1, if_neg h2]]
    go_enter Tryd.func45, Tryd.ntmps45
    go_wp2
    go_quiet (fail)
    go_wp2
    go_ret
    exact ⟨rfl, (by repeat (first | exact Below.refl _ _ | assumption | refine Below.setCell ?_ (by (first | omega | (simp <;> omega))) _ | refine below_drewN ?_ _ | refine Below.drew ?_ | refine Below.alloc ?_ (by (first | omega | (simp <;> omega))) _ | (refine after (h1 := by assumption) ?_ ?_; rotate_left; (first | omega | (simp <;> omega)))))⟩

set_option maxHeartbeats 400000 in
theorem Cmp_any (a b c d : Int) (w : World) (ha0 : -9223372036854775808 ≤ a) (ha : a ≤ 9223372036854775807) (hb0 : -9223372036854775808 ≤ b) (hb : b ≤ 9223372036854775807) (hc0 : -9223372036854775808 ≤ c) (hc : c ≤ 9223372036854775807) (hd0 : -9223372036854775808 ≤ d) (hd : d ≤ 9223372036854775807) :
    Calls Tryd.prog 19 #[rat a b, rat c d] w fun e w' => e = .returned (.tuple #[.int .i64 (cmpI a b c d), .int .i64 (val2 a b c d)]) ∧ Below w.heap.size w w' := by
  have H := Lib.hid (fun g w hg => valid2_any g a b c d w hg ha0 ha hb0 hb hc0 hc hd0 hd)
  unfold cmpI
  by_cases h : val2 a b c d = 0
  · rw [sel_ok h, h]
    rw [h] at H
    obtain ⟨v1, v2⟩ := val2_ok h
    clear h
    obtain ⟨b1, b2, b3, b4, _⟩ := valE_ok v1
    obtain ⟨d1, d2, d3, d4, _⟩ := valE_ok v2
    clear v1 v2
    have m1 := mul_bd b3 b4 (by omega) d2
    have m2 := mul_bd d3 d4 (by omega) b2
    go_enter Tryd.func19, Tryd.ntmps19
    go_wp2_with (first | (go_at_call 44; refine (H.out _ _ ?_ ?_ ?_ ?_ ?_).mono ?_; simp; (simp [go_sem]); (simp [go_sem]); (simp [go_sem]); (simp [go_sem]); rintro e w1 ⟨rfl, hb1⟩; obtain ⟨hc1, hf1, hz1⟩ := bcell hb1; (try simp at hz1); (try have hw1_0 : w.heap.size < w1.heap.size := by omega); (try have hw1_1 : w.heap.size + 1 < w1.heap.size := by omega); (try have hw1_2 : w.heap.size + 1 + 1 < w1.heap.size := by omega); (try have hw1_3 : w.heap.size + 1 + 1 + 1 < w1.heap.size := by omega); (try have hw1_4 : w.heap.size + 1 + 1 + 1 + 1 < w1.heap.size := by omega); (try have hw1_5 : w.heap.size + 1 + 1 + 1 + 1 + 1 < w1.heap.size := by omega)) | (go_at_call 45; refine (cmp_any a b c d _ m1 m2).mono ?_; rintro e w2 ⟨rfl, hb2⟩; obtain ⟨hc2, hf2, hz2⟩ := bcell hb2; (try simp at hz2); (try have hw2_0 : w.heap.size < w2.heap.size := by omega); (try have hw2_1 : w.heap.size + 1 < w2.heap.size := by omega); (try have hw2_2 : w.heap.size + 1 + 1 < w2.heap.size := by omega); (try have hw2_3 : w.heap.size + 1 + 1 + 1 < w2.heap.size := by omega); (try have hw2_4 : w.heap.size + 1 + 1 + 1 + 1 < w2.heap.size := by omega); (try have hw2_5 : w.heap.size + 1 + 1 + 1 + 1 + 1 < w2.heap.size := by omega); (try have hv2_1_0 : w1.heap.size < w2.heap.size := by omega); (try have hv2_1_1 : w1.heap.size + 1 < w2.heap.size := by omega); (try have hv2_1_2 : w1.heap.size + 1 + 1 < w2.heap.size := by omega)))
    go_ret2
    exact ⟨rfl, (by repeat (first | exact Below.refl _ _ | assumption | refine Below.setCell ?_ (by (first | omega | (simp <;> omega))) _ | refine below_drewN ?_ _ | refine Below.drew ?_ | refine Below.alloc ?_ (by (first | omega | (simp <;> omega))) _ | (refine after (h1 := by assumption) ?_ ?_; rotate_left; (first | omega | (simp <;> omega)))))⟩
  · rw [sel_no h, val2_bad h]
    rw [val2_bad h] at H
    clear h
    go_enter Tryd.func19, Tryd.ntmps19
    go_wp2_with (go_at_call 44; refine (H.out _ _ ?_ ?_ ?_ ?_ ?_).mono ?_; simp; (simp [go_sem]); (simp [go_sem]); (simp [go_sem]); (simp [go_sem]); rintro e w1 ⟨rfl, hb1⟩; obtain ⟨hc1, hf1, hz1⟩ := bcell hb1; (try simp at hz1); (try have hw1_0 : w.heap.size < w1.heap.size := by omega); (try have hw1_1 : w.heap.size + 1 < w1.heap.size := by omega); (try have hw1_2 : w.heap.size + 1 + 1 < w1.heap.size := by omega); (try have hw1_3 : w.heap.size + 1 + 1 + 1 < w1.heap.size := by omega); (try have hw1_4 : w.heap.size + 1 + 1 + 1 + 1 < w1.heap.size := by omega); (try have hw1_5 : w.heap.size + 1 + 1 + 1 + 1 + 1 < w1.heap.size := by omega))
    go_ret2
    exact ⟨rfl, (by repeat (first | exact Below.refl _ _ | assumption | refine Below.setCell ?_ (by (first | omega | (simp <;> omega))) _ | refine below_drewN ?_ _ | refine Below.drew ?_ | refine Below.alloc ?_ (by (first | omega | (simp <;> omega))) _ | (refine after (h1 := by assumption) ?_ ?_; rotate_left; (first | omega | (simp <;> omega)))))⟩

set_option maxHeartbeats 400000 in
theorem less_any (a b c d : Int) (w : World) (m1 : -1152921504606846976 ≤ a * d ∧ a * d ≤ 1152921504606846976) (m2 : -1152921504606846976 ≤ c * b ∧ c * b ≤ 1152921504606846976) :
    Calls Tryd.prog 18 #[rat a b, rat c d] w fun e w' => e = .returned (.bool (decide (a * d < c * b))) ∧ Below w.heap.size w w' := by
  go_enter Tryd.func18, Tryd.ntmps18
  go_wp2
  go_ret
  exact ⟨rfl, (by repeat (first | exact Below.refl _ _ | assumption | refine Below.setCell ?_ (by (first | omega | (simp <;> omega))) _ | refine below_drewN ?_ _ | refine Below.drew ?_ | refine Below.alloc ?_ (by (first | omega | (simp <;> omega))) _ | (refine after (h1 := by assumption) ?_ ?_; rotate_left; (first | omega | (simp <;> omega)))))⟩

set_option maxHeartbeats 400000 in
theorem refcmp_any (a b c d : Int) (w : World) :
    Calls Tryd.prog 33 #[rat a b, rat c d] w fun e w' => e = .returned (.tuple #[.int .i64 (cmpI a b c d), .int .i64 (val2 a b c d)]) ∧ Below w.heap.size w w' := by
  have H := Lib.hid (both_any a b c d)
  unfold cmpI
  by_cases h : val2 a b c d = 0
  · rw [sel_ok h, h]
    rw [h] at H
    obtain ⟨v1, v2⟩ := val2_ok h
    clear h
    obtain ⟨b1, b2, b3, b4, _⟩ := valE_ok v1
    obtain ⟨d1, d2, d3, d4, _⟩ := valE_ok v2
    clear v1 v2
    have m1 := mul_bd b3 b4 (by omega) d2
    have m2 := mul_bd d3 d4 (by omega) b2
    have L1 := Lib.hid (fun w => less_any a b c d w m1 m2)
    have L2 := Lib.hid (fun w => less_any c d a b w m2 m1)
    by_cases h1 : a * d < c * b
    · rw [show sgnI (a * d) (c * b) = -1 from by unfold sgnI; rw [if_pos h1]]
      rw [decide_eq_true h1] at L1
      clear m1 m2 h1 L2
      go_enter Tryd.func33, Tryd.ntmps33
      go_wp2_with (first | (go_at_call 17; refine (H.out _).mono ?_; rintro e w1 ⟨rfl, hb1⟩; obtain ⟨hc1, hf1, hz1⟩ := bcell hb1; (try simp at hz1); (try have hw1_0 : w.heap.size < w1.heap.size := by omega); (try have hw1_1 : w.heap.size + 1 < w1.heap.size := by omega); (try have hw1_2 : w.heap.size + 1 + 1 < w1.heap.size := by omega); (try have hw1_3 : w.heap.size + 1 + 1 + 1 < w1.heap.size := by omega); (try have hw1_4 : w.heap.size + 1 + 1 + 1 + 1 < w1.heap.size := by omega); (try have hw1_5 : w.heap.size + 1 + 1 + 1 + 1 + 1 < w1.heap.size := by omega)) | (go_at_call 18; refine (L1.out _).mono ?_; rintro e w2 ⟨rfl, hb2⟩; obtain ⟨hc2, hf2, hz2⟩ := bcell hb2; (try simp at hz2); (try have hw2_0 : w.heap.size < w2.heap.size := by omega); (try have hw2_1 : w.heap.size + 1 < w2.heap.size := by omega); (try have hw2_2 : w.heap.size + 1 + 1 < w2.heap.size := by omega); (try have hw2_3 : w.heap.size + 1 + 1 + 1 < w2.heap.size := by omega); (try have hw2_4 : w.heap.size + 1 + 1 + 1 + 1 < w2.heap.size := by omega); (try have hw2_5 : w.heap.size + 1 + 1 + 1 + 1 + 1 < w2.heap.size := by omega); (try have hv2_1_0 : w1.heap.size < w2.heap.size := by omega); (try have hv2_1_1 : w1.heap.size + 1 < w2.heap.size := by omega); (try have hv2_1_2 : w1.heap.size + 1 + 1 < w2.heap.size := by omega)))
      go_ret2
      exact ⟨rfl, (by repeat (first | exact Below.refl _ _ | assumption | refine Below.setCell ?_ (by (first | omega | (simp <;> omega))) _ | refine below_drewN ?_ _ | refine Below.drew ?_ | refine Below.alloc ?_ (by (first | omega | (simp <;> omega))) _ | (refine after (h1 := by assumption) ?_ ?_; rotate_left; (first | omega | (simp <;> omega)))))⟩
    rw [decide_eq_false h1] at L1
    by_cases h2 : c * b < a * d
    · rw [show sgnI (a * d) (c * b) = 1 from by unfold sgnI; rw [if_neg h1, if_pos h2]]
      rw [decide_eq_true h2] at L2
      clear m1 m2 h1 h2
      go_enter Tryd.func33, Tryd.ntmps33
      go_wp2_with (go_at_call 17; refine (H.out _).mono ?_; rintro e w1 ⟨rfl, hb1⟩; obtain ⟨hc1, hf1, hz1⟩ := bcell hb1; (try simp at hz1); (try have hw1_0 : w.heap.size < w1.heap.size := by omega); (try have hw1_1 : w.heap.size + 1 < w1.heap.size := by omega); (try have hw1_2 : w.heap.size + 1 + 1 < w1.heap.size := by omega); (try have hw1_3 : w.heap.size + 1 + 1 + 1 < w1.heap.size := by omega); (try have hw1_4 : w.heap.size + 1 + 1 + 1 + 1 < w1.heap.size := by omega); (try have hw1_5 : w.heap.size + 1 + 1 + 1 + 1 + 1 < w1.heap.size := by omega))
      refine (L1.out _).mono ?_
      rintro e w2 ⟨rfl, hb2⟩
      obtain ⟨hc2, hf2, hz2⟩ := bcell hb2; (try simp at hz2); (try have hw2_0 : w.heap.size < w2.heap.size := by omega); (try have hw2_1 : w.heap.size + 1 < w2.heap.size := by omega); (try have hw2_2 : w.heap.size + 1 + 1 < w2.heap.size := by omega); (try have hw2_3 : w.heap.size + 1 + 1 + 1 < w2.heap.size := by omega); (try have hw2_4 : w.heap.size + 1 + 1 + 1 + 1 < w2.heap.size := by omega); (try have hw2_5 : w.heap.size + 1 + 1 + 1 + 1 + 1 < w2.heap.size := by omega); (try have hv2_1_0 : w1.heap.size < w2.heap.size := by omega); (try have hv2_1_1 : w1.heap.size + 1 < w2.heap.size := by omega); (try have hv2_1_2 : w1.heap.size + 1 + 1 < w2.heap.size := by omega)
      go_wp2_with fail
      refine (L2.out _).mono ?_
      rintro e w3 ⟨rfl, hb3⟩
      obtain ⟨hc3, hf3, hz3⟩ := bcell hb3; (try simp at hz3); (try have hw3_0 : w.heap.size < w3.heap.size := by omega); (try have hw3_1 : w.heap.size + 1 < w3.heap.size := by omega); (try have hw3_2 : w.heap.size + 1 + 1 < w3.heap.size := by omega); (try have hw3_3 : w.heap.size + 1 + 1 + 1 < w3.heap.size := by omega); (try have hw3_4 : w.heap.size + 1 + 1 + 1 + 1 < w3.heap.size := by omega); (try have hw3_5 : w.heap.size + 1 + 1 + 1 + 1 + 1 < w3.heap.size := by omega); (try have hv3_1_0 : w1.heap.size < w3.heap.size := by omega); (try have hv3_1_1 : w1.heap.size + 1 < w3.heap.size := by omega); (try have hv3_1_2 : w1.heap.size + 1 + 1 < w3.heap.size := by omega); (try have hv3_2_0 : w2.heap.size < w3.heap.size := by omega); (try have hv3_2_1 : w2.heap.size + 1 < w3.heap.size := by omega); (try have hv3_2_2 : w2.heap.size + 1 + 1 < w3.heap.size := by omega)
      go_wp2
      go_ret2
      exact ⟨rfl, (by repeat (first | exact Below.refl _ _ | assumption | refine Below.setCell ?_ (by (first | omega | (simp <;> omega))) _ | refine below_drewN ?_ _ | refine Below.drew ?_ | refine Below.alloc ?_ (by (first | omega | (simp <;> omega))) _ | (refine after (h1 := by assumption) ?_ ?_; rotate_left; (first | omega | (simp <;> omega)))))⟩
    · rw [show sgnI (a * d) (c * b) = 0 from by unfold sgnI; rw [if_neg h1, if_neg h2]]
      rw [decide_eq_false h2] at L2
      clear m1 m2 h1 h2
      go_enter Tryd.func33, Tryd.ntmps33
      go_wp2_with fail
      refine (H.out _).mono ?_
      rintro e w1 ⟨rfl, hb1⟩
      obtain ⟨hc1, hf1, hz1⟩ := bcell hb1; (try simp at hz1); (try have hw1_0 : w.heap.size < w1.heap.size := by omega); (try have hw1_1 : w.heap.size + 1 < w1.heap.size := by omega); (try have hw1_2 : w.heap.size + 1 + 1 < w1.heap.size := by omega); (try have hw1_3 : w.heap.size + 1 + 1 + 1 < w1.heap.size := by omega); (try have hw1_4 : w.heap.size + 1 + 1 + 1 + 1 < w1.heap.size := by omega); (try have hw1_5 : w.heap.size + 1 + 1 + 1 + 1 + 1 < w1.heap.size := by omega)
      go_wp2_with fail
      refine (L1.out _).mono ?_
      rintro e w2 ⟨rfl, hb2⟩
      obtain ⟨hc2, hf2, hz2⟩ := bcell hb2; (try simp at hz2); (try have hw2_0 : w.heap.size < w2.heap.size := by omega); (try have hw2_1 : w.heap.size + 1 < w2.heap.size := by omega); (try have hw2_2 : w.heap.size + 1 + 1 < w2.heap.size := by omega); (try have hw2_3 : w.heap.size + 1 + 1 + 1 < w2.heap.size := by omega); (try have hw2_4 : w.heap.size + 1 + 1 + 1 + 1 < w2.heap.size := by omega); (try have hw2_5 : w.heap.size + 1 + 1 + 1 + 1 + 1 < w2.heap.size := by omega); (try have hv2_1_0 : w1.heap.size < w2.heap.size := by omega); (try have hv2_1_1 : w1.heap.size + 1 < w2.heap.size := by omega); (try have hv2_1_2 : w1.heap.size + 1 + 1 < w2.heap.size := by omega)
      go_wp2_with fail
      refine (L2.out _).mono ?_
      rintro e w3 ⟨rfl, hb3⟩
      obtain ⟨hc3, hf3, hz3⟩ := bcell hb3; (try simp at hz3); (try have hw3_0 : w.heap.size < w3.heap.size := by omega); (try have hw3_1 : w.heap.size + 1 < w3.heap.size := by omega); (try have hw3_2 : w.heap.size + 1 + 1 < w3.heap.size := by omega); (try have hw3_3 : w.heap.size + 1 + 1 + 1 < w3.heap.size := by omega); (try have hw3_4 : w.heap.size + 1 + 1 + 1 + 1 < w3.heap.size := by omega); (try have hw3_5 : w.heap.size + 1 + 1 + 1 + 1 + 1 < w3.heap.size := by omega); (try have hv3_1_0 : w1.heap.size < w3.heap.size := by omega); (try have hv3_1_1 : w1.heap.size + 1 < w3.heap.size := by omega); (try have hv3_1_2 : w1.heap.size + 1 + 1 < w3.heap.size := by omega); (try have hv3_2_0 : w2.heap.size < w3.heap.size := by omega); (try have hv3_2_1 : w2.heap.size + 1 < w3.heap.size := by omega); (try have hv3_2_2 : w2.heap.size + 1 + 1 < w3.heap.size := by omega)
      go_wp2
      go_ret2
      exact ⟨rfl, (by repeat (first | exact Below.refl _ _ | assumption | refine Below.setCell ?_ (by (first | omega | (simp <;> omega))) _ | refine below_drewN ?_ _ | refine Below.drew ?_ | refine Below.alloc ?_ (by (first | omega | (simp <;> omega))) _ | (refine after (h1 := by assumption) ?_ ?_; rotate_left; (first | omega | (simp <;> omega)))))⟩
  · rw [sel_no h, val2_bad h]
    rw [val2_bad h] at H
    clear h
    go_enter Tryd.func33, Tryd.ntmps33
    go_wp2_with (go_at_call 17; refine (H.out _).mono ?_; rintro e w1 ⟨rfl, hb1⟩; obtain ⟨hc1, hf1, hz1⟩ := bcell hb1; (try simp at hz1); (try have hw1_0 : w.heap.size < w1.heap.size := by omega); (try have hw1_1 : w.heap.size + 1 < w1.heap.size := by omega); (try have hw1_2 : w.heap.size + 1 + 1 < w1.heap.size := by omega); (try have hw1_3 : w.heap.size + 1 + 1 + 1 < w1.heap.size := by omega); (try have hw1_4 : w.heap.size + 1 + 1 + 1 + 1 < w1.heap.size := by omega); (try have hw1_5 : w.heap.size + 1 + 1 + 1 + 1 + 1 < w1.heap.size := by omega))
    go_ret2
    exact ⟨rfl, (by repeat (first | exact Below.refl _ _ | assumption | refine Below.setCell ?_ (by (first | omega | (simp <;> omega))) _ | refine below_drewN ?_ _ | refine Below.drew ?_ | refine Below.alloc ?_ (by (first | omega | (simp <;> omega))) _ | (refine after (h1 := by assumption) ?_ ?_; rotate_left; (first | omega | (simp <;> omega)))))⟩

set_option maxHeartbeats 400000 in
theorem refadd_any (a b c d : Int) (w : World) :
    Calls Tryd.prog 35 #[rat a b, rat c d] w fun e w' => e = .returned (.tuple #[rat (addN a b c d) (addD a b c d), .int .i64 (addE a b c d)]) ∧ Below w.heap.size w w' := by
  have H := Lib.hid (both_any a b c d)
  unfold addN addD addE
  by_cases h : val2 a b c d = 0
  · rw [sel_ok h, sel_ok h, sel_ok h]
    rw [h] at H
    obtain ⟨v1, v2⟩ := val2_ok h
    clear h
    obtain ⟨b1, b2, b3, b4, _⟩ := valE_ok v1
    obtain ⟨d1, d2, d3, d4, _⟩ := valE_ok v2
    clear v1 v2
    have m1 := mul_bd b3 b4 (by omega) d2
    have m2 := mul_bd d3 d4 (by omega) b2
    have m3 := mul_bd (x := b) (by omega) (by omega) (by omega) d2
    have m4 : b * d ≠ 0 := by
      intro h
      rcases Int.mul_eq_zero.1 h with h | h <;> omega
    have M4 := Lib.hid m4
    clear m4
    go_enter Tryd.func35, Tryd.ntmps35
    go_wp2_with (first | (go_at_call 17; refine (H.out _).mono ?_; rintro e w1 ⟨rfl, hb1⟩; obtain ⟨hc1, hf1, hz1⟩ := bcell hb1; (try simp at hz1); (try have hw1_0 : w.heap.size < w1.heap.size := by omega); (try have hw1_1 : w.heap.size + 1 < w1.heap.size := by omega); (try have hw1_2 : w.heap.size + 1 + 1 < w1.heap.size := by omega); (try have hw1_3 : w.heap.size + 1 + 1 + 1 < w1.heap.size := by omega); (try have hw1_4 : w.heap.size + 1 + 1 + 1 + 1 < w1.heap.size := by omega); (try have hw1_5 : w.heap.size + 1 + 1 + 1 + 1 + 1 < w1.heap.size := by omega)) | (go_at_call 43; refine (of_any (a * d + c * b) (b * d) _ (by omega) (by omega) (by omega) (by omega) M4.out).mono ?_; rintro e w2 ⟨rfl, hb2⟩; obtain ⟨hc2, hf2, hz2⟩ := bcell hb2; (try simp at hz2); (try have hw2_0 : w.heap.size < w2.heap.size := by omega); (try have hw2_1 : w.heap.size + 1 < w2.heap.size := by omega); (try have hw2_2 : w.heap.size + 1 + 1 < w2.heap.size := by omega); (try have hw2_3 : w.heap.size + 1 + 1 + 1 < w2.heap.size := by omega); (try have hw2_4 : w.heap.size + 1 + 1 + 1 + 1 < w2.heap.size := by omega); (try have hw2_5 : w.heap.size + 1 + 1 + 1 + 1 + 1 < w2.heap.size := by omega); (try have hv2_1_0 : w1.heap.size < w2.heap.size := by omega); (try have hv2_1_1 : w1.heap.size + 1 < w2.heap.size := by omega); (try have hv2_1_2 : w1.heap.size + 1 + 1 < w2.heap.size := by omega)))
    exact bodyPost_ret (v := .tuple #[rat (newN (a * d + c * b) (b * d)) (newD (a * d + c * b) (b * d)), .int .i64 (newE (a * d + c * b) (b * d))]) (by simp [*, results, Tryd.results35, go_sem]) rfl ⟨rfl, (by repeat (first | exact Below.refl _ _ | assumption | refine Below.setCell ?_ (by (first | omega | (simp <;> omega))) _ | refine below_drewN ?_ _ | refine Below.drew ?_ | refine Below.alloc ?_ (by (first | omega | (simp <;> omega))) _ | (refine after (h1 := by assumption) ?_ ?_; rotate_left; (first | omega | (simp <;> omega)))))⟩
  · rw [sel_no h, sel_no h, sel_no h]
    rw [val2_bad h] at H
    clear h
    go_enter Tryd.func35, Tryd.ntmps35
    go_wp2_with (go_at_call 17; refine (H.out _).mono ?_; rintro e w1 ⟨rfl, hb1⟩; obtain ⟨hc1, hf1, hz1⟩ := bcell hb1; (try simp at hz1); (try have hw1_0 : w.heap.size < w1.heap.size := by omega); (try have hw1_1 : w.heap.size + 1 < w1.heap.size := by omega); (try have hw1_2 : w.heap.size + 1 + 1 < w1.heap.size := by omega); (try have hw1_3 : w.heap.size + 1 + 1 + 1 < w1.heap.size := by omega); (try have hw1_4 : w.heap.size + 1 + 1 + 1 + 1 < w1.heap.size := by omega); (try have hw1_5 : w.heap.size + 1 + 1 + 1 + 1 + 1 < w1.heap.size := by omega))
    exact bodyPost_ret (v := .tuple #[rat 0 0, .int .i64 1]) (by simp [*, results, Tryd.results35, go_sem]) rfl ⟨rfl, (by repeat (first | exact Below.refl _ _ | assumption | refine Below.setCell ?_ (by (first | omega | (simp <;> omega))) _ | refine below_drewN ?_ _ | refine Below.drew ?_ | refine Below.alloc ?_ (by (first | omega | (simp <;> omega))) _ | (refine after (h1 := by assumption) ?_ ?_; rotate_left; (first | omega | (simp <;> omega)))))⟩

set_option maxHeartbeats 400000 in
theorem neg_any (a b : Int) (w : World) (ha0 : -9223372036854775807 ≤ a) (ha : a ≤ 9223372036854775807) :
    Calls Tryd.prog 40 #[rat a b] w fun e w' => e = .returned (rat (-a) b) ∧ Below w.heap.size w w' := by
  go_enter Tryd.func40, Tryd.ntmps40
  go_wp2
  exact bodyPost_ret (v := rat (-a) b) (by simp [*, results, Tryd.results40, go_sem]) rfl ⟨rfl, (by repeat (first | exact Below.refl _ _ | assumption | refine Below.setCell ?_ (by (first | omega | (simp <;> omega))) _ | refine below_drewN ?_ _ | refine Below.drew ?_ | refine Below.alloc ?_ (by (first | omega | (simp <;> omega))) _ | (refine after (h1 := by assumption) ?_ ?_; rotate_left; (first | omega | (simp <;> omega)))))⟩
end Go.Proofs.YtjcdjmjebbllkaaDoor
