/- What Add, Sub, Cmp and their references return. -/
import Derived.Test.YtjcdjmjebbllkaaDoorVal2
namespace Go.Proofs.YtjcdjmjebbllkaaDoor
open Go.RowKit
attribute [local go_sem] le_add_one'

/-- The first of two numbers without an error, else the second. -/
def sel (v x y : Int) : Int := if v = 0 then x else y
theorem sel_ok {v : Int} (h : v = 0) (x y : Int) : sel v x y = x := by unfold sel; rw [if_pos h]
theorem sel_no {v : Int} (h : ¬ v = 0) (x y : Int) : sel v x y = y := by unfold sel; rw [if_neg h]
theorem val2_ok {a b c d : Int} (h : val2 a b c d = 0) : valE a b = 0 ∧ valE c d = 0 := by
  unfold val2 at h
  by_cases h1 : valE a b = 0
  · rw [if_pos h1] at h; exact ⟨h1, h⟩
  · rw [if_neg h1] at h; simp at h
theorem val2_bad {a b c d : Int} (h : ¬ val2 a b c d = 0) : val2 a b c d = 1 := by
  unfold val2 at h ⊢
  by_cases h1 : valE a b = 0
  · rw [if_pos h1] at h ⊢; exact (valE_cases c d).resolve_left h
  · rw [if_neg h1]

theorem mul_bd {x y : Int} (h0 : -1099511627776 ≤ x) (h1 : x ≤ 1099511627776) (h2 : 0 ≤ y) (h3 : y ≤ 1048576) : -1152921504606846976 ≤ x * y ∧ x * y ≤ 1152921504606846976 := by
  have e1 : x * y ≤ 1099511627776 * y := Int.mul_le_mul_of_nonneg_right h1 h2
  have e2 : -1099511627776 * y ≤ x * y := Int.mul_le_mul_of_nonneg_right h0 h2
  omega

/-- The sum and the difference. -/
def addN (a b c d : Int) : Int := sel (val2 a b c d) (newN (a * d + c * b) (b * d)) 0
def addD (a b c d : Int) : Int := sel (val2 a b c d) (newD (a * d + c * b) (b * d)) 0
def addE (a b c d : Int) : Int := sel (val2 a b c d) (newE (a * d + c * b) (b * d)) 1

set_option maxHeartbeats 400000 in
theorem add_any (a b c d : Int) (w : World) (ha0 : -9223372036854775808 ≤ a) (ha : a ≤ 9223372036854775807) (hb0 : -9223372036854775808 ≤ b) (hb : b ≤ 9223372036854775807) (hc0 : -9223372036854775808 ≤ c) (hc : c ≤ 9223372036854775807) (hd0 : -9223372036854775808 ≤ d) (hd : d ≤ 9223372036854775807) :
    Calls Tryd.prog 34 #[rat a b, rat c d] w fun e w' => e = .returned (.tuple #[rat (addN a b c d) (addD a b c d), .int .i64 (addE a b c d)]) ∧ Below w.heap.size w w' := by
  have H := Lib.hid (fun g w hg => valid2_any g a b c d w hg ha0 ha hb0 hb hc0 hc hd0 hd)
  unfold addN addD addE
  by_cases h : val2 a b c d = 0
  · rw [sel_ok h, sel_ok h, sel_ok h]
    rw [h] at H
    obtain ⟨v1, v2⟩ := val2_ok h
    clear h
    obtain ⟨b1, b2, b3, b4, _⟩ := valE_ok v1
    obtain ⟨d1, d2, d3, d4, _⟩ := valE_ok v2
    clear v1 v2
    have m1 := mul_bd b3 b4 (by omega) d2
    have m2 := mul_bd d3 d4 (by omega) b2
    have m3 := mul_bd (x := b) (by omega) (by omega) (by omega) d2
    go_enter Tryd.func34, Tryd.ntmps34
    go_wp2_with (first | (go_at_call 44; refine (H.out _ _ ?_ ?_ ?_ ?_ ?_).mono ?_; simp; (simp [go_sem]); (simp [go_sem]); (simp [go_sem]); (simp [go_sem]); rintro e w1 ⟨rfl, hb1⟩; obtain ⟨hc1, hf1, hz1⟩ := bcell hb1; (try simp at hz1); (try have hw1_0 : w.heap.size < w1.heap.size := by omega); (try have hw1_1 : w.heap.size + 1 < w1.heap.size := by omega); (try have hw1_2 : w.heap.size + 1 + 1 < w1.heap.size := by omega); (try have hw1_3 : w.heap.size + 1 + 1 + 1 < w1.heap.size := by omega); (try have hw1_4 : w.heap.size + 1 + 1 + 1 + 1 < w1.heap.size := by omega); (try have hw1_5 : w.heap.size + 1 + 1 + 1 + 1 + 1 < w1.heap.size := by omega)) | (go_at_call 10; refine (new_any (a * d + c * b) (b * d) _ (by omega) (by omega) (by omega) (by omega)).mono ?_; rintro e w2 ⟨rfl, hb2⟩; obtain ⟨hc2, hf2, hz2⟩ := bcell hb2; (try simp at hz2); (try have hw2_0 : w.heap.size < w2.heap.size := by omega); (try have hw2_1 : w.heap.size + 1 < w2.heap.size := by omega); (try have hw2_2 : w.heap.size + 1 + 1 < w2.heap.size := by omega); (try have hw2_3 : w.heap.size + 1 + 1 + 1 < w2.heap.size := by omega); (try have hw2_4 : w.heap.size + 1 + 1 + 1 + 1 < w2.heap.size := by omega); (try have hw2_5 : w.heap.size + 1 + 1 + 1 + 1 + 1 < w2.heap.size := by omega); (try have hv2_1_0 : w1.heap.size < w2.heap.size := by omega); (try have hv2_1_1 : w1.heap.size + 1 < w2.heap.size := by omega); (try have hv2_1_2 : w1.heap.size + 1 + 1 < w2.heap.size := by omega)))
    exact bodyPost_ret (v := .tuple #[rat (newN (a * d + c * b) (b * d)) (newD (a * d + c * b) (b * d)), .int .i64 (newE (a * d + c * b) (b * d))]) (by simp [*, results, Tryd.results34, go_sem]) rfl ⟨rfl, (by repeat (first | exact Below.refl _ _ | assumption | refine Below.setCell ?_ (by (first | omega | (simp <;> omega))) _ | refine below_drewN ?_ _ | refine Below.drew ?_ | refine Below.alloc ?_ (by (first | omega | (simp <;> omega))) _ | (refine after (h1 := by assumption) ?_ ?_; rotate_left; (first | omega | (simp <;> omega)))))⟩
  · rw [sel_no h, sel_no h, sel_no h]
    rw [val2_bad h] at H
    clear h
    go_enter Tryd.func34, Tryd.ntmps34
    go_wp2_with (go_at_call 44; refine (H.out _ _ ?_ ?_ ?_ ?_ ?_).mono ?_; simp; (simp [go_sem]); (simp [go_sem]); (simp [go_sem]); (simp [go_sem]); rintro e w1 ⟨rfl, hb1⟩; obtain ⟨hc1, hf1, hz1⟩ := bcell hb1; (try simp at hz1); (try have hw1_0 : w.heap.size < w1.heap.size := by omega); (try have hw1_1 : w.heap.size + 1 < w1.heap.size := by omega); (try have hw1_2 : w.heap.size + 1 + 1 < w1.heap.size := by omega); (try have hw1_3 : w.heap.size + 1 + 1 + 1 < w1.heap.size := by omega); (try have hw1_4 : w.heap.size + 1 + 1 + 1 + 1 < w1.heap.size := by omega); (try have hw1_5 : w.heap.size + 1 + 1 + 1 + 1 + 1 < w1.heap.size := by omega))
    exact bodyPost_ret (v := .tuple #[rat 0 0, .int .i64 1]) (by simp [*, results, Tryd.results34, go_sem]) rfl ⟨rfl, (by repeat (first | exact Below.refl _ _ | assumption | refine Below.setCell ?_ (by (first | omega | (simp <;> omega))) _ | refine below_drewN ?_ _ | refine Below.drew ?_ | refine Below.alloc ?_ (by (first | omega | (simp <;> omega))) _ | (refine after (h1 := by assumption) ?_ ?_; rotate_left; (first | omega | (simp <;> omega)))))⟩

def subN (a b c d : Int) : Int := sel (val2 a b c d) (newN (a * d + -c * b) (b * d)) 0
def subD (a b c d : Int) : Int := sel (val2 a b c d) (newD (a * d + -c * b) (b * d)) 0
def subE (a b c d : Int) : Int := sel (val2 a b c d) (newE (a * d + -c * b) (b * d)) 1
theorem valE_neg (n d : Int) : valE (-n) d = valE n d := by
  unfold valE
  rw [Int.neg_gcd]
  by_cases h : 1 ≤ d ∧ d ≤ 1048576 ∧ -1099511627776 ≤ n ∧ n ≤ 1099511627776 ∧ Int.gcd n d = 1
  · rw [if_pos h, if_pos ⟨h.1, h.2.1, by omega, by omega, h.2.2.2.2⟩]
  · rw [if_neg h, if_neg (fun h' => h ⟨h'.1, h'.2.1, by omega, by omega, h'.2.2.2.2⟩)]
theorem val2_neg (a b c d : Int) : val2 a b (-c) d = val2 a b c d := by unfold val2; rw [valE_neg]
theorem sub_eq (a b c d : Int) : subN a b c d = addN a b (-c) d ∧ subD a b c d = addD a b (-c) d ∧ subE a b c d = addE a b (-c) d := by
  unfold subN subD subE addN addD addE
  rw [val2_neg]
  exact ⟨rfl, rfl, rfl⟩
theorem val2_min (a b d : Int) : val2 a b (-9223372036854775808) d = 1 := by
  refine val2_bad fun h => ?_
  have := (valE_ok (val2_ok h).2).2.2.1
  omega

set_option maxHeartbeats 400000 in
theorem sub_any (a b c d : Int) (w : World) (ha0 : -9223372036854775808 ≤ a) (ha : a ≤ 9223372036854775807) (hb0 : -9223372036854775808 ≤ b) (hb : b ≤ 9223372036854775807) (hc0 : -9223372036854775808 ≤ c) (hc : c ≤ 9223372036854775807) (hd0 : -9223372036854775808 ≤ d) (hd : d ≤ 9223372036854775807) :
    Calls Tryd.prog 11 #[rat a b, rat c d] w fun e w' => e = .returned (.tuple #[rat (subN a b c d) (subD a b c d), .int .i64 (subE a b c d)]) ∧ Below w.heap.size w w' := by
  by_cases h : c = -9223372036854775808
  · have e1 : subN a b c d = addN a b c d := by unfold subN addN; subst h; rw [val2_min]; rfl
    have e2 : subD a b c d = addD a b c d := by unfold subD addD; subst h; rw [val2_min]; rfl
    have e3 : subE a b c d = addE a b c d := by unfold subE addE; subst h; rw [val2_min]; rfl
    rw [e1, e2, e3]
    clear e1 e2 e3
    have hw : IntKind.i64.wrap (-c) = c := by rw [h, IntKind.wrap_i64]; decide
    have H := Lib.hid h
    clear h
    go_enter Tryd.func11, Tryd.ntmps11
    go_wp2_with (go_at_call 34; refine (add_any a b c d _ ha0 ha hb0 hb hc0 hc hd0 hd).mono ?_; rintro e w1 ⟨rfl, hb1⟩; obtain ⟨hc1, hf1, hz1⟩ := bcell hb1; (try simp at hz1); (try have hw1_0 : w.heap.size < w1.heap.size := by omega); (try have hw1_1 : w.heap.size + 1 < w1.heap.size := by omega); (try have hw1_2 : w.heap.size + 1 + 1 < w1.heap.size := by omega); (try have hw1_3 : w.heap.size + 1 + 1 + 1 < w1.heap.size := by omega); (try have hw1_4 : w.heap.size + 1 + 1 + 1 + 1 < w1.heap.size := by omega); (try have hw1_5 : w.heap.size + 1 + 1 + 1 + 1 + 1 < w1.heap.size := by omega))
    exact bodyPost_ret (v := .tuple #[rat (addN a b c d) (addD a b c d), .int .i64 (addE a b c d)]) (by simp [*, results, Tryd.results11, go_sem]) rfl ⟨rfl, (by repeat (first | exact Below.refl _ _ | assumption | refine Below.setCell ?_ (by (first | omega | (simp <;> omega))) _ | refine below_drewN ?_ _ | refine Below.drew ?_ | refine Below.alloc ?_ (by (first | omega | (simp <;> omega))) _ | (refine after (h1 := by assumption) ?_ ?_; rotate_left; (first | omega | (simp <;> omega)))))⟩
  · obtain ⟨e1, e2, e3⟩ := sub_eq a b c d
    rw [e1, e2, e3]
    clear e1 e2 e3
    go_enter Tryd.func11, Tryd.ntmps11
    go_wp2_with (go_at_call 34; refine (add_any a b (-c) d _ ha0 ha hb0 hb (by omega) (by omega) hd0 hd).mono ?_; rintro e w1 ⟨rfl, hb1⟩; obtain ⟨hc1, hf1, hz1⟩ := bcell hb1; (try simp at hz1); (try have hw1_0 : w.heap.size < w1.heap.size := by omega); (try have hw1_1 : w.heap.size + 1 < w1.heap.size := by omega); (try have hw1_2 : w.heap.size + 1 + 1 < w1.heap.size := by omega); (try have hw1_3 : w.heap.size + 1 + 1 + 1 < w1.heap.size := by omega); (try have hw1_4 : w.heap.size + 1 + 1 + 1 + 1 < w1.heap.size := by omega); (try have hw1_5 : w.heap.size + 1 + 1 + 1 + 1 + 1 < w1.heap.size := by omega))
    exact bodyPost_ret (v := .tuple #[rat (addN a b (-c) d) (addD a b (-c) d), .int .i64 (addE a b (-c) d)]) (by simp [*, results, Tryd.results11, go_sem]) rfl ⟨rfl, (by repeat (first | exact Below.refl _ _ | assumption | refine Below.setCell ?_ (by (first | omega | (simp <;> omega))) _ | refine below_drewN ?_ _ | refine Below.drew ?_ | refine Below.alloc ?_ (by (first | omega | (simp <;> omega))) _ | (refine after (h1 := by assumption) ?_ ?_; rotate_left; (first | omega | (simp <;> omega)))))⟩
end Go.Proofs.YtjcdjmjebbllkaaDoor
