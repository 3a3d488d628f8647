/- What Between returns. -/
import Derived.Test.YtjcdjmjebbllkaaDoorSim
namespace Go.Proofs.YtjcdjmjebbllkaaDoor
open Go.RowKit
attribute [local go_sem] le_add_one'

/-- The fraction that Between finds. -/
def btP (a b c d : Int) : Int × Int :=
  if a < 0 then (if 0 < c then (0, 1) else (-(simF (d + b).toNat (-c) d (-a) b).1, (simF (d + b).toNat (-c) d (-a) b).2)) else simF (b + d).toNat a b c d
def btE (a b c d : Int) : Int := sel (val2 a b c d) (if c * b ≤ a * d then 13 else newE (btP a b c d).1 (btP a b c d).2) 1
def btN (a b c d : Int) : Int := sel (val2 a b c d) (if c * b ≤ a * d then 0 else newN (btP a b c d).1 (btP a b c d).2) 0
def btD (a b c d : Int) : Int := sel (val2 a b c d) (if c * b ≤ a * d then 0 else newD (btP a b c d).1 (btP a b c d).2) 0
theorem sgn_ge {x y : Int} (h : y ≤ x) : 0 ≤ sgnI x y := by unfold sgnI; split <;> (try split) <;> omega
theorem sgn_lt {x y : Int} (h : x < y) : sgnI x y = -1 := by unfold sgnI; rw [if_pos h]

set_option maxHeartbeats 1000000 in
theorem between_any (a b c d : Int) (w : World) (ha0 : -9223372036854775808 ≤ a) (ha : a ≤ 9223372036854775807) (hb0 : -9223372036854775808 ≤ b) (hb : b ≤ 9223372036854775807) (hc0 : -9223372036854775808 ≤ c) (hc : c ≤ 9223372036854775807) (hd0 : -9223372036854775808 ≤ d) (hd : d ≤ 9223372036854775807) :
    Calls Tryd.prog 15 #[rat a b, rat c d] w fun e w' => e = .returned (.tuple #[rat (btN a b c d) (btD a b c d), .int .i64 (btE a b c d)]) ∧ Below w.heap.size w w' := by
  have H := Lib.hid (fun g w hg => valid2_any g a b c d w hg ha0 ha hb0 hb hc0 hc hd0 hd)
  unfold btN btD btE
  by_cases h : val2 a b c d = 0
  · rw [sel_ok h, sel_ok h, sel_ok h]
    rw [h] at H
    obtain ⟨v1, v2⟩ := val2_ok h
    clear h
    obtain ⟨b1, b2, b3, b4, _⟩ := valE_ok v1
    obtain ⟨d1, d2, d3, d4, _⟩ := valE_ok v2
    clear v1 v2
    have m1 := mul_bd b3 b4 (by omega) d2
    have m2 := mul_bd d3 d4 (by omega) b2
    have C := Lib.hid (fun w => cmp_any a b c d w m1 m2)
    by_cases h1 : c * b ≤ a * d
    · rw [if_pos h1, if_pos h1, if_pos h1]
      have hs := sgn_ge h1
      generalize sgnI (a * d) (c * b) = s at *
      clear h1 m1 m2
      go_enter Tryd.func15, Tryd.ntmps15
      go_wp2_with (first | (go_at_call 44; refine (H.out _ _ ?_ ?_ ?_ ?_ ?_).mono ?_; simp; (simp [go_sem]); (simp [go_sem]); (simp [go_sem]); (simp [go_sem]); rintro e w1 ⟨rfl, hb1⟩; obtain ⟨hc1, hf1, hz1⟩ := bcell hb1; (try simp at hz1); (try have hw1_0 : w.heap.size < w1.heap.size := by omega); (try have hw1_1 : w.heap.size + 1 < w1.heap.size := by omega); (try have hw1_2 : w.heap.size + 1 + 1 < w1.heap.size := by omega); (try have hw1_3 : w.heap.size + 1 + 1 + 1 < w1.heap.size := by omega); (try have hw1_4 : w.heap.size + 1 + 1 + 1 + 1 < w1.heap.size := by omega); (try have hw1_5 : w.heap.size + 1 + 1 + 1 + 1 + 1 < w1.heap.size := by omega)) | (go_at_call 45; refine (C.out _).mono ?_; rintro e w2 ⟨rfl, hb2⟩; obtain ⟨hc2, hf2, hz2⟩ := bcell hb2; (try simp at hz2); (try have hw2_0 : w.heap.size < w2.heap.size := by omega); (try have hw2_1 : w.heap.size + 1 < w2.heap.size := by omega); (try have hw2_2 : w.heap.size + 1 + 1 < w2.heap.size := by omega); (try have hw2_3 : w.heap.size + 1 + 1 + 1 < w2.heap.size := by omega); (try have hw2_4 : w.heap.size + 1 + 1 + 1 + 1 < w2.heap.size := by omega); (try have hw2_5 : w.heap.size + 1 + 1 + 1 + 1 + 1 < w2.heap.size := by omega); (try have hv2_1_0 : w1.heap.size < w2.heap.size := by omega); (try have hv2_1_1 : w1.heap.size + 1 < w2.heap.size := by omega); (try have hv2_1_2 : w1.heap.size + 1 + 1 < w2.heap.size := by omega)))
      exact bodyPost_ret (v := .tuple #[rat 0 0, .int .i64 13]) (by simp [*, results, Tryd.results15, go_sem]) rfl ⟨rfl, (by repeat (first | exact Below.refl _ _ | assumption | refine Below.setCell ?_ (by (first | omega | (simp <;> omega))) _ | refine below_drewN ?_ _ | refine Below.drew ?_ | refine Below.alloc ?_ (by (first | omega | (simp <;> omega))) _ | (refine after (h1 := by assumption) ?_ ?_; rotate_left; (first | omega | (simp <;> omega)))))⟩
    · rw [if_neg h1, if_neg h1, if_neg h1]
      rw [sgn_lt (by omega : a * d < c * b)] at C
      by_cases h2 : a < 0
      · by_cases h3 : 0 < c
        · have e : btP a b c d = (0, 1) := by unfold btP; rw [if_pos h2, if_pos h3]
          rw [e, show newN 0 1 = 0 from by decide, show newD 0 1 = 1 from by decide, show newE 0 1 = 0 from by decide]
          clear e h1 m1 m2
          go_enter Tryd.func15, Tryd.ntmps15
          go_wp2_with (first | (go_at_call 44; refine (H.out _ _ ?_ ?_ ?_ ?_ ?_).mono ?_; simp; (simp [go_sem]); (simp [go_sem]); (simp [go_sem]); (simp [go_sem]); rintro e w1 ⟨rfl, hb1⟩; obtain ⟨hc1, hf1, hz1⟩ := bcell hb1; (try simp at hz1); (try have hw1_0 : w.heap.size < w1.heap.size := by omega); (try have hw1_1 : w.heap.size + 1 < w1.heap.size := by omega); (try have hw1_2 : w.heap.size + 1 + 1 < w1.heap.size := by omega); (try have hw1_3 : w.heap.size + 1 + 1 + 1 < w1.heap.size := by omega); (try have hw1_4 : w.heap.size + 1 + 1 + 1 + 1 < w1.heap.size := by omega); (try have hw1_5 : w.heap.size + 1 + 1 + 1 + 1 + 1 < w1.heap.size := by omega)) | (go_at_call 45; refine (C.out _).mono ?_; rintro e w2 ⟨rfl, hb2⟩; obtain ⟨hc2, hf2, hz2⟩ := bcell hb2; (try simp at hz2); (try have hw2_0 : w.heap.size < w2.heap.size := by omega); (try have hw2_1 : w.heap.size + 1 < w2.heap.size := by omega); (try have hw2_2 : w.heap.size + 1 + 1 < w2.heap.size := by omega); (try have hw2_3 : w.heap.size + 1 + 1 + 1 < w2.heap.size := by omega); (try have hw2_4 : w.heap.size + 1 + 1 + 1 + 1 < w2.heap.size := by omega); (try have hw2_5 : w.heap.size + 1 + 1 + 1 + 1 + 1 < w2.heap.size := by omega); (try have hv2_1_0 : w1.heap.size < w2.heap.size := by omega); (try have hv2_1_1 : w1.heap.size + 1 < w2.heap.size := by omega); (try have hv2_1_2 : w1.heap.size + 1 + 1 < w2.heap.size := by omega)))
          exact bodyPost_ret (v := .tuple #[rat 0 1, .int .i64 0]) (by simp [*, results, Tryd.results15, go_sem]) rfl ⟨rfl, (by repeat (first | exact Below.refl _ _ | assumption | refine Below.setCell ?_ (by (first | omega | (simp <;> omega))) _ | refine below_drewN ?_ _ | refine Below.drew ?_ | refine Below.alloc ?_ (by (first | omega | (simp <;> omega))) _ | (refine after (h1 := by assumption) ?_ ?_; rotate_left; (first | omega | (simp <;> omega)))))⟩
        · have e : btP a b c d = (-(simF (d + b).toNat (-c) d (-a) b).1, (simF (d + b).toNat (-c) d (-a) b).2) := by unfold btP; rw [if_pos h2, if_neg h3]
          rw [e]
          simp only
          have ok : SimOk (-c) d (-a) b := ⟨by omega, by omega, by omega, by omega, by omega, by omega, by omega, by omega, by
            rw [Int.neg_mul, Int.neg_mul]; omega⟩
          have hbd := sim_bd (d + b).toNat ok (by omega)
          have S := Lib.hid (fun w => simplest_any (d + b).toNat (-c) d (-a) b w ok (by omega))
          generalize (simF (d + b).toNat (-c) d (-a) b).1 = x at *
          generalize (simF (d + b).toNat (-c) d (-a) b).2 = y at *
          clear e h1 m1 m2 ok
          go_enter Tryd.func15, Tryd.ntmps15
          go_wp2_with (first | (go_at_call 44; refine (H.out _ _ ?_ ?_ ?_ ?_ ?_).mono ?_; simp; (simp [go_sem]); (simp [go_sem]); (simp [go_sem]); (simp [go_sem]); rintro e w1 ⟨rfl, hb1⟩; obtain ⟨hc1, hf1, hz1⟩ := bcell hb1; (try simp at hz1); (try have hw1_0 : w.heap.size < w1.heap.size := by omega); (try have hw1_1 : w.heap.size + 1 < w1.heap.size := by omega); (try have hw1_2 : w.heap.size + 1 + 1 < w1.heap.size := by omega); (try have hw1_3 : w.heap.size + 1 + 1 + 1 < w1.heap.size := by omega); (try have hw1_4 : w.heap.size + 1 + 1 + 1 + 1 < w1.heap.size := by omega); (try have hw1_5 : w.heap.size + 1 + 1 + 1 + 1 + 1 < w1.heap.size := by omega)) | (go_at_call 45; refine (C.out _).mono ?_; rintro e w2 ⟨rfl, hb2⟩; obtain ⟨hc2, hf2, hz2⟩ := bcell hb2; (try simp at hz2); (try have hw2_0 : w.heap.size < w2.heap.size := by omega); (try have hw2_1 : w.heap.size + 1 < w2.heap.size := by omega); (try have hw2_2 : w.heap.size + 1 + 1 < w2.heap.size := by omega); (try have hw2_3 : w.heap.size + 1 + 1 + 1 < w2.heap.size := by omega); (try have hw2_4 : w.heap.size + 1 + 1 + 1 + 1 < w2.heap.size := by omega); (try have hw2_5 : w.heap.size + 1 + 1 + 1 + 1 + 1 < w2.heap.size := by omega); (try have hv2_1_0 : w1.heap.size < w2.heap.size := by omega); (try have hv2_1_1 : w1.heap.size + 1 < w2.heap.size := by omega); (try have hv2_1_2 : w1.heap.size + 1 + 1 < w2.heap.size := by omega)) | (go_at_call 46; refine (S.out _).mono ?_; rintro e w3 ⟨rfl, rfl⟩) | (go_at_call 10; refine (new_any (-x) y _ (by omega) (by omega) (by omega) (by omega)).mono ?_; rintro e w4 ⟨rfl, hb4⟩; obtain ⟨hc4, hf4, hz4⟩ := bcell hb4; (try simp at hz4); (try have hw4_0 : w.heap.size < w4.heap.size := by omega); (try have hw4_1 : w.heap.size + 1 < w4.heap.size := by omega); (try have hw4_2 : w.heap.size + 1 + 1 < w4.heap.size := by omega); (try have hw4_3 : w.heap.size + 1 + 1 + 1 < w4.heap.size := by omega); (try have hw4_4 : w.heap.size + 1 + 1 + 1 + 1 < w4.heap.size := by omega); (try have hw4_5 : w.heap.size + 1 + 1 + 1 + 1 + 1 < w4.heap.size := by omega); (try have hv4_1_0 : w1.heap.size < w4.heap.size := by omega); (try have hv4_1_1 : w1.heap.size + 1 < w4.heap.size := by omega); (try have hv4_1_2 : w1.heap.size + 1 + 1 < w4.heap.size := by omega); (try have hv4_2_0 : w2.heap.size < w4.heap.size := by omega); (try have hv4_2_1 : w2.heap.size + 1 < w4.heap.size := by omega); (try have hv4_2_2 : w2.heap.size + 1 + 1 < w4.heap.size := by omega); (try have hv4_3_0 : w3.heap.size < w4.heap.size := by omega); (try have hv4_3_1 : w3.heap.size + 1 < w4.heap.size := by omega); (try have hv4_3_2 : w3.heap.size + 1 + 1 < w4.heap.size := by omega)))
          exact bodyPost_ret (v := .tuple #[rat (newN (-x) y) (newD (-x) y), .int .i64 (newE (-x) y)]) (by simp [*, results, Tryd.results15, go_sem]) rfl ⟨rfl, (by repeat (first | exact Below.refl _ _ | assumption | refine Below.setCell ?_ (by (first | omega | (simp <;> omega))) _ | refine below_drewN ?_ _ | refine Below.drew ?_ | refine Below.alloc ?_ (by (first | omega | (simp <;> omega))) _ | (refine after (h1 := by assumption) ?_ ?_; rotate_left; (first | omega | (simp <;> omega)))))⟩
      · have e : btP a b c d = simF (b + d).toNat a b c d := by unfold btP; rw [if_neg h2]
        rw [e]
        have ok : SimOk a b c d := ⟨by omega, by omega, by omega, by omega, by
            rcases Int.lt_or_le 0 c with h | h
            · omega
            · exfalso
              have k1 : 0 ≤ a * d := Int.mul_nonneg (by omega) (by omega)
              have k2 : c * b ≤ 0 := Int.mul_nonpos_of_nonpos_of_nonneg h (by omega)
              omega, by omega, by omega, by omega, by omega⟩
        have hbd := sim_bd (b + d).toNat ok (by omega)
        have S := Lib.hid (fun w => simplest_any (b + d).toNat a b c d w ok (by omega))
        generalize (simF (b + d).toNat a b c d).1 = x at *
        generalize (simF (b + d).toNat a b c d).2 = y at *
        clear e h1 m1 m2 ok
        go_enter Tryd.func15, Tryd.ntmps15
        go_wp2_with (first | (go_at_call 44; refine (H.out _ _ ?_ ?_ ?_ ?_ ?_).mono ?_; simp; (simp [go_sem]); (simp [go_sem]); (simp [go_sem]); (simp [go_sem]); rintro e w1 ⟨rfl, hb1⟩; obtain ⟨hc1, hf1, hz1⟩ := bcell hb1; (try simp at hz1); (try have hw1_0 : w.heap.size < w1.heap.size := by omega); (try have hw1_1 : w.heap.size + 1 < w1.heap.size := by omega); (try have hw1_2 : w.heap.size + 1 + 1 < w1.heap.size := by omega); (try have hw1_3 : w.heap.size + 1 + 1 + 1 < w1.heap.size := by omega); (try have hw1_4 : w.heap.size + 1 + 1 + 1 + 1 < w1.heap.size := by omega); (try have hw1_5 : w.heap.size + 1 + 1 + 1 + 1 + 1 < w1.heap.size := by omega)) | (go_at_call 45; refine (C.out _).mono ?_; rintro e w2 ⟨rfl, hb2⟩; obtain ⟨hc2, hf2, hz2⟩ := bcell hb2; (try simp at hz2); (try have hw2_0 : w.heap.size < w2.heap.size := by omega); (try have hw2_1 : w.heap.size + 1 < w2.heap.size := by omega); (try have hw2_2 : w.heap.size + 1 + 1 < w2.heap.size := by omega); (try have hw2_3 : w.heap.size + 1 + 1 + 1 < w2.heap.size := by omega); (try have hw2_4 : w.heap.size + 1 + 1 + 1 + 1 < w2.heap.size := by omega); (try have hw2_5 : w.heap.size + 1 + 1 + 1 + 1 + 1 < w2.heap.size := by omega); (try have hv2_1_0 : w1.heap.size < w2.heap.size := by omega); (try have hv2_1_1 : w1.heap.size + 1 < w2.heap.size := by omega); (try have hv2_1_2 : w1.heap.size + 1 + 1 < w2.heap.size := by omega)) | (go_at_call 46; refine (S.out _).mono ?_; rintro e w3 ⟨rfl, rfl⟩) | (go_at_call 10; refine (new_any x y _ (by omega) (by omega) (by omega) (by omega)).mono ?_; rintro e w4 ⟨rfl, hb4⟩; obtain ⟨hc4, hf4, hz4⟩ := bcell hb4; (try simp at hz4); (try have hw4_0 : w.heap.size < w4.heap.size := by omega); (try have hw4_1 : w.heap.size + 1 < w4.heap.size := by omega); (try have hw4_2 : w.heap.size + 1 + 1 < w4.heap.size := by omega); (try have hw4_3 : w.heap.size + 1 + 1 + 1 < w4.heap.size := by omega); (try have hw4_4 : w.heap.size + 1 + 1 + 1 + 1 < w4.heap.size := by omega); (try have hw4_5 : w.heap.size + 1 + 1 + 1 + 1 + 1 < w4.heap.size := by omega); (try have hv4_1_0 : w1.heap.size < w4.heap.size := by omega); (try have hv4_1_1 : w1.heap.size + 1 < w4.heap.size := by omega); (try have hv4_1_2 : w1.heap.size + 1 + 1 < w4.heap.size := by omega); (try have hv4_2_0 : w2.heap.size < w4.heap.size := by omega); (try have hv4_2_1 : w2.heap.size + 1 < w4.heap.size := by omega); (try have hv4_2_2 : w2.heap.size + 1 + 1 < w4.heap.size := by omega); (try have hv4_3_0 : w3.heap.size < w4.heap.size := by omega); (try have hv4_3_1 : w3.heap.size + 1 < w4.heap.size := by omega); (try have hv4_3_2 : w3.heap.size + 1 + 1 < w4.heap.size := by omega)))
        exact bodyPost_ret (v := .tuple #[rat (newN x y) (newD x y), .int .i64 (newE x y)]) (by simp [*, results, Tryd.results15, go_sem]) rfl ⟨rfl, (by repeat (first | exact Below.refl _ _ | assumption | refine Below.setCell ?_ (by (first | omega | (simp <;> omega))) _ | refine below_drewN ?_ _ | refine Below.drew ?_ | refine Below.alloc ?_ (by (first | omega | (simp <;> omega))) _ | (refine after (h1 := by assumption) ?_ ?_; rotate_left; (first | omega | (simp <;> omega)))))⟩
  · rw [sel_no h, sel_no h, sel_no h]
    rw [val2_bad h] at H
    clear h
    go_enter Tryd.func15, Tryd.ntmps15
    go_wp2_with (go_at_call 44; refine (H.out _ _ ?_ ?_ ?_ ?_ ?_).mono ?_; simp; (simp [go_sem]); (simp [go_sem]); (simp [go_sem]); (simp [go_sem]); rintro e w1 ⟨rfl, hb1⟩; obtain ⟨hc1, hf1, hz1⟩ := bcell hb1; (try simp at hz1); (try have hw1_0 : w.heap.size < w1.heap.size := by omega); (try have hw1_1 : w.heap.size + 1 < w1.heap.size := by omega); (try have hw1_2 : w.heap.size + 1 + 1 < w1.heap.size := by omega); (try have hw1_3 : w.heap.size + 1 + 1 + 1 < w1.heap.size := by omega); (try have hw1_4 : w.heap.size + 1 + 1 + 1 + 1 < w1.heap.size := by omega); (try have hw1_5 : w.heap.size + 1 + 1 + 1 + 1 + 1 < w1.heap.size := by omega))
    exact bodyPost_ret (v := .tuple #[rat 0 0, .int .i64 1]) (by simp [*, results, Tryd.results15, go_sem]) rfl ⟨rfl, (by repeat (first | exact Below.refl _ _ | assumption | refine Below.setCell ?_ (by (first | omega | (simp <;> omega))) _ | refine below_drewN ?_ _ | refine Below.drew ?_ | refine Below.alloc ?_ (by (first | omega | (simp <;> omega))) _ | (refine after (h1 := by assumption) ?_ ?_; rotate_left; (first | omega | (simp <;> omega)))))⟩
end Go.Proofs.YtjcdjmjebbllkaaDoor
