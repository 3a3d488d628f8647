/- The plain law of parts: the parts for a ratio and for 1 minus it add up to the number, or to one less. -/
import Derived.Test.YtjcdjmjebbllkaaDoorPart2
namespace Go.Proofs.YtjcdjmjebbllkaaDoor

theorem new_mul {a b : Int} (h : newE a b = 0) (hb : 0 < b) : newN a b * (Int.gcd a b : Int) = a ∧ newD a b * (Int.gcd a b : Int) = b := by
  have d1 : Int.gcd a b * (a.natAbs / Int.gcd a b) = a.natAbs := Nat.mul_div_cancel' (Nat.gcd_dvd_left _ _)
  have d2 : Int.gcd a b * (b.natAbs / Int.gcd a b) = b.natAbs := Nat.mul_div_cancel' (Nat.gcd_dvd_right _ _)
  have e1 : (Int.gcd a b : Int) * ((a.natAbs / Int.gcd a b : Nat) : Int) = a.natAbs := by rw [← Int.natCast_mul, d1]
  have e2 : (Int.gcd a b : Int) * ((b.natAbs / Int.gcd a b : Nat) : Int) = b.natAbs := by rw [← Int.natCast_mul, d2]
  unfold newN newD
  rw [if_pos h, if_pos h]
  generalize ((a.natAbs / Int.gcd a b : Nat) : Int) = x at *
  generalize ((b.natAbs / Int.gcd a b : Nat) : Int) = y at *
  generalize (Int.gcd a b : Int) = g at *
  rw [Int.mul_comm] at e1 e2
  refine ⟨?_, by omega⟩
  by_cases ha : a < 0
  · rw [if_neg (by omega), Int.neg_mul, e1]; omega
  · rw [if_pos (by omega), e1]; omega
theorem new_fits {a b : Int} (h0 : 0 ≤ a) (h1 : a ≤ 1099511627776) (h2 : 1 ≤ b) (h3 : b ≤ 1048576) : newE a b = 0 := by
  have k1 := Nat.div_le_self a.natAbs (Int.gcd a b)
  have k2 := Nat.div_le_self b.natAbs (Int.gcd a b)
  unfold newE
  rw [if_neg (by omega), if_neg]
  generalize a.natAbs / Int.gcd a b = x at *
  generalize b.natAbs / Int.gcd a b = y at *
  omega
theorem ediv_cross {W s t N D : Int} (ht : 0 < t) (hD : 0 < D) (h : s * D = N * t) : W * s / t = W * N / D := by
  have e1 : W * s / t = W * s * D / (t * D) := (Int.mul_ediv_mul_of_pos_left _ _ hD).symm
  have e2 : W * N / D = W * N * t / (D * t) := (Int.mul_ediv_mul_of_pos_left _ _ ht).symm
  rw [e1, e2, Int.mul_assoc, h, Int.mul_comm t D, Int.mul_assoc]

/-- The parts of a whole for p / d and (d - p) / d. -/
theorem floor_two {W p d : Int} (hd : 0 < d) : W * p / d + W * (d - p) / d = W ∨ W * p / d + W * (d - p) / d = W - 1 := by
  have e : W * (d - p) = W * d - W * p := Int.mul_sub _ _ _
  have h1 := Int.mul_ediv_add_emod (W * p) d
  have h2 := Int.emod_nonneg (W * p) (by omega : d ≠ 0)
  have h3 := Int.emod_lt_of_pos (W * p) hd
  have h4 := Int.mul_ediv_add_emod (W * (d - p)) d
  have h5 := Int.emod_nonneg (W * (d - p)) (by omega : d ≠ 0)
  have h6 := Int.emod_lt_of_pos (W * (d - p)) hd
  rw [e] at h4 h5 h6 ⊢
  generalize W * p / d = x at *
  generalize (W * d - W * p) / d = y at *
  generalize (W * p) % d = u at *
  generalize (W * d - W * p) % d = v at *
  have hs : d * (x + y) + (u + v) = d * W := by rw [Int.mul_add, Int.mul_comm d W]; omega
  have hk : d * (W - (x + y)) = u + v := by rw [Int.mul_sub]; omega
  have b1 : 0 ≤ W - (x + y) := by
    rcases Int.lt_or_le (W - (x + y)) 0 with h | h
    · have := Int.mul_le_mul_of_nonneg_left (show W - (x + y) ≤ -1 by omega) (by omega : 0 ≤ d)
      omega
    · exact h
  have b2 : W - (x + y) < 2 := by
    rcases Int.lt_or_le (W - (x + y)) 2 with h | h
    · exact h
    · have := Int.mul_le_mul_of_nonneg_left h (by omega : 0 ≤ d)
      omega
  omega
theorem floor_two' {W p d : Int} (hd : 0 < d) (h : d ∣ W) : W * p / d + W * (d - p) / d = W := by
  obtain ⟨z, rfl⟩ := h
  rw [Int.mul_assoc, Int.mul_ediv_cancel_left _ (by omega), Int.mul_assoc, Int.mul_ediv_cancel_left _ (by omega), ← Int.mul_add]
  rw [show p + (d - p) = d from by omega, Int.mul_comm]

/-- All that RatioParts asks. -/
theorem parts_law (n m k : Int) (D K W : Int) (hD : D = 1 + arN m 1048576) (hK : K = arN k (D + 1)) (hW : W = arN n 1099511627777) :
    1 ≤ D ∧ D ≤ 1048576 ∧ 0 ≤ K ∧ K ≤ D ∧ 0 ≤ W ∧ W ≤ 1099511627776 ∧ newE K D = 0 ∧ subE 1 1 (newN K D) (newD K D) = 0 ∧
    partE W (newN K D) (newD K D) = 0 ∧ partE W (subN 1 1 (newN K D) (newD K D)) (subD 1 1 (newN K D) (newD K D)) = 0 ∧
    0 ≤ partN W (newN K D) (newD K D) ∧ partN W (newN K D) (newD K D) ≤ 1099511627776 ∧ 0 ≤ partN W (subN 1 1 (newN K D) (newD K D)) (subD 1 1 (newN K D) (newD K D)) ∧ partN W (subN 1 1 (newN K D) (newD K D)) (subD 1 1 (newN K D) (newD K D)) ≤ 1099511627776 ∧
    (partN W (newN K D) (newD K D) + partN W (subN 1 1 (newN K D) (newD K D)) (subD 1 1 (newN K D) (newD K D)) = W ∨ partN W (newN K D) (newD K D) + partN W (subN 1 1 (newN K D) (newD K D)) (subD 1 1 (newN K D) (newD K D)) = W - 1) ∧
    (W % D = 0 → partN W (newN K D) (newD K D) + partN W (subN 1 1 (newN K D) (newD K D)) (subD 1 1 (newN K D) (newD K D)) = W) := by
  have d1 := arN_nonneg m 1048576 (by decide)
  have d2 := arN_lt m 1048576 (by decide)
  have D1 : 1 ≤ D := by omega
  have D2 : D ≤ 1048576 := by omega
  have k1 := arN_nonneg k (D + 1) (by omega)
  have k2 := arN_lt k (D + 1) (by omega)
  have w1 := arN_nonneg n 1099511627777 (by decide)
  have w2 := arN_lt n 1099511627777 (by decide)
  rw [← hK] at k1 k2
  rw [← hW] at w1 w2
  clear hD hK hW d1 d2
  have e1 : newE K D = 0 := new_fits k1 (by omega) D1 D2
  have v1 := val_of_new e1
  obtain ⟨g1, g2⟩ := new_mul e1 (by omega)
  have gp := gcd_pos_right K D (by omega)
  obtain ⟨b1, b2, b3, b4, _⟩ := valE_ok v1
  generalize newN K D = p at *
  generalize newD K D = d at *
  generalize Int.gcd K D = g at *
  have p0 : 0 ≤ p := by
    rcases Int.lt_or_le p 0 with h | h
    · have := Int.mul_le_mul_of_nonneg_right (show p ≤ -1 by omega) (show (0 : Int) ≤ (g : Int) by omega); omega
    · exact h
  have pd : p ≤ d := Int.le_of_mul_le_mul_right (a := (g : Int)) (by omega) (by omega)
  have v2 : val2 1 1 p d = 0 := val2_yes (by decide) v1
  have s1 : subE 1 1 p d = newE (d - p) d := by unfold subE; rw [sel_ok v2]; congr 1 <;> omega
  have s2 : subN 1 1 p d = newN (d - p) d := by unfold subN; rw [sel_ok v2]; congr 1 <;> omega
  have s3 : subD 1 1 p d = newD (d - p) d := by unfold subD; rw [sel_ok v2]; congr 1 <;> omega
  have e2 : newE (d - p) d = 0 := new_fits (by omega) (by omega) b1 b2
  have v3 := val_of_new e2
  obtain ⟨h1, h2⟩ := new_mul e2 (by omega)
  have hp := gcd_pos_right (d - p) d (by omega)
  rw [s1, s2, s3]
  obtain ⟨c1, c2, c3, c4, _⟩ := valE_ok v3
  generalize newN (d - p) d = s at *
  generalize newD (d - p) d = t at *
  generalize Int.gcd (d - p) d = h at *
  have q0 : 0 ≤ s := by
    rcases Int.lt_or_le s 0 with h' | h'
    · have := Int.mul_le_mul_of_nonneg_right (show s ≤ -1 by omega) (show (0 : Int) ≤ (h : Int) by omega); omega
    · exact h'
  have cr : s * d = (d - p) * t := by
    have : s * (t * h) = s * h * t := by rw [Int.mul_comm t, Int.mul_assoc]
    rw [← h2, this, h1, h2]
  have f1 : W * s / t = W * (d - p) / d := ediv_cross (by omega) (by omega) cr
  have t1 := floor_two (W := W) (p := p) (d := d) (by omega)
  have m0 : 0 ≤ W * p / d := Int.ediv_nonneg (Int.mul_nonneg w1 p0) (by omega)
  have m1 : 0 ≤ W * (d - p) / d := Int.ediv_nonneg (Int.mul_nonneg w1 (by omega)) (by omega)
  have r1 : partE W p d = 0 := by unfold partE; rw [if_pos ⟨v1, w1, by omega, p0⟩, if_pos (by omega)]
  have r2 : partE W s t = 0 := by unfold partE; rw [if_pos ⟨v3, w1, by omega, q0⟩, if_pos (by omega)]
  have r3 : partN W p d = W * p / d := by unfold partN; rw [if_pos r1]
  have r4 : partN W s t = W * (d - p) / d := by unfold partN; rw [if_pos r2, f1]
  rw [r3, r4]
  refine ⟨D1, D2, k1, by omega, w1, by omega, e1, e2, r1, r2, m0, by omega, m1, by omega, t1, fun hz => ?_⟩
  refine floor_two' (by omega) ?_
  have hDW : D ∣ W := Int.dvd_of_emod_eq_zero hz
  exact Int.dvd_trans ⟨g, by rw [g2]⟩ hDW
end Go.Proofs.YtjcdjmjebbllkaaDoor
