/- The plain mathematics of the reference's Mul: no program in sight. -/
import Derived.Test.YtjcdjmjebbllkaaDoorMul
namespace Go.Proofs.YtjcdjmjebbllkaaDoor

theorem tdiv_abs (a : Int) (g : Nat) : (a.tdiv (g : Int)).natAbs = a.natAbs / g := by rw [Int.natAbs_tdiv]; rfl
theorem tdiv_sign {a : Int} {g : Nat} (hg : g ∣ a.natAbs) (h0 : a ≠ 0) : (a.tdiv (g : Int) < 0 ↔ a < 0) ∧ a.tdiv (g : Int) ≠ 0 := by
  obtain ⟨q, hq⟩ : (g : Int) ∣ a := Int.ofNat_dvd_left.2 hg
  have hg0 : 0 < g := by
    rcases Nat.eq_zero_or_pos g with h | h
    · subst h; simp at hq; exact absurd hq h0
    · exact h
  have e : a.tdiv (g : Int) = q := by rw [hq, Int.mul_tdiv_cancel_left _ (by omega)]
  rw [e, hq]
  have hg' : (0 : Int) < (g : Int) := by omega
  refine ⟨⟨fun h => Int.mul_neg_of_pos_of_neg hg' h, fun h => ?_⟩, ?_⟩
  · rcases Int.lt_or_le q 0 with x | x
    · exact x
    · have := Int.mul_nonneg (by omega : (0 : Int) ≤ (g : Int)) x
      omega
  · rintro rfl
    simp at hq
    exact h0 hq

theorem tdiv_pos {b : Int} {g : Nat} (h : 0 < b) : b.tdiv (g : Int) = ((b.natAbs / g : Nat) : Int) := by
  have e : b = (b.natAbs : Int) := by omega
  generalize b.natAbs = B at *
  subst e
  rw [Int.natCast_ediv, Int.tdiv_eq_ediv_of_nonneg (by omega)]

/-- The reference's product of two valid ratios other than 0. -/
theorem refmul_law {a b c d : Int} (h1 : valE a b = 0) (h2 : valE c d = 0) (ha : a ≠ 0) (hc : c ≠ 0) :
    ∃ n m k : Int, a.tdiv (Int.gcd a d : Int) = n ∧ c.tdiv (Int.gcd c b : Int) = m ∧ b.tdiv (Int.gcd c b : Int) * d.tdiv (Int.gcd a d : Int) = k ∧
      n ≠ 0 ∧ m ≠ 0 ∧ (-1099511627776 ≤ n ∧ n ≤ 1099511627776) ∧ (-1099511627776 ≤ m ∧ m ≤ 1099511627776) ∧ (1 ≤ k ∧ k ≤ 1099511627776) ∧
      (0 ≤ b.tdiv (Int.gcd c b : Int) ∧ b.tdiv (Int.gcd c b : Int) ≤ 1048576) ∧ (0 ≤ d.tdiv (Int.gcd a d : Int) ∧ d.tdiv (Int.gcd a d : Int) ≤ 1048576) ∧
      (newE (a * c) (b * d) = newE (n * m) k ∧ newN (a * c) (b * d) = newN (n * m) k ∧ newD (a * c) (b * d) = newD (n * m) k) ∧
      (1099511627776 < n.natAbs * m.natAbs ∨ 1048576 < k → newE (n * m) k = 5 ∧ newN (n * m) k = 0 ∧ newD (n * m) k = 0) := by
  obtain ⟨b1, b2, b3, b4, _⟩ := valE_ok h1
  obtain ⟨d1, d2, d3, d4, _⟩ := valE_ok h2
  obtain ⟨l1, l2, l3, l4, l5⟩ := mul_law h1 h2
  have n1 : (a.tdiv (Int.gcd a d : Int)).natAbs = a.natAbs / Nat.gcd a.natAbs d.natAbs := tdiv_abs _ _
  have m1 : (c.tdiv (Int.gcd c b : Int)).natAbs = c.natAbs / Nat.gcd c.natAbs b.natAbs := tdiv_abs _ _
  have k1 : b.tdiv (Int.gcd c b : Int) = ((b.natAbs / Nat.gcd c.natAbs b.natAbs : Nat) : Int) := tdiv_pos (by omega)
  have k2 : d.tdiv (Int.gcd a d : Int) = ((d.natAbs / Nat.gcd a.natAbs d.natAbs : Nat) : Int) := tdiv_pos (by omega)
  obtain ⟨s1, s2⟩ := tdiv_sign (a := a) (g := Int.gcd a d) (Nat.gcd_dvd_left _ _) ha
  obtain ⟨s3, s4⟩ := tdiv_sign (a := c) (g := Int.gcd c b) (Nat.gcd_dvd_left _ _) hc
  have p1 := Nat.div_le_self a.natAbs (Nat.gcd a.natAbs d.natAbs)
  have p2 := Nat.div_le_self c.natAbs (Nat.gcd c.natAbs b.natAbs)
  have p3 := Nat.div_le_self b.natAbs (Nat.gcd c.natAbs b.natAbs)
  have p4 := Nat.div_le_self d.natAbs (Nat.gcd a.natAbs d.natAbs)
  have p5 : b.natAbs / Nat.gcd c.natAbs b.natAbs * (d.natAbs / Nat.gcd a.natAbs d.natAbs) ≤ 1048576 * 1048576 := Nat.mul_le_mul (by omega) (by omega)
  rw [l1, l2, l3, k1, k2]
  generalize a.tdiv (Int.gcd a d : Int) = n at *
  generalize c.tdiv (Int.gcd c b : Int) = m at *
  generalize a.natAbs / Nat.gcd a.natAbs d.natAbs = X at *
  generalize c.natAbs / Nat.gcd c.natAbs b.natAbs = Y at *
  generalize b.natAbs / Nat.gcd c.natAbs b.natAbs = U at *
  generalize d.natAbs / Nat.gcd a.natAbs d.natAbs = V at *
  subst n1 m1
  have e1 : (n * m).natAbs = n.natAbs * m.natAbs := Int.natAbs_mul _ _
  have hk : (U : Int) * (V : Int) = ((U * V : Nat) : Int) := (Int.natCast_mul _ _).symm
  rw [hk]
  refine ⟨n, m, _, rfl, rfl, rfl, s2, s4, by omega, by omega, by omega, by omega, by omega, ?_, ?_⟩
  · generalize U * V = K at *
    obtain ⟨q1, q2, q3⟩ := new_bu (n * m) (K : Int) (by omega)
    rw [q1, q2, q3, e1, Int.natAbs_natCast]
    refine ⟨rfl, ?_, rfl⟩
    have : (decide (a < 0) != decide (c < 0)) = (decide (n * m < 0) != decide ((K : Int) < 0)) := by
      rw [decide_eq_false (show ¬ (K : Int) < 0 by omega), show decide (a < 0) = decide (n < 0) from decide_eq_decide.2 s1.symm, show decide (c < 0) = decide (m < 0) from decide_eq_decide.2 s3.symm]
      by_cases x1 : n < 0 <;> by_cases x2 : m < 0
      · have := Int.mul_pos_of_neg_of_neg x1 x2
        simp [x1, x2]; omega
      · have := Int.mul_neg_of_neg_of_pos x1 (show 0 < m by omega)
        simp [x1, x2]; omega
      · have := Int.mul_neg_of_pos_of_neg (show 0 < n by omega) x2
        simp [x1, x2]; omega
      · have := Int.mul_pos (show 0 < n by omega) (show 0 < m by omega)
        simp [x1, x2]; omega
    rw [this]
  · intro h
    generalize U * V = K at *
    obtain ⟨q1, q2, q3⟩ := new_bu (n * m) (K : Int) (by omega)
    obtain ⟨r1, r2, r3⟩ := bu_cop l4 (by omega)
    rw [q1, q2, q3, e1, Int.natAbs_natCast]
    exact ⟨r1, r2 _, r3⟩
end Go.Proofs.YtjcdjmjebbllkaaDoor
