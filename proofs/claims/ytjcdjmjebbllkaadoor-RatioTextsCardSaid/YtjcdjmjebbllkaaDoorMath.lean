/- The plain mathematics of exact ratios: no program in sight. -/
namespace Go.Proofs.YtjcdjmjebbllkaaDoor

/-- Around of the first reference: a number from 0 to m - 1. -/
def arN (n m : Int) : Int := (if n < 0 then -(n + 1) else n) % m
theorem arN_nonneg (n m : Int) (h : 1 ≤ m) : 0 ≤ arN n m := Int.emod_nonneg _ (by omega)
theorem arN_lt (n m : Int) (h : 1 ≤ m) : arN n m < m := Int.emod_lt_of_pos _ (by omega)

/-- The error of a quotient: 1 for a denominator 0; 5 if it does not fit; else 0. -/
def newE (a b : Int) : Int := if b = 0 then 1 else if 1099511627776 < a.natAbs / Int.gcd a b ∨ 1048576 < b.natAbs / Int.gcd a b then 5 else 0
/-- The quotient in lowest terms; 0 with an error. -/
def newN (a b : Int) : Int := if newE a b = 0 then (if (a < 0) ↔ (b < 0) then ((a.natAbs / Int.gcd a b : Nat) : Int) else -((a.natAbs / Int.gcd a b : Nat) : Int)) else 0
def newD (a b : Int) : Int := if newE a b = 0 then ((b.natAbs / Int.gcd a b : Nat) : Int) else 0

/-- The error of a ratio. -/
def valE (n d : Int) : Int := if 1 ≤ d ∧ d ≤ 1048576 ∧ -1099511627776 ≤ n ∧ n ≤ 1099511627776 ∧ Int.gcd n d = 1 then 0 else 1

theorem newE_cases (a b : Int) : newE a b = 0 ∨ newE a b = 1 ∨ newE a b = 5 := by unfold newE; split <;> (try split) <;> simp
theorem valE_cases (n d : Int) : valE n d = 0 ∨ valE n d = 1 := by unfold valE; split <;> simp
theorem valE_ok {n d : Int} (h : valE n d = 0) : 1 ≤ d ∧ d ≤ 1048576 ∧ -1099511627776 ≤ n ∧ n ≤ 1099511627776 ∧ Int.gcd n d = 1 := by
  unfold valE at h; split at h
  · assumption
  · simp at h

theorem newE_zero {a b : Int} (h : newE a b = 0) : b ≠ 0 ∧ a.natAbs / Int.gcd a b ≤ 1099511627776 ∧ b.natAbs / Int.gcd a b ≤ 1048576 := by
  unfold newE at h
  by_cases hb : b = 0
  · rw [if_pos hb] at h; simp at h
  · rw [if_neg hb] at h
    by_cases hc : 1099511627776 < a.natAbs / Int.gcd a b ∨ 1048576 < b.natAbs / Int.gcd a b
    · rw [if_pos hc] at h; simp at h
    · simp only [not_or, Nat.not_lt] at hc; exact ⟨hb, hc⟩
theorem newN_bd (a b : Int) : -1099511627776 ≤ newN a b ∧ newN a b ≤ 1099511627776 := by
  unfold newN
  by_cases h : newE a b = 0
  · rw [if_pos h]
    have h1 := (newE_zero h).2.1
    generalize a.natAbs / Int.gcd a b = x at *
    split <;> omega
  · rw [if_neg h]; omega
theorem newD_bd (a b : Int) : 0 ≤ newD a b ∧ newD a b ≤ 1048576 := by
  unfold newD
  by_cases h : newE a b = 0
  · rw [if_pos h]
    have h1 := (newE_zero h).2.2
    generalize b.natAbs / Int.gcd a b = x at *
    omega
  · rw [if_neg h]; omega
theorem gcd_pos_right (a b : Int) (h : b ≠ 0) : 0 < Int.gcd a b := by
  rcases Nat.eq_zero_or_pos (Int.gcd a b) with h0 | h0
  · exact absurd (Int.gcd_eq_zero_iff.1 h0).2 h
  · exact h0

/-- What is valid is its own quotient. -/
theorem new_of_val {n d : Int} (h : valE n d = 0) : newE n d = 0 ∧ newN n d = n ∧ newD n d = d := by
  obtain ⟨h1, h2, h3, h4, h5⟩ := valE_ok h
  have he : newE n d = 0 := by
    unfold newE
    rw [if_neg (by omega), h5, Nat.div_one, Nat.div_one, if_neg (by omega)]
  refine ⟨he, ?_, ?_⟩
  · unfold newN
    rw [if_pos he, h5, Nat.div_one]
    split <;> omega
  · unfold newD
    rw [if_pos he, h5, Nat.div_one]
    omega
/-- A quotient is valid. -/
theorem val_of_new {a b : Int} (h : newE a b = 0) : valE (newN a b) (newD a b) = 0 := by
  have hb : b ≠ 0 := by
    intro hb; unfold newE at h; simp [hb] at h
  have hg := gcd_pos_right a b hb
  have hN := newN_bd a b
  have hD := newD_bd a b
  have h1 : newD a b = ((b.natAbs / Int.gcd a b : Nat) : Int) := by unfold newD; rw [if_pos h]
  have h2 : (newN a b).natAbs = a.natAbs / Int.gcd a b := by
    unfold newN; rw [if_pos h]; generalize a.natAbs / Int.gcd a b = x; split <;> omega
  have hd1 : 1 ≤ b.natAbs / Int.gcd a b := by
    rw [Nat.le_div_iff_mul_le hg, Nat.one_mul]
    exact Nat.le_of_dvd (by omega) (Nat.gcd_dvd_right _ _)
  have hgc : Int.gcd (newN a b) (newD a b) = 1 := by
    unfold Int.gcd
    rw [h2, h1, Int.natAbs_natCast]
    rw [show Int.gcd a b = Nat.gcd a.natAbs b.natAbs from rfl, Nat.gcd_div (Nat.gcd_dvd_left _ _) (Nat.gcd_dvd_right _ _)]
    exact Nat.div_self hg
  unfold valE
  rw [if_pos ⟨by omega, by omega, by omega, by omega, hgc⟩]
theorem valE_iff (n d : Int) : valE n d = 0 ↔ 1 ≤ d ∧ newE n d = 0 ∧ newN n d = n ∧ newD n d = d := by
  constructor
  · intro h; exact ⟨(valE_ok h).1, new_of_val h⟩
  · rintro ⟨_, h, e1, e2⟩
    have := val_of_new h
    rwa [e1, e2] at this
end Go.Proofs.YtjcdjmjebbllkaaDoor
