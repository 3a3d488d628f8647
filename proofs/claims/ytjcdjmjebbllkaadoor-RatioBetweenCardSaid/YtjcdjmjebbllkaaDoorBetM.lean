/- The plain law of the reference's search: the first denominator that it takes is that of the simplest ratio. -/
import Derived.Test.YtjcdjmjebbllkaaDoorSimL
import Derived.Test.YtjcdjmjebbllkaaDoorDivM
namespace Go.Proofs.YtjcdjmjebbllkaaDoor

/-- The numerator that the search tries. -/
def tryN (a b e : Int) : Int := a / b * e + a % b * e / b + 1

theorem tryN_bd {a b e : Int} (hb : 1 ≤ b) : (tryN a b e - 1) * b ≤ a * e ∧ a * e < tryN a b e * b := by
  unfold tryN
  have e1 := Int.mul_ediv_add_emod a b
  have e2 := Int.mul_ediv_add_emod (a % b * e) b
  have e3 := Int.emod_nonneg (a % b * e) (show b ≠ 0 by omega)
  have e4 := Int.emod_lt_of_pos (a % b * e) (show 0 < b by omega)
  generalize a % b * e / b = s at *
  generalize (a % b * e) % b = t at *
  have e5 : a * e = b * (a / b) * e + a % b * e := by rw [← Int.add_mul, e1]
  generalize a / b = q at *
  generalize a % b = r at *
  refine ⟨?_, ?_⟩ <;> grind

theorem cond_iff {n e c d : Int} (he : 1 ≤ e) (hd : 1 ≤ d) : (n / e < c / d ∨ n / e = c / d ∧ n % e * d < c % d * e) ↔ n * d < c * e := by
  have e1 := Int.mul_ediv_add_emod n e
  have e2 := Int.mul_ediv_add_emod c d
  have r1 := Int.emod_nonneg n (show e ≠ 0 by omega)
  have r2 := Int.emod_lt_of_pos n (show 0 < e by omega)
  have r3 := Int.emod_nonneg c (show d ≠ 0 by omega)
  have r4 := Int.emod_lt_of_pos c (show 0 < d by omega)
  generalize n / e = q at *
  generalize c / d = p at *
  generalize n % e = r at *
  generalize c % d = s at *
  have x1 : n * d = e * d * q + r * d := by rw [← e1]; grind
  have x2 : c * e = e * d * p + s * e := by rw [← e2]; grind
  have y1 : 0 ≤ r * d := Int.mul_nonneg r1 (by omega)
  have y2 : r * d < e * d := Int.mul_lt_mul_of_pos_right r2 (by omega)
  have y3 : 0 ≤ s * e := Int.mul_nonneg r3 (by omega)
  have y4 : s * e < e * d := by rw [Int.mul_comm e d]; exact Int.mul_lt_mul_of_pos_right r4 (by omega)
  have pp : 0 < e * d := Int.mul_pos (by omega) (by omega)
  rw [x1, x2]
  generalize r * d = R at *
  generalize s * e = S at *
  generalize e * d = P at *
  rcases Int.lt_trichotomy q p with h | h | h
  · have : P * q + P ≤ P * p := by
      have := Int.mul_le_mul_of_nonneg_left (show q + 1 ≤ p by omega) (show 0 ≤ P by omega)
      rw [Int.mul_add, Int.mul_one] at this; exact this
    constructor
    · intro _; omega
    · intro _; exact .inl h
  · subst h
    constructor
    · rintro (h | ⟨_, h⟩) <;> omega
    · intro h; exact .inr ⟨rfl, by omega⟩
  · have : P * p + P ≤ P * q := by
      have := Int.mul_le_mul_of_nonneg_left (show p + 1 ≤ q by omega) (show 0 ≤ P by omega)
      rw [Int.mul_add, Int.mul_one] at this; exact this
    constructor
    · rintro (h' | ⟨h', _⟩) <;> omega
    · intro _; omega

theorem try_no {a b c d N D e : Int} (hb : 1 ≤ b) (he : 1 ≤ e) (hlt : e < D) (hmin : ∀ n e : Int, 1 ≤ e → Btw a b c d n e → N ≤ n ∧ D ≤ e) : ¬ tryN a b e * d < c * e := fun h => by
  have := (hmin (tryN a b e) e he ⟨(tryN_bd hb).2, h⟩).2
  omega

theorem try_yes {a b c d N D : Int} (hb : 1 ≤ b) (hd : 0 ≤ d) (hD : 1 ≤ D) (h : Btw a b c d N D) (hmin : ∀ n e : Int, 1 ≤ e → Btw a b c d n e → N ≤ n ∧ D ≤ e) : tryN a b D = N ∧ tryN a b D * d < c * D := by
  obtain ⟨t1, t2⟩ := tryN_bd (a := a) (e := D) hb
  have h1 : tryN a b D ≤ N := by
    have : (tryN a b D - 1) * b < N * b := Int.lt_of_le_of_lt t1 h.1
    have := Int.lt_of_mul_lt_mul_right this (by omega)
    omega
  have h2 : tryN a b D * d < c * D := Int.lt_of_le_of_lt (Int.mul_le_mul_of_nonneg_right h1 hd) h.2
  exact ⟨by have := (hmin _ _ hD ⟨t2, h2⟩).1; omega, h2⟩

theorem new_minus (n d : Int) : newE (-n) d = newE n d ∧ newN (-n) d = -newN n d ∧ newD (-n) d = newD n d := by
  by_cases hd : d = 0
  · subst hd
    have e : ∀ x : Int, newE x 0 = 1 := fun x => by unfold newE; rw [if_pos rfl]
    refine ⟨by rw [e, e], ?_, ?_⟩
    · unfold newN; rw [e, e]; rfl
    · unfold newD; rw [e, e]; rfl
  · obtain ⟨q1, q2, q3⟩ := new_bu n d hd
    obtain ⟨r1, r2, r3⟩ := new_bu (-n) d hd
    rw [q1, q2, q3, r1, r2, r3, Int.natAbs_neg]
    refine ⟨rfl, ?_, rfl⟩
    by_cases hn : n = 0
    · subst hn
      unfold buN; simp
    · have : (decide (-n < 0) != decide (d < 0)) = !(decide (n < 0) != decide (d < 0)) := by
        rw [show decide (-n < 0) = !decide (n < 0) by by_cases x : n < 0 <;> simp [x] <;> omega]
        cases decide (n < 0) <;> cases decide (d < 0) <;> rfl
      rw [this]
      unfold buN
      by_cases z : buE n.natAbs d.natAbs = 0
      · rw [if_pos z, if_pos z]
        cases (decide (n < 0) != decide (d < 0)) <;> simp
      · rw [if_neg z, if_neg z]; rfl
end Go.Proofs.YtjcdjmjebbllkaaDoor
