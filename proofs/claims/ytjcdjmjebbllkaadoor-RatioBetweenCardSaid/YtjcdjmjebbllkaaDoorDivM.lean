/- The plain mathematics of quotients of fractions in lowest terms. -/
import Derived.Test.YtjcdjmjebbllkaaDoorRefMul
namespace Go.Proofs.YtjcdjmjebbllkaaDoor

theorem new_neg (n d : Int) : newE (-n) (-d) = newE n d ∧ newN (-n) (-d) = newN n d ∧ newD (-n) (-d) = newD n d := by
  by_cases hd : d = 0
  · subst hd
    have e : ∀ x : Int, newE x 0 = 1 := fun x => by unfold newE; rw [if_pos rfl]
    refine ⟨?_, ?_, ?_⟩
    · rw [Int.neg_zero, e, e]
    · unfold newN; rw [Int.neg_zero, e, e]; rfl
    · unfold newD; rw [Int.neg_zero, e, e]; rfl
  · by_cases hn : n = 0
    · subst hn
      rw [Int.neg_zero]
      obtain ⟨q1, q2, q3⟩ := new_bu 0 d hd
      obtain ⟨r1, r2, r3⟩ := new_bu 0 (-d) (by omega)
      rw [q1, q2, q3, r1, r2, r3, Int.natAbs_neg]
      refine ⟨rfl, ?_, rfl⟩
      unfold buN
      simp
    · obtain ⟨q1, q2, q3⟩ := new_bu n d hd
      obtain ⟨r1, r2, r3⟩ := new_bu (-n) (-d) (by omega)
      rw [q1, q2, q3, r1, r2, r3, Int.natAbs_neg, Int.natAbs_neg]
      refine ⟨rfl, ?_, rfl⟩
      have : (decide (-n < 0) != decide (-d < 0)) = (decide (n < 0) != decide (d < 0)) := by
        rw [show decide (-n < 0) = !decide (n < 0) by by_cases x : n < 0 <;> simp [x] <;> omega, show decide (-d < 0) = !decide (d < 0) by by_cases x : d < 0 <;> simp [x] <;> omega]
        cases decide (n < 0) <;> cases decide (d < 0) <;> rfl
      rw [this]

theorem mul_law' {a b c d : Int} (b1 : 1 ≤ b) (g1 : Int.gcd a b = 1) (d1 : 1 ≤ d) (g2 : Int.gcd c d = 1) :
    newE (a * c) (b * d) = buE (a.natAbs / Nat.gcd a.natAbs d.natAbs * (c.natAbs / Nat.gcd c.natAbs b.natAbs)) (b.natAbs / Nat.gcd c.natAbs b.natAbs * (d.natAbs / Nat.gcd a.natAbs d.natAbs)) ∧
    newN (a * c) (b * d) = buN (decide (a < 0) != decide (c < 0)) (a.natAbs / Nat.gcd a.natAbs d.natAbs * (c.natAbs / Nat.gcd c.natAbs b.natAbs)) (b.natAbs / Nat.gcd c.natAbs b.natAbs * (d.natAbs / Nat.gcd a.natAbs d.natAbs)) ∧
    newD (a * c) (b * d) = buD (a.natAbs / Nat.gcd a.natAbs d.natAbs * (c.natAbs / Nat.gcd c.natAbs b.natAbs)) (b.natAbs / Nat.gcd c.natAbs b.natAbs * (d.natAbs / Nat.gcd a.natAbs d.natAbs)) ∧
    Nat.gcd (a.natAbs / Nat.gcd a.natAbs d.natAbs * (c.natAbs / Nat.gcd c.natAbs b.natAbs)) (b.natAbs / Nat.gcd c.natAbs b.natAbs * (d.natAbs / Nat.gcd a.natAbs d.natAbs)) = 1 ∧ 0 < b.natAbs / Nat.gcd c.natAbs b.natAbs * (d.natAbs / Nat.gcd a.natAbs d.natAbs) := by
  obtain ⟨e1, e2, e3, e4⟩ := cross a.natAbs b.natAbs c.natAbs d.natAbs g1 g2 (by omega) (by omega)
  have hg : 0 < Nat.gcd a.natAbs d.natAbs := Nat.gcd_pos_of_pos_right _ (by omega)
  have hh : 0 < Nat.gcd c.natAbs b.natAbs := Nat.gcd_pos_of_pos_right _ (by omega)
  have p1 : 0 < d.natAbs / Nat.gcd a.natAbs d.natAbs := Nat.div_pos (Nat.le_of_dvd (by omega) (Nat.gcd_dvd_right _ _)) hg
  have p2 : 0 < b.natAbs / Nat.gcd c.natAbs b.natAbs := Nat.div_pos (Nat.le_of_dvd (by omega) (Nat.gcd_dvd_right _ _)) hh
  generalize hn : a.natAbs / Nat.gcd a.natAbs d.natAbs = n at *
  generalize hm : c.natAbs / Nat.gcd c.natAbs b.natAbs = m at *
  generalize hk : b.natAbs / Nat.gcd c.natAbs b.natAbs = k at *
  generalize hl : d.natAbs / Nat.gcd a.natAbs d.natAbs = l at *
  generalize Nat.gcd a.natAbs d.natAbs * Nat.gcd c.natAbs b.natAbs = t at *
  have n1 : (a * c).natAbs = a.natAbs * c.natAbs := Int.natAbs_mul _ _
  have n2 : (b * d).natAbs = b.natAbs * d.natAbs := Int.natAbs_mul _ _
  have hbd : 0 < b * d := Int.mul_pos (by omega) (by omega)
  obtain ⟨q1, q2, q3⟩ := new_bu (a * c) (b * d) (by omega)
  have r1 : buE (a * c).natAbs (b * d).natAbs = buE (n * m) (k * l) := by
    unfold buE; rw [n1, n2, e1, e2, e3, e4, Nat.div_one, Nat.div_one]
  have r3 : buD (a * c).natAbs (b * d).natAbs = buD (n * m) (k * l) := by
    unfold buD; rw [r1, n1, n2, e1, e3, e4, Nat.div_one]
  have r2 : buN (decide (a * c < 0) != decide (b * d < 0)) (a * c).natAbs (b * d).natAbs = buN (decide (a < 0) != decide (c < 0)) (n * m) (k * l) := by
    have hs : (decide (a * c < 0) != decide (b * d < 0)) = (decide (a < 0) != decide (c < 0)) ∨ n * m = 0 := by
      by_cases z : a = 0 ∨ c = 0
      · right
        have : a.natAbs * c.natAbs = 0 := by rcases z with rfl | rfl <;> simp
        rw [← e2, this]; simp
      · left
        simp only [not_or] at z
        rw [decide_eq_false (show ¬ b * d < 0 by omega)]
        by_cases x1 : a < 0 <;> by_cases x2 : c < 0
        · have := Int.mul_pos_of_neg_of_neg x1 x2
          simp [x1, x2]; omega
        · have := Int.mul_neg_of_neg_of_pos x1 (show 0 < c by omega)
          simp [x1, x2]; omega
        · have := Int.mul_neg_of_pos_of_neg (show 0 < a by omega) x2
          simp [x1, x2]; omega
        · have := Int.mul_pos (show 0 < a by omega) (show 0 < c by omega)
          simp [x1, x2]; omega
    rcases hs with hs | hs
    · rw [hs]; unfold buN; rw [r1, n1, n2, e1, e2, e4, Nat.div_one]
    · unfold buN; rw [r1, n1, n2, e1, e2, e4, Nat.div_one, hs]; simp
  exact ⟨q1.trans r1, q2.trans r2, q3.trans r3, e4, Nat.mul_pos p2 p1⟩

theorem refmul_law' {a b c d : Int} (b1 : 1 ≤ b) (b2 : b ≤ 1048576) (b3 : -1099511627776 ≤ a) (b4 : a ≤ 1099511627776) (g1 : Int.gcd a b = 1) (d1 : 1 ≤ d) (d2 : d ≤ 1099511627776) (d3 : -1048576 ≤ c) (d4 : c ≤ 1048576) (g2 : Int.gcd c d = 1) (ha : a ≠ 0) (hc : c ≠ 0) :
    ∃ n m k : Int, a.tdiv (Int.gcd a d : Int) = n ∧ c.tdiv (Int.gcd c b : Int) = m ∧ b.tdiv (Int.gcd c b : Int) * d.tdiv (Int.gcd a d : Int) = k ∧
      n ≠ 0 ∧ m ≠ 0 ∧ (-1099511627776 ≤ n ∧ n ≤ 1099511627776) ∧ (-1048576 ≤ m ∧ m ≤ 1048576) ∧ (1 ≤ k ∧ k ≤ 1152921504606846976) ∧
      (0 ≤ b.tdiv (Int.gcd c b : Int) ∧ b.tdiv (Int.gcd c b : Int) ≤ 1048576) ∧ (0 ≤ d.tdiv (Int.gcd a d : Int) ∧ d.tdiv (Int.gcd a d : Int) ≤ 1099511627776) ∧
      (newE (a * c) (b * d) = newE (n * m) k ∧ newN (a * c) (b * d) = newN (n * m) k ∧ newD (a * c) (b * d) = newD (n * m) k) ∧
      (1099511627776 < n.natAbs * m.natAbs ∨ 1048576 < k → newE (n * m) k = 5 ∧ newN (n * m) k = 0 ∧ newD (n * m) k = 0) := by
  obtain ⟨l1, l2, l3, l4, l5⟩ := mul_law' b1 g1 d1 g2
  have n1 : (a.tdiv (Int.gcd a d : Int)).natAbs = a.natAbs / Nat.gcd a.natAbs d.natAbs := tdiv_abs _ _
  have m1 : (c.tdiv (Int.gcd c b : Int)).natAbs = c.natAbs / Nat.gcd c.natAbs b.natAbs := tdiv_abs _ _
  have k1 : b.tdiv (Int.gcd c b : Int) = ((b.natAbs / Nat.gcd c.natAbs b.natAbs : Nat) : Int) := tdiv_pos (by omega)
  have k2 : d.tdiv (Int.gcd a d : Int) = ((d.natAbs / Nat.gcd a.natAbs d.natAbs : Nat) : Int) := tdiv_pos (by omega)
  obtain ⟨s1, s2⟩ := tdiv_sign (a := a) (g := Int.gcd a d) (Nat.gcd_dvd_left _ _) ha
  obtain ⟨s3, s4⟩ := tdiv_sign (a := c) (g := Int.gcd c b) (Nat.gcd_dvd_left _ _) hc
  have p1 := Nat.div_le_self a.natAbs (Nat.gcd a.natAbs d.natAbs)
  have p2 := Nat.div_le_self c.natAbs (Nat.gcd c.natAbs b.natAbs)
  have p3 := Nat.div_le_self b.natAbs (Nat.gcd c.natAbs b.natAbs)
  have p4 := Nat.div_le_self d.natAbs (Nat.gcd a.natAbs d.natAbs)
  have p5 : b.natAbs / Nat.gcd c.natAbs b.natAbs * (d.natAbs / Nat.gcd a.natAbs d.natAbs) ≤ 1048576 * 1099511627776 := Nat.mul_le_mul (by omega) (by omega)
  rw [l1, l2, l3, k1, k2]
  generalize a.tdiv (Int.gcd a d : Int) = n at *
  generalize c.tdiv (Int.gcd c b : Int) = m at *
  generalize a.natAbs / Nat.gcd a.natAbs d.natAbs = X at *
  generalize c.natAbs / Nat.gcd c.natAbs b.natAbs = Y at *
  generalize b.natAbs / Nat.gcd c.natAbs b.natAbs = U at *
  generalize d.natAbs / Nat.gcd a.natAbs d.natAbs = V at *
  subst n1 m1
  have e1 : (n * m).natAbs = n.natAbs * m.natAbs := Int.natAbs_mul _ _
  have hk : (U : Int) * (V : Int) = ((U * V : Nat) : Int) := (Int.natCast_mul _ _).symm
  rw [hk]
  refine ⟨n, m, _, rfl, rfl, rfl, s2, s4, by omega, by omega, by omega, by omega, by omega, ?_, ?_⟩
  · generalize U * V = K at *
    obtain ⟨q1, q2, q3⟩ := new_bu (n * m) (K : Int) (by omega)
    rw [q1, q2, q3, e1, Int.natAbs_natCast]
    refine ⟨rfl, ?_, rfl⟩
    have : (decide (a < 0) != decide (c < 0)) = (decide (n * m < 0) != decide ((K : Int) < 0)) := by
      rw [decide_eq_false (show ¬ (K : Int) < 0 by omega), show decide (a < 0) = decide (n < 0) from decide_eq_decide.2 s1.symm, show decide (c < 0) = decide (m < 0) from decide_eq_decide.2 s3.symm]
      by_cases x1 : n < 0 <;> by_cases x2 : m < 0
      · have := Int.mul_pos_of_neg_of_neg x1 x2
        simp [x1, x2]; omega
      · have := Int.mul_neg_of_neg_of_pos x1 (show 0 < m by omega)
        simp [x1, x2]; omega
      · have := Int.mul_neg_of_pos_of_neg (show 0 < n by omega) x2
        simp [x1, x2]; omega
      · have := Int.mul_pos (show 0 < n by omega) (show 0 < m by omega)
        simp [x1, x2]; omega
    rw [this]
  · intro h
    generalize U * V = K at *
    obtain ⟨q1, q2, q3⟩ := new_bu (n * m) (K : Int) (by omega)
    obtain ⟨r1, r2, r3⟩ := bu_cop l4 (by omega)
    rw [q1, q2, q3, e1, Int.natAbs_natCast]
    exact ⟨r1, r2 _, r3⟩

/-- The quotient. -/
def divN (a b c d : Int) : Int := sel (val2 a b c d) (if c = 0 then 0 else newN (a * d) (b * c)) 0
def divD (a b c d : Int) : Int := sel (val2 a b c d) (if c = 0 then 0 else newD (a * d) (b * c)) 0
def divE (a b c d : Int) : Int := sel (val2 a b c d) (if c = 0 then 1 else newE (a * d) (b * c)) 1
end Go.Proofs.YtjcdjmjebbllkaaDoor
