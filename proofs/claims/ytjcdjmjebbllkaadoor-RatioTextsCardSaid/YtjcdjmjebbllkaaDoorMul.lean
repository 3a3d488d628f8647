/- What times, Mul and the reference's Mul return. -/
import Derived.Test.YtjcdjmjebbllkaaDoorMulM
import Derived.Test.YtjcdjmjebbllkaaDoorCmp
import Derived.Test.YtjcdjmjebbllkaaDoorFresh
namespace Go.Proofs.YtjcdjmjebbllkaaDoor
open Go.RowKit
attribute [local go_sem] le_add_one'

theorem quiet_add {P : Program} {f : FuncId} {args : Array Value} {w : World} {a n : Nat} {v : Value}
    (h : Calls P f args (w.drewN (a + n)) fun e w' => e = .returned v ∧ ∃ m, w' = (w.drewN (a + n)).drewN m) :
    Calls P f args (w.drewN (a + n)) fun e w'' => e = .returned v ∧ ∃ m, w'' = w.drewN (a + m) :=
  h.mono fun _ _ ⟨he, m, hm⟩ => ⟨he, n + m, by rw [hm, World.drewN_drewN, Nat.add_assoc]⟩
theorem quiet_add_left {P : Program} {f : FuncId} {args : Array Value} {w : World} {a n : Nat} {v : Value}
    (h : Calls P f args (w.drewN (a + n)) fun e w' => e = .returned v ∧ w.drewN (a + n) = w') :
    Calls P f args (w.drewN (a + n)) fun e w'' => e = .returned v ∧ ∃ m, w'' = w.drewN (a + m) :=
  h.mono fun _ _ ⟨he, hm⟩ => ⟨he, n, hm.symm⟩
theorem quiet_left {P : Program} {f : FuncId} {args : Array Value} {w : World} {n : Nat} {v : Value}
    (h : Calls P f args (w.drewN n) fun e w' => e = .returned v ∧ w.drewN n = w') : Calls P f args (w.drewN n) fun e w'' => e = .returned v ∧ ∃ m, w'' = w.drewN m :=
  h.mono fun _ _ ⟨he, hm⟩ => ⟨he, n, hm.symm⟩

theorem bu_cop {N K : Nat} (h : Nat.gcd N K = 1) : (1099511627776 < N ∨ 1048576 < K → buE N K = 5 ∧ (∀ b, buN b N K = 0) ∧ buD N K = 0) := fun h' => bu_no (by rw [h, Nat.div_one, Nat.div_one]; exact h')

/-- The product of two valid ratios, by what times computes. -/
theorem mul_law {a b c d : Int} (h1 : valE a b = 0) (h2 : valE c d = 0) :
    newE (a * c) (b * d) = buE (a.natAbs / Nat.gcd a.natAbs d.natAbs * (c.natAbs / Nat.gcd c.natAbs b.natAbs)) (b.natAbs / Nat.gcd c.natAbs b.natAbs * (d.natAbs / Nat.gcd a.natAbs d.natAbs)) ∧
    newN (a * c) (b * d) = buN (decide (a < 0) != decide (c < 0)) (a.natAbs / Nat.gcd a.natAbs d.natAbs * (c.natAbs / Nat.gcd c.natAbs b.natAbs)) (b.natAbs / Nat.gcd c.natAbs b.natAbs * (d.natAbs / Nat.gcd a.natAbs d.natAbs)) ∧
    newD (a * c) (b * d) = buD (a.natAbs / Nat.gcd a.natAbs d.natAbs * (c.natAbs / Nat.gcd c.natAbs b.natAbs)) (b.natAbs / Nat.gcd c.natAbs b.natAbs * (d.natAbs / Nat.gcd a.natAbs d.natAbs)) ∧
    Nat.gcd (a.natAbs / Nat.gcd a.natAbs d.natAbs * (c.natAbs / Nat.gcd c.natAbs b.natAbs)) (b.natAbs / Nat.gcd c.natAbs b.natAbs * (d.natAbs / Nat.gcd a.natAbs d.natAbs)) = 1 ∧ 0 < b.natAbs / Nat.gcd c.natAbs b.natAbs * (d.natAbs / Nat.gcd a.natAbs d.natAbs) := by
  obtain ⟨b1, _, _, _, g1⟩ := valE_ok h1
  obtain ⟨d1, _, _, _, g2⟩ := valE_ok h2
  obtain ⟨e1, e2, e3, e4⟩ := cross a.natAbs b.natAbs c.natAbs d.natAbs g1 g2 (by omega) (by omega)
  have hg : 0 < Nat.gcd a.natAbs d.natAbs := Nat.gcd_pos_of_pos_right _ (by omega)
  have hh : 0 < Nat.gcd c.natAbs b.natAbs := Nat.gcd_pos_of_pos_right _ (by omega)
  have p1 : 0 < d.natAbs / Nat.gcd a.natAbs d.natAbs := Nat.div_pos (Nat.le_of_dvd (by omega) (Nat.gcd_dvd_right _ _)) hg
  have p2 : 0 < b.natAbs / Nat.gcd c.natAbs b.natAbs := Nat.div_pos (Nat.le_of_dvd (by omega) (Nat.gcd_dvd_right _ _)) hh
  generalize hn : a.natAbs / Nat.gcd a.natAbs d.natAbs = n at *
  generalize hm : c.natAbs / Nat.gcd c.natAbs b.natAbs = m at *
  generalize hk : b.natAbs / Nat.gcd c.natAbs b.natAbs = k at *
  generalize hl : d.natAbs / Nat.gcd a.natAbs d.natAbs = l at *
  generalize Nat.gcd a.natAbs d.natAbs * Nat.gcd c.natAbs b.natAbs = t at *
  have n1 : (a * c).natAbs = a.natAbs * c.natAbs := Int.natAbs_mul _ _
  have n2 : (b * d).natAbs = b.natAbs * d.natAbs := Int.natAbs_mul _ _
  have hbd : 0 < b * d := Int.mul_pos (by omega) (by omega)
  obtain ⟨q1, q2, q3⟩ := new_bu (a * c) (b * d) (by omega)
  have r1 : buE (a * c).natAbs (b * d).natAbs = buE (n * m) (k * l) := by
    unfold buE; rw [n1, n2, e1, e2, e3, e4, Nat.div_one, Nat.div_one]
  have r3 : buD (a * c).natAbs (b * d).natAbs = buD (n * m) (k * l) := by
    unfold buD; rw [r1, n1, n2, e1, e3, e4, Nat.div_one]
  have r2 : buN (decide (a * c < 0) != decide (b * d < 0)) (a * c).natAbs (b * d).natAbs = buN (decide (a < 0) != decide (c < 0)) (n * m) (k * l) := by
    have hs : (decide (a * c < 0) != decide (b * d < 0)) = (decide (a < 0) != decide (c < 0)) ∨ n * m = 0 := by
      by_cases z : a = 0 ∨ c = 0
      · right
        have : a.natAbs * c.natAbs = 0 := by rcases z with rfl | rfl <;> simp
        rw [← e2, this]; simp
      · left
        simp only [not_or] at z
        rw [decide_eq_false (show ¬ b * d < 0 by omega)]
        by_cases x1 : a < 0 <;> by_cases x2 : c < 0
        · have := Int.mul_pos_of_neg_of_neg x1 x2
          simp [x1, x2]; omega
        · have := Int.mul_neg_of_neg_of_pos x1 (show 0 < c by omega)
          simp [x1, x2]; omega
        · have := Int.mul_neg_of_pos_of_neg (show 0 < a by omega) x2
          simp [x1, x2]; omega
        · have := Int.mul_pos (show 0 < a by omega) (show 0 < c by omega)
          simp [x1, x2]; omega
    rcases hs with hs | hs
    · rw [hs]; unfold buN; rw [r1, n1, n2, e1, e2, e4, Nat.div_one]
    · unfold buN; rw [r1, n1, n2, e1, e2, e4, Nat.div_one, hs]; simp
  exact ⟨q1.trans r1, q2.trans r2, q3.trans r3, e4, Nat.mul_pos p2 p1⟩
end Go.Proofs.YtjcdjmjebbllkaaDoor
