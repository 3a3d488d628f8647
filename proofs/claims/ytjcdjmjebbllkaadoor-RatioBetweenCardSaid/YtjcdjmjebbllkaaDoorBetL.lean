/- The plain law of the last part of RatioBetween: between two small ratios in order there is one, of a small denominator. -/
import Derived.Test.YtjcdjmjebbllkaaDoorBetT
import Derived.Test.YtjcdjmjebbllkaaDoorFieldM
namespace Go.Proofs.YtjcdjmjebbllkaaDoor

theorem bet_core {a b c d : Int} (v1 : valE a b = 0) (v2 : valE c d = 0) (hlt : a * d < c * b) :
    Btw a b c d (btP a b c d).1 (btP a b c d).2 ∧ 1 ≤ (btP a b c d).2 ∧ (btP a b c d).2 ≤ b + d ∧ (btP a b c d).1.natAbs ≤ a.natAbs + c.natAbs ∧ Int.gcd (btP a b c d).1 (btP a b c d).2 = 1 := by
  obtain ⟨b1, b2, -, b4, -⟩ := valE_ok v1
  obtain ⟨d1, d2, -, d4, -⟩ := valE_ok v2
  by_cases ha : 0 ≤ a
  · have e : btP a b c d = simF (b + d).toNat a b c d := by unfold btP; rw [if_neg (by omega)]
    rw [e]
    have ok := simOk_of v1 v2 ha hlt
    obtain ⟨l1, l2⟩ := sim_law (b + d).toNat ok (by omega)
    obtain ⟨k1, k2, k3, k4⟩ := sim_bd (b + d).toNat ok (by omega)
    have := ok.bn0
    exact ⟨l1, k2, k4, by omega, btw_gcd k2 l1 l2⟩
  · by_cases hc : 0 < c
    · have e : btP a b c d = (0, 1) := by unfold btP; rw [if_pos (by omega), if_pos hc]
      rw [e]
      refine ⟨⟨?_, ?_⟩, by decide, by show (1 : Int) ≤ b + d; omega, by show (0 : Int).natAbs ≤ _; simp, by decide⟩
      · show a * 1 < 0 * b
        omega
      · show 0 * d < c * 1
        omega
    · have e : btP a b c d = (-(simF (d + b).toNat (-c) d (-a) b).1, (simF (d + b).toNat (-c) d (-a) b).2) := by unfold btP; rw [if_pos (by omega), if_neg hc]
      rw [e]
      have ok := simOk_of (a := -c) (b := d) (c := -a) (d := b) (by rw [valE_neg]; exact v2) (by rw [valE_neg]; exact v1) (by omega) (by rw [Int.neg_mul, Int.neg_mul]; omega)
      obtain ⟨l1, l2⟩ := sim_law (d + b).toNat ok (by omega)
      obtain ⟨k1, k2, k3, k4⟩ := sim_bd (d + b).toNat ok (by omega)
      have hg := btw_gcd k2 l1 l2
      generalize (simF (d + b).toNat (-c) d (-a) b).1 = n at *
      generalize (simF (d + b).toNat (-c) d (-a) b).2 = D at *
      refine ⟨⟨?_, ?_⟩, k2, by show D ≤ b + d; omega, by show (-n).natAbs ≤ _; omega, by show Int.gcd (-n) D = 1; rw [Int.neg_gcd]; exact hg⟩
      · show a * D < -n * b
        have := l1.2
        rw [Int.neg_mul] at this ⊢; omega
      · show -n * d < c * D
        have := l1.1
        rw [Int.neg_mul] at this ⊢; omega

theorem bet_small {a b c d : Int} (v1 : valE a b = 0) (v2 : valE c d = 0) (hb : b ≤ 32768) (hd : d ≤ 32768) (ha : a.natAbs ≤ 1073741824) (hc : c.natAbs ≤ 1073741824) :
    (a * d < c * b → btE a b c d = 0 ∧ btD a b c d ≤ b + d ∧ valE (btN a b c d) (btD a b c d) = 0 ∧ a * btD a b c d < btN a b c d * b ∧ btN a b c d * d < c * btD a b c d) ∧ (¬ a * d < c * b → btE a b c d = 13) := by
  have w := val2_yes v1 v2
  refine ⟨fun hlt => ?_, fun hlt => ?_⟩
  · obtain ⟨h1, h2, h3, h4, h5⟩ := bet_core v1 v2 hlt
    unfold btE btD btN
    rw [sel_ok w, sel_ok w, sel_ok w, if_neg (by omega), if_neg (by omega), if_neg (by omega)]
    generalize (btP a b c d).1 = N at *
    generalize (btP a b c d).2 = D at *
    have e : newE N D = 0 := fits_all (by omega) (by omega) h2 (by omega)
    have r := rep_new (show D ≠ 0 by omega) e
    have u := r.uniq (⟨h2, h5, rfl⟩ : Rep N D N D) (by omega) (by omega) rfl
    have v := val_of_new e
    rw [u.1, u.2] at v ⊢
    exact ⟨e, h3, v, h1.1, h1.2⟩
  · unfold btE
    rw [sel_ok w, if_pos (by omega)]
end Go.Proofs.YtjcdjmjebbllkaaDoor
