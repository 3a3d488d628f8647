/- The plain law of the simplest ratio between two others: it lies between them, and no ratio between them has a smaller denominator or a smaller numerator. -/
import Derived.Test.YtjcdjmjebbllkaaDoorSim
namespace Go.Proofs.YtjcdjmjebbllkaaDoor

/-- N / D lies between a / b and c / d. -/
def Btw (a b c d N D : Int) : Prop := a * D < N * b ∧ N * d < c * D

theorem sim_law : ∀ (k : Nat) {an ad bn bd : Int}, SimOk an ad bn bd → ad + bd ≤ k →
    Btw an ad bn bd (simF k an ad bn bd).1 (simF k an ad bn bd).2 ∧ ∀ n d : Int, 1 ≤ d → Btw an ad bn bd n d → (simF k an ad bn bd).1 ≤ n ∧ (simF k an ad bn bd).2 ≤ d := by
  intro k
  induction k with
  | zero => intro an ad bn bd h hk; have := h.ad0; have := h.bd0; omega
  | succ k ih =>
    intro an ad bn bd h hk
    obtain ⟨q0, q1, m2, m1, l1, l2, l3, l4, l5, l6⟩ := sim_step h
    by_cases hs : bd = 0 ∨ (an / ad + 1) * bd < bn
    · rw [simF_stop hs]
      obtain ⟨h1, h2, h3, h4, h5, h6, h7, h8, h9⟩ := h
      generalize an / ad = q at *
      refine ⟨⟨?_, ?_⟩, ?_⟩
      · show an * 1 < (q + 1) * ad
        have : (q + 1) * ad = q * ad + ad := by rw [Int.add_mul, Int.one_mul]
        omega
      · show (q + 1) * bd < bn * 1
        rcases hs with hs | hs
        · rw [hs, Int.mul_zero]; omega
        · omega
      · rintro n d hd ⟨b1, b2⟩
        refine ⟨?_, hd⟩
        show q + 1 ≤ n
        have e1 : an ≤ an * d := by
          have := Int.mul_le_mul_of_nonneg_left hd h1
          omega
        have e2 : q * ad < n * ad := by omega
        have := Int.lt_of_mul_lt_mul_right e2 (by omega)
        omega
    · obtain ⟨hn, hlt⟩ := sim_next h hs
      obtain ⟨⟨i1, i2⟩, i3⟩ := ih hn (by omega)
      have e : simF (k + 1) an ad bn bd = (an / ad * (simF k bd (bn - an / ad * bd) ad (an - an / ad * ad)).1 + (simF k bd (bn - an / ad * bd) ad (an - an / ad * ad)).2, (simF k bd (bn - an / ad * bd) ad (an - an / ad * ad)).1) := by
        simp only [simF]; rw [if_neg hs]
      rw [e]
      obtain ⟨h1, h2, h3, h4, h5, h6, h7, h8, h9⟩ := h
      generalize an / ad = q at *
      generalize (simF k bd (bn - q * bd) ad (an - q * ad)).1 = n1 at *
      generalize (simF k bd (bn - q * bd) ad (an - q * ad)).2 = d1 at *
      refine ⟨⟨?_, ?_⟩, ?_⟩
      · show an * n1 < (q * n1 + d1) * ad
        grind
      · show (q * n1 + d1) * bd < bn * n1
        grind
      · rintro n d hd ⟨b1, b2⟩
        show q * n1 + d1 ≤ n ∧ n1 ≤ d
        have k1 : d * (an - q * ad) < ad * (n - q * d) := by grind
        have k2 : bd * (n - q * d) < d * (bn - q * bd) := by grind
        have pe : 1 ≤ n - q * d := by
          have : 0 ≤ d * (an - q * ad) := Int.mul_nonneg (by omega) (by omega)
          rcases Int.lt_or_le 0 (n - q * d) with z | z
          · omega
          · have := Int.mul_nonneg (show 0 ≤ ad by omega) (show 0 ≤ -(n - q * d) by omega)
            rw [Int.mul_neg] at this; omega
        obtain ⟨j1, j2⟩ := i3 d (n - q * d) pe ⟨k2, k1⟩
        refine ⟨?_, j1⟩
        have := Int.mul_le_mul_of_nonneg_left j1 q0
        omega

theorem btw_gcd {a b c d N D : Int} (hD : 1 ≤ D) (h : Btw a b c d N D) (hmin : ∀ n e : Int, 1 ≤ e → Btw a b c d n e → N ≤ n ∧ D ≤ e) : Int.gcd N D = 1 := by
  have hg := gcd_pos_right N D (by omega)
  obtain ⟨p, hp⟩ := Int.gcd_dvd_left N D
  obtain ⟨q, hq⟩ := Int.gcd_dvd_right N D
  have g0 : (0 : Int) < (Int.gcd N D : Int) := by omega
  generalize hG : (Int.gcd N D : Int) = g at *
  have q0 : 1 ≤ q := by
    rcases Int.lt_or_le 0 q with z | z
    · omega
    · have := Int.mul_nonneg (show 0 ≤ g by omega) (show 0 ≤ -q by omega)
      rw [Int.mul_neg] at this; omega
  have hb : Btw a b c d p q := by
    obtain ⟨h1, h2⟩ := h
    refine ⟨?_, ?_⟩
    · refine Int.lt_of_mul_lt_mul_left (a := g) ?_ (by omega)
      have e1 : g * (a * q) = a * D := by rw [hq]; grind
      have e2 : g * (p * b) = N * b := by rw [hp]; grind
      omega
    · refine Int.lt_of_mul_lt_mul_left (a := g) ?_ (by omega)
      have e1 : g * (p * d) = N * d := by rw [hp]; grind
      have e2 : g * (c * q) = c * D := by rw [hq]; grind
      omega
  have := (hmin p q q0 hb).2
  rcases Int.lt_or_le 1 g with z | z
  · have : 2 * q ≤ g * q := Int.mul_le_mul_of_nonneg_right (by omega) (by omega)
    omega
  · omega
end Go.Proofs.YtjcdjmjebbllkaaDoor
