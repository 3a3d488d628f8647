/- What simplest and Between return. -/
import Derived.Test.YtjcdjmjebbllkaaDoorCmp
namespace Go.Proofs.YtjcdjmjebbllkaaDoor
open Go.RowKit
attribute [local go_sem] le_add_one'

/-- The simplest fraction between two, by steps. -/
def simF : Nat → Int → Int → Int → Int → Int × Int
  | 0, _, _, _, _ => (0, 0)
  | k + 1, an, ad, bn, bd =>
    if bd = 0 ∨ (an / ad + 1) * bd < bn then (an / ad + 1, 1)
    else (an / ad * (simF k bd (bn - an / ad * bd) ad (an - an / ad * ad)).1 + (simF k bd (bn - an / ad * bd) ad (an - an / ad * ad)).2, (simF k bd (bn - an / ad * bd) ad (an - an / ad * ad)).1)
theorem simF_stop {k : Nat} {an ad bn bd : Int} (h : bd = 0 ∨ (an / ad + 1) * bd < bn) : simF (k + 1) an ad bn bd = (an / ad + 1, 1) := by
  simp only [simF]; rw [if_pos h]
theorem simF_go {k : Nat} {an ad bn bd : Int} (h : ¬ (bd = 0 ∨ (an / ad + 1) * bd < bn)) : simF (k + 1) an ad bn bd =
    (an / ad * (simF k bd (bn - an / ad * bd) ad (an - an / ad * ad)).1 + (simF k bd (bn - an / ad * bd) ad (an - an / ad * ad)).2, (simF k bd (bn - an / ad * bd) ad (an - an / ad * ad)).1) := by
  simp only [simF]; rw [if_neg h]

/-- What holds of the arguments at each step. -/
structure SimOk (an ad bn bd : Int) : Prop where
  an0 : 0 ≤ an
  an1 : an ≤ 1099511627776
  ad0 : 1 ≤ ad
  ad1 : ad ≤ 1048576
  bn0 : 1 ≤ bn
  bn1 : bn ≤ 1099511627776
  bd0 : 0 ≤ bd
  bd1 : bd ≤ 1048576
  lt : an * bd < bn * ad

/-- The facts of one step. -/
theorem sim_step {an ad bn bd : Int} (h : SimOk an ad bn bd) : 0 ≤ an / ad ∧ an / ad ≤ an ∧ 0 ≤ an / ad * bd ∧ an / ad * bd ≤ 1152921504606846976 ∧ an / ad * bd < bn ∧ an / ad * ad ≤ an ∧ an - an / ad * ad < ad ∧ 0 ≤ (an / ad + 1) * bd ∧ (an / ad + 1) * bd ≤ 1152921504606846976 + 1048576 ∧ (an / ad + 1) * bd = an / ad * bd + bd := by
  obtain ⟨h1, h2, h3, h4, h5, h6, h7, h8, h9⟩ := h
  have q0 : 0 ≤ an / ad := Int.ediv_nonneg h1 (by omega)
  have q1 : an / ad ≤ an := Int.ediv_le_self _ h1
  have e1 := Int.mul_ediv_add_emod an ad
  have e2 := Int.emod_lt_of_pos an (by omega : 0 < ad)
  have e3 := Int.emod_nonneg an (by omega : ad ≠ 0)
  have e4 : ad * (an / ad) = an / ad * ad := Int.mul_comm _ _
  have m1 := mul_bd (x := an / ad) (y := bd) (by omega) (by omega) h7 h8
  have m2 : 0 ≤ an / ad * bd := Int.mul_nonneg q0 h7
  have m3 : (an / ad + 1) * bd = an / ad * bd + bd := by rw [Int.add_mul, Int.one_mul]
  have l1 : an / ad * bd < bn := by
    have k1 : an / ad * ad * bd ≤ an * bd := Int.mul_le_mul_of_nonneg_right (by omega) h7
    have k2 : an / ad * bd * ad < bn * ad := by
      rw [Int.mul_right_comm]; omega
    exact Int.lt_of_mul_lt_mul_right k2 (by omega)
  refine ⟨q0, q1, m2, m1.2, l1, by omega, by omega, by omega, by omega, m3⟩

theorem sim_next {an ad bn bd : Int} (h : SimOk an ad bn bd) (hs : ¬ (bd = 0 ∨ (an / ad + 1) * bd < bn)) : SimOk bd (bn - an / ad * bd) ad (an - an / ad * ad) ∧ (bn - an / ad * bd) + (an - an / ad * ad) < ad + bd := by
  obtain ⟨q0, q1, m2, m1, l1, l2, l3, l4, l5, l6⟩ := sim_step h
  obtain ⟨h1, h2, h3, h4, h5, h6, h7, h8, h9⟩ := h
  simp only [not_or] at hs
  refine ⟨⟨h7, by omega, by omega, by omega, h3, by omega, by omega, by omega, ?_⟩, by omega⟩
  have e1 : bd * (an - an / ad * ad) = an * bd - an / ad * ad * bd := by rw [Int.mul_comm, Int.sub_mul]
  have e2 : ad * (bn - an / ad * bd) = bn * ad - an / ad * ad * bd := by rw [Int.mul_comm, Int.sub_mul, Int.mul_right_comm]
  omega

theorem sim_bd : ∀ (k : Nat) {an ad bn bd : Int}, SimOk an ad bn bd → ad + bd ≤ k → 1 ≤ (simF k an ad bn bd).1 ∧ 1 ≤ (simF k an ad bn bd).2 ∧ (simF k an ad bn bd).1 ≤ an + bn ∧ (simF k an ad bn bd).2 ≤ ad + bd := by
  intro k
  induction k with
  | zero => intro an ad bn bd h hk; have := h.ad0; have := h.bd0; omega
  | succ k ih =>
    intro an ad bn bd h hk
    obtain ⟨q0, q1, m2, m1, l1, l2, l3, l4, l5, l6⟩ := sim_step h
    by_cases hs : bd = 0 ∨ (an / ad + 1) * bd < bn
    · rw [simF_stop hs]
      have := h.bn0; have := h.ad0; have := h.bd0
      refine ⟨?_, ?_, ?_, ?_⟩ <;> simp only <;> omega
    · obtain ⟨h', hlt⟩ := sim_next h hs
      obtain ⟨i1, i2, i3, i4⟩ := ih h' (by omega)
      rw [simF_go hs]
      simp only
      generalize (simF k bd (bn - an / ad * bd) ad (an - an / ad * ad)).1 = n at *
      generalize (simF k bd (bn - an / ad * bd) ad (an - an / ad * ad)).2 = d at *
      have e1 : 0 ≤ an / ad * n := Int.mul_nonneg q0 (by omega)
      have e2 : an / ad * n ≤ an / ad * (bd + ad) := Int.mul_le_mul_of_nonneg_left i3 q0
      rw [Int.mul_add] at e2
      refine ⟨by omega, by omega, by omega, by omega⟩

set_option maxHeartbeats 400000 in
theorem simplest_any : ∀ (k : Nat) (an ad bn bd : Int) (w : World), SimOk an ad bn bd → ad + bd ≤ k →
    Calls Tryd.prog 46 #[.int .i64 an, .int .i64 ad, .int .i64 bn, .int .i64 bd] w fun e w' => e = .returned (.tuple #[.int .i64 (simF k an ad bn bd).1, .int .i64 (simF k an ad bn bd).2]) ∧ w = w' := by
  intro k
  induction k with
  | zero => intro an ad bn bd w h hk; have := h.ad0; have := h.bd0; omega
  | succ k ih =>
    intro an ad bn bd w h hk
    have IH := Lib.hid ih
    clear ih
    obtain ⟨q0, q1, m2, m1, l1, l2, l3, l4, l5, l6⟩ := sim_step h
    have HH := Lib.hid h
    obtain ⟨h1, h2, h3, h4, h5, h6, h7, h8, _⟩ := h
    by_cases hs : bd = 0 ∨ (an / ad + 1) * bd < bn
    · rw [simF_stop hs]
      by_cases hz : bd = 0
      · subst hz
        clear hs l6
        go_enter Tryd.func46, Tryd.ntmps46
        go_wp2
        go_ret2
        exact ⟨rfl, rfl⟩
      · have hz' : (bd == 0) = false := by simp [hz]
        have hs' : (an / ad + 1) * bd < bn := by omega
        clear hs l6
        go_enter Tryd.func46, Tryd.ntmps46
        go_wp2
        go_ret2
        exact ⟨rfl, rfl⟩
    · obtain ⟨h', hlt⟩ := sim_next HH.out hs
      have hb := sim_bd k h' (by omega)
      have C := Lib.hid (fun w => IH.out _ _ _ _ w h' (by omega))
      rw [simF_go hs]
      simp only
      generalize (simF k bd (bn - an / ad * bd) ad (an - an / ad * ad)).1 = n at *
      generalize (simF k bd (bn - an / ad * bd) ad (an - an / ad * ad)).2 = d at *
      obtain ⟨i1, i2, i3, i4⟩ := hb
      have e1 : 0 ≤ an / ad * n := Int.mul_nonneg q0 (by omega)
      have e2 : an / ad * n ≤ an / ad * (bd + ad) := Int.mul_le_mul_of_nonneg_left i3 q0
      rw [Int.mul_add] at e2
      have hz' : (bd == 0) = false := by simp; omega
      have hs' : ¬ (an / ad + 1) * bd < bn := by omega
      clear hs l6 h' hlt
      go_enter Tryd.func46, Tryd.ntmps46
      go_wp2_with (go_at_call 46; refine (C.out _).mono ?_; rintro e w' ⟨rfl, rfl⟩)
      go_ret2
      exact ⟨rfl, rfl⟩
end Go.Proofs.YtjcdjmjebbllkaaDoor
