/- What the reference's Between returns. -/
import Derived.Test.YtjcdjmjebbllkaaDoorBetM
import Derived.Test.YtjcdjmjebbllkaaDoorBoxes
import Derived.Deep.DrawnRows
import Derived.Deep.DeepCutAuto
namespace Go.Proofs.YtjcdjmjebbllkaaDoor
open Go.RowKit
attribute [local go_sem] le_add_one'
attribute [local go_sem ↓] Go.wp_at_zero Go.wp_at_succ

/-- The numbers of one round of the search, and what its test says. -/
theorem round_law {a b c d e T : Int} (ha : 0 ≤ a) (ha' : a ≤ 1099511627776) (hb : 1 ≤ b) (hb' : b ≤ 1048576) (hc : 0 ≤ c) (hc' : c ≤ 1099511627776) (hd : 1 ≤ d) (hd' : d ≤ 1048576) (he : 1 ≤ e) (he' : e ≤ 1048576) (hT : tryN a b e = T) :
    ∃ A1 A2 A3 A4 A5 B1 B2 B3 B4 B5 B6 : Int,
      (a.tdiv b = A1 ∧ a / b = A1 ∧ A1 * e = A2 ∧ a.tmod b = A3 ∧ a % b = A3 ∧ A3 * e = A4 ∧ A4.tdiv b = A5 ∧ A4 / b = A5 ∧ A2 + A5 + 1 = T) ∧
      (T.tdiv e = B1 ∧ T / e = B1 ∧ c.tdiv d = B2 ∧ c / d = B2 ∧ T.tmod e = B3 ∧ T % e = B3 ∧ B3 * d = B4 ∧ c.tmod d = B5 ∧ c % d = B5 ∧ B5 * e = B6) ∧
      ((0 ≤ A1 ∧ A1 ≤ 1099511627776) ∧ (0 ≤ A2 ∧ A2 ≤ 1152921504606846976) ∧ (0 ≤ A3 ∧ A3 ≤ 1048576) ∧ (0 ≤ A4 ∧ A4 ≤ 1099511627776) ∧ (0 ≤ A5 ∧ A5 ≤ 1099511627776) ∧ (1 ≤ T ∧ T ≤ 1152922604118474753) ∧
       (0 ≤ B1 ∧ B1 ≤ 1152922604118474753) ∧ (0 ≤ B2 ∧ B2 ≤ 1099511627776) ∧ (0 ≤ B3 ∧ B3 ≤ 1048576) ∧ (0 ≤ B4 ∧ B4 ≤ 1099511627776) ∧ (0 ≤ B5 ∧ B5 ≤ 1048576) ∧ (0 ≤ B6 ∧ B6 ≤ 1099511627776)) ∧
      ((B1 < B2 ∨ B1 = B2 ∧ B4 < B6) ↔ T * d < c * e) := by
  have p1 : 0 ≤ a / b := Int.ediv_nonneg ha (by omega)
  have p2 : a / b ≤ a := Int.ediv_le_self _ ha
  have p3 := Int.emod_nonneg a (show b ≠ 0 by omega)
  have p4 := Int.emod_lt_of_pos a (show 0 < b by omega)
  have p5 := mul_bd (x := a / b) (y := e) (by omega) (by omega) (by omega) he'
  have p6 : 0 ≤ a / b * e := Int.mul_nonneg p1 (by omega)
  have p7 : 0 ≤ a % b * e := Int.mul_nonneg p3 (by omega)
  have p8 : a % b * e ≤ 1048576 * 1048576 := Int.mul_le_mul (by omega) he' (by omega) (by omega)
  have p9 : 0 ≤ a % b * e / b := Int.ediv_nonneg p7 (by omega)
  have p10 : a % b * e / b ≤ a % b * e := Int.ediv_le_self _ p7
  have hT' : a / b * e + a % b * e / b + 1 = T := hT
  have t0 : 0 ≤ T := by omega
  have s1 : 0 ≤ T / e := Int.ediv_nonneg t0 (by omega)
  have s2 : T / e ≤ T := Int.ediv_le_self _ t0
  have s3 : 0 ≤ c / d := Int.ediv_nonneg hc (by omega)
  have s4 : c / d ≤ c := Int.ediv_le_self _ hc
  have s5 := Int.emod_nonneg T (show e ≠ 0 by omega)
  have s6 := Int.emod_lt_of_pos T (show 0 < e by omega)
  have s7 := Int.emod_nonneg c (show d ≠ 0 by omega)
  have s8 := Int.emod_lt_of_pos c (show 0 < d by omega)
  have s9 : 0 ≤ T % e * d := Int.mul_nonneg s5 (by omega)
  have s10 : T % e * d ≤ 1048576 * 1048576 := Int.mul_le_mul (by omega) hd' (by omega) (by omega)
  have s11 : 0 ≤ c % d * e := Int.mul_nonneg s7 (by omega)
  have s12 : c % d * e ≤ 1048576 * 1048576 := Int.mul_le_mul (by omega) he' (by omega) (by omega)
  refine ⟨a / b, _, a % b, _, _, T / e, c / d, T % e, _, c % d, _, ⟨Int.tdiv_eq_ediv_of_nonneg ha, rfl, rfl, Int.tmod_eq_emod_of_nonneg ha, rfl, rfl, Int.tdiv_eq_ediv_of_nonneg p7, rfl, hT'⟩, ⟨Int.tdiv_eq_ediv_of_nonneg t0, rfl, Int.tdiv_eq_ediv_of_nonneg hc, rfl, Int.tmod_eq_emod_of_nonneg t0, rfl, rfl, Int.tmod_eq_emod_of_nonneg hc, rfl, rfl⟩, by omega, cond_iff he hd⟩
end Go.Proofs.YtjcdjmjebbllkaaDoor
