/- What the generator of ratios returns. -/
import Derived.Test.YtjcdjmjebbllkaaDoorOf
namespace Go.Proofs.YtjcdjmjebbllkaaDoor
open Go.RowKit
attribute [local go_sem] le_add_one'

/-- The numbers from which the generator makes a ratio. -/
def genA (n m : Int) : Int := if arN m 1048576 % 4 = 3 then arN n (2 * 1099511627776 + 1) - 1099511627776 else arN n (2 * 30 + 1) - 30
def genB (_n m : Int) : Int := if arN m 1048576 % 4 = 3 then
    (if arN m 1048576 / 4 % 6 = 0 then 1 else if arN m 1048576 / 4 % 6 = 1 then 2 else if arN m 1048576 / 4 % 6 = 2 then 1048576 else if arN m 1048576 / 4 % 6 = 3 then 1048575 else if arN m 1048576 / 4 % 6 = 4 then 32768 else 7)
  else 1 + arN m 1048576 / 4 % 12
/-- The ratio itself. -/
def genN (n m : Int) : Int := newN (genA n m) (genB n m)
def genD (n m : Int) : Int := newD (genA n m) (genB n m)
theorem fits_all {a b : Int} (h0 : -1099511627776 ≤ a) (h1 : a ≤ 1099511627776) (h2 : 1 ≤ b) (h3 : b ≤ 1048576) : newE a b = 0 := by
  have k1 := Nat.div_le_self a.natAbs (Int.gcd a b)
  have k2 := Nat.div_le_self b.natAbs (Int.gcd a b)
  unfold newE
  rw [if_neg (by omega), if_neg]
  generalize a.natAbs / Int.gcd a b = x at *
  generalize b.natAbs / Int.gcd a b = y at *
  omega
theorem genA_bd (n m : Int) : -1099511627776 ≤ genA n m ∧ genA n m ≤ 1099511627776 := by
  have a1 := arN_nonneg n (2 * 1099511627776 + 1) (by decide)
  have a2 := arN_lt n (2 * 1099511627776 + 1) (by decide)
  have a3 := arN_nonneg n (2 * 30 + 1) (by decide)
  have a4 := arN_lt n (2 * 30 + 1) (by decide)
  unfold genA
  split <;> omega
theorem genB_bd (n m : Int) : 1 ≤ genB n m ∧ genB n m ≤ 1048576 := by
  unfold genB
  split
  · split
    · omega
    · split
      · omega
      · split
        · omega
        · split
          · omega
          · split <;> omega
  · omega
theorem gen_fits (n m : Int) : newE (genA n m) (genB n m) = 0 := fits_all (genA_bd n m).1 (genA_bd n m).2 (genB_bd n m).1 (genB_bd n m).2
theorem gen_val (n m : Int) : valE (genN n m) (genD n m) = 0 := val_of_new (gen_fits n m)

set_option maxHeartbeats 1000000 in
theorem gen_any (n m : Int) (w : World) (hn0 : -9223372036854775808 ≤ n) (hn : n ≤ 9223372036854775807) (hm0 : -9223372036854775808 ≤ m) (hm : m ≤ 9223372036854775807) :
    Calls Tryd.prog 14 #[.int .i64 n, .int .i64 m] w fun e w' => e = .returned (rat (genN n m) (genD n m)) ∧ Below w.heap.size w w' := by
  have A1 := Lib.hid (fun w => around_any m 1048576 w hm0 hm (by decide) (by decide))
  have B1 := Lib.hid (fun w => bound_any n 30 w hn0 hn (by decide) (by decide))
  have B2 := Lib.hid (fun w => bound_any n 1099511627776 w hn0 hn (by decide) (by decide))
  have k1 := arN_nonneg m 1048576 (by decide)
  have k2 := arN_lt m 1048576 (by decide)
  have a1 := arN_nonneg n (2 * 1099511627776 + 1) (by decide)
  have a2 := arN_lt n (2 * 1099511627776 + 1) (by decide)
  have a3 := arN_nonneg n (2 * 30 + 1) (by decide)
  have a4 := arN_lt n (2 * 30 + 1) (by decide)
  have hA : genA n m = if arN m 1048576 % 4 = 3 then arN n (2 * 1099511627776 + 1) - 1099511627776 else arN n (2 * 30 + 1) - 30 := rfl
  have hB : genB n m = if arN m 1048576 % 4 = 3 then
    (if arN m 1048576 / 4 % 6 = 0 then 1 else if arN m 1048576 / 4 % 6 = 1 then 2 else if arN m 1048576 / 4 % 6 = 2 then 1048576 else if arN m 1048576 / 4 % 6 = 3 then 1048575 else if arN m 1048576 / 4 % 6 = 4 then 32768 else 7)
    else 1 + arN m 1048576 / 4 % 12 := rfl
  have O := Lib.hid (fun w => of_any (genA n m) (genB n m) w (by have := (genA_bd n m).1; omega) (by have := (genA_bd n m).2; omega) (by have := (genB_bd n m).1; omega) (by have := (genB_bd n m).2; omega) (by have := (genB_bd n m).1; omega))
  rw [gen_fits] at O
  unfold genN genD
  generalize newN (genA n m) (genB n m) = N at *
  generalize newD (genA n m) (genB n m) = D at *
  generalize genA n m = A at *
  generalize genB n m = B at *
  generalize arN m 1048576 = K at *
  generalize arN n (2 * 1099511627776 + 1) = X at *
  generalize arN n (2 * 30 + 1) = Y at *
  by_cases h3 : K % 4 = 3
  · rw [if_pos h3] at hA hB
    have e3 : (K % 4 == 3) = true := by simp [h3]
    clear h3
    have c6 : K / 4 % 6 = 0 ∨ K / 4 % 6 = 1 ∨ K / 4 % 6 = 2 ∨ K / 4 % 6 = 3 ∨ K / 4 % 6 = 4 ∨ K / 4 % 6 = 5 := by omega
    rcases c6 with h | h | h | h | h | h <;> rw [h] at hB <;> simp only [if_true, if_false, Int.reduceEq] at hB <;> subst hA <;> subst hB
    all_goals
      go_enter Tryd.func14, Tryd.ntmps14
      go_wp2_with fail
      refine (A1.out _).mono ?_
      rintro e w' ⟨rfl, rfl⟩
      go_wp2_with fail
      refine (B1.out _).mono ?_
      rintro e w' ⟨rfl, rfl⟩
      go_wp2_with fail
      refine (B2.out _).mono ?_
      rintro e w' ⟨rfl, rfl⟩
      go_wp2_with fail
      refine (O.out _).mono ?_
      rintro e w1 ⟨rfl, hb1⟩
      obtain ⟨hc1, hf1, hz1⟩ := bcell hb1; (try simp at hz1); (try have hw1_0 : w.heap.size < w1.heap.size := by omega); (try have hw1_1 : w.heap.size + 1 < w1.heap.size := by omega); (try have hw1_2 : w.heap.size + 1 + 1 < w1.heap.size := by omega); (try have hw1_3 : w.heap.size + 1 + 1 + 1 < w1.heap.size := by omega); (try have hw1_4 : w.heap.size + 1 + 1 + 1 + 1 < w1.heap.size := by omega); (try have hw1_5 : w.heap.size + 1 + 1 + 1 + 1 + 1 < w1.heap.size := by omega)
      go_wp2
      exact bodyPost_ret (v := rat N D) (by simp (maxDischargeDepth := 8) [*, results, Tryd.results14, go_sem]) rfl ⟨rfl, (by repeat (first | exact Below.refl _ _ | assumption | refine Below.setCell ?_ (by (first | omega | (simp <;> omega))) _ | refine below_drewN ?_ _ | refine Below.drew ?_ | refine Below.alloc ?_ (by (first | omega | (simp <;> omega))) _ | (refine after (h1 := by assumption) ?_ ?_; rotate_left; (first | omega | (simp <;> omega)))))⟩
  · rw [if_neg h3] at hA hB
    have e3 : (K % 4 == 3) = false := by simp [h3]
    clear h3
    subst hA hB
    go_enter Tryd.func14, Tryd.ntmps14
    go_wp2_with fail
    refine (A1.out _).mono ?_
    rintro e w' ⟨rfl, rfl⟩
    go_wp2_with fail
    refine (B1.out _).mono ?_
    rintro e w' ⟨rfl, rfl⟩
    go_wp2_with fail
    refine (O.out _).mono ?_
    rintro e w1 ⟨rfl, hb1⟩
    obtain ⟨hc1, hf1, hz1⟩ := bcell hb1; (try simp at hz1); (try have hw1_0 : w.heap.size < w1.heap.size := by omega); (try have hw1_1 : w.heap.size + 1 < w1.heap.size := by omega); (try have hw1_2 : w.heap.size + 1 + 1 < w1.heap.size := by omega); (try have hw1_3 : w.heap.size + 1 + 1 + 1 < w1.heap.size := by omega); (try have hw1_4 : w.heap.size + 1 + 1 + 1 + 1 < w1.heap.size := by omega); (try have hw1_5 : w.heap.size + 1 + 1 + 1 + 1 + 1 < w1.heap.size := by omega)
    go_wp2
    exact bodyPost_ret (v := rat N D) (by simp (maxDischargeDepth := 8) [*, results, Tryd.results14, go_sem]) rfl ⟨rfl, (by repeat (first | exact Below.refl _ _ | assumption | refine Below.setCell ?_ (by (first | omega | (simp <;> omega))) _ | refine below_drewN ?_ _ | refine Below.drew ?_ | refine Below.alloc ?_ (by (first | omega | (simp <;> omega))) _ | (refine after (h1 := by assumption) ?_ ?_; rotate_left; (first | omega | (simp <;> omega)))))⟩
end Go.Proofs.YtjcdjmjebbllkaaDoor
