/- What the reference's New returns. -/
import Derived.Test.YtjcdjmjebbllkaaDoorOf
namespace Go.Proofs.YtjcdjmjebbllkaaDoor
open Go.RowKit

theorem new_half (a b : Int) : newE (2 * a) (2 * b) = newE a b ∧ newN (2 * a) (2 * b) = newN a b ∧ newD (2 * a) (2 * b) = newD a b := by
  have hg : Int.gcd (2 * a) (2 * b) = 2 * Int.gcd a b := by rw [Int.gcd_mul_left]; rfl
  have h1 : (2 * a).natAbs / (2 * Int.gcd a b) = a.natAbs / Int.gcd a b := by
    rw [Int.natAbs_mul]; exact Nat.mul_div_mul_left _ _ (by decide)
  have h2 : (2 * b).natAbs / (2 * Int.gcd a b) = b.natAbs / Int.gcd a b := by
    rw [Int.natAbs_mul]; exact Nat.mul_div_mul_left _ _ (by decide)
  have he : newE (2 * a) (2 * b) = newE a b := by
    unfold newE
    rw [hg, h1, h2]
    by_cases hb : b = 0
    · subst hb; rfl
    · rw [if_neg hb, if_neg (by omega)]
  refine ⟨he, ?_, ?_⟩
  · unfold newN
    rw [he, hg, h1]
    have e1 : (2 * a < 0) = (a < 0) := propext (by omega)
    have e2 : (2 * b < 0) = (b < 0) := propext (by omega)
    simp only [e1, e2]
  · unfold newD
    rw [he, hg, h2]
theorem new_huge (a b : Int) (hb : b ≠ 0) (h : ¬ (a % 2 = 0 ∧ b % 2 = 0)) (h2 : a = -9223372036854775808 ∨ b = -9223372036854775808) : newE a b = 5 ∧ newN a b = 0 ∧ newD a b = 0 := by
  have hp : ∀ g k : Nat, g ∣ 2 ^ k → g % 2 = 1 → g = 1 := fun g k hd ho => by
    have hc : Nat.Coprime g (2 ^ k) := Nat.Coprime.pow_right k (by
      rw [Nat.coprime_comm]
      unfold Nat.Coprime
      rw [Nat.gcd_rec, ho]; rfl)
    exact Nat.Coprime.eq_one_of_dvd hc hd
  have hg : Int.gcd a b = 1 := by
    have d1 : Int.gcd a b ∣ a.natAbs := Nat.gcd_dvd_left _ _
    have d2 : Int.gcd a b ∣ b.natAbs := Nat.gcd_dvd_right _ _
    rcases h2 with rfl | rfl
    · refine hp _ 63 (by simpa using d1) ?_
      have : b.natAbs % 2 = 1 := by omega
      obtain ⟨k, hk⟩ := d2
      rw [hk, Nat.mul_mod] at this
      rcases Nat.mod_two_eq_zero_or_one (Int.gcd (-9223372036854775808) b) with h | h
      · rw [h] at this; simp at this
      · exact h
    · refine hp _ 63 (by simpa using d2) ?_
      have : a.natAbs % 2 = 1 := by omega
      obtain ⟨k, hk⟩ := d1
      rw [hk, Nat.mul_mod] at this
      rcases Nat.mod_two_eq_zero_or_one (Int.gcd a (-9223372036854775808)) with h | h
      · rw [h] at this; simp at this
      · exact h
  have he : newE a b = 5 := by
    unfold newE
    rw [if_neg hb, hg, Nat.div_one, Nat.div_one, if_pos (by omega)]
  exact ⟨he, by unfold newN; rw [he]; rfl, by unfold newD; rw [he]; rfl⟩
theorem even_t (x : Int) (h : x % 2 = 0) : (x.tmod 2 == 0) = true := by
  rw [Int.tmod_eq_zero_of_dvd (Int.dvd_of_emod_eq_zero h)]; rfl
theorem odd_t (x : Int) (h : ¬ x % 2 = 0) : (x.tmod 2 == 0) = false := by
  rw [beq_eq_false_iff_ne]
  exact fun h' => h (Int.emod_eq_zero_of_dvd (Int.dvd_of_tmod_eq_zero h'))

set_option maxHeartbeats 400000 in
theorem refnew_any (a b : Int) (w : World) (ha0 : -9223372036854775808 ≤ a) (ha : a ≤ 9223372036854775807) (hb0 : -9223372036854775808 ≤ b) (hb : b ≤ 9223372036854775807) :
    Calls Tryd.prog 27 #[.int .i64 a, .int .i64 b] w fun e w' => e = .returned (.tuple #[rat (newN a b) (newD a b), .int .i64 (newE a b)]) ∧ Below w.heap.size w w' := by
  by_cases h0 : b = 0
  · have e1 : newE a b = 1 := by unfold newE; rw [if_pos h0]
    have e2 : newN a b = 0 := by unfold newN; rw [e1]; rfl
    have e3 : newD a b = 0 := by unfold newD; rw [e1]; rfl
    rw [e1, e2, e3]
    subst h0
    clear e1 e2 e3
    go_enter Tryd.func27, Tryd.ntmps27
    go_wp2
    exact bodyPost_ret (v := .tuple #[rat 0 0, .int .i64 1]) (by simp [*, results, Tryd.results27, go_sem]) rfl ⟨rfl, (by repeat (first | exact Below.refl _ _ | assumption | refine Below.setCell ?_ (by (first | omega | (simp <;> omega))) _ | refine below_drewN ?_ _ | refine Below.drew ?_ | refine Below.alloc ?_ (by (first | omega | (simp <;> omega))) _ | (refine after (h1 := by assumption) ?_ ?_; rotate_left; (first | omega | (simp <;> omega)))))⟩
  · have hb1 : (b == 0) = false := by simp [h0]
    generalize hE : newE a b = E
    generalize hN : newN a b = N
    generalize hD : newD a b = D
    have HE := Lib.hid hE
    have HN := Lib.hid hN
    have HD := Lib.hid hD
    clear hE hN hD
    go_enter Tryd.func27, Tryd.ntmps27
    go_wp2
    go_loop [0, 1] (fun u v => ∃ x y : Int, (-9223372036854775808 ≤ x ∧ x ≤ 9223372036854775807) ∧ (-9223372036854775808 ≤ y ∧ y ≤ 9223372036854775807) ∧ ¬ y = 0 ∧ u = .int .i64 x ∧ v = .int .i64 y ∧ Hid (newE x y = E) ∧ Hid (newN x y = N) ∧ Hid (newD x y = D)) (fun _ v => (intOf v).natAbs)
    case atStart => exact ⟨a, b, ⟨ha0, ha⟩, ⟨hb0, hb⟩, h0, rfl, rfl, HE, HN, HD⟩
    case round =>
      clear HE HN HD
      obtain ⟨x, y, ⟨hx0, hx⟩, ⟨hy0, hy⟩, hy1, rfl, rfl, HE, HN, HD⟩ := hrel
      by_cases hev : x % 2 = 0 ∧ y % 2 = 0
      · obtain ⟨ex, ey⟩ := hev
        have dx : 2 * x.tdiv 2 = x := Int.mul_tdiv_cancel' (by omega)
        have dy : 2 * y.tdiv 2 = y := Int.mul_tdiv_cancel' (by omega)
        have tx : (x.tmod 2 == 0) = true := even_t x ex
        have ty : (y.tmod 2 == 0) = true := even_t y ey
        obtain ⟨f1, f2, f3⟩ := new_half (x.tdiv 2) (y.tdiv 2)
        rw [dx, dy] at f1 f2 f3
        have F1 : Hid (newE (x.tdiv 2) (y.tdiv 2) = E) := f1.symm.trans HE.out
        have F2 : Hid (newN (x.tdiv 2) (y.tdiv 2) = N) := f2.symm.trans HN.out
        have F3 : Hid (newD (x.tdiv 2) (y.tdiv 2) = D) := f3.symm.trans HD.out
        have DX := Lib.hid dx
        have DY := Lib.hid dy
        clear f1 f2 f3 dx dy ex ey
        go_wp2
        go_round
        case rel =>
          have := DX.out
          have := DY.out
          exact ⟨x.tdiv 2, y.tdiv 2, by omega, by omega, by omega, rfl, rfl, F1, F2, F3⟩
        case measure =>
          have := DY.out
          show (y.tdiv 2).natAbs < y.natAbs
          generalize y.tdiv 2 = z at *
          omega
      · have HEV := Lib.hid hev
        by_cases hb : x = -9223372036854775808 ∨ y = -9223372036854775808
        · obtain ⟨g1, g2, g3⟩ := new_huge x y hy1 hev hb
          obtain rfl : (5 : Int) = E := g1.symm.trans HE.out
          obtain rfl : (0 : Int) = N := g2.symm.trans HN.out
          obtain rfl : (0 : Int) = D := g3.symm.trans HD.out
          clear g1 g2 g3 HE HN HD
          by_cases hx2 : x % 2 = 0
          · have t1 := even_t x hx2
            have t2 := odd_t y (fun h => hev ⟨hx2, h⟩)
            clear hev HEV hx2
            by_cases hy3 : y = -9223372036854775808
            · exfalso; subst hy3; revert t2; decide
            · obtain rfl : x = -9223372036854775808 := by omega
              clear hb
              have hy4 : (y == -9223372036854775808) = false := by simp [hy3]
              go_wp2
              exact bodyPost_ret (v := .tuple #[rat 0 0, .int .i64 5]) (by simp [*, results, Tryd.results27, go_sem]) rfl ⟨rfl, (by repeat (first | exact Below.refl _ _ | assumption | refine Below.setCell ?_ (by (first | omega | (simp <;> omega))) _ | refine below_drewN ?_ _ | refine Below.drew ?_ | refine Below.alloc ?_ (by (first | omega | (simp <;> omega))) _ | (refine after (h1 := by assumption) ?_ ?_; rotate_left; (first | omega | (simp <;> omega)))))⟩
          · have t1 := odd_t x hx2
            obtain rfl : y = -9223372036854775808 := by omega
            clear hev HEV hx2 hb
            go_wp2
            exact bodyPost_ret (v := .tuple #[rat 0 0, .int .i64 5]) (by simp [*, results, Tryd.results27, go_sem]) rfl ⟨rfl, (by repeat (first | exact Below.refl _ _ | assumption | refine Below.setCell ?_ (by (first | omega | (simp <;> omega))) _ | refine below_drewN ?_ _ | refine Below.drew ?_ | refine Below.alloc ?_ (by (first | omega | (simp <;> omega))) _ | (refine after (h1 := by assumption) ?_ ?_; rotate_left; (first | omega | (simp <;> omega)))))⟩
        · have hx3 : (x == -9223372036854775808) = false := by simp; omega
          have hy3 : (y == -9223372036854775808) = false := by simp; omega
          by_cases hx2 : x % 2 = 0
          · have t1 := even_t x hx2
            have t2 := odd_t y (fun h => hev ⟨hx2, h⟩)
            clear hev HEV hx2
            go_wp2_with (go_at_call 43; refine (of_any x y _ (by omega) (by omega) (by omega) (by omega) hy1).mono ?_; rintro e w1 ⟨rfl, hb1⟩; obtain ⟨hc1, hf1, hz1⟩ := bcell hb1; (try simp at hz1); (try have hw1_0 : w.heap.size < w1.heap.size := by omega); (try have hw1_1 : w.heap.size + 1 < w1.heap.size := by omega); (try have hw1_2 : w.heap.size + 1 + 1 < w1.heap.size := by omega); (try have hw1_3 : w.heap.size + 1 + 1 + 1 < w1.heap.size := by omega); (try have hw1_4 : w.heap.size + 1 + 1 + 1 + 1 < w1.heap.size := by omega); (try have hw1_5 : w.heap.size + 1 + 1 + 1 + 1 + 1 < w1.heap.size := by omega))
            rw [← HE.out, ← HN.out, ← HD.out]
            exact bodyPost_ret (v := .tuple #[rat (newN x y) (newD x y), .int .i64 (newE x y)]) (by simp [*, results, Tryd.results27, go_sem]) rfl ⟨rfl, (by repeat (first | exact Below.refl _ _ | assumption | refine Below.setCell ?_ (by (first | omega | (simp <;> omega))) _ | refine below_drewN ?_ _ | refine Below.drew ?_ | refine Below.alloc ?_ (by (first | omega | (simp <;> omega))) _ | (refine after (h1 := by assumption) ?_ ?_; rotate_left; (first | omega | (simp <;> omega)))))⟩
          · have t1 := odd_t x hx2
            clear hev HEV hx2
            go_wp2_with (go_at_call 43; refine (of_any x y _ (by omega) (by omega) (by omega) (by omega) hy1).mono ?_; rintro e w1 ⟨rfl, hb1⟩; obtain ⟨hc1, hf1, hz1⟩ := bcell hb1; (try simp at hz1); (try have hw1_0 : w.heap.size < w1.heap.size := by omega); (try have hw1_1 : w.heap.size + 1 < w1.heap.size := by omega); (try have hw1_2 : w.heap.size + 1 + 1 < w1.heap.size := by omega); (try have hw1_3 : w.heap.size + 1 + 1 + 1 < w1.heap.size := by omega); (try have hw1_4 : w.heap.size + 1 + 1 + 1 + 1 < w1.heap.size := by omega); (try have hw1_5 : w.heap.size + 1 + 1 + 1 + 1 + 1 < w1.heap.size := by omega))
            rw [← HE.out, ← HN.out, ← HD.out]
            exact bodyPost_ret (v := .tuple #[rat (newN x y) (newD x y), .int .i64 (newE x y)]) (by simp [*, results, Tryd.results27, go_sem]) rfl ⟨rfl, (by repeat (first | exact Below.refl _ _ | assumption | refine Below.setCell ?_ (by (first | omega | (simp <;> omega))) _ | refine below_drewN ?_ _ | refine Below.drew ?_ | refine Below.alloc ?_ (by (first | omega | (simp <;> omega))) _ | (refine after (h1 := by assumption) ?_ ?_; rotate_left; (first | omega | (simp <;> omega)))))⟩
end Go.Proofs.YtjcdjmjebbllkaaDoor
