/- What Valid, valid, Both and their kin return. -/
import Derived.Test.YtjcdjmjebbllkaaDoorRefNew
namespace Go.Proofs.YtjcdjmjebbllkaaDoor
open Go.RowKit
attribute [local go_sem] le_add_one'

theorem val_bad {n d : Int} (h : ¬ (1 ≤ d ∧ newE n d = 0 ∧ newN n d = n ∧ newD n d = d)) : valE n d = 1 := by
  rcases valE_cases n d with h1 | h1
  · exact absurd ((valE_iff n d).1 h1) h
  · exact h1

set_option maxHeartbeats 400000 in
theorem valid_any (n d : Int) (w : World) (hn0 : -9223372036854775808 ≤ n) (hn : n ≤ 9223372036854775807) (hd0 : -9223372036854775808 ≤ d) (hd : d ≤ 9223372036854775807) :
    Calls Tryd.prog 28 #[rat n d] w fun e w' => e = .returned (.int .i64 (valE n d)) ∧ Below w.heap.size w w' := by
  by_cases h1 : d < 1
  · rw [val_bad (by omega)]
    go_enter Tryd.func28, Tryd.ntmps28
    go_wp2
    go_ret
    exact ⟨rfl, (by repeat (first | exact Below.refl _ _ | assumption | refine Below.setCell ?_ (by (first | omega | (simp <;> omega))) _ | refine below_drewN ?_ _ | refine Below.drew ?_ | refine Below.alloc ?_ (by (first | omega | (simp <;> omega))) _ | (refine after (h1 := by assumption) ?_ ?_; rotate_left; (first | omega | (simp <;> omega)))))⟩
  · by_cases h2 : newE n d = 0
    · by_cases h3 : newN n d = n ∧ newD n d = d
      · rw [(valE_iff n d).2 ⟨by omega, h2, h3⟩]
        have H := Lib.hid (new_any n d)
        rw [h2, h3.1, h3.2] at H
        clear h2 h3
        go_enter Tryd.func28, Tryd.ntmps28
        go_wp2_with (go_at_call 10; refine (H.out _ hn0 hn hd0 hd).mono ?_; rintro e w1 ⟨rfl, hb1⟩; obtain ⟨hc1, hf1, hz1⟩ := bcell hb1; (try simp at hz1); (try have hw1_0 : w.heap.size < w1.heap.size := by omega); (try have hw1_1 : w.heap.size + 1 < w1.heap.size := by omega); (try have hw1_2 : w.heap.size + 1 + 1 < w1.heap.size := by omega); (try have hw1_3 : w.heap.size + 1 + 1 + 1 < w1.heap.size := by omega); (try have hw1_4 : w.heap.size + 1 + 1 + 1 + 1 < w1.heap.size := by omega); (try have hw1_5 : w.heap.size + 1 + 1 + 1 + 1 + 1 < w1.heap.size := by omega))
        all_goals (go_ret; exact ⟨rfl, (by repeat (first | exact Below.refl _ _ | assumption | refine Below.setCell ?_ (by (first | omega | (simp <;> omega))) _ | refine below_drewN ?_ _ | refine Below.drew ?_ | refine Below.alloc ?_ (by (first | omega | (simp <;> omega))) _ | (refine after (h1 := by assumption) ?_ ?_; rotate_left; (first | omega | (simp <;> omega)))))⟩)
      · rw [val_bad (by intro h; exact h3 h.2.2)]
        have H := Lib.hid (new_any n d)
        rw [h2] at H
        clear h2
        generalize newN n d = N at *
        generalize newD n d = D at *
        go_enter Tryd.func28, Tryd.ntmps28
        go_wp2_with (go_at_call 10; refine (H.out _ hn0 hn hd0 hd).mono ?_; rintro e w1 ⟨rfl, hb1⟩; obtain ⟨hc1, hf1, hz1⟩ := bcell hb1; (try simp at hz1); (try have hw1_0 : w.heap.size < w1.heap.size := by omega); (try have hw1_1 : w.heap.size + 1 < w1.heap.size := by omega); (try have hw1_2 : w.heap.size + 1 + 1 < w1.heap.size := by omega); (try have hw1_3 : w.heap.size + 1 + 1 + 1 < w1.heap.size := by omega); (try have hw1_4 : w.heap.size + 1 + 1 + 1 + 1 < w1.heap.size := by omega); (try have hw1_5 : w.heap.size + 1 + 1 + 1 + 1 + 1 < w1.heap.size := by omega))
        all_goals (go_ret; exact ⟨rfl, (by repeat (first | exact Below.refl _ _ | assumption | refine Below.setCell ?_ (by (first | omega | (simp <;> omega))) _ | refine below_drewN ?_ _ | refine Below.drew ?_ | refine Below.alloc ?_ (by (first | omega | (simp <;> omega))) _ | (refine after (h1 := by assumption) ?_ ?_; rotate_left; (first | omega | (simp <;> omega)))))⟩)
    · rw [val_bad (by intro h; exact h2 h.2.1)]
      have h2' : (newE n d == 0) = false := by simp [h2]
      have h2'' : (newE n d != 0) = true := by simp [h2]
      go_enter Tryd.func28, Tryd.ntmps28
      go_wp2_with (go_at_call 10; refine (new_any n d _ hn0 hn hd0 hd).mono ?_; rintro e w1 ⟨rfl, hb1⟩; obtain ⟨hc1, hf1, hz1⟩ := bcell hb1; (try simp at hz1); (try have hw1_0 : w.heap.size < w1.heap.size := by omega); (try have hw1_1 : w.heap.size + 1 < w1.heap.size := by omega); (try have hw1_2 : w.heap.size + 1 + 1 < w1.heap.size := by omega); (try have hw1_3 : w.heap.size + 1 + 1 + 1 < w1.heap.size := by omega); (try have hw1_4 : w.heap.size + 1 + 1 + 1 + 1 < w1.heap.size := by omega); (try have hw1_5 : w.heap.size + 1 + 1 + 1 + 1 + 1 < w1.heap.size := by omega))
      all_goals (go_ret; exact ⟨rfl, (by repeat (first | exact Below.refl _ _ | assumption | refine Below.setCell ?_ (by (first | omega | (simp <;> omega))) _ | refine below_drewN ?_ _ | refine Below.drew ?_ | refine Below.alloc ?_ (by (first | omega | (simp <;> omega))) _ | (refine after (h1 := by assumption) ?_ ?_; rotate_left; (first | omega | (simp <;> omega)))))⟩)

theorem val_no {n d : Int} (h : ¬ (1 ≤ d ∧ d ≤ 1048576 ∧ -1099511627776 ≤ n ∧ n ≤ 1099511627776 ∧ Int.gcd n d = 1)) : valE n d = 1 := by
  unfold valE; rw [if_neg h]

set_option maxHeartbeats 400000 in
theorem refvalid_any (n d : Int) (w : World) :
    Calls Tryd.prog 29 #[rat n d] w fun e w' => e = .returned (.int .i64 (valE n d)) ∧ Below w.heap.size w w' := by
  by_cases h1 : d < 1
  · rw [val_no (by omega)]
    go_enter Tryd.func29, Tryd.ntmps29
    go_wp2
    go_ret
    exact ⟨rfl, (by repeat (first | exact Below.refl _ _ | assumption | refine Below.setCell ?_ (by (first | omega | (simp <;> omega))) _ | refine below_drewN ?_ _ | refine Below.drew ?_ | refine Below.alloc ?_ (by (first | omega | (simp <;> omega))) _ | (refine after (h1 := by assumption) ?_ ?_; rotate_left; (first | omega | (simp <;> omega)))))⟩
  by_cases h2 : 1048576 < d
  · rw [val_no (by omega)]
    go_enter Tryd.func29, Tryd.ntmps29
    go_wp2
    go_ret
    exact ⟨rfl, (by repeat (first | exact Below.refl _ _ | assumption | refine Below.setCell ?_ (by (first | omega | (simp <;> omega))) _ | refine below_drewN ?_ _ | refine Below.drew ?_ | refine Below.alloc ?_ (by (first | omega | (simp <;> omega))) _ | (refine after (h1 := by assumption) ?_ ?_; rotate_left; (first | omega | (simp <;> omega)))))⟩
  by_cases h3 : 1099511627776 < n
  · rw [val_no (by omega)]
    go_enter Tryd.func29, Tryd.ntmps29
    go_wp2
    go_ret
    exact ⟨rfl, (by repeat (first | exact Below.refl _ _ | assumption | refine Below.setCell ?_ (by (first | omega | (simp <;> omega))) _ | refine below_drewN ?_ _ | refine Below.drew ?_ | refine Below.alloc ?_ (by (first | omega | (simp <;> omega))) _ | (refine after (h1 := by assumption) ?_ ?_; rotate_left; (first | omega | (simp <;> omega)))))⟩
  by_cases h4 : n < -1099511627776
  · rw [val_no (by omega)]
    go_enter Tryd.func29, Tryd.ntmps29
    go_wp2
    go_ret
    exact ⟨rfl, (by repeat (first | exact Below.refl _ _ | assumption | refine Below.setCell ?_ (by (first | omega | (simp <;> omega))) _ | refine below_drewN ?_ _ | refine Below.drew ?_ | refine Below.alloc ?_ (by (first | omega | (simp <;> omega))) _ | (refine after (h1 := by assumption) ?_ ?_; rotate_left; (first | omega | (simp <;> omega)))))⟩
  by_cases h5 : Int.gcd n d = 1
  · rw [show valE n d = 0 from by unfold valE; rw [if_pos ⟨by omega, by omega, by omega, by omega, h5⟩]]
    have H5 := Lib.hid h5
    clear h5
    go_enter Tryd.func29, Tryd.ntmps29
    go_wp2_with (go_at_call 58; refine (common_any n d _ (by omega) (by omega) (by omega) (by omega)).mono ?_; rintro e w' ⟨rfl, q, rfl⟩; rw [H5.out])
    go_ret
    exact ⟨rfl, (by repeat (first | exact Below.refl _ _ | assumption | refine Below.setCell ?_ (by (first | omega | (simp <;> omega))) _ | refine below_drewN ?_ _ | refine Below.drew ?_ | refine Below.alloc ?_ (by (first | omega | (simp <;> omega))) _ | (refine after (h1 := by assumption) ?_ ?_; rotate_left; (first | omega | (simp <;> omega)))))⟩
  · rw [val_no (by omega)]
    have h6 : ((Int.gcd n d : Int) == 1) = false := by simp; omega
    have h7 : ((Int.gcd n d : Int) != 1) = true := by simp; omega
    generalize hg : Int.gcd n d = g at *
    have HG := Lib.hid hg
    clear hg
    go_enter Tryd.func29, Tryd.ntmps29
    go_wp2_with (go_at_call 58; refine (common_any n d _ (by omega) (by omega) (by omega) (by omega)).mono ?_; rintro e w' ⟨rfl, q, rfl⟩; rw [HG.out])
    go_ret
    exact ⟨rfl, (by repeat (first | exact Below.refl _ _ | assumption | refine Below.setCell ?_ (by (first | omega | (simp <;> omega))) _ | refine below_drewN ?_ _ | refine Below.drew ?_ | refine Below.alloc ?_ (by (first | omega | (simp <;> omega))) _ | (refine after (h1 := by assumption) ?_ ?_; rotate_left; (first | omega | (simp <;> omega)))))⟩

/-- valid at two ratios that the caller has laid side by side. -/
def val2 (a b c d : Int) : Int := if valE a b = 0 then valE c d else 1
theorem val2_yes {a b c d : Int} (h : valE a b = 0) (h' : valE c d = 0) : val2 a b c d = 0 := by unfold val2; rw [if_pos h, h']
theorem val2_no1 {a b c d : Int} (h : ¬ valE a b = 0) : val2 a b c d = 1 := by unfold val2; rw [if_neg h]
theorem val2_no2 {a b c d : Int} (h' : ¬ valE c d = 0) : val2 a b c d = 1 := by
  unfold val2; split
  · rcases valE_cases c d with h | h
    · exact absurd h h'
    · exact h
  · rfl

end Go.Proofs.YtjcdjmjebbllkaaDoor
