/- The closure of Parse that asks whether a text is a row of digits. -/
import Derived.Test.YtjcdjmjebbllkaaDoorShelf
import Derived.Test.YtjcdjmjebbllkaaDoorNew
namespace Go.Proofs.YtjcdjmjebbllkaaDoor
open Go.RowKit Go.Shelf Go.Lib
attribute [local go_sem] le_add_one'

/-- A rune that is no digit. -/
def badR (r : Nat) : Bool := decide (r < 48) || decide (57 < r)
theorem bad_pays (w : World) : PredAt Tryd.prog 50 #[] encR badR w := fun W r _ => by
  unfold FnGives badR
  by_cases h1 : r < 48
  · have z1 : (r : Int) < 48 := by omega
    go_enter Tryd.func50, Tryd.ntmps50
    go_wp2
    go_ret
    exact ⟨by simp [h1], 0, rfl⟩
  · have z1 : ¬ (r : Int) < 48 := by omega
    by_cases h2 : 57 < r
    · have z2 : (57 : Int) < (r : Int) := by omega
      go_enter Tryd.func50, Tryd.ntmps50
      go_wp2
      go_ret
      exact ⟨rfl, 0, rfl⟩
    · have z2 : ¬ (57 : Int) < (r : Int) := by omega
      go_enter Tryd.func50, Tryd.ntmps50
      go_wp2
      go_ret
      exact ⟨rfl, 0, rfl⟩

/-- A row of 1 to m digits. -/
def digB (s : ByteArray) (m : Nat) : Bool := decide (s.size ≠ 0) && decide (s.size ≤ m) && decide (¬ 0 ≤ Lib.idxFunc badR true s)
theorem digB_yes {s : ByteArray} {m : Nat} (h1 : s.size ≠ 0) (h2 : s.size ≤ m) (h3 : Lib.idxFunc badR true s < 0) : digB s m = true := by
  unfold digB; simp [h1, h2]; omega
theorem digB_no {s : ByteArray} {m : Nat} (h : s.size = 0 ∨ m < s.size ∨ 0 ≤ Lib.idxFunc badR true s) : digB s m = false := by
  unfold digB
  rcases h with h | h | h
  · simp [h]
  · rw [show decide (s.size ≤ m) = false from by simp; omega]; simp
  · simp [h]

set_option maxHeartbeats 400000 in
theorem digits_any (s : ByteArray) (m : Nat) (w : World) :
    Calls Tryd.prog 48 #[.string s, .int .i64 (m : Int)] w fun e w' => e = .returned (.bool (digB s m)) ∧ Below w.heap.size w w' := by
  have C := Lib.hid (fun w => Tryd.strings_ContainsFunc 50 #[] (enters_of Tryd.func50 (by kernel_rfl) rfl) badR s w (bad_pays w))
  by_cases h1 : s.size = 0
  · rw [digB_no (.inl h1)]
    have e : s.toList.isEmpty = true := by rw [Lib.toList_data, List.isEmpty_iff]; exact List.eq_nil_of_length_eq_zero h1
    clear h1
    go_enter Tryd.func48, Tryd.ntmps48
    go_wp2
    go_ret
    exact ⟨rfl, (by repeat (first | exact Below.refl _ _ | assumption | refine Below.setCell ?_ (by (first | omega | (simp <;> omega))) _ | refine below_drewN ?_ _ | refine Below.drew ?_ | refine Below.alloc ?_ (by (first | omega | (simp <;> omega))) _ | (refine after (h1 := by assumption) ?_ ?_; rotate_left; (first | omega | (simp <;> omega)))))⟩
  · have e : s.toList.isEmpty = false := by
      rw [Lib.toList_data, Bool.eq_false_iff, Ne, List.isEmpty_iff]
      intro h; exact h1 (by rw [← List.length_eq_zero_iff] at h; exact h)
    by_cases h2 : m < s.size
    · rw [digB_no (.inr (.inl h2))]
      have h2' : ¬ (s.size : Int) ≤ (m : Int) := by omega
      have h2'' : ¬ s.size ≤ m := by omega
      go_enter Tryd.func48, Tryd.ntmps48
      go_wp2
      go_ret
      exact ⟨rfl, (by repeat (first | exact Below.refl _ _ | assumption | refine Below.setCell ?_ (by (first | omega | (simp <;> omega))) _ | refine below_drewN ?_ _ | refine Below.drew ?_ | refine Below.alloc ?_ (by (first | omega | (simp <;> omega))) _ | (refine after (h1 := by assumption) ?_ ?_; rotate_left; (first | omega | (simp <;> omega)))))⟩
    · have h2' : (s.size : Int) ≤ (m : Int) := by omega
      have h2'' : s.size ≤ m := by omega
      by_cases h3 : 0 ≤ Lib.idxFunc badR true s
      · rw [digB_no (.inr (.inr h3))]
        rw [decide_eq_true h3] at C
        clear h3
        go_enter Tryd.func48, Tryd.ntmps48
        go_wp2_with (go_at_call 49; refine (C.out _).mono ?_; rintro e w1 ⟨rfl, hb1⟩; obtain ⟨hc1, hf1, hz1⟩ := bcell hb1; (try simp at hz1); (try have hw1_0 : w.heap.size < w1.heap.size := by omega); (try have hw1_1 : w.heap.size + 1 < w1.heap.size := by omega); (try have hw1_2 : w.heap.size + 1 + 1 < w1.heap.size := by omega); (try have hw1_3 : w.heap.size + 1 + 1 + 1 < w1.heap.size := by omega); (try have hw1_4 : w.heap.size + 1 + 1 + 1 + 1 < w1.heap.size := by omega); (try have hw1_5 : w.heap.size + 1 + 1 + 1 + 1 + 1 < w1.heap.size := by omega))
        go_ret
        exact ⟨rfl, (by repeat (first | exact Below.refl _ _ | assumption | refine Below.setCell ?_ (by (first | omega | (simp <;> omega))) _ | refine below_drewN ?_ _ | refine Below.drew ?_ | refine Below.alloc ?_ (by (first | omega | (simp <;> omega))) _ | (refine after (h1 := by assumption) ?_ ?_; rotate_left; (first | omega | (simp <;> omega)))))⟩
      · rw [digB_yes h1 h2'' (by omega)]
        rw [decide_eq_false h3] at C
        clear h3
        go_enter Tryd.func48, Tryd.ntmps48
        go_wp2_with (go_at_call 49; refine (C.out _).mono ?_; rintro e w1 ⟨rfl, hb1⟩; obtain ⟨hc1, hf1, hz1⟩ := bcell hb1; (try simp at hz1); (try have hw1_0 : w.heap.size < w1.heap.size := by omega); (try have hw1_1 : w.heap.size + 1 < w1.heap.size := by omega); (try have hw1_2 : w.heap.size + 1 + 1 < w1.heap.size := by omega); (try have hw1_3 : w.heap.size + 1 + 1 + 1 < w1.heap.size := by omega); (try have hw1_4 : w.heap.size + 1 + 1 + 1 + 1 < w1.heap.size := by omega); (try have hw1_5 : w.heap.size + 1 + 1 + 1 + 1 + 1 < w1.heap.size := by omega))
        go_ret
        exact ⟨rfl, (by repeat (first | exact Below.refl _ _ | assumption | refine Below.setCell ?_ (by (first | omega | (simp <;> omega))) _ | refine below_drewN ?_ _ | refine Below.drew ?_ | refine Below.alloc ?_ (by (first | omega | (simp <;> omega))) _ | (refine after (h1 := by assumption) ?_ ?_; rotate_left; (first | omega | (simp <;> omega)))))⟩
end Go.Proofs.YtjcdjmjebbllkaaDoor
