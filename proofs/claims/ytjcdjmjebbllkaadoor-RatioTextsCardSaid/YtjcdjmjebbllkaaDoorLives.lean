/- The examples of the section hold. -/
import Derived.Test.YtjcdjmjebbllkaaDoorParseX
import Derived.Test.YtjcdjmjebbllkaaDoorBet
import Derived.Test.YtjcdjmjebbllkaaDoorPart2
namespace Go.Proofs.YtjcdjmjebbllkaaDoor
open Go.RowKit
attribute [local go_sem] le_add_one'

set_option maxHeartbeats 1000000 in
theorem lives_any (m : Int) (w : World) (hm : w.cell? ⟨0, 0, none⟩ = some (.int .i64 m)) (hw : 0 < w.heap.size) :
    Calls Tryd.prog 13 #[] w fun e w' => e = .returned (.bool true) ∧ Below w.heap.size w w' := by
  have C1 := Lib.hid (fun w => add_any 1 2 1 3 w (by decide) (by decide) (by decide) (by decide) (by decide) (by decide) (by decide) (by decide))
  rw [show addN 1 2 1 3 = 5 from by decide, show addD 1 2 1 3 = 6 from by decide, show addE 1 2 1 3 = 0 from by decide] at C1
  have C2 := Lib.hid (fun w => between_any 1 3 1 2 w (by decide) (by decide) (by decide) (by decide) (by decide) (by decide) (by decide) (by decide))
  rw [show btN 1 3 1 2 = 2 from by decide, show btD 1 3 1 2 = 5 from by decide, show btE 1 3 1 2 = 0 from by decide] at C2
  have C3 := Lib.hid (fun w => part_any 100 2 3 w (by decide) (by decide) (by decide) (by decide) (by decide) (by decide))
  rw [show partN 100 2 3 = 66 from by decide, show partE 100 2 3 = 0 from by decide] at C3
  have C4 := Lib.hid (fun w => parse_x m w)
  go_enter Tryd.func13, Tryd.ntmps13
  go_wp2_with fail
  refine (C1.out _).mono ?_
  rintro e w1 ⟨rfl, hb1⟩
  obtain ⟨hc1, hf1, hz1⟩ := bcell hb1; (try simp at hz1); (try have hw1_0 : w.heap.size < w1.heap.size := by omega); (try have hw1_1 : w.heap.size + 1 < w1.heap.size := by omega); (try have hw1_2 : w.heap.size + 1 + 1 < w1.heap.size := by omega); (try have hw1_3 : w.heap.size + 1 + 1 + 1 < w1.heap.size := by omega); (try have hw1_4 : w.heap.size + 1 + 1 + 1 + 1 < w1.heap.size := by omega); (try have hw1_5 : w.heap.size + 1 + 1 + 1 + 1 + 1 < w1.heap.size := by omega)
  go_wp2_with fail
  refine (C2.out _).mono ?_
  rintro e w2 ⟨rfl, hb2⟩
  obtain ⟨hc2, hf2, hz2⟩ := bcell hb2; (try simp at hz2); (try have hw2_0 : w.heap.size < w2.heap.size := by omega); (try have hw2_1 : w.heap.size + 1 < w2.heap.size := by omega); (try have hw2_2 : w.heap.size + 1 + 1 < w2.heap.size := by omega); (try have hw2_3 : w.heap.size + 1 + 1 + 1 < w2.heap.size := by omega); (try have hw2_4 : w.heap.size + 1 + 1 + 1 + 1 < w2.heap.size := by omega); (try have hw2_5 : w.heap.size + 1 + 1 + 1 + 1 + 1 < w2.heap.size := by omega); (try have hv2_1_0 : w1.heap.size < w2.heap.size := by omega); (try have hv2_1_1 : w1.heap.size + 1 < w2.heap.size := by omega); (try have hv2_1_2 : w1.heap.size + 1 + 1 < w2.heap.size := by omega)
  go_wp2_with fail
  refine (C3.out _).mono ?_
  rintro e w3 ⟨rfl, hb3⟩
  obtain ⟨hc3, hf3, hz3⟩ := bcell hb3; (try simp at hz3); (try have hw3_0 : w.heap.size < w3.heap.size := by omega); (try have hw3_1 : w.heap.size + 1 < w3.heap.size := by omega); (try have hw3_2 : w.heap.size + 1 + 1 < w3.heap.size := by omega); (try have hw3_3 : w.heap.size + 1 + 1 + 1 < w3.heap.size := by omega); (try have hw3_4 : w.heap.size + 1 + 1 + 1 + 1 < w3.heap.size := by omega); (try have hw3_5 : w.heap.size + 1 + 1 + 1 + 1 + 1 < w3.heap.size := by omega); (try have hv3_1_0 : w1.heap.size < w3.heap.size := by omega); (try have hv3_1_1 : w1.heap.size + 1 < w3.heap.size := by omega); (try have hv3_1_2 : w1.heap.size + 1 + 1 < w3.heap.size := by omega); (try have hv3_2_0 : w2.heap.size < w3.heap.size := by omega); (try have hv3_2_1 : w2.heap.size + 1 < w3.heap.size := by omega); (try have hv3_2_2 : w2.heap.size + 1 + 1 < w3.heap.size := by omega)
  go_wp2_with fail
  refine (C4.out _ ?_ ?_).mono ?_
  · refine (Below.cell (B := w.heap.size) (w := w) ?_ (p := ⟨0, 0, none⟩) hw).trans hm
    exact (by repeat (first | exact Below.refl _ _ | assumption | refine Below.setCell ?_ (by (first | omega | (simp <;> omega))) _ | refine below_drewN ?_ _ | refine Below.drew ?_ | refine Below.alloc ?_ (by (first | omega | (simp <;> omega))) _ | (refine after (h1 := by assumption) ?_ ?_; rotate_left; (first | omega | (simp <;> omega)))))
  · omega
  rintro e w4 ⟨rfl, hb4⟩
  obtain ⟨hc4, hf4, hz4⟩ := bcell hb4; (try simp at hz4); (try have hw4_0 : w.heap.size < w4.heap.size := by omega); (try have hw4_1 : w.heap.size + 1 < w4.heap.size := by omega); (try have hw4_2 : w.heap.size + 1 + 1 < w4.heap.size := by omega); (try have hw4_3 : w.heap.size + 1 + 1 + 1 < w4.heap.size := by omega); (try have hw4_4 : w.heap.size + 1 + 1 + 1 + 1 < w4.heap.size := by omega); (try have hw4_5 : w.heap.size + 1 + 1 + 1 + 1 + 1 < w4.heap.size := by omega); (try have hv4_1_0 : w1.heap.size < w4.heap.size := by omega); (try have hv4_1_1 : w1.heap.size + 1 < w4.heap.size := by omega); (try have hv4_1_2 : w1.heap.size + 1 + 1 < w4.heap.size := by omega); (try have hv4_2_0 : w2.heap.size < w4.heap.size := by omega); (try have hv4_2_1 : w2.heap.size + 1 < w4.heap.size := by omega); (try have hv4_2_2 : w2.heap.size + 1 + 1 < w4.heap.size := by omega); (try have hv4_3_0 : w3.heap.size < w4.heap.size := by omega); (try have hv4_3_1 : w3.heap.size + 1 < w4.heap.size := by omega); (try have hv4_3_2 : w3.heap.size + 1 + 1 < w4.heap.size := by omega)
  go_wp2
  go_ret
  exact ⟨rfl, (by repeat (first | exact Below.refl _ _ | assumption | refine Below.setCell ?_ (by (first | omega | (simp <;> omega))) _ | refine below_drewN ?_ _ | refine Below.drew ?_ | refine Below.alloc ?_ (by (first | omega | (simp <;> omega))) _ | (refine after (h1 := by assumption) ?_ ?_; rotate_left; (first | omega | (simp <;> omega)))))⟩
end Go.Proofs.YtjcdjmjebbllkaaDoor
