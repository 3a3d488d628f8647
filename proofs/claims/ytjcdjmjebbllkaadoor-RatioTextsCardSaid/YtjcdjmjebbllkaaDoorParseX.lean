/- Parse at the example of the section. -/
import Derived.Test.YtjcdjmjebbllkaaDoorDig
import Derived.Laws.RangeString
import Derived.Lib.OthersKept
import Derived.Lib.AtoiErrMem
namespace Go.Proofs.YtjcdjmjebbllkaaDoor
open Go.RowKit Go.Shelf Go.Lib
attribute [local go_sem] le_add_one'

set_option maxHeartbeats 1000000 in
theorem parse_x (m : Int) (w : World) (hm : w.cell? ⟨0, 0, none⟩ = some (.int .i64 m)) (hw : 0 < w.heap.size) :
    Calls Tryd.prog 21 #[.string ⟨#[45, 49, 46, 50, 53]⟩] w fun e w' => e = .returned (.tuple #[rat (-5) 4, .int .i64 0]) ∧ Below w.heap.size w w' := by
  have C1 := Lib.hid (fun w => Tryd.strings_CutPrefix ⟨#[45, 49, 46, 50, 53]⟩ ⟨#[45]⟩ w)
  rw [show Lib.trimPrefix (⟨#[45, 49, 46, 50, 53]⟩ : ByteArray).data.toList (⟨#[45]⟩ : ByteArray).data.toList = [49, 46, 50, 53] from by decide,
    show Lib.hasPrefix (⟨#[45, 49, 46, 50, 53]⟩ : ByteArray).data.toList (⟨#[45]⟩ : ByteArray).data.toList = true from by decide] at C1
  have C2 := Lib.hid (fun w hm => Tryd.strings_Cut ⟨#[49, 46, 50, 53]⟩ ⟨#[47]⟩ m w (by decide) hm)
  rw [show Lib.cut (⟨#[49, 46, 50, 53]⟩ : ByteArray).data.toList (⟨#[47]⟩ : ByteArray).data.toList = ([49, 46, 50, 53], [], false) from by decide] at C2
  have C3 := Lib.hid (fun w hm => Tryd.strings_Cut ⟨#[49, 46, 50, 53]⟩ ⟨#[46]⟩ m w (by decide) hm)
  rw [show Lib.cut (⟨#[49, 46, 50, 53]⟩ : ByteArray).data.toList (⟨#[46]⟩ : ByteArray).data.toList = ([49], [50, 53], true) from by decide] at C3
  have D1 := Lib.hid (fun w => digits_any ⟨#[49]⟩ 15 w)
  rw [show digB ⟨#[49]⟩ 15 = true from by decide] at D1
  have D2 := Lib.hid (fun w => digits_any ⟨#[50, 53]⟩ 6 w)
  rw [show digB ⟨#[50, 53]⟩ 6 = true from by decide] at D2
  have T1 := Lib.hid (fun w => Tryd.strings_TrimLeft_one ⟨#[49, 50, 53]⟩ 48 (by decide) w)
  rw [show Lib.trimLeftB (⟨#[49, 50, 53]⟩ : ByteArray).data.toList 48 = [49, 50, 53] from by decide] at T1
  have U1 := Lib.hid (fun w => Tryd.strconv_ParseUint_10_at64_ok ⟨#[48, 49, 50, 53]⟩ (by decide) 125 (by decide) w)
  have B1 := Lib.hid (fun w => build_any true 125 100 w (by decide) (by decide) (by decide))
  rw [show ((125 : Nat) : Int) = 125 from rfl, show ((100 : Nat) : Int) = 100 from rfl, show buN true 125 100 = -5 from by decide, show buD 125 100 = 4 from by decide, show buE 125 100 = 0 from by decide] at B1
  go_enter Tryd.func21, Tryd.ntmps21
  go_wp2_with (first | (go_at_call 51; refine (C1.out _).mono ?_; rintro e w' ⟨rfl, rfl⟩))
  refine (C2.out _ ?_).mono ?_
  · simp [go_sem, hm, hw]
  rintro e w1 ⟨rfl, n1, rfl⟩
  go_wp2_with fail
  refine (C3.out _ ?_).mono ?_
  · simp [go_sem, hm, hw]
  rintro e w1 ⟨rfl, n2, rfl⟩
  go_wp2_with fail
  refine (D1.out _).mono ?_
  rintro e w1 ⟨rfl, hb1⟩
  obtain ⟨hc1, hf1, hz1⟩ := bcell hb1; (try simp at hz1); (try have hw1_0 : w.heap.size < w1.heap.size := by omega); (try have hw1_1 : w.heap.size + 1 < w1.heap.size := by omega); (try have hw1_2 : w.heap.size + 1 + 1 < w1.heap.size := by omega); (try have hw1_3 : w.heap.size + 1 + 1 + 1 < w1.heap.size := by omega); (try have hw1_4 : w.heap.size + 1 + 1 + 1 + 1 < w1.heap.size := by omega); (try have hw1_5 : w.heap.size + 1 + 1 + 1 + 1 + 1 < w1.heap.size := by omega)
  go_wp2_with fail
  refine (D2.out _).mono ?_
  rintro e w2 ⟨rfl, hb2⟩
  obtain ⟨hc2, hf2, hz2⟩ := bcell hb2; (try simp at hz2); (try have hw2_0 : w.heap.size < w2.heap.size := by omega); (try have hw2_1 : w.heap.size + 1 < w2.heap.size := by omega); (try have hw2_2 : w.heap.size + 1 + 1 < w2.heap.size := by omega); (try have hw2_3 : w.heap.size + 1 + 1 + 1 < w2.heap.size := by omega); (try have hw2_4 : w.heap.size + 1 + 1 + 1 + 1 < w2.heap.size := by omega); (try have hw2_5 : w.heap.size + 1 + 1 + 1 + 1 + 1 < w2.heap.size := by omega); (try have hv2_1_0 : w1.heap.size < w2.heap.size := by omega); (try have hv2_1_1 : w1.heap.size + 1 < w2.heap.size := by omega); (try have hv2_1_2 : w1.heap.size + 1 + 1 < w2.heap.size := by omega)
  go_wp2_with fail
  rw [show (⟨#[49]⟩ ++ ⟨#[50, 53]⟩ : ByteArray) = ⟨#[49, 50, 53]⟩ from by decide]
  refine (T1.out _).mono ?_
  rintro e w3 ⟨rfl, rfl⟩
  go_wp2_with fail
  rw [show (⟨#[48]⟩ ++ ⟨#[49, 50, 53]⟩ : ByteArray) = ⟨#[48, 49, 50, 53]⟩ from by decide]
  refine (U1.out _).mono ?_
  rintro e w4 ⟨rfl, hw4⟩
  have hb4 : Below w3.heap.size w3 w4 := by
    rcases hw4 with rfl | rfl
    · exact Below.refl _ _
    · exact Lib.bytesWorld_below _ _ _
  clear hw4
  obtain ⟨hc4, hf4, hz4⟩ := bcell hb4
  have hw4_0 : w.heap.size < w4.heap.size := by omega
  have hl4_0 : w.heap.size ≤ w4.heap.size := by omega
  go_wp2_with fail
  go_loopw [15] (fun d wr => ∃ k : Nat, k ≤ 2 ∧ wr = w4.iter ⟨#[50, 53]⟩ k ∧ d = .int .i64 (if k = 0 then 1 else if k = 1 then 10 else 100)) (fun _ wr => 2 - wr.iterPos w4.heap.size)
  case atStart => exact ⟨0, by omega, rfl, rfl⟩
  case round =>
    obtain ⟨k, hk, rfl, rfl⟩ := hrel
    have h3 : k = 0 ∨ k = 1 ∨ k = 2 := by omega
    rcases h3 with rfl | rfl | rfl
    · have hn := fun ty => run_next_ascii (P := Tryd.prog) w4 ⟨#[50, 53]⟩ 0 ty (by decide) (by decide)
      go_wp2
      go_roundw
      case rel => exact ⟨1, by omega, rfl, rfl⟩
      case measure => simp
    · have hn := fun ty => run_next_ascii (P := Tryd.prog) w4 ⟨#[50, 53]⟩ 1 ty (by decide) (by decide)
      go_wp2
      go_roundw
      case rel => exact ⟨2, by omega, rfl, rfl⟩
      case measure => simp
    · have hn := fun ty => run_next_end (P := Tryd.prog) w4 ⟨#[50, 53]⟩ 2 ty (by decide)
      go_wp2_with fail
      refine (B1.out _).mono ?_
      rintro e w5 ⟨rfl, hb5⟩
      simp only [World.iter] at hb5
      obtain ⟨hc5, hf5, hz5⟩ := bcell hb5
      simp at hz5
      have hw5_0 : w.heap.size < w5.heap.size := by omega
      have g0 : w5.cell? ⟨w.heap.size, 0, none⟩ = some (.int .i64 0) := by
        rw [hc5 _ _ (by simp; omega), World.cell?_alloc_past _ _ _ hw4_0, hc4 _ _ hw2_0, hc2 _ _ hw1_0, hc1 _ _ (by simp)]; simp
      have g1 : w5.cell? ⟨w.heap.size, 1, none⟩ = some (.int .i64 0) := by
        rw [hc5 _ _ (by simp; omega), World.cell?_alloc_past _ _ _ hw4_0, hc4 _ _ hw2_0, hc2 _ _ hw1_0, hc1 _ _ (by simp)]; simp
      have z0 : w5.frozen? ⟨w.heap.size, 0, none⟩ = false := by
        rw [hf5 _ _ (by simp; omega), World.frozen?_alloc_past _ _ _ hw4_0, hf4 _ _ hw2_0, hf2 _ _ hw1_0, hf1 _ _ (by simp)]; simp
      have z1 : w5.frozen? ⟨w.heap.size, 1, none⟩ = false := by
        rw [hf5 _ _ (by simp; omega), World.frozen?_alloc_past _ _ _ hw4_0, hf4 _ _ hw2_0, hf2 _ _ hw1_0, hf1 _ _ (by simp)]; simp
      clear hc5 hf5 hc4 hf4 hc2 hf2 hc1 hf1 hn
      go_wp2
      exact bodyPost_ret (v := .tuple #[rat (-5) 4, .int .i64 0]) (by simp [*, results, Tryd.results21, go_sem]) rfl ⟨rfl, (by repeat (first | exact Below.refl _ _ | assumption | refine Below.setCell ?_ (by (first | omega | (simp <;> omega))) _ | refine below_drewN ?_ _ | refine Below.drew ?_ | refine Below.alloc ?_ (by (first | omega | (simp <;> omega))) _ | (refine after (h1 := by assumption) ?_ ?_; rotate_left; (first | omega | (simp <;> omega)))))⟩
end Go.Proofs.YtjcdjmjebbllkaaDoor
