/- The walk of RatioParts. -/
import Derived.Test.YtjcdjmjebbllkaaDoorLives
import Derived.Test.YtjcdjmjebbllkaaDoorPartsM
import Derived.Test.YtjcdjmjebbllkaaDoorRef
namespace Go.Proofs.YtjcdjmjebbllkaaDoor
open Go.RowKit
attribute [local go_sem] le_add_one'

set_option maxHeartbeats 2000000 in
theorem parts_walk (n m k : Int) (c : Int) (w : World) (hm : w.cell? ⟨0, 0, none⟩ = some (.int .i64 c)) (hw : 0 < w.heap.size)
    (hn0 : -9223372036854775808 ≤ n) (hn : n ≤ 9223372036854775807) (hm0 : -9223372036854775808 ≤ m) (hm1 : m ≤ 9223372036854775807) (hk0 : -9223372036854775808 ≤ k) (hk : k ≤ 9223372036854775807) :
    Calls Tryd.prog 3 #[.int .i64 n, .int .i64 m, .int .i64 k] w fun e w' => e = .returned (.bool true) ∧ Below w.heap.size w w' := by
  have A1 := Lib.hid (fun w => around_any m 1048576 w hm0 hm1 (by decide) (by decide))
  have A3 := Lib.hid (fun w => around_any n 1099511627777 w hn0 hn (by decide) (by decide))
  have r1 := arN_nonneg m 1048576 (by decide)
  have r2 := arN_lt m 1048576 (by decide)
  generalize hD : arN m 1048576 = D0 at *
  generalize hW : arN n 1099511627777 = W at *
  have A2 := Lib.hid (fun w => around_any k (1 + D0 + 1) w hk0 hk (by omega) (by omega))
  generalize hK : arN k (1 + D0 + 1) = K at *
  obtain ⟨p1, p2, p3, p4, p5, p6, p7, p8, p9, p10, p11, p12, p13, p14, p15, p16⟩ := parts_law n m k (1 + D0) K W (by rw [hD]) hK.symm hW.symm
  have bN := newN_bd K (1 + D0)
  have bD := newD_bd K (1 + D0)
  have vv := val_of_new p7
  have N1 := Lib.hid (fun w => new_any K (1 + D0) w (by omega) (by omega) (by omega) (by omega))
  rw [p7] at N1
  generalize newN K (1 + D0) = p at *
  generalize newD K (1 + D0) = d at *
  have S1 := Lib.hid (fun w => sub_any 1 1 p d w (by decide) (by decide) (by decide) (by decide) (by omega) (by omega) (by omega) (by omega))
  rw [p8] at S1
  have bs : -1099511627776 ≤ subN 1 1 p d ∧ subN 1 1 p d ≤ 1099511627776 := by
    have v2 : val2 1 1 p d = 0 := val2_yes (by decide) vv
    unfold subN; rw [sel_ok v2]; exact newN_bd _ _
  have bt : 0 ≤ subD 1 1 p d ∧ subD 1 1 p d ≤ 1048576 := by
    have v2 : val2 1 1 p d = 0 := val2_yes (by decide) vv
    unfold subD; rw [sel_ok v2]; exact newD_bd _ _
  generalize subN 1 1 p d = s at *
  generalize subD 1 1 p d = t at *
  have P1 := Lib.hid (fun w => part_any W p d w (by omega) (by omega) (by omega) (by omega) (by omega) (by omega))
  have P2 := Lib.hid (fun w => part_any W s t w (by omega) (by omega) (by omega) (by omega) (by omega) (by omega))
  rw [p9] at P1
  rw [p10] at P2
  generalize partN W p d = a at *
  generalize partN W s t = b at *
  have L := Lib.hid (fun w => lives_any c w)
  clear hD hW hK p7 p8 p9 p10 vv
  by_cases hz : W % (1 + D0) = 0
  · have hs := p16 hz
    have z1 : (W % (1 + D0) != 0) = false := by simp [hz]
    have z2 : (a + b == W) = true := by simp [hs]
    clear p15 p16 hz hs
    go_enter Tryd.func3, Tryd.ntmps3
    go_wp2_with fail
    refine (A1.out _).mono ?_
    rintro e w1 ⟨rfl, rfl⟩
    go_wp2_with fail
    refine (A2.out _).mono ?_
    rintro e w1 ⟨rfl, rfl⟩
    go_wp2_with fail
    refine (N1.out _).mono ?_
    rintro e w1 ⟨rfl, hb1⟩
    obtain ⟨hc1, hf1, hz1⟩ := bcell hb1; (try simp at hz1); (try have hw1_0 : w.heap.size < w1.heap.size := by omega); (try have hw1_1 : w.heap.size + 1 < w1.heap.size := by omega); (try have hw1_2 : w.heap.size + 1 + 1 < w1.heap.size := by omega); (try have hw1_3 : w.heap.size + 1 + 1 + 1 < w1.heap.size := by omega); (try have hw1_4 : w.heap.size + 1 + 1 + 1 + 1 < w1.heap.size := by omega); (try have hw1_5 : w.heap.size + 1 + 1 + 1 + 1 + 1 < w1.heap.size := by omega)
    go_wp2_with fail
    refine (S1.out _).mono ?_
    rintro e w2 ⟨rfl, hb2⟩
    obtain ⟨hc2, hf2, hz2⟩ := bcell hb2; (try simp at hz2); (try have hw2_0 : w.heap.size < w2.heap.size := by omega); (try have hw2_1 : w.heap.size + 1 < w2.heap.size := by omega); (try have hw2_2 : w.heap.size + 1 + 1 < w2.heap.size := by omega); (try have hw2_3 : w.heap.size + 1 + 1 + 1 < w2.heap.size := by omega); (try have hw2_4 : w.heap.size + 1 + 1 + 1 + 1 < w2.heap.size := by omega); (try have hw2_5 : w.heap.size + 1 + 1 + 1 + 1 + 1 < w2.heap.size := by omega); (try have hv2_1_0 : w1.heap.size < w2.heap.size := by omega); (try have hv2_1_1 : w1.heap.size + 1 < w2.heap.size := by omega); (try have hv2_1_2 : w1.heap.size + 1 + 1 < w2.heap.size := by omega)
    go_wp2_with fail
    refine (A3.out _).mono ?_
    rintro e w' ⟨rfl, rfl⟩
    go_wp2_with fail
    refine (P1.out _).mono ?_
    rintro e w3 ⟨rfl, hb3⟩
    obtain ⟨hc3, hf3, hz3⟩ := bcell hb3; (try simp at hz3); (try have hw3_0 : w.heap.size < w3.heap.size := by omega); (try have hw3_1 : w.heap.size + 1 < w3.heap.size := by omega); (try have hw3_2 : w.heap.size + 1 + 1 < w3.heap.size := by omega); (try have hw3_3 : w.heap.size + 1 + 1 + 1 < w3.heap.size := by omega); (try have hw3_4 : w.heap.size + 1 + 1 + 1 + 1 < w3.heap.size := by omega); (try have hw3_5 : w.heap.size + 1 + 1 + 1 + 1 + 1 < w3.heap.size := by omega); (try have hv3_1_0 : w1.heap.size < w3.heap.size := by omega); (try have hv3_1_1 : w1.heap.size + 1 < w3.heap.size := by omega); (try have hv3_1_2 : w1.heap.size + 1 + 1 < w3.heap.size := by omega); (try have hv3_2_0 : w2.heap.size < w3.heap.size := by omega); (try have hv3_2_1 : w2.heap.size + 1 < w3.heap.size := by omega); (try have hv3_2_2 : w2.heap.size + 1 + 1 < w3.heap.size := by omega)
    go_wp2_with fail
    refine (P2.out _).mono ?_
    rintro e w4 ⟨rfl, hb4⟩
    obtain ⟨hc4, hf4, hz4⟩ := bcell hb4; (try simp at hz4); (try have hw4_0 : w.heap.size < w4.heap.size := by omega); (try have hw4_1 : w.heap.size + 1 < w4.heap.size := by omega); (try have hw4_2 : w.heap.size + 1 + 1 < w4.heap.size := by omega); (try have hw4_3 : w.heap.size + 1 + 1 + 1 < w4.heap.size := by omega); (try have hw4_4 : w.heap.size + 1 + 1 + 1 + 1 < w4.heap.size := by omega); (try have hw4_5 : w.heap.size + 1 + 1 + 1 + 1 + 1 < w4.heap.size := by omega); (try have hv4_1_0 : w1.heap.size < w4.heap.size := by omega); (try have hv4_1_1 : w1.heap.size + 1 < w4.heap.size := by omega); (try have hv4_1_2 : w1.heap.size + 1 + 1 < w4.heap.size := by omega); (try have hv4_2_0 : w2.heap.size < w4.heap.size := by omega); (try have hv4_2_1 : w2.heap.size + 1 < w4.heap.size := by omega); (try have hv4_2_2 : w2.heap.size + 1 + 1 < w4.heap.size := by omega); (try have hv4_3_0 : w3.heap.size < w4.heap.size := by omega); (try have hv4_3_1 : w3.heap.size + 1 < w4.heap.size := by omega); (try have hv4_3_2 : w3.heap.size + 1 + 1 < w4.heap.size := by omega)
    go_wp2_with fail
    refine (L.out _ ?_ ?_).mono ?_
    · refine (Below.cell (B := w.heap.size) (w := w) ?_ (p := ⟨0, 0, none⟩) hw).trans hm
      exact (by repeat (first | exact Below.refl _ _ | assumption | refine Below.setCell ?_ (by (first | omega | (simp <;> omega))) _ | refine below_drewN ?_ _ | refine Below.drew ?_ | refine Below.alloc ?_ (by (first | omega | (simp <;> omega))) _ | (refine after (h1 := by assumption) ?_ ?_; rotate_left; (first | omega | (simp <;> omega)))))
    · omega
    rintro e w5 ⟨rfl, hb5⟩
    go_wp2
    go_ret
    exact ⟨rfl, (by repeat (first | exact Below.refl _ _ | assumption | refine Below.setCell ?_ (by (first | omega | (simp <;> omega))) _ | refine below_drewN ?_ _ | refine Below.drew ?_ | refine Below.alloc ?_ (by (first | omega | (simp <;> omega))) _ | (refine after (h1 := by assumption) ?_ ?_; rotate_left; (first | omega | (simp <;> omega)))))⟩
  · have z1 : (W % (1 + D0) != 0) = true := by simp [hz]
    by_cases hs : a + b = W
    · have z2 : (a + b == W) = true := by simp [hs]
      clear p15 p16 hz hs
      go_enter Tryd.func3, Tryd.ntmps3
      go_wp2_with fail
      refine (A1.out _).mono ?_
      rintro e w1 ⟨rfl, rfl⟩
      go_wp2_with fail
      refine (A2.out _).mono ?_
      rintro e w1 ⟨rfl, rfl⟩
      go_wp2_with fail
      refine (N1.out _).mono ?_
      rintro e w1 ⟨rfl, hb1⟩
      obtain ⟨hc1, hf1, hz1⟩ := bcell hb1; (try simp at hz1); (try have hw1_0 : w.heap.size < w1.heap.size := by omega); (try have hw1_1 : w.heap.size + 1 < w1.heap.size := by omega); (try have hw1_2 : w.heap.size + 1 + 1 < w1.heap.size := by omega); (try have hw1_3 : w.heap.size + 1 + 1 + 1 < w1.heap.size := by omega); (try have hw1_4 : w.heap.size + 1 + 1 + 1 + 1 < w1.heap.size := by omega); (try have hw1_5 : w.heap.size + 1 + 1 + 1 + 1 + 1 < w1.heap.size := by omega)
      go_wp2_with fail
      refine (S1.out _).mono ?_
      rintro e w2 ⟨rfl, hb2⟩
      obtain ⟨hc2, hf2, hz2⟩ := bcell hb2; (try simp at hz2); (try have hw2_0 : w.heap.size < w2.heap.size := by omega); (try have hw2_1 : w.heap.size + 1 < w2.heap.size := by omega); (try have hw2_2 : w.heap.size + 1 + 1 < w2.heap.size := by omega); (try have hw2_3 : w.heap.size + 1 + 1 + 1 < w2.heap.size := by omega); (try have hw2_4 : w.heap.size + 1 + 1 + 1 + 1 < w2.heap.size := by omega); (try have hw2_5 : w.heap.size + 1 + 1 + 1 + 1 + 1 < w2.heap.size := by omega); (try have hv2_1_0 : w1.heap.size < w2.heap.size := by omega); (try have hv2_1_1 : w1.heap.size + 1 < w2.heap.size := by omega); (try have hv2_1_2 : w1.heap.size + 1 + 1 < w2.heap.size := by omega)
      go_wp2_with fail
      refine (A3.out _).mono ?_
      rintro e w' ⟨rfl, rfl⟩
      go_wp2_with fail
      refine (P1.out _).mono ?_
      rintro e w3 ⟨rfl, hb3⟩
      obtain ⟨hc3, hf3, hz3⟩ := bcell hb3; (try simp at hz3); (try have hw3_0 : w.heap.size < w3.heap.size := by omega); (try have hw3_1 : w.heap.size + 1 < w3.heap.size := by omega); (try have hw3_2 : w.heap.size + 1 + 1 < w3.heap.size := by omega); (try have hw3_3 : w.heap.size + 1 + 1 + 1 < w3.heap.size := by omega); (try have hw3_4 : w.heap.size + 1 + 1 + 1 + 1 < w3.heap.size := by omega); (try have hw3_5 : w.heap.size + 1 + 1 + 1 + 1 + 1 < w3.heap.size := by omega); (try have hv3_1_0 : w1.heap.size < w3.heap.size := by omega); (try have hv3_1_1 : w1.heap.size + 1 < w3.heap.size := by omega); (try have hv3_1_2 : w1.heap.size + 1 + 1 < w3.heap.size := by omega); (try have hv3_2_0 : w2.heap.size < w3.heap.size := by omega); (try have hv3_2_1 : w2.heap.size + 1 < w3.heap.size := by omega); (try have hv3_2_2 : w2.heap.size + 1 + 1 < w3.heap.size := by omega)
      go_wp2_with fail
      refine (P2.out _).mono ?_
      rintro e w4 ⟨rfl, hb4⟩
      obtain ⟨hc4, hf4, hz4⟩ := bcell hb4; (try simp at hz4); (try have hw4_0 : w.heap.size < w4.heap.size := by omega); (try have hw4_1 : w.heap.size + 1 < w4.heap.size := by omega); (try have hw4_2 : w.heap.size + 1 + 1 < w4.heap.size := by omega); (try have hw4_3 : w.heap.size + 1 + 1 + 1 < w4.heap.size := by omega); (try have hw4_4 : w.heap.size + 1 + 1 + 1 + 1 < w4.heap.size := by omega); (try have hw4_5 : w.heap.size + 1 + 1 + 1 + 1 + 1 < w4.heap.size := by omega); (try have hv4_1_0 : w1.heap.size < w4.heap.size := by omega); (try have hv4_1_1 : w1.heap.size + 1 < w4.heap.size := by omega); (try have hv4_1_2 : w1.heap.size + 1 + 1 < w4.heap.size := by omega); (try have hv4_2_0 : w2.heap.size < w4.heap.size := by omega); (try have hv4_2_1 : w2.heap.size + 1 < w4.heap.size := by omega); (try have hv4_2_2 : w2.heap.size + 1 + 1 < w4.heap.size := by omega); (try have hv4_3_0 : w3.heap.size < w4.heap.size := by omega); (try have hv4_3_1 : w3.heap.size + 1 < w4.heap.size := by omega); (try have hv4_3_2 : w3.heap.size + 1 + 1 < w4.heap.size := by omega)
      go_wp2_with fail
      refine (L.out _ ?_ ?_).mono ?_
      · refine (Below.cell (B := w.heap.size) (w := w) ?_ (p := ⟨0, 0, none⟩) hw).trans hm
        exact (by repeat (first | exact Below.refl _ _ | assumption | refine Below.setCell ?_ (by (first | omega | (simp <;> omega))) _ | refine below_drewN ?_ _ | refine Below.drew ?_ | refine Below.alloc ?_ (by (first | omega | (simp <;> omega))) _ | (refine after (h1 := by assumption) ?_ ?_; rotate_left; (first | omega | (simp <;> omega)))))
      · omega
      rintro e w5 ⟨rfl, hb5⟩
      go_wp2
      go_ret
      exact ⟨rfl, (by repeat (first | exact Below.refl _ _ | assumption | refine Below.setCell ?_ (by (first | omega | (simp <;> omega))) _ | refine below_drewN ?_ _ | refine Below.drew ?_ | refine Below.alloc ?_ (by (first | omega | (simp <;> omega))) _ | (refine after (h1 := by assumption) ?_ ?_; rotate_left; (first | omega | (simp <;> omega)))))⟩
    · have z2 : (a + b == W) = false := by simp [hs]
      have z3 : (a + b == W - 1) = true := by simp; omega
      clear p15 p16 hz hs
      go_enter Tryd.func3, Tryd.ntmps3
      go_wp2_with fail
      refine (A1.out _).mono ?_
      rintro e w1 ⟨rfl, rfl⟩
      go_wp2_with fail
      refine (A2.out _).mono ?_
      rintro e w1 ⟨rfl, rfl⟩
      go_wp2_with fail
      refine (N1.out _).mono ?_
      rintro e w1 ⟨rfl, hb1⟩
      obtain ⟨hc1, hf1, hz1⟩ := bcell hb1; (try simp at hz1); (try have hw1_0 : w.heap.size < w1.heap.size := by omega); (try have hw1_1 : w.heap.size + 1 < w1.heap.size := by omega); (try have hw1_2 : w.heap.size + 1 + 1 < w1.heap.size := by omega); (try have hw1_3 : w.heap.size + 1 + 1 + 1 < w1.heap.size := by omega); (try have hw1_4 : w.heap.size + 1 + 1 + 1 + 1 < w1.heap.size := by omega); (try have hw1_5 : w.heap.size + 1 + 1 + 1 + 1 + 1 < w1.heap.size := by omega)
      go_wp2_with fail
      refine (S1.out _).mono ?_
      rintro e w2 ⟨rfl, hb2⟩
      obtain ⟨hc2, hf2, hz2⟩ := bcell hb2; (try simp at hz2); (try have hw2_0 : w.heap.size < w2.heap.size := by omega); (try have hw2_1 : w.heap.size + 1 < w2.heap.size := by omega); (try have hw2_2 : w.heap.size + 1 + 1 < w2.heap.size := by omega); (try have hw2_3 : w.heap.size + 1 + 1 + 1 < w2.heap.size := by omega); (try have hw2_4 : w.heap.size + 1 + 1 + 1 + 1 < w2.heap.size := by omega); (try have hw2_5 : w.heap.size + 1 + 1 + 1 + 1 + 1 < w2.heap.size := by omega); (try have hv2_1_0 : w1.heap.size < w2.heap.size := by omega); (try have hv2_1_1 : w1.heap.size + 1 < w2.heap.size := by omega); (try have hv2_1_2 : w1.heap.size + 1 + 1 < w2.heap.size := by omega)
      go_wp2_with fail
      refine (A3.out _).mono ?_
      rintro e w' ⟨rfl, rfl⟩
      go_wp2_with fail
      refine (P1.out _).mono ?_
      rintro e w3 ⟨rfl, hb3⟩
      obtain ⟨hc3, hf3, hz3⟩ := bcell hb3; (try simp at hz3); (try have hw3_0 : w.heap.size < w3.heap.size := by omega); (try have hw3_1 : w.heap.size + 1 < w3.heap.size := by omega); (try have hw3_2 : w.heap.size + 1 + 1 < w3.heap.size := by omega); (try have hw3_3 : w.heap.size + 1 + 1 + 1 < w3.heap.size := by omega); (try have hw3_4 : w.heap.size + 1 + 1 + 1 + 1 < w3.heap.size := by omega); (try have hw3_5 : w.heap.size + 1 + 1 + 1 + 1 + 1 < w3.heap.size := by omega); (try have hv3_1_0 : w1.heap.size < w3.heap.size := by omega); (try have hv3_1_1 : w1.heap.size + 1 < w3.heap.size := by omega); (try have hv3_1_2 : w1.heap.size + 1 + 1 < w3.heap.size := by omega); (try have hv3_2_0 : w2.heap.size < w3.heap.size := by omega); (try have hv3_2_1 : w2.heap.size + 1 < w3.heap.size := by omega); (try have hv3_2_2 : w2.heap.size + 1 + 1 < w3.heap.size := by omega)
      go_wp2_with fail
      refine (P2.out _).mono ?_
      rintro e w4 ⟨rfl, hb4⟩
      obtain ⟨hc4, hf4, hz4⟩ := bcell hb4; (try simp at hz4); (try have hw4_0 : w.heap.size < w4.heap.size := by omega); (try have hw4_1 : w.heap.size + 1 < w4.heap.size := by omega); (try have hw4_2 : w.heap.size + 1 + 1 < w4.heap.size := by omega); (try have hw4_3 : w.heap.size + 1 + 1 + 1 < w4.heap.size := by omega); (try have hw4_4 : w.heap.size + 1 + 1 + 1 + 1 < w4.heap.size := by omega); (try have hw4_5 : w.heap.size + 1 + 1 + 1 + 1 + 1 < w4.heap.size := by omega); (try have hv4_1_0 : w1.heap.size < w4.heap.size := by omega); (try have hv4_1_1 : w1.heap.size + 1 < w4.heap.size := by omega); (try have hv4_1_2 : w1.heap.size + 1 + 1 < w4.heap.size := by omega); (try have hv4_2_0 : w2.heap.size < w4.heap.size := by omega); (try have hv4_2_1 : w2.heap.size + 1 < w4.heap.size := by omega); (try have hv4_2_2 : w2.heap.size + 1 + 1 < w4.heap.size := by omega); (try have hv4_3_0 : w3.heap.size < w4.heap.size := by omega); (try have hv4_3_1 : w3.heap.size + 1 < w4.heap.size := by omega); (try have hv4_3_2 : w3.heap.size + 1 + 1 < w4.heap.size := by omega)
      go_wp2_with fail
      refine (L.out _ ?_ ?_).mono ?_
      · refine (Below.cell (B := w.heap.size) (w := w) ?_ (p := ⟨0, 0, none⟩) hw).trans hm
        exact (by repeat (first | exact Below.refl _ _ | assumption | refine Below.setCell ?_ (by (first | omega | (simp <;> omega))) _ | refine below_drewN ?_ _ | refine Below.drew ?_ | refine Below.alloc ?_ (by (first | omega | (simp <;> omega))) _ | (refine after (h1 := by assumption) ?_ ?_; rotate_left; (first | omega | (simp <;> omega)))))
      · omega
      rintro e w5 ⟨rfl, hb5⟩
      go_wp2
      go_ret
      exact ⟨rfl, (by repeat (first | exact Below.refl _ _ | assumption | refine Below.setCell ?_ (by (first | omega | (simp <;> omega))) _ | refine below_drewN ?_ _ | refine Below.drew ?_ | refine Below.alloc ?_ (by (first | omega | (simp <;> omega))) _ | (refine after (h1 := by assumption) ?_ ?_; rotate_left; (first | omega | (simp <;> omega)))))⟩
end Go.Proofs.YtjcdjmjebbllkaaDoor
