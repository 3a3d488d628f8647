/- The walk of RatioField. -/
import Derived.Test.YtjcdjmjebbllkaaDoorBoxes
import Derived.Test.YtjcdjmjebbllkaaDoorFieldL
import Derived.Test.YtjcdjmjebbllkaaDoorLives
namespace Go.Proofs.YtjcdjmjebbllkaaDoor
open Go.RowKit
attribute [local go_sem] le_add_one'
attribute [local go_sem ↓] Go.wp_at_zero Go.wp_at_succ

theorem gen_small (n m : Int) : arN (4 * arN m 9) 1048576 = 4 * arN m 9 ∧ 0 ≤ 4 * arN m 9 ∧ 4 * arN m 9 ≤ 32 ∧ (genN n (4 * arN m 9)).natAbs ≤ 30 ∧ (genD n (4 * arN m 9)).natAbs ≤ 12 := by
  have r1 := arN_nonneg m 9 (by decide)
  have r2 := arN_lt m 9 (by decide)
  have a3 := arN_nonneg n (2 * 30 + 1) (by decide)
  have a4 := arN_lt n (2 * 30 + 1) (by decide)
  generalize arN m 9 = r at *
  have e : arN (4 * r) 1048576 = 4 * r := by unfold arN; rw [if_neg (by omega)]; omega
  have s := new_small (genA n (4 * r)) (genB n (4 * r))
  have gA : -30 ≤ genA n (4 * r) ∧ genA n (4 * r) ≤ 30 := by
    unfold genA; rw [e, if_neg (by omega)]; omega
  have gB : 1 ≤ genB n (4 * r) ∧ genB n (4 * r) ≤ 12 := by
    unfold genB; rw [e, if_neg (by omega)]; omega
  unfold genN genD
  exact ⟨e, by omega, by omega, by omega, by omega⟩

theorem int_of_val {a b : Int} (h : valE a b = 0) : (-9223372036854775808 ≤ a ∧ a ≤ 9223372036854775807) ∧ (-9223372036854775808 ≤ b ∧ b ≤ 9223372036854775807) := by
  obtain ⟨h1, h2, h3, h4, _⟩ := valE_ok h
  omega

theorem add_is {a b c d n e : Int} (h : AddIs a b c d n e) (v1 : valE a b = 0) (v2 : valE c d = 0) (w : World) :
    Calls Tryd.prog 34 #[rat a b, rat c d] w fun r w' => r = .returned (.tuple #[rat n e, .int .i64 0]) ∧ Below w.heap.size w w' := by
  obtain ⟨⟨i1, i2⟩, i3, i4⟩ := int_of_val v1
  obtain ⟨⟨j1, j2⟩, j3, j4⟩ := int_of_val v2
  have := add_any a b c d w i1 i2 i3 i4 j1 j2 j3 j4
  rw [h.1, h.2.1, h.2.2] at this; exact this
theorem sub_is {a b c d n e : Int} (h : SubIs a b c d n e) (v1 : valE a b = 0) (v2 : valE c d = 0) (w : World) :
    Calls Tryd.prog 11 #[rat a b, rat c d] w fun r w' => r = .returned (.tuple #[rat n e, .int .i64 0]) ∧ Below w.heap.size w w' := by
  obtain ⟨⟨i1, i2⟩, i3, i4⟩ := int_of_val v1
  obtain ⟨⟨j1, j2⟩, j3, j4⟩ := int_of_val v2
  have := sub_any a b c d w i1 i2 i3 i4 j1 j2 j3 j4
  rw [h.1, h.2.1, h.2.2] at this; exact this
theorem mul_is {a b c d n e : Int} (h : MulIs a b c d n e) (v1 : valE a b = 0) (v2 : valE c d = 0) (w : World) :
    Calls Tryd.prog 36 #[rat a b, rat c d] w fun r w' => r = .returned (.tuple #[rat n e, .int .i64 0]) ∧ Below w.heap.size w w' := by
  obtain ⟨⟨i1, i2⟩, i3, i4⟩ := int_of_val v1
  obtain ⟨⟨j1, j2⟩, j3, j4⟩ := int_of_val v2
  have := Mul_any a b c d w i1 i2 i3 i4 j1 j2 j3 j4
  rw [h.1, h.2.1, h.2.2] at this; exact this
theorem div_is {a b c d : Int} (v1 : valE a b = 0) (v2 : valE c d = 0) (w : World) :
    Calls Tryd.prog 38 #[rat a b, rat c d] w fun r w' => r = .returned (.tuple #[rat (divN a b c d) (divD a b c d), .int .i64 (divE a b c d)]) ∧ Below w.heap.size w w' := by
  obtain ⟨⟨i1, i2⟩, i3, i4⟩ := int_of_val v1
  obtain ⟨⟨j1, j2⟩, j3, j4⟩ := int_of_val v2
  exact Div_any a b c d w i1 i2 i3 i4 j1 j2 j3 j4
theorem cmp_val {a b c d x : Int} (h : CmpIs a b c d x) (v1 : valE a b = 0) (v2 : valE c d = 0) (w : World) :
    Calls Tryd.prog 19 #[rat a b, rat c d] w fun r w' => r = .returned (.tuple #[.int .i64 x, .int .i64 0]) ∧ Below w.heap.size w w' := by
  obtain ⟨⟨i1, i2⟩, i3, i4⟩ := int_of_val v1
  obtain ⟨⟨j1, j2⟩, j3, j4⟩ := int_of_val v2
  have := Cmp_any a b c d w i1 i2 i3 i4 j1 j2 j3 j4
  rw [h.1, h.2] at this; exact this

set_option maxHeartbeats 4000000 in
set_option maxRecDepth 100000 in
theorem field_walk (n m k j p q : Int) (c : Int) (w : World) (hm : w.cell? ⟨0, 0, none⟩ = some (.int .i64 c)) (hw : 0 < w.heap.size)
    (hn0 : -9223372036854775808 ≤ n) (hn1 : n ≤ 9223372036854775807) (hm0 : -9223372036854775808 ≤ m) (hm1 : m ≤ 9223372036854775807) (hk0 : -9223372036854775808 ≤ k) (hk1 : k ≤ 9223372036854775807) (hj0 : -9223372036854775808 ≤ j) (hj1 : j ≤ 9223372036854775807) (hp0 : -9223372036854775808 ≤ p) (hp1 : p ≤ 9223372036854775807) (hq0 : -9223372036854775808 ≤ q) (hq1 : q ≤ 9223372036854775807) :
    Calls Tryd.prog 8 #[.int .i64 n, .int .i64 m, .int .i64 k, .int .i64 j, .int .i64 p, .int .i64 q] w fun e w' => e = .returned (.bool true) ∧ Below w.heap.size w w' := by
  obtain ⟨-, g1, g2, g3, g4⟩ := gen_small n m
  have R0 := Lib.hid (fun w => around_any m 9 w hm0 hm1 (by decide) (by decide))
  have G0 := Lib.hid (fun w => gen_any n (4 * arN m 9) w hn0 hn1 (by omega) (by omega))
  have v0 := gen_val n (4 * arN m 9)
  have wr0 : IntKind.i64.wrap (4 * arN m 9) = 4 * arN m 9 := IntWalk.i64_in _ (by omega)
  have k0 := And.intro g3 g4
  clear g1 g2 g3 g4
  generalize genN n (4 * arN m 9) = A at *
  generalize genD n (4 * arN m 9) = E at *
  generalize arN m 9 = r0 at *
  obtain ⟨-, g1, g2, g3, g4⟩ := gen_small k j
  have R1 := Lib.hid (fun w => around_any j 9 w hj0 hj1 (by decide) (by decide))
  have G1 := Lib.hid (fun w => gen_any k (4 * arN j 9) w hk0 hk1 (by omega) (by omega))
  have v1 := gen_val k (4 * arN j 9)
  have wr1 : IntKind.i64.wrap (4 * arN j 9) = 4 * arN j 9 := IntWalk.i64_in _ (by omega)
  have k1 := And.intro g3 g4
  clear g1 g2 g3 g4
  generalize genN k (4 * arN j 9) = B at *
  generalize genD k (4 * arN j 9) = F at *
  generalize arN j 9 = r1 at *
  obtain ⟨-, g1, g2, g3, g4⟩ := gen_small p q
  have R2 := Lib.hid (fun w => around_any q 9 w hq0 hq1 (by decide) (by decide))
  have G2 := Lib.hid (fun w => gen_any p (4 * arN q 9) w hp0 hp1 (by omega) (by omega))
  have v2 := gen_val p (4 * arN q 9)
  have wr2 : IntKind.i64.wrap (4 * arN q 9) = 4 * arN q 9 := IntWalk.i64_in _ (by omega)
  have k2 := And.intro g3 g4
  clear g1 g2 g3 g4
  generalize genN p (4 * arN q 9) = C at *
  generalize genD p (4 * arN q 9) = G at *
  generalize arN q 9 = r2 at *
  obtain ⟨s1, s2, t1, t2, l1, l2, p1, p2, q1, q2, m1, m2, y1, y2, o1, o2, h1, h2, x, z, ⟨vs, vt, vl, vp, vq, vm, vy, vo, vh⟩, ⟨c4, c5, c6, c7, c8, c9⟩, ⟨c12, c13, c14, c15, c16, c17, c18, c19⟩, ⟨c22, c22'⟩, ⟨c28, c29, c30, c32, c33, c34⟩, hx0, hx1, hx2⟩ := field_law v0 v1 v2 k0.1 k0.2 k1.1 k1.2 k2.1 k2.2
  have vz : valE 0 1 = 0 := by decide
  have C4 := Lib.hid (fun w => add_is c4 v0 v1 w)
  have C5 := Lib.hid (fun w => add_is c5 v1 v0 w)
  have C6 := Lib.hid (fun w => add_is c6 v1 v2 w)
  have C7 := Lib.hid (fun w => add_is c7 vs v2 w)
  have C8 := Lib.hid (fun w => add_is c8 v0 vt w)
  have C9 := Lib.hid (fun w => sub_is c9 vs v1 w)
  have C12 := Lib.hid (fun w => mul_is c12 v0 v1 w)
  have C13 := Lib.hid (fun w => mul_is c13 v1 v0 w)
  have C14 := Lib.hid (fun w => mul_is c14 v0 v2 w)
  have C15 := Lib.hid (fun w => add_is c15 vp vq w)
  have C16 := Lib.hid (fun w => mul_is c16 v0 vt w)
  have C17 := Lib.hid (fun w => mul_is c17 v1 v2 w)
  have C18 := Lib.hid (fun w => mul_is c18 vp v2 w)
  have C19 := Lib.hid (fun w => mul_is c19 v0 vy w)
  have C22 := Lib.hid (fun w => div_is vp v1 w)
  have C28 := Lib.hid (fun w => cmp_val c28 v0 v1 w)
  have C29 := Lib.hid (fun w => cmp_val c29 v1 v0 w)
  have C30 := Lib.hid (fun w => cmp_val c30 vl vt w)
  have C32 := Lib.hid (fun w => cmp_val c32 v0 vz w)
  have C33 := Lib.hid (fun w => add_is c33 v0 v2 w)
  have C34 := Lib.hid (fun w => cmp_val c34 vh vt w)
  have HX := Lib.hid hx0
  have D1 := Lib.hid c22
  have D2 : Hid (B ≠ 0 → divN p1 p2 B F = A ∧ divD p1 p2 B F = E ∧ divE p1 p2 B F = 0) := Lib.hid c22'
  have wx : IntKind.i64.wrap x = x := IntWalk.i64_in _ (by omega)
  generalize divN p1 p2 B F = d1 at *
  generalize divD p1 p2 B F = d2 at *
  generalize divE p1 p2 B F = d3 at *
  clear c4 c5 c6 c7 c8 c9 c12 c13 c14 c15 c16 c17 c18 c19 c22 c22' c28 c29 c30 c32 c33 c34 hx0 vs vt vl vp vq vm vy vo vh vz v0 v1 v2 k0 k1 k2
  go_enter Tryd.func8, Tryd.ntmps8
  go_upto_region 2 with (first | (go_at_call 9; refine (R0.out _).mono ?_; rintro e w' ⟨rfl, rfl⟩) | (go_at_call 14; refine (G0.out _).mono ?_; rintro e w' ⟨rfl, hb⟩))
  have hk := below_alloc hb (Nat.le_refl _) (Obj.cells #[.int .i64 A, .int .i64 E] 24)
  have HB := hk
  have T13 := box_alloc w' A E 24
  clear hk hb G0
  generalize (w'.alloc (Obj.cells #[.int .i64 A, .int .i64 E] 24)) = V1 at *
  generalize w'.heap.size = g1 at *
  clear R0 wr0
  go_upto_region 3 with (first | (go_at_call 9; refine (R1.out _).mono ?_; rintro e w' ⟨rfl, rfl⟩) | (go_at_call 14; refine (G1.out _).mono ?_; rintro e w' ⟨rfl, hb⟩))
  have hk := below_alloc hb (Nat.le_refl _) (Obj.cells #[.int .i64 B, .int .i64 F] 24)
  replace HB := HB.trans (hk.mono HB.size)
  replace T13 := T13.keep hk
  have T14 := box_alloc w' B F 24
  clear hk hb G1
  generalize (w'.alloc (Obj.cells #[.int .i64 B, .int .i64 F] 24)) = V2 at *
  generalize w'.heap.size = g2 at *
  clear R1 wr1
  go_upto_region 4 with (first | (go_at_call 9; refine (R2.out _).mono ?_; rintro e w' ⟨rfl, rfl⟩) | (go_at_call 14; refine (G2.out _).mono ?_; rintro e w' ⟨rfl, hb⟩))
  have hk := below_alloc hb (Nat.le_refl _) (Obj.cells #[.int .i64 C, .int .i64 G] 24)
  replace HB := HB.trans (hk.mono HB.size)
  replace T13 := T13.keep hk
  replace T14 := T14.keep hk
  have T15 := box_alloc w' C G 24
  clear hk hb G2
  generalize (w'.alloc (Obj.cells #[.int .i64 C, .int .i64 G] 24)) = V3 at *
  generalize w'.heap.size = g3 at *
  clear R2 wr2
  obtain ⟨f1_0, f1_1, f1_2, f1_3, f1_4⟩ := id T13
  obtain ⟨f2_0, f2_1, f2_2, f2_3, f2_4⟩ := id T14
  go_upto_region 5 with (first | (go_at_call 34; refine (C4.out _).mono ?_; rintro e w' ⟨rfl, hb⟩))
  clear f1_0 f1_1 f1_2 f1_3 f1_4 f2_0 f2_1 f2_2 f2_3 f2_4
  have hk := below_alloc hb (Nat.le_refl _) (Obj.cells #[.int .i64 s1, .int .i64 s2] 24)
  replace HB := HB.trans (hk.mono HB.size)
  replace T13 := T13.keep hk
  replace T14 := T14.keep hk
  replace T15 := T15.keep hk
  have T16 := box_alloc w' s1 s2 24
  clear hk hb C4
  generalize (w'.alloc (Obj.cells #[.int .i64 s1, .int .i64 s2] 24)) = V4 at *
  generalize w'.heap.size = g4 at *
  obtain ⟨f3_0, f3_1, f3_2, f3_3, f3_4⟩ := id T14
  obtain ⟨f4_0, f4_1, f4_2, f4_3, f4_4⟩ := id T13
  go_upto_region 6 with (first | (go_at_call 34; refine (C5.out _).mono ?_; rintro e w' ⟨rfl, hb⟩))
  clear f3_0 f3_1 f3_2 f3_3 f3_4 f4_0 f4_1 f4_2 f4_3 f4_4
  have hk := below_alloc hb (Nat.le_refl _) (Obj.cells #[.int .i64 s1, .int .i64 s2] 24)
  replace HB := HB.trans (hk.mono HB.size)
  replace T13 := T13.keep hk
  replace T14 := T14.keep hk
  replace T15 := T15.keep hk
  replace T16 := T16.keep hk
  have T18 := box_alloc w' s1 s2 24
  clear hk hb C5
  generalize (w'.alloc (Obj.cells #[.int .i64 s1, .int .i64 s2] 24)) = V5 at *
  generalize w'.heap.size = g5 at *
  obtain ⟨f5_0, f5_1, f5_2, f5_3, f5_4⟩ := id T14
  obtain ⟨f6_0, f6_1, f6_2, f6_3, f6_4⟩ := id T15
  go_upto_region 7 with (first | (go_at_call 34; refine (C6.out _).mono ?_; rintro e w' ⟨rfl, hb⟩))
  clear f5_0 f5_1 f5_2 f5_3 f5_4 f6_0 f6_1 f6_2 f6_3 f6_4
  have hk := below_alloc hb (Nat.le_refl _) (Obj.cells #[.int .i64 t1, .int .i64 t2] 24)
  replace HB := HB.trans (hk.mono HB.size)
  replace T13 := T13.keep hk
  replace T14 := T14.keep hk
  replace T15 := T15.keep hk
  replace T16 := T16.keep hk
  replace T18 := T18.keep hk
  have T20 := box_alloc w' t1 t2 24
  clear hk hb C6
  generalize (w'.alloc (Obj.cells #[.int .i64 t1, .int .i64 t2] 24)) = V6 at *
  generalize w'.heap.size = g6 at *
  obtain ⟨f7_0, f7_1, f7_2, f7_3, f7_4⟩ := id T16
  obtain ⟨f8_0, f8_1, f8_2, f8_3, f8_4⟩ := id T15
  go_upto_region 8 with (first | (go_at_call 34; refine (C7.out _).mono ?_; rintro e w' ⟨rfl, hb⟩))
  clear f7_0 f7_1 f7_2 f7_3 f7_4 f8_0 f8_1 f8_2 f8_3 f8_4
  have hk := below_alloc hb (Nat.le_refl _) (Obj.cells #[.int .i64 l1, .int .i64 l2] 24)
  replace HB := HB.trans (hk.mono HB.size)
  replace T13 := T13.keep hk
  replace T14 := T14.keep hk
  replace T15 := T15.keep hk
  replace T16 := T16.keep hk
  replace T18 := T18.keep hk
  replace T20 := T20.keep hk
  have T22 := box_alloc w' l1 l2 24
  clear hk hb C7
  generalize (w'.alloc (Obj.cells #[.int .i64 l1, .int .i64 l2] 24)) = V7 at *
  generalize w'.heap.size = g7 at *
  obtain ⟨f9_0, f9_1, f9_2, f9_3, f9_4⟩ := id T13
  obtain ⟨f10_0, f10_1, f10_2, f10_3, f10_4⟩ := id T20
  go_upto_region 9 with (first | (go_at_call 34; refine (C8.out _).mono ?_; rintro e w' ⟨rfl, hb⟩))
  clear f9_0 f9_1 f9_2 f9_3 f9_4 f10_0 f10_1 f10_2 f10_3 f10_4
  have hk := below_alloc hb (Nat.le_refl _) (Obj.cells #[.int .i64 l1, .int .i64 l2] 24)
  replace HB := HB.trans (hk.mono HB.size)
  replace T13 := T13.keep hk
  replace T14 := T14.keep hk
  replace T15 := T15.keep hk
  replace T16 := T16.keep hk
  replace T18 := T18.keep hk
  replace T20 := T20.keep hk
  replace T22 := T22.keep hk
  have T24 := box_alloc w' l1 l2 24
  clear hk hb C8
  generalize (w'.alloc (Obj.cells #[.int .i64 l1, .int .i64 l2] 24)) = V8 at *
  generalize w'.heap.size = g8 at *
  obtain ⟨f11_0, f11_1, f11_2, f11_3, f11_4⟩ := id T16
  obtain ⟨f12_0, f12_1, f12_2, f12_3, f12_4⟩ := id T14
  go_upto_region 10 with (first | (go_at_call 11; refine (C9.out _).mono ?_; rintro e w' ⟨rfl, hb⟩))
  clear f11_0 f11_1 f11_2 f11_3 f11_4 f12_0 f12_1 f12_2 f12_3 f12_4
  have hk := below_alloc hb (Nat.le_refl _) (Obj.cells #[.int .i64 A, .int .i64 E] 24)
  replace HB := HB.trans (hk.mono HB.size)
  replace T13 := T13.keep hk
  replace T14 := T14.keep hk
  replace T15 := T15.keep hk
  replace T16 := T16.keep hk
  replace T18 := T18.keep hk
  replace T20 := T20.keep hk
  replace T22 := T22.keep hk
  replace T24 := T24.keep hk
  have T26 := box_alloc w' A E 24
  clear hk hb C9
  generalize (w'.alloc (Obj.cells #[.int .i64 A, .int .i64 E] 24)) = V9 at *
  generalize w'.heap.size = g9 at *
  obtain ⟨f13_0, f13_1, f13_2, f13_3, f13_4⟩ := id T16
  obtain ⟨f14_0, f14_1, f14_2, f14_3, f14_4⟩ := id T18
  obtain ⟨f15_0, f15_1, f15_2, f15_3, f15_4⟩ := id T22
  obtain ⟨f16_0, f16_1, f16_2, f16_3, f16_4⟩ := id T24
  obtain ⟨f17_0, f17_1, f17_2, f17_3, f17_4⟩ := id T26
  obtain ⟨f18_0, f18_1, f18_2, f18_3, f18_4⟩ := id T13
  go_upto_region 12 with fail
  clear f13_0 f13_1 f13_2 f13_3 f13_4 f14_0 f14_1 f14_2 f14_3 f14_4 f15_0 f15_1 f15_2 f15_3 f15_4 f16_0 f16_1 f16_2 f16_3 f16_4 f17_0 f17_1 f17_2 f17_3 f17_4 f18_0 f18_1 f18_2 f18_3 f18_4
  clear T16 T18 T24 T26
  obtain ⟨f19_0, f19_1, f19_2, f19_3, f19_4⟩ := id T13
  obtain ⟨f20_0, f20_1, f20_2, f20_3, f20_4⟩ := id T14
  go_upto_region 13 with (first | (go_at_call 36; refine (C12.out _).mono ?_; rintro e w' ⟨rfl, hb⟩))
  clear f19_0 f19_1 f19_2 f19_3 f19_4 f20_0 f20_1 f20_2 f20_3 f20_4
  have hk := below_alloc hb (Nat.le_refl _) (Obj.cells #[.int .i64 p1, .int .i64 p2] 24)
  replace HB := HB.trans (hk.mono HB.size)
  replace T13 := T13.keep hk
  replace T14 := T14.keep hk
  replace T15 := T15.keep hk
  replace T20 := T20.keep hk
  replace T22 := T22.keep hk
  have T28 := box_alloc w' p1 p2 24
  clear hk hb C12
  generalize (w'.alloc (Obj.cells #[.int .i64 p1, .int .i64 p2] 24)) = V12 at *
  generalize w'.heap.size = g12 at *
  obtain ⟨f21_0, f21_1, f21_2, f21_3, f21_4⟩ := id T14
  obtain ⟨f22_0, f22_1, f22_2, f22_3, f22_4⟩ := id T13
  go_upto_region 14 with (first | (go_at_call 36; refine (C13.out _).mono ?_; rintro e w' ⟨rfl, hb⟩))
  clear f21_0 f21_1 f21_2 f21_3 f21_4 f22_0 f22_1 f22_2 f22_3 f22_4
  have hk := below_alloc hb (Nat.le_refl _) (Obj.cells #[.int .i64 p1, .int .i64 p2] 24)
  replace HB := HB.trans (hk.mono HB.size)
  replace T13 := T13.keep hk
  replace T14 := T14.keep hk
  replace T15 := T15.keep hk
  replace T20 := T20.keep hk
  replace T22 := T22.keep hk
  replace T28 := T28.keep hk
  have T29 := box_alloc w' p1 p2 24
  clear hk hb C13
  generalize (w'.alloc (Obj.cells #[.int .i64 p1, .int .i64 p2] 24)) = V13 at *
  generalize w'.heap.size = g13 at *
  obtain ⟨f23_0, f23_1, f23_2, f23_3, f23_4⟩ := id T13
  obtain ⟨f24_0, f24_1, f24_2, f24_3, f24_4⟩ := id T15
  go_upto_region 15 with (first | (go_at_call 36; refine (C14.out _).mono ?_; rintro e w' ⟨rfl, hb⟩))
  clear f23_0 f23_1 f23_2 f23_3 f23_4 f24_0 f24_1 f24_2 f24_3 f24_4
  have hk := below_alloc hb (Nat.le_refl _) (Obj.cells #[.int .i64 q1, .int .i64 q2] 24)
  replace HB := HB.trans (hk.mono HB.size)
  replace T13 := T13.keep hk
  replace T14 := T14.keep hk
  replace T15 := T15.keep hk
  replace T20 := T20.keep hk
  replace T22 := T22.keep hk
  replace T28 := T28.keep hk
  replace T29 := T29.keep hk
  have T30 := box_alloc w' q1 q2 24
  clear hk hb C14
  generalize (w'.alloc (Obj.cells #[.int .i64 q1, .int .i64 q2] 24)) = V14 at *
  generalize w'.heap.size = g14 at *
  obtain ⟨f25_0, f25_1, f25_2, f25_3, f25_4⟩ := id T28
  obtain ⟨f26_0, f26_1, f26_2, f26_3, f26_4⟩ := id T30
  go_upto_region 16 with (first | (go_at_call 34; refine (C15.out _).mono ?_; rintro e w' ⟨rfl, hb⟩))
  clear f25_0 f25_1 f25_2 f25_3 f25_4 f26_0 f26_1 f26_2 f26_3 f26_4
  have hk := below_alloc hb (Nat.le_refl _) (Obj.cells #[.int .i64 m1, .int .i64 m2] 24)
  replace HB := HB.trans (hk.mono HB.size)
  replace T13 := T13.keep hk
  replace T14 := T14.keep hk
  replace T15 := T15.keep hk
  replace T20 := T20.keep hk
  replace T22 := T22.keep hk
  replace T28 := T28.keep hk
  replace T29 := T29.keep hk
  replace T30 := T30.keep hk
  have T31 := box_alloc w' m1 m2 24
  clear hk hb C15
  generalize (w'.alloc (Obj.cells #[.int .i64 m1, .int .i64 m2] 24)) = V15 at *
  generalize w'.heap.size = g15 at *
  obtain ⟨f27_0, f27_1, f27_2, f27_3, f27_4⟩ := id T13
  obtain ⟨f28_0, f28_1, f28_2, f28_3, f28_4⟩ := id T20
  go_upto_region 17 with (first | (go_at_call 36; refine (C16.out _).mono ?_; rintro e w' ⟨rfl, hb⟩))
  clear f27_0 f27_1 f27_2 f27_3 f27_4 f28_0 f28_1 f28_2 f28_3 f28_4
  have hk := below_alloc hb (Nat.le_refl _) (Obj.cells #[.int .i64 m1, .int .i64 m2] 24)
  replace HB := HB.trans (hk.mono HB.size)
  replace T13 := T13.keep hk
  replace T14 := T14.keep hk
  replace T15 := T15.keep hk
  replace T20 := T20.keep hk
  replace T22 := T22.keep hk
  replace T28 := T28.keep hk
  replace T29 := T29.keep hk
  replace T30 := T30.keep hk
  replace T31 := T31.keep hk
  have T32 := box_alloc w' m1 m2 24
  clear hk hb C16
  generalize (w'.alloc (Obj.cells #[.int .i64 m1, .int .i64 m2] 24)) = V16 at *
  generalize w'.heap.size = g16 at *
  obtain ⟨f29_0, f29_1, f29_2, f29_3, f29_4⟩ := id T14
  obtain ⟨f30_0, f30_1, f30_2, f30_3, f30_4⟩ := id T15
  go_upto_region 18 with (first | (go_at_call 36; refine (C17.out _).mono ?_; rintro e w' ⟨rfl, hb⟩))
  clear f29_0 f29_1 f29_2 f29_3 f29_4 f30_0 f30_1 f30_2 f30_3 f30_4
  have hk := below_alloc hb (Nat.le_refl _) (Obj.cells #[.int .i64 y1, .int .i64 y2] 24)
  replace HB := HB.trans (hk.mono HB.size)
  replace T13 := T13.keep hk
  replace T14 := T14.keep hk
  replace T15 := T15.keep hk
  replace T20 := T20.keep hk
  replace T22 := T22.keep hk
  replace T28 := T28.keep hk
  replace T29 := T29.keep hk
  replace T30 := T30.keep hk
  replace T31 := T31.keep hk
  replace T32 := T32.keep hk
  have T33 := box_alloc w' y1 y2 24
  clear hk hb C17
  generalize (w'.alloc (Obj.cells #[.int .i64 y1, .int .i64 y2] 24)) = V17 at *
  generalize w'.heap.size = g17 at *
  obtain ⟨f31_0, f31_1, f31_2, f31_3, f31_4⟩ := id T28
  obtain ⟨f32_0, f32_1, f32_2, f32_3, f32_4⟩ := id T15
  go_upto_region 19 with (first | (go_at_call 36; refine (C18.out _).mono ?_; rintro e w' ⟨rfl, hb⟩))
  clear f31_0 f31_1 f31_2 f31_3 f31_4 f32_0 f32_1 f32_2 f32_3 f32_4
  have hk := below_alloc hb (Nat.le_refl _) (Obj.cells #[.int .i64 o1, .int .i64 o2] 24)
  replace HB := HB.trans (hk.mono HB.size)
  replace T13 := T13.keep hk
  replace T14 := T14.keep hk
  replace T15 := T15.keep hk
  replace T20 := T20.keep hk
  replace T22 := T22.keep hk
  replace T28 := T28.keep hk
  replace T29 := T29.keep hk
  replace T30 := T30.keep hk
  replace T31 := T31.keep hk
  replace T32 := T32.keep hk
  replace T33 := T33.keep hk
  have T34 := box_alloc w' o1 o2 24
  clear hk hb C18
  generalize (w'.alloc (Obj.cells #[.int .i64 o1, .int .i64 o2] 24)) = V18 at *
  generalize w'.heap.size = g18 at *
  obtain ⟨f33_0, f33_1, f33_2, f33_3, f33_4⟩ := id T13
  obtain ⟨f34_0, f34_1, f34_2, f34_3, f34_4⟩ := id T33
  go_upto_region 20 with (first | (go_at_call 36; refine (C19.out _).mono ?_; rintro e w' ⟨rfl, hb⟩))
  clear f33_0 f33_1 f33_2 f33_3 f33_4 f34_0 f34_1 f34_2 f34_3 f34_4
  have hk := below_alloc hb (Nat.le_refl _) (Obj.cells #[.int .i64 o1, .int .i64 o2] 24)
  replace HB := HB.trans (hk.mono HB.size)
  replace T13 := T13.keep hk
  replace T14 := T14.keep hk
  replace T15 := T15.keep hk
  replace T20 := T20.keep hk
  replace T22 := T22.keep hk
  replace T28 := T28.keep hk
  replace T29 := T29.keep hk
  replace T30 := T30.keep hk
  replace T31 := T31.keep hk
  replace T32 := T32.keep hk
  replace T33 := T33.keep hk
  replace T34 := T34.keep hk
  have T36 := box_alloc w' o1 o2 24
  clear hk hb C19
  generalize (w'.alloc (Obj.cells #[.int .i64 o1, .int .i64 o2] 24)) = V19 at *
  generalize w'.heap.size = g19 at *
  obtain ⟨f35_0, f35_1, f35_2, f35_3, f35_4⟩ := id T28
  obtain ⟨f36_0, f36_1, f36_2, f36_3, f36_4⟩ := id T29
  obtain ⟨f37_0, f37_1, f37_2, f37_3, f37_4⟩ := id T31
  obtain ⟨f38_0, f38_1, f38_2, f38_3, f38_4⟩ := id T32
  obtain ⟨f39_0, f39_1, f39_2, f39_3, f39_4⟩ := id T34
  obtain ⟨f40_0, f40_1, f40_2, f40_3, f40_4⟩ := id T36
  go_upto_region 22 with fail
  clear f35_0 f35_1 f35_2 f35_3 f35_4 f36_0 f36_1 f36_2 f36_3 f36_4 f37_0 f37_1 f37_2 f37_3 f37_4 f38_0 f38_1 f38_2 f38_3 f38_4 f39_0 f39_1 f39_2 f39_3 f39_4 f40_0 f40_1 f40_2 f40_3 f40_4
  clear T29 T30 T31 T32 T33 T34 T36
  obtain ⟨f41_0, f41_1, f41_2, f41_3, f41_4⟩ := id T28
  obtain ⟨f42_0, f42_1, f42_2, f42_3, f42_4⟩ := id T14
  go_upto_region 23 with (first | (go_at_call 38; refine (C22.out _).mono ?_; rintro e w' ⟨rfl, hb⟩))
  clear f41_0 f41_1 f41_2 f41_3 f41_4 f42_0 f42_1 f42_2 f42_3 f42_4
  have hk := below_alloc hb (Nat.le_refl _) (Obj.cells #[.int .i64 d1, .int .i64 d2] 24)
  replace HB := HB.trans (hk.mono HB.size)
  replace T13 := T13.keep hk
  replace T14 := T14.keep hk
  replace T15 := T15.keep hk
  replace T20 := T20.keep hk
  replace T22 := T22.keep hk
  replace T28 := T28.keep hk
  have T38 := box_alloc w' d1 d2 24
  clear hk hb C22
  generalize (w'.alloc (Obj.cells #[.int .i64 d1, .int .i64 d2] 24)) = V22 at *
  generalize w'.heap.size = g22 at *
  obtain ⟨f43_0, f43_1, f43_2, f43_3, f43_4⟩ := id T14
  obtain ⟨f44_0, f44_1, f44_2, f44_3, f44_4⟩ := id T38
  obtain ⟨f45_0, f45_1, f45_2, f45_3, f45_4⟩ := id T13
  have key : ((B == 0) = true ∧ d3 = 1) ∨ ((B == 0) = false ∧ A = d1 ∧ E = d2 ∧ d3 = 0) := by
    by_cases hB : B = 0
    · exact .inl ⟨by simpa using hB, D1.out hB⟩
    · exact .inr ⟨by simpa using hB, (D2.out hB).1.symm, (D2.out hB).2.1.symm, (D2.out hB).2.2⟩
  clear D1 D2
  rcases key with ⟨kB, kd⟩ | ⟨kB, kd1, kd2, kd⟩
  · subst kd
    go_upto_region 28 with fail
    clear f43_0 f43_1 f43_2 f43_3 f43_4 f44_0 f44_1 f44_2 f44_3 f44_4 f45_0 f45_1 f45_2 f45_3 f45_4
    clear T28 T38
    obtain ⟨f46_0, f46_1, f46_2, f46_3, f46_4⟩ := id T13
    obtain ⟨f47_0, f47_1, f47_2, f47_3, f47_4⟩ := id T14
    go_upto_region 29 with (go_at_call 19; refine (C28.out _).mono ?_; rintro e V28 ⟨rfl, hb⟩)
    clear f46_0 f46_1 f46_2 f46_3 f46_4 f47_0 f47_1 f47_2 f47_3 f47_4
    replace HB := HB.trans (hb.mono HB.size)
    replace T13 := T13.keep hb
    replace T14 := T14.keep hb
    replace T15 := T15.keep hb
    replace T20 := T20.keep hb
    replace T22 := T22.keep hb
    clear hb C28
    obtain ⟨f48_0, f48_1, f48_2, f48_3, f48_4⟩ := id T14
    obtain ⟨f49_0, f49_1, f49_2, f49_3, f49_4⟩ := id T13
    go_upto_region 30 with (go_at_call 19; refine (C29.out _).mono ?_; rintro e V29 ⟨rfl, hb⟩)
    clear f48_0 f48_1 f48_2 f48_3 f48_4 f49_0 f49_1 f49_2 f49_3 f49_4
    replace HB := HB.trans (hb.mono HB.size)
    replace T13 := T13.keep hb
    replace T14 := T14.keep hb
    replace T15 := T15.keep hb
    replace T20 := T20.keep hb
    replace T22 := T22.keep hb
    clear hb C29
    obtain ⟨f50_0, f50_1, f50_2, f50_3, f50_4⟩ := id T22
    obtain ⟨f51_0, f51_1, f51_2, f51_3, f51_4⟩ := id T20
    go_upto_region 31 with (go_at_call 19; refine (C30.out _).mono ?_; rintro e V30 ⟨rfl, hb⟩)
    clear f50_0 f50_1 f50_2 f50_3 f50_4 f51_0 f51_1 f51_2 f51_3 f51_4
    replace HB := HB.trans (hb.mono HB.size)
    replace T13 := T13.keep hb
    replace T14 := T14.keep hb
    replace T15 := T15.keep hb
    replace T20 := T20.keep hb
    replace T22 := T22.keep hb
    clear hb C30
    go_upto_region 32 with fail
    have hk := below_alloc (Below.refl V30.heap.size V30) (Nat.le_refl _) (Obj.cells #[.int .i64 0, .int .i64 1] 24)
    replace HB := HB.trans (hk.mono HB.size)
    replace T13 := T13.keep hk
    replace T14 := T14.keep hk
    replace T15 := T15.keep hk
    replace T20 := T20.keep hk
    replace T22 := T22.keep hk
    have T42 := box_alloc V30 0 1 24
    clear hk
    generalize (V30.alloc (Obj.cells #[.int .i64 0, .int .i64 1] 24)) = V31 at *
    generalize V30.heap.size = g31 at *
    obtain ⟨f52_0, f52_1, f52_2, f52_3, f52_4⟩ := id T13
    obtain ⟨f53_0, f53_1, f53_2, f53_3, f53_4⟩ := id T42
    go_upto_region 33 with (go_at_call 19; refine (C32.out _).mono ?_; rintro e V32 ⟨rfl, hb⟩)
    clear f52_0 f52_1 f52_2 f52_3 f52_4 f53_0 f53_1 f53_2 f53_3 f53_4
    replace HB := HB.trans (hb.mono HB.size)
    replace T13 := T13.keep hb
    replace T14 := T14.keep hb
    replace T15 := T15.keep hb
    replace T20 := T20.keep hb
    replace T22 := T22.keep hb
    replace T42 := T42.keep hb
    clear hb C32
    obtain ⟨f54_0, f54_1, f54_2, f54_3, f54_4⟩ := id T13
    obtain ⟨f55_0, f55_1, f55_2, f55_3, f55_4⟩ := id T15
    go_upto_region 34 with (first | (go_at_call 34; refine (C33.out _).mono ?_; rintro e w' ⟨rfl, hb⟩))
    clear f54_0 f54_1 f54_2 f54_3 f54_4 f55_0 f55_1 f55_2 f55_3 f55_4
    have hk := below_alloc hb (Nat.le_refl _) (Obj.cells #[.int .i64 h1, .int .i64 h2] 24)
    replace HB := HB.trans (hk.mono HB.size)
    replace T13 := T13.keep hk
    replace T14 := T14.keep hk
    replace T15 := T15.keep hk
    replace T20 := T20.keep hk
    replace T22 := T22.keep hk
    replace T42 := T42.keep hk
    have T44 := box_alloc w' h1 h2 24
    clear hk hb C33
    generalize (w'.alloc (Obj.cells #[.int .i64 h1, .int .i64 h2] 24)) = V33 at *
    generalize w'.heap.size = g33 at *
    obtain ⟨f56_0, f56_1, f56_2, f56_3, f56_4⟩ := id T44
    obtain ⟨f57_0, f57_1, f57_2, f57_3, f57_4⟩ := id T20
    go_upto_region 35 with (go_at_call 19; refine (C34.out _).mono ?_; rintro e V34 ⟨rfl, hb⟩)
    clear f56_0 f56_1 f56_2 f56_3 f56_4 f57_0 f57_1 f57_2 f57_3 f57_4
    replace HB := HB.trans (hb.mono HB.size)
    replace T13 := T13.keep hb
    replace T14 := T14.keep hb
    replace T15 := T15.keep hb
    replace T20 := T20.keep hb
    replace T22 := T22.keep hb
    replace T42 := T42.keep hb
    replace T44 := T44.keep hb
    clear hb C34
    obtain ⟨f58_0, f58_1, f58_2, f58_3, f58_4⟩ := id T13
    obtain ⟨f59_0, f59_1, f59_2, f59_3, f59_4⟩ := id T14
    by_cases hx : x = 0
    · obtain ⟨rfl, rfl⟩ := HX.out.1 hx
      subst hx
      clear HX
      go_wp2_with (go_at_call 13; refine (lives_any c _ (keep_cell HB hm) (Nat.lt_of_lt_of_le hw HB.size)).mono ?_; rintro e w5 ⟨rfl, hb5⟩)
      go_ret
      exact ⟨rfl, HB.trans (hb5.mono HB.size)⟩
    · have hx' : (x == 0) = false := by simpa using hx
      by_cases hA : A = B
      · have hE : ¬ E = F := fun t => hx (HX.out.2 ⟨hA, t⟩)
        have hE' : (E == F) = false := by simpa using hE
        clear HX
        go_wp2_with (go_at_call 13; refine (lives_any c _ (keep_cell HB hm) (Nat.lt_of_lt_of_le hw HB.size)).mono ?_; rintro e w5 ⟨rfl, hb5⟩)
        go_ret
        exact ⟨rfl, HB.trans (hb5.mono HB.size)⟩
      · have hA' : (A == B) = false := by simpa using hA
        clear HX
        go_wp2_with (go_at_call 13; refine (lives_any c _ (keep_cell HB hm) (Nat.lt_of_lt_of_le hw HB.size)).mono ?_; rintro e w5 ⟨rfl, hb5⟩)
        go_ret
        exact ⟨rfl, HB.trans (hb5.mono HB.size)⟩

  · subst kd1 kd2 kd
    go_upto_region 28 with fail
    clear f43_0 f43_1 f43_2 f43_3 f43_4 f44_0 f44_1 f44_2 f44_3 f44_4 f45_0 f45_1 f45_2 f45_3 f45_4
    clear T28 T38
    obtain ⟨f46_0, f46_1, f46_2, f46_3, f46_4⟩ := id T13
    obtain ⟨f47_0, f47_1, f47_2, f47_3, f47_4⟩ := id T14
    go_upto_region 29 with (go_at_call 19; refine (C28.out _).mono ?_; rintro e V28 ⟨rfl, hb⟩)
    clear f46_0 f46_1 f46_2 f46_3 f46_4 f47_0 f47_1 f47_2 f47_3 f47_4
    replace HB := HB.trans (hb.mono HB.size)
    replace T13 := T13.keep hb
    replace T14 := T14.keep hb
    replace T15 := T15.keep hb
    replace T20 := T20.keep hb
    replace T22 := T22.keep hb
    clear hb C28
    obtain ⟨f48_0, f48_1, f48_2, f48_3, f48_4⟩ := id T14
    obtain ⟨f49_0, f49_1, f49_2, f49_3, f49_4⟩ := id T13
    go_upto_region 30 with (go_at_call 19; refine (C29.out _).mono ?_; rintro e V29 ⟨rfl, hb⟩)
    clear f48_0 f48_1 f48_2 f48_3 f48_4 f49_0 f49_1 f49_2 f49_3 f49_4
    replace HB := HB.trans (hb.mono HB.size)
    replace T13 := T13.keep hb
    replace T14 := T14.keep hb
    replace T15 := T15.keep hb
    replace T20 := T20.keep hb
    replace T22 := T22.keep hb
    clear hb C29
    obtain ⟨f50_0, f50_1, f50_2, f50_3, f50_4⟩ := id T22
    obtain ⟨f51_0, f51_1, f51_2, f51_3, f51_4⟩ := id T20
    go_upto_region 31 with (go_at_call 19; refine (C30.out _).mono ?_; rintro e V30 ⟨rfl, hb⟩)
    clear f50_0 f50_1 f50_2 f50_3 f50_4 f51_0 f51_1 f51_2 f51_3 f51_4
    replace HB := HB.trans (hb.mono HB.size)
    replace T13 := T13.keep hb
    replace T14 := T14.keep hb
    replace T15 := T15.keep hb
    replace T20 := T20.keep hb
    replace T22 := T22.keep hb
    clear hb C30
    go_upto_region 32 with fail
    have hk := below_alloc (Below.refl V30.heap.size V30) (Nat.le_refl _) (Obj.cells #[.int .i64 0, .int .i64 1] 24)
    replace HB := HB.trans (hk.mono HB.size)
    replace T13 := T13.keep hk
    replace T14 := T14.keep hk
    replace T15 := T15.keep hk
    replace T20 := T20.keep hk
    replace T22 := T22.keep hk
    have T42 := box_alloc V30 0 1 24
    clear hk
    generalize (V30.alloc (Obj.cells #[.int .i64 0, .int .i64 1] 24)) = V31 at *
    generalize V30.heap.size = g31 at *
    obtain ⟨f52_0, f52_1, f52_2, f52_3, f52_4⟩ := id T13
    obtain ⟨f53_0, f53_1, f53_2, f53_3, f53_4⟩ := id T42
    go_upto_region 33 with (go_at_call 19; refine (C32.out _).mono ?_; rintro e V32 ⟨rfl, hb⟩)
    clear f52_0 f52_1 f52_2 f52_3 f52_4 f53_0 f53_1 f53_2 f53_3 f53_4
    replace HB := HB.trans (hb.mono HB.size)
    replace T13 := T13.keep hb
    replace T14 := T14.keep hb
    replace T15 := T15.keep hb
    replace T20 := T20.keep hb
    replace T22 := T22.keep hb
    replace T42 := T42.keep hb
    clear hb C32
    obtain ⟨f54_0, f54_1, f54_2, f54_3, f54_4⟩ := id T13
    obtain ⟨f55_0, f55_1, f55_2, f55_3, f55_4⟩ := id T15
    go_upto_region 34 with (first | (go_at_call 34; refine (C33.out _).mono ?_; rintro e w' ⟨rfl, hb⟩))
    clear f54_0 f54_1 f54_2 f54_3 f54_4 f55_0 f55_1 f55_2 f55_3 f55_4
    have hk := below_alloc hb (Nat.le_refl _) (Obj.cells #[.int .i64 h1, .int .i64 h2] 24)
    replace HB := HB.trans (hk.mono HB.size)
    replace T13 := T13.keep hk
    replace T14 := T14.keep hk
    replace T15 := T15.keep hk
    replace T20 := T20.keep hk
    replace T22 := T22.keep hk
    replace T42 := T42.keep hk
    have T44 := box_alloc w' h1 h2 24
    clear hk hb C33
    generalize (w'.alloc (Obj.cells #[.int .i64 h1, .int .i64 h2] 24)) = V33 at *
    generalize w'.heap.size = g33 at *
    obtain ⟨f56_0, f56_1, f56_2, f56_3, f56_4⟩ := id T44
    obtain ⟨f57_0, f57_1, f57_2, f57_3, f57_4⟩ := id T20
    go_upto_region 35 with (go_at_call 19; refine (C34.out _).mono ?_; rintro e V34 ⟨rfl, hb⟩)
    clear f56_0 f56_1 f56_2 f56_3 f56_4 f57_0 f57_1 f57_2 f57_3 f57_4
    replace HB := HB.trans (hb.mono HB.size)
    replace T13 := T13.keep hb
    replace T14 := T14.keep hb
    replace T15 := T15.keep hb
    replace T20 := T20.keep hb
    replace T22 := T22.keep hb
    replace T42 := T42.keep hb
    replace T44 := T44.keep hb
    clear hb C34
    obtain ⟨f58_0, f58_1, f58_2, f58_3, f58_4⟩ := id T13
    obtain ⟨f59_0, f59_1, f59_2, f59_3, f59_4⟩ := id T14
    by_cases hx : x = 0
    · obtain ⟨rfl, rfl⟩ := HX.out.1 hx
      subst hx
      clear HX
      go_wp2_with (go_at_call 13; refine (lives_any c _ (keep_cell HB hm) (Nat.lt_of_lt_of_le hw HB.size)).mono ?_; rintro e w5 ⟨rfl, hb5⟩)
      go_ret
      exact ⟨rfl, HB.trans (hb5.mono HB.size)⟩
    · have hx' : (x == 0) = false := by simpa using hx
      by_cases hA : A = B
      · have hE : ¬ E = F := fun t => hx (HX.out.2 ⟨hA, t⟩)
        have hE' : (E == F) = false := by simpa using hE
        clear HX
        go_wp2_with (go_at_call 13; refine (lives_any c _ (keep_cell HB hm) (Nat.lt_of_lt_of_le hw HB.size)).mono ?_; rintro e w5 ⟨rfl, hb5⟩)
        go_ret
        exact ⟨rfl, HB.trans (hb5.mono HB.size)⟩
      · have hA' : (A == B) = false := by simpa using hA
        clear HX
        go_wp2_with (go_at_call 13; refine (lives_any c _ (keep_cell HB hm) (Nat.lt_of_lt_of_le hw HB.size)).mono ?_; rintro e w5 ⟨rfl, hb5⟩)
        go_ret
        exact ⟨rfl, HB.trans (hb5.mono HB.size)⟩


end Go.Proofs.YtjcdjmjebbllkaaDoor
