/- The walk of RatioOps. -/
import Derived.Test.YtjcdjmjebbllkaaDoorBoxes
import Derived.Test.YtjcdjmjebbllkaaDoorGen
import Derived.Test.YtjcdjmjebbllkaaDoorLives
import Derived.Test.YtjcdjmjebbllkaaDoorRefDiv
import Derived.Deep.DrawnRows
import Derived.Deep.DeepCutAuto
namespace Go.Proofs.YtjcdjmjebbllkaaDoor
open Go.RowKit
attribute [local go_sem] le_add_one'
attribute [local go_sem ↓] Go.wp_at_zero Go.wp_at_succ

set_option maxHeartbeats 4000000 in
set_option maxRecDepth 100000 in
theorem ops_walk (n m k j num den : Int) (c : Int) (w : World) (hm : w.cell? ⟨0, 0, none⟩ = some (.int .i64 c)) (hw : 0 < w.heap.size)
    (hn0 : -9223372036854775808 ≤ n) (hn1 : n ≤ 9223372036854775807) (hm0 : -9223372036854775808 ≤ m) (hm1 : m ≤ 9223372036854775807) (hk0 : -9223372036854775808 ≤ k) (hk1 : k ≤ 9223372036854775807) (hj0 : -9223372036854775808 ≤ j) (hj1 : j ≤ 9223372036854775807) (hnum0 : -9223372036854775808 ≤ num) (hnum1 : num ≤ 9223372036854775807) (hden0 : -9223372036854775808 ≤ den) (hden1 : den ≤ 9223372036854775807) :
    Calls Tryd.prog 7 #[.int .i64 n, .int .i64 m, .int .i64 k, .int .i64 j, .int .i64 num, .int .i64 den] w fun e w' => e = .returned (.bool true) ∧ Below w.heap.size w w' := by
  have G1 := Lib.hid (fun w => gen_any n m w hn0 hn1 hm0 hm1)
  have G2 := Lib.hid (fun w => gen_any k j w hk0 hk1 hj0 hj1)
  have b1 := newN_bd (genA n m) (genB n m)
  have b2 := newD_bd (genA n m) (genB n m)
  have b3 := newN_bd (genA k j) (genB k j)
  have b4 := newD_bd (genA k j) (genB k j)
  unfold genN genD at G1 G2
  generalize newN (genA n m) (genB n m) = A1 at *
  generalize newD (genA n m) (genB n m) = A2 at *
  generalize newN (genA k j) (genB k j) = B1 at *
  generalize newD (genA k j) (genB k j) = B2 at *
  go_enter Tryd.func7, Tryd.ntmps7
  go_upto_region 2 with (go_at_call 14; refine (G1.out _).mono ?_; rintro e w1 ⟨rfl, hb1⟩)
  have hB : Below w.heap.size w (w1.alloc (Obj.cells #[.int .i64 A1, .int .i64 A2] 24)) := below_alloc hb1 (Nat.le_refl _) _
  have bx := box_alloc w1 A1 A2 24
  clear hb1 G1
  generalize (w1.alloc (Obj.cells #[.int .i64 A1, .int .i64 A2] 24)) = W1 at *
  generalize w1.heap.size = g1 at *
  go_upto_region 3 with (go_at_call 14; refine (G2.out _).mono ?_; rintro e w2 ⟨rfl, hb2⟩)
  have hB2 : Below W1.heap.size W1 (w2.alloc (Obj.cells #[.int .i64 B1, .int .i64 B2] 24)) := below_alloc hb2 (Nat.le_refl _) _
  replace bx := bx.keep hB2
  replace hB := hB.trans (hB2.mono hB.size)
  have by' := box_alloc w2 B1 B2 24
  clear hb2 hB2 G2
  generalize (w2.alloc (Obj.cells #[.int .i64 B1, .int .i64 B2] 24)) = W2 at *
  generalize w2.heap.size = g2 at *
  obtain ⟨x1, x2, x3, x4, x5⟩ := bx
  obtain ⟨y1, y2, y3, y4, y5⟩ := by'
  go_upto_region 4 with fail
  have hps : ∃ ps : List (Int × Int), ps.length = 6 ∧ Fit ps ∧ PairsAt (W2.alloc (Obj.cells #[.int .i64 A1, .int .i64 A2, .int .i64 B1, .int .i64 B2, .int .i64 num, .int .i64 den, .int .i64 0, .int .i64 1, .int .i64 1099511627776, .int .i64 1, .int .i64 (-1), .int .i64 1048576] 24)) W2.heap.size ps := by
    refine ⟨[(A1, A2), (B1, B2), (num, den), (0, 1), (1099511627776, 1), (-1, 1048576)], rfl, ?_, ?_⟩
    · intro i x y hi
      match i, hi with
      | 0, hi => simp at hi; omega
      | 1, hi => simp at hi; omega
      | 2, hi => simp at hi; omega
      | 3, hi => simp at hi; omega
      | 4, hi => simp at hi; omega
      | 5, hi => simp at hi; omega
      | i + 6, hi => simp at hi
    · intro i x y hi
      match i, hi with
      | 0, hi => simp at hi; obtain ⟨rfl, rfl⟩ := hi; simp
      | 1, hi => simp at hi; obtain ⟨rfl, rfl⟩ := hi; simp
      | 2, hi => simp at hi; obtain ⟨rfl, rfl⟩ := hi; simp
      | 3, hi => simp at hi; obtain ⟨rfl, rfl⟩ := hi; simp
      | 4, hi => simp at hi; obtain ⟨rfl, rfl⟩ := hi; simp
      | 5, hi => simp at hi; obtain ⟨rfl, rfl⟩ := hi; simp
      | i + 6, hi => simp at hi
  obtain ⟨ps, hlen, hfit, hpa⟩ := hps
  have HH : Held w (W2.alloc (Obj.cells #[.int .i64 A1, .int .i64 A2, .int .i64 B1, .int .i64 B2, .int .i64 num, .int .i64 den, .int .i64 0, .int .i64 1, .int .i64 1099511627776, .int .i64 1, .int .i64 (-1), .int .i64 1048576] 24)) W2.heap.size ps := ⟨hB.alloc hB.size _, by simp, hpa⟩
  clear hB hpa x1 x2 x3 x4 x5 y1 y2 y3 y4 y5 b1 b2 b3 b4
  generalize (W2.alloc (Obj.cells #[.int .i64 A1, .int .i64 A2, .int .i64 B1, .int .i64 B2, .int .i64 num, .int .i64 den, .int .i64 0, .int .i64 1, .int .i64 1099511627776, .int .i64 1, .int .i64 (-1), .int .i64 1048576] 24)) = W0 at *
  generalize W2.heap.size = B at *
  have HL := Lib.hid hlen
  have HF := Lib.hid hfit
  clear hlen hfit
  go_upto_region 5 with fail
  go_loopw [16] (fun i wr => ∃ i0 : Nat, i0 ≤ 6 ∧ i = .int .i64 i0 ∧ Held w wr B ps) (fun i _ => 6 - (intOf i).toNat)
  case atStart => exact ⟨0, by omega, rfl, HH⟩
  case round =>
    obtain ⟨i0, hi, rfl, hr⟩ := hrel
    clear HH
    by_cases hlt : i0 < 6
    · obtain ⟨⟨x1, x2⟩, hx⟩ : ∃ z, ps[i0]? = some z := ⟨ps[i0]'(by have := HL.out; omega), List.getElem?_eq_getElem _⟩
      obtain ⟨⟨p1, p2⟩, ⟨p3, p4⟩⟩ := HF.out i0 x1 x2 hx
      have HX := Lib.hid hx
      clear hx
      have z1 : (0 : Int) ≤ (i0 : Int) := by omega
      have z2 : (i0 : Int) < 6 := by omega
      go_upto_region 8 with fail
      go_loopw [17] (fun q wr => ∃ q0 : Nat, q0 ≤ 6 ∧ q = .int .i64 q0 ∧ Held w wr B ps) (fun q _ => 6 - (intOf q).toNat)
      case atStart => exact ⟨0, by omega, rfl, hr⟩
      case round =>
        clear hr
        obtain ⟨q0, hq, rfl, hr⟩ := hrel
        by_cases hlt' : q0 < 6
        · obtain ⟨⟨y1, y2⟩, hy⟩ : ∃ z, ps[q0]? = some z := ⟨ps[q0]'(by have := HL.out; omega), List.getElem?_eq_getElem _⟩
          obtain ⟨⟨r1, r2⟩, ⟨r3, r4⟩⟩ := HF.out q0 y1 y2 hy
          obtain ⟨X1, X2⟩ := hr.2.2 i0 x1 x2 HX.out
          obtain ⟨Y1, Y2⟩ := hr.2.2 q0 y1 y2 hy
          clear hy
          have z3 : (0 : Int) ≤ (q0 : Int) := by omega
          have z4 : (q0 : Int) < 6 := by omega
          have hBz := hr.2.1
          go_upto_region 12 with fail
          have hA : Below wr.heap.size wr ((wr.alloc (Obj.cells #[.int .i64 x1, .int .i64 x2] 24)).alloc (Obj.cells #[.int .i64 y1, .int .i64 y2] 24)) := (below_alloc (below_alloc (Below.refl _ _) (Nat.le_refl _) _) (Nat.le_refl _) _)
          have HH := hr.keep hA
          have BX : Box ((wr.alloc (Obj.cells #[.int .i64 x1, .int .i64 x2] 24)).alloc (Obj.cells #[.int .i64 y1, .int .i64 y2] 24)) wr.heap.size x1 x2 := (box_alloc wr x1 x2 24).keep (below_alloc (Below.refl _ _) (Nat.le_refl _) _)
          have BY := box_alloc (wr.alloc (Obj.cells #[.int .i64 x1, .int .i64 x2] 24)) y1 y2 24
          rw [World.size_alloc] at BY
          clear hr hA X1 X2 Y1 Y2 hBz
          generalize ((wr.alloc (Obj.cells #[.int .i64 x1, .int .i64 x2] 24)).alloc (Obj.cells #[.int .i64 y1, .int .i64 y2] 24)) = V0 at *
          generalize wr.heap.size = gx at *
          have C19 := Lib.hid (fun w => Cmp_any x1 x2 y1 y2 w p1 p2 p3 p4 r1 r2 r3 r4)
          have C33 := Lib.hid (fun w => refcmp_any x1 x2 y1 y2 w)
          have C34 := Lib.hid (fun w => add_any x1 x2 y1 y2 w p1 p2 p3 p4 r1 r2 r3 r4)
          have C35 := Lib.hid (fun w => refadd_any x1 x2 y1 y2 w)
          have C36 := Lib.hid (fun w => Mul_any x1 x2 y1 y2 w p1 p2 p3 p4 r1 r2 r3 r4)
          have C37 := Lib.hid (fun w => refmul_any x1 x2 y1 y2 w)
          have C38 := Lib.hid (fun w => Div_any x1 x2 y1 y2 w p1 p2 p3 p4 r1 r2 r3 r4)
          have C39 := Lib.hid (fun w => refdiv_any x1 x2 y1 y2 w)
          have C11 := Lib.hid (fun w => sub_any x1 x2 y1 y2 w p1 p2 p3 p4 r1 r2 r3 r4)
          have C17 := Lib.hid (fun w => both_any x1 x2 y1 y2 w)
          have C40 : Hid (val2 x1 x2 y1 y2 = 0 → ∀ w : World, Calls Tryd.prog 40 #[rat y1 y2] w fun e w' => e = .returned (rat (-y1) y2) ∧ Below w.heap.size w w') := Lib.hid (fun h w => by
            obtain ⟨v1, v2⟩ := val2_ok h
            obtain ⟨b1, b2, b3, b4, _⟩ := valE_ok v2
            exact neg_any y1 y2 w (by omega) (by omega))
          have C35' := Lib.hid (fun w => refadd_any x1 x2 (-y1) y2 w)
          obtain ⟨se1, se2, se3⟩ := sub_eq x1 x2 y1 y2
          rw [← se1, ← se2, ← se3] at C35'
          clear se1 se2 se3
          have HV : Hid (¬ val2 x1 x2 y1 y2 = 0 → subN x1 x2 y1 y2 = 0 ∧ subD x1 x2 y1 y2 = 0 ∧ subE x1 x2 y1 y2 = 1) := Lib.hid (fun h => by
            unfold subN subD subE
            rw [sel_no h, sel_no h, sel_no h]; exact ⟨rfl, rfl, rfl⟩)
          clear p1 p2 p3 p4 r1 r2 r3 r4
          generalize cmpI x1 x2 y1 y2 = vc at *
          generalize val2 x1 x2 y1 y2 = v at *
          generalize addN x1 x2 y1 y2 = s1 at *
          generalize addD x1 x2 y1 y2 = s2 at *
          generalize addE x1 x2 y1 y2 = s3 at *
          generalize mulN x1 x2 y1 y2 = u1 at *
          generalize mulD x1 x2 y1 y2 = u2 at *
          generalize mulE x1 x2 y1 y2 = u3 at *
          generalize divN x1 x2 y1 y2 = d1 at *
          generalize divD x1 x2 y1 y2 = d2 at *
          generalize divE x1 x2 y1 y2 = d3 at *
          generalize subN x1 x2 y1 y2 = l1 at *
          generalize subD x1 x2 y1 y2 = l2 at *
          generalize subE x1 x2 y1 y2 = l3 at *
          obtain ⟨X1, X2, X3, X4, X5⟩ := id BX
          obtain ⟨Y1, Y2, Y3, Y4, Y5⟩ := id BY
          go_upto_region 13 with (go_at_call 19; refine (C19.out _).mono ?_; rintro e V12 ⟨rfl, hb⟩)
          clear X1 X2 X3 X4 X5 Y1 Y2 Y3 Y4 Y5
          replace HH := HH.keep hb
          replace BX := BX.keep hb
          replace BY := BY.keep hb
          clear hb
          obtain ⟨X1, X2, X3, X4, X5⟩ := id BX
          obtain ⟨Y1, Y2, Y3, Y4, Y5⟩ := id BY
          clear C19
          go_upto_region 14 with (go_at_call 33; refine (C33.out _).mono ?_; rintro e V13 ⟨rfl, hb⟩)
          clear X1 X2 X3 X4 X5 Y1 Y2 Y3 Y4 Y5
          replace HH := HH.keep hb
          replace BX := BX.keep hb
          replace BY := BY.keep hb
          clear hb
          obtain ⟨X1, X2, X3, X4, X5⟩ := id BX
          obtain ⟨Y1, Y2, Y3, Y4, Y5⟩ := id BY
          clear C33
          go_upto_region 16 with fail
          go_upto_region 17 with (go_at_call 34; refine (C34.out _).mono ?_; rintro e w' ⟨rfl, hb⟩)
          clear X1 X2 X3 X4 X5 Y1 Y2 Y3 Y4 Y5
          have hk := below_alloc hb (Nat.le_refl _) (Obj.cells #[.int .i64 s1, .int .i64 s2] 24)
          replace HH := HH.keep hk
          replace BX := BX.keep hk
          replace BY := BY.keep hk
          have T24 := box_alloc w' s1 s2 24
          clear hk hb
          generalize (w'.alloc (Obj.cells #[.int .i64 s1, .int .i64 s2] 24)) = V16 at *
          generalize w'.heap.size = g16 at *
          obtain ⟨X1, X2, X3, X4, X5⟩ := id BX
          obtain ⟨Y1, Y2, Y3, Y4, Y5⟩ := id BY
          clear C34
          go_upto_region 18 with (go_at_call 35; refine (C35.out _).mono ?_; rintro e w' ⟨rfl, hb⟩)
          clear X1 X2 X3 X4 X5 Y1 Y2 Y3 Y4 Y5
          have ge25 : w.heap.size ≤ w'.heap.size := Nat.le_trans HH.1.size hb.size
          have gt25 : B < w'.heap.size := Nat.lt_of_lt_of_le HH.2.1 hb.size
          have hk := below_alloc hb (Nat.le_refl _) (Obj.cells #[.int .i64 s1, .int .i64 s2] 24)
          replace HH := HH.keep hk
          replace BX := BX.keep hk
          replace BY := BY.keep hk
          replace T24 := T24.keep hk
          have T25 := box_alloc w' s1 s2 24
          clear hk hb
          generalize (w'.alloc (Obj.cells #[.int .i64 s1, .int .i64 s2] 24)) = V17 at *
          generalize w'.heap.size = g17 at *
          obtain ⟨X1, X2, X3, X4, X5⟩ := id BX
          obtain ⟨Y1, Y2, Y3, Y4, Y5⟩ := id BY
          clear C35
          go_upto_region 19 with (go_at_call 36; refine (C36.out _).mono ?_; rintro e w' ⟨rfl, hb⟩)
          clear X1 X2 X3 X4 X5 Y1 Y2 Y3 Y4 Y5
          have hk := below_alloc hb (Nat.le_refl _) (Obj.cells #[.int .i64 u1, .int .i64 u2] 24)
          replace HH := HH.keep hk
          replace BX := BX.keep hk
          replace BY := BY.keep hk
          replace T24 := T24.keep hk
          replace T25 := T25.keep hk
          have T26 := box_alloc w' u1 u2 24
          clear hk hb
          generalize (w'.alloc (Obj.cells #[.int .i64 u1, .int .i64 u2] 24)) = V18 at *
          generalize w'.heap.size = g18 at *
          obtain ⟨X1, X2, X3, X4, X5⟩ := id BX
          obtain ⟨Y1, Y2, Y3, Y4, Y5⟩ := id BY
          clear C36
          go_upto_region 20 with (go_at_call 37; refine (C37.out _).mono ?_; rintro e w' ⟨rfl, hb⟩)
          clear X1 X2 X3 X4 X5 Y1 Y2 Y3 Y4 Y5
          have hk := below_alloc hb (Nat.le_refl _) (Obj.cells #[.int .i64 u1, .int .i64 u2] 24)
          replace HH := HH.keep hk
          replace BX := BX.keep hk
          replace BY := BY.keep hk
          replace T24 := T24.keep hk
          replace T25 := T25.keep hk
          replace T26 := T26.keep hk
          have T28 := box_alloc w' u1 u2 24
          clear hk hb
          generalize (w'.alloc (Obj.cells #[.int .i64 u1, .int .i64 u2] 24)) = V19 at *
          generalize w'.heap.size = g19 at *
          obtain ⟨X1, X2, X3, X4, X5⟩ := id BX
          obtain ⟨Y1, Y2, Y3, Y4, Y5⟩ := id BY
          clear C37
          obtain ⟨a1, a2, a3, a4, a5⟩ := T24
          obtain ⟨b1, b2, b3, b4, b5⟩ := id T25
          obtain ⟨c1, c2, c3, c4, c5⟩ := T26
          obtain ⟨e1, e2, e3, e4, e5⟩ := T28
          go_upto_region 22 with fail
          clear a1 a2 a3 a4 a5 b1 b2 b3 b4 b5 c1 c2 c3 c4 c5 e1 e2 e3 e4 e5
          go_upto_region 23 with (go_at_call 38; refine (C38.out _).mono ?_; rintro e w' ⟨rfl, hb⟩)
          clear X1 X2 X3 X4 X5 Y1 Y2 Y3 Y4 Y5
          have hk := below_alloc hb (Nat.le_refl _) (Obj.cells #[.int .i64 d1, .int .i64 d2] 24)
          replace HH := HH.keep hk
          replace BX := BX.keep hk
          replace BY := BY.keep hk
          replace T25 := T25.keep hk
          have T30 := box_alloc w' d1 d2 24
          clear hk hb
          generalize (w'.alloc (Obj.cells #[.int .i64 d1, .int .i64 d2] 24)) = V22 at *
          generalize w'.heap.size = g22 at *
          obtain ⟨X1, X2, X3, X4, X5⟩ := id BX
          obtain ⟨Y1, Y2, Y3, Y4, Y5⟩ := id BY
          clear C38
          go_upto_region 24 with (go_at_call 39; refine (C39.out _).mono ?_; rintro e w' ⟨rfl, hb⟩)
          clear X1 X2 X3 X4 X5 Y1 Y2 Y3 Y4 Y5
          have hk := below_alloc hb (Nat.le_refl _) (Obj.cells #[.int .i64 d1, .int .i64 d2] 24)
          replace HH := HH.keep hk
          replace BX := BX.keep hk
          replace BY := BY.keep hk
          replace T25 := T25.keep hk
          replace T30 := T30.keep hk
          have T32 := box_alloc w' d1 d2 24
          clear hk hb
          generalize (w'.alloc (Obj.cells #[.int .i64 d1, .int .i64 d2] 24)) = V23 at *
          generalize w'.heap.size = g23 at *
          obtain ⟨X1, X2, X3, X4, X5⟩ := id BX
          obtain ⟨Y1, Y2, Y3, Y4, Y5⟩ := id BY
          clear C39
          obtain ⟨a1, a2, a3, a4, a5⟩ := T30
          obtain ⟨b1, b2, b3, b4, b5⟩ := T32
          go_upto_region 26 with fail
          clear a1 a2 a3 a4 a5 b1 b2 b3 b4 b5
          go_upto_region 27 with (go_at_call 11; refine (C11.out _).mono ?_; rintro e w' ⟨rfl, hb⟩)
          clear X1 X2 X3 X4 X5 Y1 Y2 Y3 Y4 Y5
          have lt34 : g17 < w'.heap.size := Nat.lt_of_lt_of_le T25.2.2.1 hb.size
          have ne34 : ¬ w'.heap.size = g17 := by omega
          have ne34' : ¬ g17 = w'.heap.size := by omega
          have hk := below_alloc hb (Nat.le_refl _) (Obj.cells #[.int .i64 l1, .int .i64 l2] 24)
          replace HH := HH.keep hk
          replace BX := BX.keep hk
          replace BY := BY.keep hk
          replace T25 := T25.keep hk
          have T34 := box_alloc w' l1 l2 24
          clear hk hb
          generalize (w'.alloc (Obj.cells #[.int .i64 l1, .int .i64 l2] 24)) = V26 at *
          generalize w'.heap.size = g26 at *
          obtain ⟨X1, X2, X3, X4, X5⟩ := id BX
          obtain ⟨Y1, Y2, Y3, Y4, Y5⟩ := id BY
          clear C11
          by_cases hv : v = 0
          · have C40' := C40.out hv
            subst hv
            clear C40 HV
            go_upto_region 28 with (go_at_call 17; refine (C17.out _).mono ?_; rintro e V27 ⟨rfl, hb⟩)
            clear X1 X2 X3 X4 X5 Y1 Y2 Y3 Y4 Y5
            replace HH := HH.keep hb
            replace BX := BX.keep hb
            replace BY := BY.keep hb
            replace T25 := T25.keep hb
            replace T34 := T34.keep hb
            clear hb
            obtain ⟨X1, X2, X3, X4, X5⟩ := id BX
            obtain ⟨Y1, Y2, Y3, Y4, Y5⟩ := id BY
            clear C17
            obtain ⟨b1, b2, b3, b4, b5⟩ := id T25
            go_cut [23] (fun u wx => u = .int .i64 l3 ∧ Held w wx B ps ∧ (wx.cell? ⟨g17, 0, none⟩ = some (.int .i64 l1) ∧ wx.cell? ⟨g17, 1, none⟩ = some (.int .i64 l2)) ∧ Box wx g26 l1 l2)
            case first =>
              go_region_with (first | (go_at_call 40; (with_reducible refine (C40' _).mono ?_); rintro e w1 ⟨rfl, hb1⟩; replace hb1 := undrew hb1; have H1 := HH.keep hb1; have t1 := T34.keep hb1; have t2 := T25.keep hb1; have t3 := BX.keep hb1; obtain ⟨X1, X2, X3, X4, X5⟩ := id t3) | (go_at_call 35; (with_reducible refine (C35'.out _).mono ?_); rintro e w2 ⟨rfl, hb2⟩; have H2 := H1.keep hb2; have u1 := t1.keep hb2; have u2 := t2.keep hb2; obtain ⟨b1, b2, b3, b4, b5⟩ := id u2))
              all_goals
                go_wp2_with fail
                go_meet
                refine ⟨rfl, (H2.set ge25 gt25 _ _).set ge25 gt25 _ _, ⟨?_, ?_⟩, (u1.set (by omega) _ _).set (by omega) _ _⟩
                · simp [b1, go_sem]
                · simp [b2, go_sem]
            case rest =>
              obtain ⟨rfl, HH, ⟨b1, b2⟩, T34⟩ := hcut
              obtain ⟨wx, rfl⟩ : ∃ z : World, z = wc := ⟨_, rfl⟩
              obtain ⟨a1, a2, a3, a4, a5⟩ := T34
              go_upto_region 9 with fail
              go_wp2_with fail
              refine ⟨⟨q0 + 1, by omega, by simp, HH⟩, ?_⟩
              simp [intOf]
              try omega

          · have hv' : (v == 0) = false := by simpa using hv
            obtain ⟨rfl, rfl, rfl⟩ := HV.out hv
            clear C40 HV C35'
            go_upto_region 29 with (go_at_call 17; refine (C17.out _).mono ?_; rintro e V27 ⟨rfl, hb⟩)
            clear X1 X2 X3 X4 X5 Y1 Y2 Y3 Y4 Y5
            replace HH := HH.keep hb
            replace BX := BX.keep hb
            replace BY := BY.keep hb
            replace T25 := T25.keep hb
            replace T34 := T34.keep hb
            clear hb
            obtain ⟨X1, X2, X3, X4, X5⟩ := id BX
            obtain ⟨Y1, Y2, Y3, Y4, Y5⟩ := id BY
            clear C17
            obtain ⟨b1, b2, b3, b4, b5⟩ := id T25
            obtain ⟨a1, a2, a3, a4, a5⟩ := T34
            go_upto_region 9 with fail
            go_wp2_with fail
            refine ⟨⟨q0 + 1, by omega, by simp, (HH.set ge25 gt25 _ _).set ge25 gt25 _ _⟩, ?_⟩
            simp [intOf]
            try omega

        · go_wp2_with fail
          exact ⟨⟨i0 + 1, by omega, by simp, hr⟩, by simp [intOf]; omega⟩
    · go_wp2_with fail
      refine (lives_any c wr (keep_cell hr.1 hm) (Nat.lt_of_lt_of_le hw hr.1.size)).mono ?_
      rintro e w5 ⟨rfl, hb5⟩
      go_wp2
      go_ret
      exact ⟨rfl, hr.1.trans (hb5.mono hr.1.size)⟩
end Go.Proofs.YtjcdjmjebbllkaaDoor
