/- The walk of RatioNew. -/
import Derived.Test.YtjcdjmjebbllkaaDoorGen
import Derived.Test.YtjcdjmjebbllkaaDoorBoxes
import Derived.Test.YtjcdjmjebbllkaaDoorMul
import Derived.Test.YtjcdjmjebbllkaaDoorLives
import Derived.Test.YtjcdjmjebbllkaaDoorRefNew
import Derived.Test.YtjcdjmjebbllkaaDoorVal
import Derived.Test.YtjcdjmjebbllkaaDoorPart3
import Derived.Deep.DrawnRows
import Derived.Deep.DeepCutAuto
namespace Go.Proofs.YtjcdjmjebbllkaaDoor
open Go.RowKit
attribute [local go_sem] le_add_one'
attribute [local go_sem ↓] Go.wp_at_zero Go.wp_at_succ

/-- Two numbers in a block. -/
def Two (W : World) (g : Nat) (n d : Int) : Prop := W.cell? ⟨g, 0, none⟩ = some (.int .i64 n) ∧ W.cell? ⟨g, 1, none⟩ = some (.int .i64 d)
theorem Two.keep {W W' : World} {g : Nat} {n d : Int} (h : Two W g n d) (hb : Below W.heap.size W W') : Two W' g n d := ⟨keep_cell hb h.1, keep_cell hb h.2⟩
/-- Numbers laid side by side in one block. -/
def NumsAt (w : World) (B : Nat) (ns : List Int) : Prop := ∀ (j : Nat) (x : Int), ns[j]? = some x → w.cell? ⟨B, j, none⟩ = some (.int .i64 x)
theorem NumsAt.keep {w W : World} {B : Nat} {ns : List Int} (h : NumsAt w B ns) (hb : Below w.heap.size w W) : NumsAt W B ns := fun j x hj => keep_cell hb (h j x hj)

set_option maxHeartbeats 16000000 in
set_option maxRecDepth 100000 in
theorem new_walk (num den n m k : Int) (c : Int) (w : World) (hm : w.cell? ⟨0, 0, none⟩ = some (.int .i64 c)) (hw : 0 < w.heap.size)
    (ha0 : -9223372036854775808 ≤ num) (ha : num ≤ 9223372036854775807) (hb0 : -9223372036854775808 ≤ den) (hb : den ≤ 9223372036854775807)
    (hn0 : -9223372036854775808 ≤ n) (hn : n ≤ 9223372036854775807) (hm0 : -9223372036854775808 ≤ m) (hm1 : m ≤ 9223372036854775807) (hk0 : -9223372036854775808 ≤ k) (hk : k ≤ 9223372036854775807) :
    Calls Tryd.prog 6 #[.int .i64 num, .int .i64 den, .int .i64 n, .int .i64 m, .int .i64 k] w fun e w' => e = .returned (.bool true) ∧ Below w.heap.size w w' := by
  have B1 := Lib.hid (fun w => bound_any num 99 w ha0 ha (by decide) (by decide))
  have B2 := Lib.hid (fun w => bound_any den 99 w hb0 hb (by decide) (by decide))
  go_enter Tryd.func6, Tryd.ntmps6
  go_wp2_with fail
  refine (B1.out _).mono ?_
  rintro e w' ⟨rfl, rfl⟩
  go_wp2_with fail
  refine (B2.out _).mono ?_
  rintro e w' ⟨rfl, rfl⟩
  go_wp2_with fail
  have r1 := arN_nonneg num 199 (by decide)
  have r2 := arN_lt num 199 (by decide)
  have r3 := arN_nonneg den 199 (by decide)
  have r4 := arN_lt den 199 (by decide)
  generalize arN num 199 = P1 at *
  generalize arN den 199 = P2 at *
  have r5 := wrap64_bd (num * 6)
  have r6 := wrap64_bd (den * 4)
  generalize wrap64 (num * 6) = P3 at *
  generalize wrap64 (den * 4) = P4 at *
  have hps : ∃ ps : List (Int × Int), ps.length = 4 ∧ Fit ps ∧ PairsAt (w.alloc (.cells #[.int .i64 num, .int .i64 den, .int .i64 (P1 - 99), .int .i64 (P2 - 99), .int .i64 num, .int .i64 1, .int .i64 P3, .int .i64 P4] 46)) w.heap.size ps := by
    refine ⟨[(num, den), (P1 - 99, P2 - 99), (num, 1), (P3, P4)], rfl, ?_, ?_⟩
    · intro j x y hj
      match j, hj with
      | 0, hj => simp at hj; omega
      | 1, hj => simp at hj; omega
      | 2, hj => simp at hj; omega
      | 3, hj => simp at hj; omega
      | j + 4, hj => simp at hj
    · intro j x y hj
      match j, hj with
      | 0, hj => simp at hj; obtain ⟨rfl, rfl⟩ := hj; simp
      | 1, hj => simp at hj; obtain ⟨rfl, rfl⟩ := hj; simp
      | 2, hj => simp at hj; obtain ⟨rfl, rfl⟩ := hj; simp
      | 3, hj => simp at hj; obtain ⟨rfl, rfl⟩ := hj; simp
      | j + 4, hj => simp at hj
  obtain ⟨ps, hlen, hfit, hpa⟩ := hps
  have hbW : Below w.heap.size w (w.alloc (.cells #[.int .i64 num, .int .i64 den, .int .i64 (P1 - 99), .int .i64 (P2 - 99), .int .i64 num, .int .i64 1, .int .i64 P3, .int .i64 P4] 46)) := (by repeat (first | exact Below.refl _ _ | assumption | refine Below.setCell ?_ (by (first | omega | (simp <;> omega))) _ | refine below_drewN ?_ _ | refine Below.drew ?_ | refine Below.alloc ?_ (by (first | omega | (simp <;> omega))) _ | (refine after (h1 := by assumption) ?_ ?_; rotate_left; (first | omega | (simp <;> omega)))))
  have hzW : w.heap.size < (w.alloc (.cells #[.int .i64 num, .int .i64 den, .int .i64 (P1 - 99), .int .i64 (P2 - 99), .int .i64 num, .int .i64 1, .int .i64 P3, .int .i64 P4] 46)).heap.size := by simp
  generalize w.alloc (.cells #[.int .i64 num, .int .i64 den, .int .i64 (P1 - 99), .int .i64 (P2 - 99), .int .i64 num, .int .i64 1, .int .i64 P3, .int .i64 P4] 46) = W0 at *
  have HL := Lib.hid hlen
  have HF := Lib.hid hfit
  clear hlen hfit B1 B2
  go_loopw [12] (fun i wr => ∃ j : Nat, j ≤ 4 ∧ i = .int .i64 j ∧ Held w wr w.heap.size ps) (fun i _ => 4 - (intOf i).toNat)
  case atStart => exact ⟨0, by omega, rfl, hbW, hzW, hpa⟩
  case round =>
    obtain ⟨j, hj, rfl, HR⟩ := hrel
    obtain ⟨hbr, hzr, hpr⟩ := id HR
    clear hbW hzW hpa
    by_cases hlt : j < 4
    · obtain ⟨⟨x, y⟩, hxy⟩ : ∃ z, ps[j]? = some z := ⟨ps[j]'(by have := HL.out; omega), List.getElem?_eq_getElem _⟩
      obtain ⟨hx1, hx2⟩ := hpr j x y hxy
      obtain ⟨⟨x0, x1⟩, ⟨y0, y1⟩⟩ := HF.out j x y hxy
      have HX := Lib.hid hxy
      clear hxy
      have n1 := World.new_ne wr _ hx1
      have n2 := World.new_ne wr _ hx2
      have i0 : (0 : Int) ≤ (j : Int) := by omega
      have i1 : (j : Int) < 4 := by omega
      go_upto_region 5 with fail
      go_cut [13, 14] (fun u v wx => ∃ g : Nat, u = .pointer (some ⟨g, 0, none⟩) ∧ v = .int .i64 (newE x y) ∧ Fresh wr wx g (newN x y) (newD x y))
      case first =>
        go_region_held3 (fun w' => w'.cell? ⟨w.heap.size, j * 2, none⟩ = some (.int .i64 x) ∧ w'.cell? ⟨w.heap.size, j * 2 + 1, none⟩ = some (.int .i64 y)) (first | (refine ⟨?_, ?_⟩ <;> (repeat first | assumption | refine keep_cell (by assumption) ?_ | refine keep_alloc ?_ _ | refine keep_drew ?_) <;> done) | go_keep) ((go_at_call 10; refine (new_any x y _ x0 x1 y0 y1).mono ?_; rintro e w1 ⟨rfl, hb1⟩; obtain ⟨hc1, hf1, hz1⟩ := bcell hb1; (try simp at hz1); (try have hw1_0 : w.heap.size < w1.heap.size := by omega); (try have hw1_1 : w.heap.size + 1 < w1.heap.size := by omega); (try have hw1_2 : w.heap.size + 1 + 1 < w1.heap.size := by omega); (try have hw1_3 : w.heap.size + 1 + 1 + 1 < w1.heap.size := by omega); (try have hw1_4 : w.heap.size + 1 + 1 + 1 + 1 < w1.heap.size := by omega); (try have hw1_5 : w.heap.size + 1 + 1 + 1 + 1 + 1 < w1.heap.size := by omega)))
        all_goals
          go_wp2_with fail
          go_meet
        · exact ⟨_, rfl, rfl, freshA 24 (undrew hb1)⟩
        · exact ⟨_, rfl, rfl, freshB (undrew (hb1.mono (by simp)))⟩
      case rest =>
        obtain ⟨g, rfl, rfl, hgf⟩ := hcut
        have HG := Lib.hid hgf
        obtain ⟨hg0, hg1, hg2, hg3, hbx⟩ := hgf
        obtain ⟨v5, rfl⟩ : ∃ z : World, z = wc := ⟨_, rfl⟩
        have hx1' := (hbx.cell (p := ⟨w.heap.size, j * 2, none⟩) hzr).trans hx1
        have hx2' := (hbx.cell (p := ⟨w.heap.size, j * 2 + 1, none⟩) hzr).trans hx2
        have n1' := World.new_ne v5 _ hx1'
        have n2' := World.new_ne v5 _ hx2'
        clear hx1 hx2 n1 n2
        go_upto_region 6 with fail
        go_cut [15, 16] (fun u v wx => ∃ g : Nat, u = .pointer (some ⟨g, 0, none⟩) ∧ v = .int .i64 (newE x y) ∧ Fresh v5 wx g (newN x y) (newD x y))
        case first =>
          go_region_held3 (fun w' => w'.cell? ⟨w.heap.size, j * 2, none⟩ = some (.int .i64 x) ∧ w'.cell? ⟨w.heap.size, j * 2 + 1, none⟩ = some (.int .i64 y)) (first | (refine ⟨?_, ?_⟩ <;> (repeat first | assumption | refine keep_cell (by assumption) ?_ | refine keep_alloc ?_ _ | refine keep_drew ?_) <;> done) | go_keep) ((go_at_call 27; refine (refnew_any x y _ x0 x1 y0 y1).mono ?_; rintro e w1 ⟨rfl, hb1⟩; obtain ⟨hc1, hf1, hz1⟩ := bcell hb1; (try simp at hz1); (try have hw1_0 : w.heap.size < w1.heap.size := by omega); (try have hw1_1 : w.heap.size + 1 < w1.heap.size := by omega); (try have hw1_2 : w.heap.size + 1 + 1 < w1.heap.size := by omega); (try have hw1_3 : w.heap.size + 1 + 1 + 1 < w1.heap.size := by omega); (try have hw1_4 : w.heap.size + 1 + 1 + 1 + 1 < w1.heap.size := by omega); (try have hw1_5 : w.heap.size + 1 + 1 + 1 + 1 + 1 < w1.heap.size := by omega)))
          all_goals
            go_wp2_with fail
            go_meet
          · exact ⟨_, rfl, rfl, freshA 24 (undrew hb1)⟩
          · exact ⟨_, rfl, rfl, freshB (undrew (hb1.mono (by simp)))⟩
        case rest =>
          obtain ⟨g', rfl, rfl, hgf'⟩ := hcut
          have HG' := Lib.hid hgf'
          obtain ⟨hg0', hg1', hg2', hg3', hbx'⟩ := hgf'
          obtain ⟨v6, rfl⟩ : ∃ z : World, z = wc := ⟨_, rfl⟩
          have hx1 := (hbx'.cell (p := ⟨w.heap.size, j * 2, none⟩) (show w.heap.size < v5.heap.size from Nat.lt_of_lt_of_le hzr hbx.size)).trans hx1'
          have hx2 := (hbx'.cell (p := ⟨w.heap.size, j * 2 + 1, none⟩) (show w.heap.size < v5.heap.size from Nat.lt_of_lt_of_le hzr hbx.size)).trans hx2'
          have ga := (hbx'.cell (p := ⟨g, 0, none⟩) hg1).trans hg2
          have gb := (hbx'.cell (p := ⟨g, 1, none⟩) hg1).trans hg3
          have n1 := World.new_ne v6 _ hx1
          have n2 := World.new_ne v6 _ hx2
          clear hx1' hx2' n1' n2' hg2 hg3
          go_wp2_with fail
          go_region_held3 (fun w' => w'.cell? ⟨w.heap.size, j * 2, none⟩ = some (.int .i64 x) ∧ w'.cell? ⟨w.heap.size, j * 2 + 1, none⟩ = some (.int .i64 y)) (first | (refine ⟨?_, ?_⟩ <;> (repeat first | assumption | refine keep_cell (by assumption) ?_ | refine keep_alloc ?_ _ | refine keep_drew ?_) <;> done) | go_keep) (fail)
          have HH := (HR.keep hbx).keep hbx'
          have hW17 : Below v6.heap.size v6 (v6.alloc (Obj.cells #[.int .i64 x, .int .i64 y] 24)).drew := (below_alloc (Below.refl _ _) (Nat.le_refl _) _).drew
          replace HH := HH.keep hW17
          have T13 : Two (v6.alloc (Obj.cells #[.int .i64 x, .int .i64 y] 24)).drew g (newN x y) (newD x y) := Two.keep ⟨ga, gb⟩ hW17
          have T17 : Two (v6.alloc (Obj.cells #[.int .i64 x, .int .i64 y] 24)).drew v6.heap.size x y := ⟨by simp [go_sem], by simp [go_sem]⟩
          clear HR hbr hzr hpr HG HG' hg0 hg1 hbx hx1 hx2 hg0' hg1' hg2' hg3' hbx' ga gb n1 n2 hW17
          generalize (v6.alloc (Obj.cells #[.int .i64 x, .int .i64 y] 24)).drew = V at *
          generalize v6.heap.size = g17 at *
          have bN := newN_bd x y
          have bD := newD_bd x y
          have V1 := Lib.hid (fun w => valid_any x y w x0 x1 y0 y1)
          have V2 := Lib.hid (fun w => refvalid_any x y w)
          have hE3 : Hid (newE x y = 0 → ∀ w : World, Calls Tryd.prog 28 #[rat (newN x y) (newD x y)] w fun e w' => e = .returned (.int .i64 0) ∧ Below w.heap.size w w') := Lib.hid (fun h w => by
            have := valid_any (newN x y) (newD x y) w (by omega) (by omega) (by omega) (by omega)
            rw [val_of_new h] at this; exact this)
          clear bN bD x0 x1 y0 y1
          generalize newN x y = N at *
          generalize newD x y = D at *
          generalize newE x y = E at *
          generalize valE x y = VE at *
          obtain ⟨f1, f2⟩ := id T13
          obtain ⟨f3, f4⟩ := id T17
          by_cases hE : E = 0
          · have V3 := hE3.out hE
            subst hE
            clear hE3
            go_upto_region 10 with fail
            go_cut [111] (fun u wx => u = .bool false ∧ Held w wx w.heap.size ps)
            case first =>
              go_region_with (first | (go_at_call_of 28 (Value.agg #[Value.int IntKind.i64 x, Value.int IntKind.i64 y]); (with_reducible refine (V1.out _).mono ?_); rintro e w1 ⟨rfl, hb1⟩; replace hb1 := undrew hb1; have H1 := HH.keep hb1; have t1 := T13.keep hb1; have t2 := T17.keep hb1; obtain ⟨f1, f2⟩ := id t1; obtain ⟨f3, f4⟩ := id t2) | (go_at_call 29; (with_reducible refine (V2.out _).mono ?_); rintro e w2 ⟨rfl, hb2⟩; have H2 := H1.keep hb2; have u1 := t1.keep hb2; obtain ⟨f1, f2⟩ := id u1) | (go_at_call_of 28 (Value.agg #[Value.int IntKind.i64 N, Value.int IntKind.i64 D]); (with_reducible refine (V3 _).mono ?_); rintro e w3 ⟨rfl, hb3⟩; have H3 := H2.keep hb3))
              all_goals
                go_wp2_with fail
                go_meet
                exact ⟨rfl, H3⟩
            case rest =>
              obtain ⟨rfl, HH⟩ := hcut
              obtain ⟨wx, rfl⟩ : ∃ z : World, z = wc := ⟨_, rfl⟩
              go_wp2_with fail
              refine ⟨⟨j + 1, by omega, by simp, HH⟩, ?_⟩
              simp [intOf]
              try omega
          · have hE' : (E == 0) = false := by simpa using hE
            clear hE3
            go_upto_region 10 with fail
            go_cut [111] (fun u wx => u = .bool false ∧ Held w wx w.heap.size ps)
            case first =>
              go_region_with (first | (go_at_call_of 28 (Value.agg #[Value.int IntKind.i64 x, Value.int IntKind.i64 y]); (with_reducible refine (V1.out _).mono ?_); rintro e w1 ⟨rfl, hb1⟩; replace hb1 := undrew hb1; have H1 := HH.keep hb1; have t1 := T13.keep hb1; have t2 := T17.keep hb1; obtain ⟨f1, f2⟩ := id t1; obtain ⟨f3, f4⟩ := id t2) | (go_at_call 29; (with_reducible refine (V2.out _).mono ?_); rintro e w2 ⟨rfl, hb2⟩; have H2 := H1.keep hb2))
              all_goals
                go_wp2_with fail
                go_meet
                exact ⟨rfl, H2⟩
            case rest =>
              obtain ⟨rfl, HH⟩ := hcut
              obtain ⟨wx, rfl⟩ : ∃ z : World, z = wc := ⟨_, rfl⟩
              go_wp2_with fail
              refine ⟨⟨j + 1, by omega, by simp, HH⟩, ?_⟩
              simp [intOf]
              try omega
    · obtain rfl : j = 4 := by omega
      have hB0 := hbr
      clear hbr hzr hpr HR hlt HL HF
      have G1 := Lib.hid (fun w => gen_any n m w hn0 hn hm0 hm1)
      have b1 := newN_bd (genA n m) (genB n m)
      have b2 := newD_bd (genA n m) (genB n m)
      unfold genN genD at G1
      generalize newN (genA n m) (genB n m) = A1 at *
      generalize newD (genA n m) (genB n m) = A2 at *
      have R1 := Lib.hid (fun w => around_any k 1099511627777 w hk0 hk (by decide) (by decide))
      have k1 := arN_nonneg k 1099511627777 (by decide)
      have k2 := arN_lt k 1099511627777 (by decide)
      generalize arN k 1099511627777 = K1 at *
      have R2 := Lib.hid (fun w => around_any k 1000 w hk0 hk (by decide) (by decide))
      have k3 := arN_nonneg k 1000 (by decide)
      have k4 := arN_lt k 1000 (by decide)
      generalize arN k 1000 = K2 at *
      go_upto_region 13 with (go_at_call 14; refine (G1.out _).mono ?_; rintro e w1 ⟨rfl, hb1⟩)
      have hps2 : ∃ ps : List (Int × Int), ps.length = 3 ∧ Fit ps ∧ PairsAt (w1.alloc (Obj.cells #[.int .i64 num, .int .i64 den, .int .i64 A1, .int .i64 A2, .int .i64 0, .int .i64 0] 24)) w1.heap.size ps := by
        refine ⟨[(num, den), (A1, A2), (0, 0)], rfl, ?_, ?_⟩
        · intro i x y hi
          match i, hi with
          | 0, hi => simp at hi; omega
          | 1, hi => simp at hi; omega
          | 2, hi => simp at hi; omega
          | i + 3, hi => simp at hi
        · intro i x y hi
          match i, hi with
          | 0, hi => simp at hi; obtain ⟨rfl, rfl⟩ := hi; simp
          | 1, hi => simp at hi; obtain ⟨rfl, rfl⟩ := hi; simp
          | 2, hi => simp at hi; obtain ⟨rfl, rfl⟩ := hi; simp
          | i + 3, hi => simp at hi
      obtain ⟨qs, hlen, hfit, hpa⟩ := hps2
      have hk1 := below_alloc hb1 (Nat.le_refl _) (Obj.cells #[.int .i64 num, .int .i64 den, .int .i64 A1, .int .i64 A2, .int .i64 0, .int .i64 0] 24)
      have HH : Held w (w1.alloc (Obj.cells #[.int .i64 num, .int .i64 den, .int .i64 A1, .int .i64 A2, .int .i64 0, .int .i64 0] 24)) w1.heap.size qs := ⟨hB0.trans (hk1.mono hB0.size), by simp, hpa⟩
      clear hB0 hk1 hb1 hpa G1 b1 b2
      generalize (w1.alloc (Obj.cells #[.int .i64 num, .int .i64 den, .int .i64 A1, .int .i64 A2, .int .i64 0, .int .i64 0] 24)) = W2 at *
      generalize w1.heap.size = B2 at *
      go_wp2_with fail
      refine (R1.out _).mono ?_
      rintro e w' ⟨rfl, rfl⟩
      go_wp2_with fail
      refine (R2.out _).mono ?_
      rintro e w' ⟨rfl, rfl⟩
      go_upto_region 14 with fail
      have hns : ∃ ns : List Int, ns.length = 4 ∧ (∀ (j : Nat) (x : Int), ns[j]? = some x → -9223372036854775808 ≤ x ∧ x ≤ 9223372036854775807) ∧ NumsAt (W2.alloc (Obj.cells #[.int .i64 k, .int .i64 K1, .int .i64 K2, .int .i64 (-1)] 3)) W2.heap.size ns := by
        refine ⟨[k, K1, K2, -1], rfl, ?_, ?_⟩
        · intro i x hi
          match i, hi with
          | 0, hi => simp at hi; omega
          | 1, hi => simp at hi; omega
          | 2, hi => simp at hi; omega
          | 3, hi => simp at hi; omega
          | i + 4, hi => simp at hi
        · intro i x hi
          match i, hi with
          | 0, hi => simp at hi; subst hi; simp
          | 1, hi => simp at hi; subst hi; simp
          | 2, hi => simp at hi; subst hi; simp
          | 3, hi => simp at hi; subst hi; simp
          | i + 4, hi => simp at hi
      obtain ⟨ns, hlen', hfit', hna⟩ := hns
      have hk1 := below_alloc (Below.refl W2.heap.size W2) (Nat.le_refl _) (Obj.cells #[.int .i64 k, .int .i64 K1, .int .i64 K2, .int .i64 (-1)] 3)
      replace HH := HH.keep hk1
      clear hk1 R1 R2 k1 k2 k3 k4
      generalize (W2.alloc (Obj.cells #[.int .i64 k, .int .i64 K1, .int .i64 K2, .int .i64 (-1)] 3)) = W3 at *
      generalize W2.heap.size = B3 at *
      have QL := Lib.hid hlen
      have QF := Lib.hid hfit
      have NL := Lib.hid hlen'
      have NF := Lib.hid hfit'
      clear hlen hfit hlen' hfit'
      go_upto_region 15 with fail
      go_loopw [20] (fun i wr => ∃ i0 : Nat, i0 ≤ 3 ∧ i = .int .i64 i0 ∧ Held w wr B2 qs ∧ NumsAt wr B3 ns) (fun i _ => 3 - (intOf i).toNat)
      case atStart => exact ⟨0, by omega, rfl, HH, hna⟩
      case round =>
        clear HH hna
        obtain ⟨i0, hi, rfl, HH, HN⟩ := hrel
        by_cases hlt : i0 < 3
        · obtain ⟨⟨x, y⟩, hx⟩ : ∃ z, qs[i0]? = some z := ⟨qs[i0]'(by have := QL.out; omega), List.getElem?_eq_getElem _⟩
          obtain ⟨⟨x0, x1⟩, ⟨y0, y1⟩⟩ := QF.out i0 x y hx
          have HX := Lib.hid hx
          clear hx
          obtain ⟨f1, f2⟩ := HH.2.2 i0 x y HX.out
          have z1 : (0 : Int) ≤ (i0 : Int) := by omega
          have z2 : (i0 : Int) < 3 := by omega
          have F1 := Lib.hid (fun w => Floor_any x y w x0 x1 y0 y1)
          have V2 := Lib.hid (fun w => refvalid_any x y w)
          have PP := Lib.hid (fun (u : Int) (w : World) (h : -9223372036854775808 ≤ u ∧ u ≤ 9223372036854775807) => part_any u x y w h.1 h.2 x0 x1 y0 y1)
          clear x0 x1 y0 y1
          have key : (valE x y = 0 ∧ sel (valE x y) (x / y) 0 = x / y ∧ Hid (∀ w : World, Calls Tryd.prog 31 #[.int .i64 x, .int .i64 y] w fun e w' => e = .returned (.int .i64 (x / y)) ∧ w = w')) ∨ (valE x y = 1 ∧ sel (valE x y) (x / y) 0 = 0) := by
            rcases valE_cases x y with h | h
            · obtain ⟨d1, d2, d3, d4, _⟩ := valE_ok h
              exact .inl ⟨h, sel_ok h _ _, Lib.hid (fun w => reffloor_any x y w d3 d4 d1 d2)⟩
            · exact .inr ⟨h, by rw [h]; rfl⟩
          generalize sel (valE x y) (x / y) 0 = fl at *
          generalize valE x y = v at *
          have HK := Lib.hid key
          clear key
          go_upto_region 18 with (go_at_call 30; refine (F1.out _).mono ?_; rintro e w1 ⟨rfl, hb1⟩)
          replace HH := HH.keep hb1
          replace HN := HN.keep hb1
          clear f1 f2 hb1 F1
          obtain ⟨f1, f2⟩ := HH.2.2 i0 x y HX.out
          go_upto_region 19 with (go_at_call 29; refine (V2.out _).mono ?_; rintro e w2 ⟨rfl, hb2⟩)
          replace HH := HH.keep hb2
          replace HN := HN.keep hb2
          clear f1 f2 hb2 V2
          obtain ⟨f1, f2⟩ := HH.2.2 i0 x y HX.out
          go_cut [177] (fun u wx => u = .bool false ∧ Held w wx B2 qs ∧ NumsAt wx B3 ns)
          case first =>
            rcases HK.out with ⟨rfl, rfl, kf⟩ | ⟨rfl, rfl⟩
            · simp only [show ((0 : Int) == 0) = true from rfl]
              clear HK
              go_quiet ((go_at_call 31; exact quiet_left (kf.out _)))
              go_wp2_with fail
              go_meet
              exact ⟨rfl, ⟨below_drewN HH.1 _, HH.2.1, HH.2.2⟩, HN⟩
            · simp only [show ((1 : Int) == 0) = false from rfl]
              clear HK
              go_quiet (fail)
              go_wp2_with fail
              go_meet
              exact ⟨rfl, ⟨below_drewN HH.1 _, HH.2.1, HH.2.2⟩, HN⟩
          case rest =>
            obtain ⟨rfl, HH, HN⟩ := hcut
            obtain ⟨wx, rfl⟩ : ∃ z : World, z = wc := ⟨_, rfl⟩
            go_upto_region 22 with fail
            go_loopw [24] (fun q wr => ∃ q0 : Nat, q0 ≤ 4 ∧ q = .int .i64 q0 ∧ Held w wr B2 qs ∧ NumsAt wr B3 ns) (fun q _ => 4 - (intOf q).toNat)
            case atStart => exact ⟨0, by omega, rfl, HH, HN⟩
            case round =>
              clear HH HN f1 f2
              obtain ⟨q0, hq, rfl, HH, HN⟩ := hrel
              by_cases hlt' : q0 < 4
              · obtain ⟨u, hu⟩ : ∃ z, ns[q0]? = some z := ⟨ns[q0]'(by have := NL.out; omega), List.getElem?_eq_getElem _⟩
                have HU := Lib.hid hu
                have hub := NF.out q0 u hu
                clear hu
                have z3 : (0 : Int) ≤ (q0 : Int) := by omega
                have z4 : (q0 : Int) < 4 := by omega
                have P1 := Lib.hid (fun w => PP.out u w hub)
                have P2 := Lib.hid (fun w => refpart_any u x y w)
                clear hub
                generalize partN u x y = pn at *
                generalize partE u x y = pe at *
                obtain ⟨f1, f2⟩ := HH.2.2 i0 x y HX.out
                have f3 := HN q0 u HU.out
                go_upto_region 24 with fail
                go_cut [25, 26] (fun a b wx => a = .int .i64 pn ∧ b = .int .i64 pe ∧ Held w wx B2 qs ∧ NumsAt wx B3 ns)
                case first =>
                  go_region_with (go_at_call 12; (with_reducible refine (P1.out _).mono ?_); rintro e w1 ⟨rfl, hb1⟩; replace hb1 := undrew hb1; have H1 := HH.keep hb1; have N1 := HN.keep hb1)
                  all_goals
                    go_wp2_with fail
                    go_meet
                    exact ⟨rfl, rfl, H1, N1⟩
                case rest =>
                  clear HH HN f1 f2 f3
                  obtain ⟨rfl, rfl, HH, HN⟩ := hcut
                  obtain ⟨wx, rfl⟩ : ∃ z : World, z = wc := ⟨_, rfl⟩
                  obtain ⟨f1, f2⟩ := HH.2.2 i0 x y HX.out
                  have f3 := HN q0 u HU.out
                  go_upto_region 25 with fail
                  go_cut [27, 28] (fun a b wx => a = .int .i64 pn ∧ b = .int .i64 pe ∧ Held w wx B2 qs ∧ NumsAt wx B3 ns)
                  case first =>
                    go_region_with (go_at_call 32; (with_reducible refine (P2.out _).mono ?_); rintro e w1 ⟨rfl, hb1⟩; replace hb1 := undrew hb1; have H1 := HH.keep hb1; have N1 := HN.keep hb1)
                    all_goals
                      go_wp2_with fail
                      go_meet
                      exact ⟨rfl, rfl, H1, N1⟩
                  case rest =>
                    clear HH HN f1 f2 f3
                    obtain ⟨rfl, rfl, HH, HN⟩ := hcut
                    obtain ⟨wx, rfl⟩ : ∃ z : World, z = wc := ⟨_, rfl⟩
                    go_wp2_with fail
                    refine ⟨⟨q0 + 1, by omega, by simp, HH, HN⟩, ?_⟩
                    simp [intOf]
                    try omega
              · obtain rfl : q0 = 4 := by omega
                go_wp2_with fail
                refine ⟨⟨i0 + 1, by omega, by simp, HH, HN⟩, ?_⟩
                simp [intOf]
                try omega
        · obtain rfl : i0 = 3 := by omega
          go_wp2_with fail
          refine (lives_any c wr (keep_cell HH.1 hm) (Nat.lt_of_lt_of_le hw HH.1.size)).mono ?_
          rintro e w5 ⟨rfl, hb5⟩
          go_wp2
          go_ret
          exact ⟨rfl, HH.1.trans (hb5.mono HH.1.size)⟩
end Go.Proofs.YtjcdjmjebbllkaaDoor
