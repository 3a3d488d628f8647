/- What the reference's Div returns. -/
import Derived.Test.YtjcdjmjebbllkaaDoorDivW
namespace Go.Proofs.YtjcdjmjebbllkaaDoor
open Go.RowKit
attribute [local go_sem] le_add_one'
attribute [local go_sem ↓] Go.wp_at_zero Go.wp_at_succ

theorem over_iff2 {x y : Int} (hy : 0 < y) : ((1048576 : Int).tdiv y < x) ↔ 1048576 < x * y := by
  rw [Int.tdiv_eq_ediv_of_nonneg (by omega), Int.ediv_lt_iff_lt_mul hy]
theorem den_div (y : Int) : -1048576 ≤ (1048576 : Int).tdiv y ∧ (1048576 : Int).tdiv y ≤ 1048576 := by
  have h : ((1048576 : Int).tdiv y).natAbs = (1048576 : Int).natAbs / y.natAbs := Int.natAbs_tdiv _ _
  have := Nat.div_le_self (1048576 : Int).natAbs y.natAbs
  omega

theorem inv_any (c d c' d' : Int) (w : World) (hs : (c < 0 ∧ -c = c' ∧ -d = d') ∨ (¬ c < 0 ∧ c' = c ∧ d' = d)) (hc : -1099511627776 ≤ c ∧ c ≤ 1099511627776) (hd : -1099511627776 ≤ d ∧ d ≤ 1099511627776) :
    Calls Tryd.prog 62 #[rat c d] w fun e w' => e = .returned (rat d' c') ∧ Below w.heap.size w w' := by
  rcases hs with ⟨h1, h2, h3⟩ | ⟨h1, h2, h3⟩
  · have f1 : IntKind.i64.wrap c' = c' := IntWalk.i64_in _ (by omega)
    have f2 : IntKind.i64.wrap d' = d' := IntWalk.i64_in _ (by omega)
    clear hc hd
    go_enter Tryd.func62, Tryd.ntmps62
    go_wp2
    exact bodyPost_ret (v := rat d' c') (by simp [*, results, Tryd.results62, go_sem]) rfl ⟨rfl, (by repeat (first | exact Below.refl _ _ | assumption | refine Below.setCell ?_ (by (first | omega | (simp <;> omega))) _ | refine below_drewN ?_ _ | refine Below.drew ?_ | refine Below.alloc ?_ (by (first | omega | (simp <;> omega))) _ | (refine after (h1 := by assumption) ?_ ?_; rotate_left; (first | omega | (simp <;> omega)))))⟩
  · subst h2 h3
    go_enter Tryd.func62, Tryd.ntmps62
    go_wp2
    exact bodyPost_ret (v := rat d' c') (by simp [*, results, Tryd.results62, go_sem]) rfl ⟨rfl, (by repeat (first | exact Below.refl _ _ | assumption | refine Below.setCell ?_ (by (first | omega | (simp <;> omega))) _ | refine below_drewN ?_ _ | refine Below.drew ?_ | refine Below.alloc ?_ (by (first | omega | (simp <;> omega))) _ | (refine after (h1 := by assumption) ?_ ?_; rotate_left; (first | omega | (simp <;> omega)))))⟩

theorem inv_sign {a b c d : Int} (v1 : valE a b = 0) (v2 : valE c d = 0) (hc : c ≠ 0) :
    ∃ c' d' : Int, ((c < 0 ∧ -c = c' ∧ -d = d') ∨ (¬ c < 0 ∧ c' = c ∧ d' = d)) ∧ 1 ≤ c' ∧ c' ≤ 1099511627776 ∧ -1048576 ≤ d' ∧ d' ≤ 1048576 ∧ d' ≠ 0 ∧ Int.gcd d' c' = 1 ∧
      newE (a * d) (b * c) = newE (a * d') (b * c') ∧ newN (a * d) (b * c) = newN (a * d') (b * c') ∧ newD (a * d) (b * c) = newD (a * d') (b * c') := by
  obtain ⟨b1, b2, b3, b4, g1⟩ := valE_ok v1
  obtain ⟨d1, d2, d3, d4, g2⟩ := valE_ok v2
  by_cases h : c < 0
  · obtain ⟨e1, e2, e3⟩ := new_neg (a * d) (b * c)
    refine ⟨-c, -d, .inl ⟨h, rfl, rfl⟩, by omega, by omega, by omega, by omega, by omega, by rw [Int.gcd_comm]; simpa using g2, ?_⟩
    rw [Int.mul_neg, Int.mul_neg, e1, e2, e3]
    exact ⟨rfl, rfl, rfl⟩
  · exact ⟨c, d, .inr ⟨h, rfl, rfl⟩, by omega, by omega, by omega, by omega, by omega, by rw [Int.gcd_comm]; exact g2, rfl, rfl, rfl⟩

set_option maxHeartbeats 1000000 in
theorem refdiv_any (a b c d : Int) (w : World) :
    Calls Tryd.prog 39 #[rat a b, rat c d] w fun e w' => e = .returned (.tuple #[rat (divN a b c d) (divD a b c d), .int .i64 (divE a b c d)]) ∧ Below w.heap.size w w' := by
  have H := Lib.hid (both_any a b c d)
  unfold divN divD divE
  by_cases h : val2 a b c d = 0
  · rw [sel_ok h, sel_ok h, sel_ok h]
    rw [h] at H
    obtain ⟨v1, v2⟩ := val2_ok h
    clear h
    by_cases hc : c = 0
    · subst hc
      rw [if_pos rfl, if_pos rfl, if_pos rfl]
      clear v1 v2
      go_enter Tryd.func39, Tryd.ntmps39
      go_wp2_with (go_at_call 17; refine (H.out _).mono ?_; rintro e w1 ⟨rfl, hb1⟩; obtain ⟨hc1, hf1, hz1⟩ := bcell hb1; (try simp at hz1); (try have hw1_0 : w.heap.size < w1.heap.size := by omega); (try have hw1_1 : w.heap.size + 1 < w1.heap.size := by omega); (try have hw1_2 : w.heap.size + 1 + 1 < w1.heap.size := by omega); (try have hw1_3 : w.heap.size + 1 + 1 + 1 < w1.heap.size := by omega); (try have hw1_4 : w.heap.size + 1 + 1 + 1 + 1 < w1.heap.size := by omega); (try have hw1_5 : w.heap.size + 1 + 1 + 1 + 1 + 1 < w1.heap.size := by omega))
      exact bodyPost_ret (v := .tuple #[rat 0 0, .int .i64 1]) (by simp [*, results, Tryd.results39, go_sem]) rfl ⟨rfl, (by repeat (first | exact Below.refl _ _ | assumption | refine Below.setCell ?_ (by (first | omega | (simp <;> omega))) _ | refine below_drewN ?_ _ | refine Below.drew ?_ | refine Below.alloc ?_ (by (first | omega | (simp <;> omega))) _ | (refine after (h1 := by assumption) ?_ ?_; rotate_left; (first | omega | (simp <;> omega)))))⟩
    · rw [if_neg hc, if_neg hc, if_neg hc]
      obtain ⟨b1, b2, b3, b4, g1⟩ := valE_ok v1
      obtain ⟨d1, d2, d3, d4, g2⟩ := valE_ok v2
      obtain ⟨c', d', hs, k1, k2, k3, k4, k5, k6, e1, e2, e3⟩ := inv_sign v1 v2 hc
      rw [e1, e2, e3]
      clear e1 e2 e3 v1 v2 g2
      have hcc : (c == 0) = false := by simpa using hc
      by_cases ha : a = 0
      · subst ha
        rw [Int.zero_mul]
        obtain ⟨e1, e2, e3⟩ := new_zero (t := b * c') (Int.mul_pos (by omega) (by omega))
        rw [e1, e2, e3]
        clear e1 e2 e3 hs g1 k1 k2 k3 k4 k5 k6
        go_enter Tryd.func39, Tryd.ntmps39
        go_wp2_with (go_at_call 17; refine (H.out _).mono ?_; rintro e w1 ⟨rfl, hb1⟩; obtain ⟨hc1, hf1, hz1⟩ := bcell hb1; (try simp at hz1); (try have hw1_0 : w.heap.size < w1.heap.size := by omega); (try have hw1_1 : w.heap.size + 1 < w1.heap.size := by omega); (try have hw1_2 : w.heap.size + 1 + 1 < w1.heap.size := by omega); (try have hw1_3 : w.heap.size + 1 + 1 + 1 < w1.heap.size := by omega); (try have hw1_4 : w.heap.size + 1 + 1 + 1 + 1 < w1.heap.size := by omega); (try have hw1_5 : w.heap.size + 1 + 1 + 1 + 1 + 1 < w1.heap.size := by omega))
        exact bodyPost_ret (v := .tuple #[rat 0 1, .int .i64 0]) (by simp [*, results, Tryd.results39, go_sem]) rfl ⟨rfl, (by repeat (first | exact Below.refl _ _ | assumption | refine Below.setCell ?_ (by (first | omega | (simp <;> omega))) _ | refine below_drewN ?_ _ | refine Below.drew ?_ | refine Below.alloc ?_ (by (first | omega | (simp <;> omega))) _ | (refine after (h1 := by assumption) ?_ ?_; rotate_left; (first | omega | (simp <;> omega)))))⟩
      · have haa : (a == 0) = false := by simpa using ha
        obtain ⟨n, m, k, hn, hm, hk, n0, m0, n1, m1, kk, r1, r2, ⟨e1, e2, e3⟩, L⟩ := refmul_law' b1 b2 b3 b4 g1 k1 k2 k3 k4 k6 ha k5
        rw [e1, e2, e3]
        clear e1 e2 e3 g1 k6
        have I := Lib.hid (fun w => inv_any c d c' d' w hs (by omega) (by omega))
        clear hs
        have G := Lib.hid (fun w => common_any a c' w (by omega) (by omega) (by omega) (by omega))
        have G' := Lib.hid (fun w => common_any d' b w (by omega) (by omega) (by omega) (by omega))
        have pg : 0 < Int.gcd a c' := gcd_pos_right a c' (by omega)
        have ph : 0 < Int.gcd d' b := gcd_pos_right d' b (by omega)
        generalize Int.gcd a c' = g at *
        generalize Int.gcd d' b = h at *
        have pg' : ¬ g = 0 := by omega
        have ph' : ¬ h = 0 := by omega
        have q1 : IntKind.i64.wrap (a.tdiv (g : Int)) = n := by rw [hn]; exact IntWalk.i64_in _ (by omega)
        have q2 : IntKind.i64.wrap (d'.tdiv (h : Int)) = m := by rw [hm]; exact IntWalk.i64_in _ (by omega)
        clear hn hm
        obtain ⟨DD, hDD⟩ : ∃ x, b.tdiv (h : Int) = x := ⟨_, rfl⟩
        obtain ⟨KK, hKK⟩ : ∃ x, c'.tdiv (g : Int) = x := ⟨_, rfl⟩
        have q3 : IntKind.i64.wrap (b.tdiv (h : Int)) = DD := by rw [← hDD]; exact IntWalk.i64_in _ (by omega)
        have q4 : IntKind.i64.wrap (c'.tdiv (g : Int)) = KK := by rw [← hKK]; exact IntWalk.i64_in _ (by omega)
        rw [hDD] at r1 hk
        rw [hKK] at r2 hk
        clear hDD hKK
        have kp : 0 < KK := by
          rcases Int.lt_or_eq_of_le r2.1 with x | x
          · exact x
          · rw [← x, Int.mul_zero] at hk; omega
        obtain ⟨X, hX, x0, x1, x2⟩ : ∃ X : Int, ((n < 0 ∧ IntKind.i64.wrap (-n) = X) ∨ (¬ n < 0 ∧ X = n)) ∧ 0 ≤ X ∧ X ≤ 1099511627776 ∧ X.natAbs = n.natAbs := by
          by_cases s : n < 0
          · exact ⟨-n, .inl ⟨s, IntWalk.i64_in _ (by omega)⟩, by omega, by omega, by omega⟩
          · exact ⟨n, .inr ⟨s, rfl⟩, by omega, by omega, rfl⟩
        obtain ⟨Y, hY, y0, y1, y2⟩ : ∃ Y : Int, ((m < 0 ∧ IntKind.i64.wrap (-m) = Y) ∨ (¬ m < 0 ∧ Y = m)) ∧ 0 < Y ∧ Y ≤ 1048576 ∧ Y.natAbs = m.natAbs := by
          by_cases s : m < 0
          · exact ⟨-m, .inl ⟨s, IntWalk.i64_in _ (by omega)⟩, by omega, by omega, by omega⟩
          · exact ⟨m, .inr ⟨s, rfl⟩, by omega, by omega, rfl⟩
        have Lh : Hid ((1099511627776 : Int).tdiv Y < X ∨ (1048576 : Int).tdiv KK < DD → newE (n * m) k = 5 ∧ newN (n * m) k = 0 ∧ newD (n * m) k = 0) := Lib.hid (fun o => L (by
          rcases o with o | o
          · left
            have := (over_iff x0 y0).1 o
            rw [x2, y2] at this; exact this
          · right
            have := (over_iff2 kp).1 o
            omega))
        have bnd : ¬ (1099511627776 : Int).tdiv Y < X → -1099511627776 ≤ n * m ∧ n * m ≤ 1099511627776 := fun o => by
          have o' : ¬ 1099511627776 < X.natAbs * Y.natAbs := fun t => o ((over_iff x0 y0).2 t)
          rw [x2, y2] at o'
          have := Int.natAbs_mul n m
          omega
        have z2 : IntKind.i64.wrap (DD * KK) = k := by rw [hk]; exact IntWalk.i64_in _ (by omega)
        have Ff : Hid (¬ (1099511627776 : Int).tdiv Y < X → Hid (∀ w : World, Calls Tryd.prog 43 #[.int .i64 (n * m), .int .i64 k] w fun e w' => e = .returned (.tuple #[rat (newN (n * m) k) (newD (n * m) k), .int .i64 (newE (n * m) k)]) ∧ Below w.heap.size w w')) := Lib.hid (fun o =>
          Lib.hid (fun w => by
            have := bnd o
            exact of_any (n * m) k w (by omega) (by omega) (by omega) (by omega) (by omega)))
        have z1 := Lib.hid (fun (o : ¬ (1099511627776 : Int).tdiv Y < X) => (IntWalk.i64_in (n * m) (by have := bnd o; omega) : IntKind.i64.wrap (n * m) = n * m))
        generalize newE (n * m) k = E at *
        generalize newN (n * m) k = N at *
        generalize newD (n * m) k = D at *
        have t1 : IntKind.i64.wrap ((1099511627776 : Int).tdiv Y) = (1099511627776 : Int).tdiv Y := IntWalk.i64_in _ (by have := max_div Y; omega)
        have t2 : IntKind.i64.wrap ((1048576 : Int).tdiv KK) = (1048576 : Int).tdiv KK := IntWalk.i64_in _ (by have := den_div KK; omega)
        have pY : ¬ Y = 0 := by omega
        have pK : ¬ KK = 0 := by omega
        clear x2 y2 L bnd hk k5 n0 m0
        go_enter Tryd.func39, Tryd.ntmps39
        go_wp2_with (go_at_call 17; refine (H.out _).mono ?_; rintro e w1 ⟨rfl, hb1⟩; obtain ⟨hc1, hf1, hz1⟩ := bcell hb1; (try simp at hz1); (try have hw1_0 : w.heap.size < w1.heap.size := by omega); (try have hw1_1 : w.heap.size + 1 < w1.heap.size := by omega); (try have hw1_2 : w.heap.size + 1 + 1 < w1.heap.size := by omega); (try have hw1_3 : w.heap.size + 1 + 1 + 1 < w1.heap.size := by omega); (try have hw1_4 : w.heap.size + 1 + 1 + 1 + 1 < w1.heap.size := by omega); (try have hw1_5 : w.heap.size + 1 + 1 + 1 + 1 + 1 < w1.heap.size := by omega))
        go_upto_region 8 with fail
        have Y1 : w1.cell? ⟨w.heap.size, 0, none⟩ = some (.int .i64 a) := keep_cell hb1 (by simp [go_sem])
        have Y2 : w1.cell? ⟨w.heap.size, 1, none⟩ = some (.int .i64 b) := keep_cell hb1 (by simp [go_sem])
        have Y3 : w1.cell? ⟨w.heap.size + 1, 0, none⟩ = some (.int .i64 c) := keep_cell hb1 (by simp [go_sem])
        have Y4 : w1.cell? ⟨w.heap.size + 1, 1, none⟩ = some (.int .i64 d) := keep_cell hb1 (by simp [go_sem])
        have Y5 : w1.cell? ⟨w.heap.size + 1 + 1, 0, none⟩ = some (.int .i64 0) := keep_cell hb1 (by simp [go_sem])
        have Y6 : w1.cell? ⟨w.heap.size + 1 + 1, 1, none⟩ = some (.int .i64 0) := keep_cell hb1 (by simp [go_sem])
        have Y7 : w1.frozen? ⟨w.heap.size + 1 + 1, 0, none⟩ = false := (hb1.frozen (p := ⟨w.heap.size + 1 + 1, 0, none⟩) (by simp [go_sem])).trans (by simp [go_sem])
        have Y8 : w1.frozen? ⟨w.heap.size + 1 + 1, 1, none⟩ = false := (hb1.frozen (p := ⟨w.heap.size + 1 + 1, 1, none⟩) (by simp [go_sem])).trans (by simp [go_sem])
        have hbw : Below w.heap.size w w1 := (by repeat (first | exact Below.refl _ _ | assumption | refine Below.setCell ?_ (by (first | omega | (simp <;> omega))) _ | refine below_drewN ?_ _ | refine Below.drew ?_ | refine Below.alloc ?_ (by (first | omega | (simp <;> omega))) _ | (refine after (h1 := by assumption) ?_ ?_; rotate_left; (first | omega | (simp <;> omega)))))
        have hsz : w.heap.size + 1 + 1 < w1.heap.size := by omega
        clear hc1 hf1 hb1 hz1 H
        go_upto_region 9 with (go_at_call 62; refine (I.out _).mono ?_; rintro e w2 ⟨rfl, hb2⟩)
        have A1 : (w2.alloc (Obj.cells #[Value.int IntKind.i64 d', Value.int IntKind.i64 c'] 24)).cell? ⟨w.heap.size, 0, none⟩ = some (.int .i64 a) := keep_alloc (keep_cell hb2 Y1) _
        have A2 : (w2.alloc (Obj.cells #[Value.int IntKind.i64 d', Value.int IntKind.i64 c'] 24)).cell? ⟨w.heap.size, 1, none⟩ = some (.int .i64 b) := keep_alloc (keep_cell hb2 Y2) _
        have A3 : (w2.alloc (Obj.cells #[Value.int IntKind.i64 d', Value.int IntKind.i64 c'] 24)).cell? ⟨w2.heap.size, 0, none⟩ = some (.int .i64 d') := by simp [go_sem]
        have A4 : (w2.alloc (Obj.cells #[Value.int IntKind.i64 d', Value.int IntKind.i64 c'] 24)).cell? ⟨w2.heap.size, 1, none⟩ = some (.int .i64 c') := by simp [go_sem]
        have Z5 : (w2.alloc (Obj.cells #[Value.int IntKind.i64 d', Value.int IntKind.i64 c'] 24)).cell? ⟨w.heap.size + 1 + 1, 0, none⟩ = some (.int .i64 0) := keep_alloc (keep_cell hb2 Y5) _
        have Z6 : (w2.alloc (Obj.cells #[Value.int IntKind.i64 d', Value.int IntKind.i64 c'] 24)).cell? ⟨w.heap.size + 1 + 1, 1, none⟩ = some (.int .i64 0) := keep_alloc (keep_cell hb2 Y6) _
        have sz2 : w.heap.size + 1 + 1 < w2.heap.size := Nat.lt_of_lt_of_le hsz hb2.size
        have F3 : (w2.alloc (Obj.cells #[Value.int IntKind.i64 d', Value.int IntKind.i64 c'] 24)).frozen? ⟨w.heap.size + 1 + 1, 0, none⟩ = false := by
          have := (hb2.frozen (p := ⟨w.heap.size + 1 + 1, 0, none⟩) hsz).trans Y7
          simp [go_sem, *]
        have F4 : (w2.alloc (Obj.cells #[Value.int IntKind.i64 d', Value.int IntKind.i64 c'] 24)).frozen? ⟨w.heap.size + 1 + 1, 1, none⟩ = false := by
          have := (hb2.frozen (p := ⟨w.heap.size + 1 + 1, 1, none⟩) hsz).trans Y8
          simp [go_sem, *]
        have hsz' : w.heap.size + 1 + 1 < (w2.alloc (Obj.cells #[Value.int IntKind.i64 d', Value.int IntKind.i64 c'] 24)).heap.size := by simp [go_sem]; omega
        have hbA : Below w.heap.size w (w2.alloc (Obj.cells #[Value.int IntKind.i64 d', Value.int IntKind.i64 c'] 24)) := (by repeat (first | exact Below.refl _ _ | assumption | refine Below.setCell ?_ (by (first | omega | (simp <;> omega))) _ | refine below_drewN ?_ _ | refine Below.drew ?_ | refine Below.alloc ?_ (by (first | omega | (simp <;> omega))) _ | (refine after (h1 := by assumption) ?_ ?_; rotate_left; (first | omega | (simp <;> omega)))))
        clear hb2 sz2 hsz hbw Y1 Y2 Y3 Y4 Y5 Y6 Y7 Y8
        generalize (w2.alloc (Obj.cells #[Value.int IntKind.i64 d', Value.int IntKind.i64 c'] 24)) = wA at *
        generalize w2.heap.size = p at *
        clear I
        go_wp2_with fail
        refine (G.out _).mono ?_
        rintro e w' ⟨rfl, dr1, rfl⟩
        go_wp2_with fail
        refine (G'.out _).mono ?_
        rintro e w' ⟨rfl, dr2, rfl⟩
        clear G G'
        go_upto_region 13 with fail
        rcases hX with ⟨sn, fx⟩ | ⟨sn, rfl⟩
        · have s1 : decide (n < 0) = true := by simpa using sn
          rcases hY with ⟨sm, fy⟩ | ⟨sm, rfl⟩
          · have s2 : decide (m < 0) = true := by simpa using sm
            go_upto_region 21 with fail
            by_cases c1 : (1099511627776 : Int).tdiv Y < X
            · have s5 : decide ((1099511627776 : Int).tdiv Y < X) = true := by simpa using c1
              obtain ⟨e1, e2, e3⟩ := Lh.out (by exact .inl c1)
              subst e1 e2 e3
              go_wp2_with fail
              exact bodyPost_ret (v := .tuple #[rat 0 0, .int .i64 5]) (by simp [*, results, Tryd.results39, go_sem]) rfl ⟨rfl, (by repeat (first | exact Below.refl _ _ | assumption | refine Below.setCell ?_ (by (first | omega | (simp <;> omega))) _ | refine below_drewN ?_ _ | refine Below.drew ?_ | refine Below.alloc ?_ (by (first | omega | (simp <;> omega))) _ | (refine after (h1 := by assumption) ?_ ?_; rotate_left; (first | omega | (simp <;> omega)))))⟩
            · have s5 : decide ((1099511627776 : Int).tdiv Y < X) = false := by simpa using c1
              by_cases c4 : (1048576 : Int).tdiv KK < DD
              · have s6 : decide ((1048576 : Int).tdiv KK < DD) = true := by simpa using c4
                obtain ⟨e1, e2, e3⟩ := Lh.out (by exact .inr c4)
                subst e1 e2 e3
                go_wp2_with fail
                exact bodyPost_ret (v := .tuple #[rat 0 0, .int .i64 5]) (by simp [*, results, Tryd.results39, go_sem]) rfl ⟨rfl, (by repeat (first | exact Below.refl _ _ | assumption | refine Below.setCell ?_ (by (first | omega | (simp <;> omega))) _ | refine below_drewN ?_ _ | refine Below.drew ?_ | refine Below.alloc ?_ (by (first | omega | (simp <;> omega))) _ | (refine after (h1 := by assumption) ?_ ?_; rotate_left; (first | omega | (simp <;> omega)))))⟩
              · have s6 : decide ((1048576 : Int).tdiv KK < DD) = false := by simpa using c4
                have F := Ff.out (by first | exact c1 | exact Int.not_lt.1 c1)
                have z1' := z1.out (by first | exact c1 | exact Int.not_lt.1 c1)
                clear z1 Ff
                go_wp2_with (go_at_call 43; refine (F.out _).mono ?_; rintro e w3 ⟨rfl, hb3⟩; have X1 := keep_cell hb3 (keep_drewN Z5); have X2 := keep_cell hb3 (keep_drewN Z6); have X3 := (hb3.frozen (p := ⟨w.heap.size + 1 + 1, 0, none⟩) hsz').trans F3; have X4 := (hb3.frozen (p := ⟨w.heap.size + 1 + 1, 1, none⟩) hsz').trans F4; have X5 : w.heap.size + 1 + 1 < w3.heap.size := Nat.lt_of_lt_of_le hsz' hb3.size)
                exact bodyPost_ret (v := .tuple #[rat N D, .int .i64 E]) (by simp [*, results, Tryd.results39, go_sem]) rfl ⟨rfl, (by repeat (first | exact Below.refl _ _ | assumption | refine Below.setCell ?_ (by (first | omega | (simp <;> omega))) _ | refine below_drewN ?_ _ | refine Below.drew ?_ | refine Below.alloc ?_ (by (first | omega | (simp <;> omega))) _ | (refine after (h1 := by assumption) ?_ ?_; rotate_left; (first | omega | (simp <;> omega)))))⟩
          · have s2 : decide (Y < 0) = false := by simpa using sm
            go_upto_region 21 with fail
            by_cases c1 : (1099511627776 : Int).tdiv Y < X
            · have s5 : decide ((1099511627776 : Int).tdiv Y < X) = true := by simpa using c1
              obtain ⟨e1, e2, e3⟩ := Lh.out (by exact .inl c1)
              subst e1 e2 e3
              go_wp2_with fail
              exact bodyPost_ret (v := .tuple #[rat 0 0, .int .i64 5]) (by simp [*, results, Tryd.results39, go_sem]) rfl ⟨rfl, (by repeat (first | exact Below.refl _ _ | assumption | refine Below.setCell ?_ (by (first | omega | (simp <;> omega))) _ | refine below_drewN ?_ _ | refine Below.drew ?_ | refine Below.alloc ?_ (by (first | omega | (simp <;> omega))) _ | (refine after (h1 := by assumption) ?_ ?_; rotate_left; (first | omega | (simp <;> omega)))))⟩
            · have s5 : decide ((1099511627776 : Int).tdiv Y < X) = false := by simpa using c1
              by_cases c4 : (1048576 : Int).tdiv KK < DD
              · have s6 : decide ((1048576 : Int).tdiv KK < DD) = true := by simpa using c4
                obtain ⟨e1, e2, e3⟩ := Lh.out (by exact .inr c4)
                subst e1 e2 e3
                go_wp2_with fail
                exact bodyPost_ret (v := .tuple #[rat 0 0, .int .i64 5]) (by simp [*, results, Tryd.results39, go_sem]) rfl ⟨rfl, (by repeat (first | exact Below.refl _ _ | assumption | refine Below.setCell ?_ (by (first | omega | (simp <;> omega))) _ | refine below_drewN ?_ _ | refine Below.drew ?_ | refine Below.alloc ?_ (by (first | omega | (simp <;> omega))) _ | (refine after (h1 := by assumption) ?_ ?_; rotate_left; (first | omega | (simp <;> omega)))))⟩
              · have s6 : decide ((1048576 : Int).tdiv KK < DD) = false := by simpa using c4
                have F := Ff.out (by first | exact c1 | exact Int.not_lt.1 c1)
                have z1' := z1.out (by first | exact c1 | exact Int.not_lt.1 c1)
                clear z1 Ff
                go_wp2_with (go_at_call 43; refine (F.out _).mono ?_; rintro e w3 ⟨rfl, hb3⟩; have X1 := keep_cell hb3 (keep_drewN Z5); have X2 := keep_cell hb3 (keep_drewN Z6); have X3 := (hb3.frozen (p := ⟨w.heap.size + 1 + 1, 0, none⟩) hsz').trans F3; have X4 := (hb3.frozen (p := ⟨w.heap.size + 1 + 1, 1, none⟩) hsz').trans F4; have X5 : w.heap.size + 1 + 1 < w3.heap.size := Nat.lt_of_lt_of_le hsz' hb3.size)
                exact bodyPost_ret (v := .tuple #[rat N D, .int .i64 E]) (by simp [*, results, Tryd.results39, go_sem]) rfl ⟨rfl, (by repeat (first | exact Below.refl _ _ | assumption | refine Below.setCell ?_ (by (first | omega | (simp <;> omega))) _ | refine below_drewN ?_ _ | refine Below.drew ?_ | refine Below.alloc ?_ (by (first | omega | (simp <;> omega))) _ | (refine after (h1 := by assumption) ?_ ?_; rotate_left; (first | omega | (simp <;> omega)))))⟩
        · have s1 : decide (X < 0) = false := by simpa using sn
          rcases hY with ⟨sm, fy⟩ | ⟨sm, rfl⟩
          · have s2 : decide (m < 0) = true := by simpa using sm
            go_upto_region 21 with fail
            by_cases c1 : (1099511627776 : Int).tdiv Y < X
            · have s5 : decide ((1099511627776 : Int).tdiv Y < X) = true := by simpa using c1
              obtain ⟨e1, e2, e3⟩ := Lh.out (by exact .inl c1)
              subst e1 e2 e3
              go_wp2_with fail
              exact bodyPost_ret (v := .tuple #[rat 0 0, .int .i64 5]) (by simp [*, results, Tryd.results39, go_sem]) rfl ⟨rfl, (by repeat (first | exact Below.refl _ _ | assumption | refine Below.setCell ?_ (by (first | omega | (simp <;> omega))) _ | refine below_drewN ?_ _ | refine Below.drew ?_ | refine Below.alloc ?_ (by (first | omega | (simp <;> omega))) _ | (refine after (h1 := by assumption) ?_ ?_; rotate_left; (first | omega | (simp <;> omega)))))⟩
            · have s5 : decide ((1099511627776 : Int).tdiv Y < X) = false := by simpa using c1
              by_cases c4 : (1048576 : Int).tdiv KK < DD
              · have s6 : decide ((1048576 : Int).tdiv KK < DD) = true := by simpa using c4
                obtain ⟨e1, e2, e3⟩ := Lh.out (by exact .inr c4)
                subst e1 e2 e3
                go_wp2_with fail
                exact bodyPost_ret (v := .tuple #[rat 0 0, .int .i64 5]) (by simp [*, results, Tryd.results39, go_sem]) rfl ⟨rfl, (by repeat (first | exact Below.refl _ _ | assumption | refine Below.setCell ?_ (by (first | omega | (simp <;> omega))) _ | refine below_drewN ?_ _ | refine Below.drew ?_ | refine Below.alloc ?_ (by (first | omega | (simp <;> omega))) _ | (refine after (h1 := by assumption) ?_ ?_; rotate_left; (first | omega | (simp <;> omega)))))⟩
              · have s6 : decide ((1048576 : Int).tdiv KK < DD) = false := by simpa using c4
                have F := Ff.out (by first | exact c1 | exact Int.not_lt.1 c1)
                have z1' := z1.out (by first | exact c1 | exact Int.not_lt.1 c1)
                clear z1 Ff
                go_wp2_with (go_at_call 43; refine (F.out _).mono ?_; rintro e w3 ⟨rfl, hb3⟩; have X1 := keep_cell hb3 (keep_drewN Z5); have X2 := keep_cell hb3 (keep_drewN Z6); have X3 := (hb3.frozen (p := ⟨w.heap.size + 1 + 1, 0, none⟩) hsz').trans F3; have X4 := (hb3.frozen (p := ⟨w.heap.size + 1 + 1, 1, none⟩) hsz').trans F4; have X5 : w.heap.size + 1 + 1 < w3.heap.size := Nat.lt_of_lt_of_le hsz' hb3.size)
                exact bodyPost_ret (v := .tuple #[rat N D, .int .i64 E]) (by simp [*, results, Tryd.results39, go_sem]) rfl ⟨rfl, (by repeat (first | exact Below.refl _ _ | assumption | refine Below.setCell ?_ (by (first | omega | (simp <;> omega))) _ | refine below_drewN ?_ _ | refine Below.drew ?_ | refine Below.alloc ?_ (by (first | omega | (simp <;> omega))) _ | (refine after (h1 := by assumption) ?_ ?_; rotate_left; (first | omega | (simp <;> omega)))))⟩
          · have s2 : decide (Y < 0) = false := by simpa using sm
            go_upto_region 21 with fail
            by_cases c1 : (1099511627776 : Int).tdiv Y < X
            · have s5 : decide ((1099511627776 : Int).tdiv Y < X) = true := by simpa using c1
              obtain ⟨e1, e2, e3⟩ := Lh.out (by exact .inl c1)
              subst e1 e2 e3
              go_wp2_with fail
              exact bodyPost_ret (v := .tuple #[rat 0 0, .int .i64 5]) (by simp [*, results, Tryd.results39, go_sem]) rfl ⟨rfl, (by repeat (first | exact Below.refl _ _ | assumption | refine Below.setCell ?_ (by (first | omega | (simp <;> omega))) _ | refine below_drewN ?_ _ | refine Below.drew ?_ | refine Below.alloc ?_ (by (first | omega | (simp <;> omega))) _ | (refine after (h1 := by assumption) ?_ ?_; rotate_left; (first | omega | (simp <;> omega)))))⟩
            · have s5 : decide ((1099511627776 : Int).tdiv Y < X) = false := by simpa using c1
              by_cases c4 : (1048576 : Int).tdiv KK < DD
              · have s6 : decide ((1048576 : Int).tdiv KK < DD) = true := by simpa using c4
                obtain ⟨e1, e2, e3⟩ := Lh.out (by exact .inr c4)
                subst e1 e2 e3
                go_wp2_with fail
                exact bodyPost_ret (v := .tuple #[rat 0 0, .int .i64 5]) (by simp [*, results, Tryd.results39, go_sem]) rfl ⟨rfl, (by repeat (first | exact Below.refl _ _ | assumption | refine Below.setCell ?_ (by (first | omega | (simp <;> omega))) _ | refine below_drewN ?_ _ | refine Below.drew ?_ | refine Below.alloc ?_ (by (first | omega | (simp <;> omega))) _ | (refine after (h1 := by assumption) ?_ ?_; rotate_left; (first | omega | (simp <;> omega)))))⟩
              · have s6 : decide ((1048576 : Int).tdiv KK < DD) = false := by simpa using c4
                have F := Ff.out (by first | exact c1 | exact Int.not_lt.1 c1)
                have z1' := z1.out (by first | exact c1 | exact Int.not_lt.1 c1)
                clear z1 Ff
                go_wp2_with (go_at_call 43; refine (F.out _).mono ?_; rintro e w3 ⟨rfl, hb3⟩; have X1 := keep_cell hb3 (keep_drewN Z5); have X2 := keep_cell hb3 (keep_drewN Z6); have X3 := (hb3.frozen (p := ⟨w.heap.size + 1 + 1, 0, none⟩) hsz').trans F3; have X4 := (hb3.frozen (p := ⟨w.heap.size + 1 + 1, 1, none⟩) hsz').trans F4; have X5 : w.heap.size + 1 + 1 < w3.heap.size := Nat.lt_of_lt_of_le hsz' hb3.size)
                exact bodyPost_ret (v := .tuple #[rat N D, .int .i64 E]) (by simp [*, results, Tryd.results39, go_sem]) rfl ⟨rfl, (by repeat (first | exact Below.refl _ _ | assumption | refine Below.setCell ?_ (by (first | omega | (simp <;> omega))) _ | refine below_drewN ?_ _ | refine Below.drew ?_ | refine Below.alloc ?_ (by (first | omega | (simp <;> omega))) _ | (refine after (h1 := by assumption) ?_ ?_; rotate_left; (first | omega | (simp <;> omega)))))⟩
  · rw [sel_no h, sel_no h, sel_no h]
    rw [val2_bad h] at H
    clear h
    go_enter Tryd.func39, Tryd.ntmps39
    go_wp2_with (go_at_call 17; refine (H.out _).mono ?_; rintro e w1 ⟨rfl, hb1⟩; obtain ⟨hc1, hf1, hz1⟩ := bcell hb1; (try simp at hz1); (try have hw1_0 : w.heap.size < w1.heap.size := by omega); (try have hw1_1 : w.heap.size + 1 < w1.heap.size := by omega); (try have hw1_2 : w.heap.size + 1 + 1 < w1.heap.size := by omega); (try have hw1_3 : w.heap.size + 1 + 1 + 1 < w1.heap.size := by omega); (try have hw1_4 : w.heap.size + 1 + 1 + 1 + 1 < w1.heap.size := by omega); (try have hw1_5 : w.heap.size + 1 + 1 + 1 + 1 + 1 < w1.heap.size := by omega))
    exact bodyPost_ret (v := .tuple #[rat 0 0, .int .i64 1]) (by simp [*, results, Tryd.results39, go_sem]) rfl ⟨rfl, (by repeat (first | exact Below.refl _ _ | assumption | refine Below.setCell ?_ (by (first | omega | (simp <;> omega))) _ | refine below_drewN ?_ _ | refine Below.drew ?_ | refine Below.alloc ?_ (by (first | omega | (simp <;> omega))) _ | (refine after (h1 := by assumption) ?_ ?_; rotate_left; (first | omega | (simp <;> omega)))))⟩
end Go.Proofs.YtjcdjmjebbllkaaDoor
