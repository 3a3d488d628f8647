/- What Div returns. -/
import Derived.Test.YtjcdjmjebbllkaaDoorDivM
namespace Go.Proofs.YtjcdjmjebbllkaaDoor
open Go.RowKit
attribute [local go_sem] le_add_one'
attribute [local go_sem ↓] Go.wp_at_zero Go.wp_at_succ

theorem quiet_any {P : Program} {f : FuncId} {args : Array Value} {w : World} {n : Nat} {v : Value}
    (h : Calls P f args (w.drewN n) fun e w' => e = .returned v ∧ ∃ m, w' = (w.drewN n).drewN m) : Calls P f args (w.drewN n) fun e w'' => e = .returned v ∧ ∃ m, w'' = w.drewN m :=
  h.mono fun _ _ ⟨he, m, hm⟩ => ⟨he, n + m, by rw [hm, World.drewN_drewN]⟩

theorem div_sign {a b c d : Int} (v1 : valE a b = 0) (v2 : valE c d = 0) (hc : c ≠ 0) :
    ∃ a' c' : Int, ((c < 0 ∧ -a = a' ∧ -c = c') ∨ (¬ c < 0 ∧ a' = a ∧ c' = c)) ∧ 1 ≤ c' ∧ c' ≤ 1099511627776 ∧ -1099511627776 ≤ a' ∧ a' ≤ 1099511627776 ∧ Int.gcd a' b = 1 ∧ Int.gcd d c' = 1 ∧
      newE (a * d) (b * c) = newE (a' * d) (b * c') ∧ newN (a * d) (b * c) = newN (a' * d) (b * c') ∧ newD (a * d) (b * c) = newD (a' * d) (b * c') := by
  obtain ⟨b1, b2, b3, b4, g1⟩ := valE_ok v1
  obtain ⟨d1, d2, d3, d4, g2⟩ := valE_ok v2
  by_cases h : c < 0
  · obtain ⟨e1, e2, e3⟩ := new_neg (a * d) (b * c)
    refine ⟨-a, -c, .inl ⟨h, rfl, rfl⟩, by omega, by omega, by omega, by omega, by simpa using g1, by rw [Int.gcd_comm]; simpa using g2, ?_⟩
    rw [Int.neg_mul, Int.mul_neg, e1, e2, e3]
    exact ⟨rfl, rfl, rfl⟩
  · exact ⟨a, c, .inr ⟨h, rfl, rfl⟩, by omega, by omega, by omega, by omega, g1, by rw [Int.gcd_comm]; exact g2, rfl, rfl, rfl⟩

set_option maxHeartbeats 1000000 in
theorem Div_any (a b c d : Int) (w : World) (ha0 : -9223372036854775808 ≤ a) (ha : a ≤ 9223372036854775807) (hb0 : -9223372036854775808 ≤ b) (hb : b ≤ 9223372036854775807) (hc0 : -9223372036854775808 ≤ c) (hc : c ≤ 9223372036854775807) (hd0 : -9223372036854775808 ≤ d) (hd : d ≤ 9223372036854775807) :
    Calls Tryd.prog 38 #[rat a b, rat c d] w fun e w' => e = .returned (.tuple #[rat (divN a b c d) (divD a b c d), .int .i64 (divE a b c d)]) ∧ Below w.heap.size w w' := by
  have H := Lib.hid (fun g w hg => valid2_any g a b c d w hg ha0 ha hb0 hb hc0 hc hd0 hd)
  clear ha0 ha hb0 hb hc0 hc hd0 hd
  unfold divN divD divE
  by_cases h : val2 a b c d = 0
  · rw [sel_ok h, sel_ok h, sel_ok h]
    rw [h] at H
    obtain ⟨v1, v2⟩ := val2_ok h
    clear h
    by_cases hc : c = 0
    · subst hc
      rw [if_pos rfl, if_pos rfl, if_pos rfl]
      clear v1 v2
      go_enter Tryd.func38, Tryd.ntmps38
      go_wp2_with (go_at_call 44; refine (H.out _ _ ?_ ?_ ?_ ?_ ?_).mono ?_; simp; (simp [go_sem]); (simp [go_sem]); (simp [go_sem]); (simp [go_sem]); rintro e w1 ⟨rfl, hb1⟩; obtain ⟨hc1, hf1, hz1⟩ := bcell hb1; (try simp at hz1); (try have hw1_0 : w.heap.size < w1.heap.size := by omega); (try have hw1_1 : w.heap.size + 1 < w1.heap.size := by omega); (try have hw1_2 : w.heap.size + 1 + 1 < w1.heap.size := by omega); (try have hw1_3 : w.heap.size + 1 + 1 + 1 < w1.heap.size := by omega); (try have hw1_4 : w.heap.size + 1 + 1 + 1 + 1 < w1.heap.size := by omega); (try have hw1_5 : w.heap.size + 1 + 1 + 1 + 1 + 1 < w1.heap.size := by omega))
      exact bodyPost_ret (v := .tuple #[rat 0 0, .int .i64 1]) (by simp [*, results, Tryd.results38, go_sem]) rfl ⟨rfl, (by repeat (first | exact Below.refl _ _ | assumption | refine Below.setCell ?_ (by (first | omega | (simp <;> omega))) _ | refine below_drewN ?_ _ | refine Below.drew ?_ | refine Below.alloc ?_ (by (first | omega | (simp <;> omega))) _ | (refine after (h1 := by assumption) ?_ ?_; rotate_left; (first | omega | (simp <;> omega)))))⟩
    · rw [if_neg hc, if_neg hc, if_neg hc]
      obtain ⟨b1, b2, b3, b4, g1⟩ := valE_ok v1
      obtain ⟨d1, d2, d3, d4, g2⟩ := valE_ok v2
      obtain ⟨a', c', hs, k1, k2, k3, k4, k5, k6, e1, e2, e3⟩ := div_sign v1 v2 hc
      rw [e1, e2, e3]
      clear e1 e2 e3 v1 v2 g1 g2
      obtain ⟨l1, l2, l3, l4, l5⟩ := mul_law' b1 k5 k1 k6
      rw [l1, l2, l3, Nat.gcd_comm d.natAbs b.natAbs, show decide (d < 0) = false by simp; omega, Bool.bne_false]
      rw [Nat.gcd_comm d.natAbs b.natAbs] at l4 l5
      clear l1 l2 l3 k5 k6
      have Sa := Lib.hid (fun w => size_any a' w (by omega) (by omega))
      have Sc := Lib.hid (fun w => size_any c' w (by omega) (by omega))
      have qa : a'.natAbs ≤ 1099511627776 := by omega
      have qc : c'.natAbs ≤ 1099511627776 := by omega
      have qb : (b.natAbs : Int) = b := by omega
      have qd : (d.natAbs : Int) = d := by omega
      have qk : (c'.natAbs : Int) = c' := by omega
      have G1 := Lib.hid (fun w => gcd_any a'.natAbs c'.natAbs w (by omega) (by omega))
      have G2 := Lib.hid (fun w => gcd_any b.natAbs d.natAbs w (by omega) (by omega))
      rw [qb, qd] at G2
      have pg : 0 < Nat.gcd a'.natAbs c'.natAbs := Nat.gcd_pos_of_pos_right _ (by omega)
      have ph : 0 < Nat.gcd b.natAbs d.natAbs := Nat.gcd_pos_of_pos_right _ (by omega)
      have hcc : (c == 0) = false := by simpa using hc
      generalize hA : a'.natAbs = A at *
      generalize hB : b.natAbs = B0 at *
      generalize hC : c'.natAbs = C at *
      generalize hD : d.natAbs = D0 at *
      generalize Nat.gcd A C = g at *
      generalize Nat.gcd B0 D0 = h at *
      have na : A / g ≤ A := Nat.div_le_self _ _
      have nc : C / g ≤ C := Nat.div_le_self _ _
      have nb : B0 / h ≤ B0 := Nat.div_le_self _ _
      have nd : D0 / h ≤ D0 := Nat.div_le_self _ _
      have K1 := Lib.hid (Int.natCast_ediv A g)
      have K2 := Lib.hid (Int.natCast_ediv C g)
      have K3 := Lib.hid (Int.natCast_ediv B0 h)
      have K4 := Lib.hid (Int.natCast_ediv D0 h)
      rw [qb] at K3
      rw [qd] at K4
      rw [qk] at K2
      have M4 := Lib.hid l4
      clear l4
      have y1 : 0 ≤ (A : Int) / (g : Int) ∧ (A : Int) / (g : Int) ≤ 1099511627776 := ⟨Int.ediv_nonneg (by omega) (by omega), by have := K1.out; omega⟩
      have y2 : 0 ≤ c' / (g : Int) ∧ c' / (g : Int) ≤ 1099511627776 := ⟨Int.ediv_nonneg (by omega) (by omega), by have := K2.out; omega⟩
      have y3 : 0 ≤ b / (h : Int) ∧ b / (h : Int) ≤ 1048576 := ⟨Int.ediv_nonneg (by omega) (by omega), by have := K3.out; omega⟩
      have y4 : 0 ≤ d / (h : Int) ∧ d / (h : Int) ≤ 1048576 := ⟨Int.ediv_nonneg (by omega) (by omega), by have := K4.out; omega⟩
      have y6 : (1 : Int) ≤ b / (h : Int) → True := fun _ => trivial
      clear y6
      have y5 : b / (h : Int) ≠ 0 := fun t => by
        have : B0 / h = 0 := by have := K3.out; omega
        rw [this, Nat.zero_mul] at l5; omega
      have q1 : IntKind.u64.wrap ((A : Int) / (g : Int)) = (A : Int) / (g : Int) := IntWalk.u64_in _ (by omega)
      have q2 : IntKind.u64.wrap (c' / (g : Int)) = c' / (g : Int) := IntWalk.u64_in _ (by omega)
      have q3 : IntKind.u64.wrap (b / (h : Int)) = b / (h : Int) := IntWalk.u64_in _ (by omega)
      have q4 : IntKind.u64.wrap (d / (h : Int)) = d / (h : Int) := IntWalk.u64_in _ (by omega)
      have q5 : IntKind.u64.wrap c' = c' := IntWalk.u64_in _ (by omega)
      have q6 : IntKind.u64.wrap b = b := IntWalk.u64_in _ (by omega)
      have q7 : IntKind.u64.wrap d = d := IntWalk.u64_in _ (by omega)
      have f1 : IntKind.i64.wrap a' = a' := IntWalk.i64_in _ (by omega)
      have f2 : IntKind.i64.wrap c' = c' := IntWalk.i64_in _ (by omega)
      have pg' : ¬ g = 0 := by omega
      have ph' : ¬ h = 0 := by omega
      have n1 : A / g * (D0 / h) ≤ 1099511627776 * 1048576 := Nat.mul_le_mul (by omega) (by omega)
      have n2 : B0 / h * (C / g) ≤ 1048576 * 1099511627776 := Nat.mul_le_mul (by omega) (by omega)
      have cN : ((A / g * (D0 / h) : Nat) : Int) = (A : Int) / (g : Int) * (d / (h : Int)) := by rw [Int.natCast_mul, K1.out, K4.out]
      have cK : ((B0 / h * (C / g) : Nat) : Int) = b / (h : Int) * (c' / (g : Int)) := by rw [Int.natCast_mul, K3.out, K2.out]
      have u1 : 0 ≤ (A : Int) / (g : Int) * (d / (h : Int)) ∧ (A : Int) / (g : Int) * (d / (h : Int)) ≤ 1152921504606846976 := by rw [← cN]; omega
      have u2 : 0 ≤ b / (h : Int) * (c' / (g : Int)) ∧ b / (h : Int) * (c' / (g : Int)) ≤ 1152921504606846976 := by rw [← cK]; omega
      have r1 : IntKind.u64.wrap ((A : Int) / (g : Int) * (d / (h : Int))) = (A : Int) / (g : Int) * (d / (h : Int)) := IntWalk.u64_in _ (by omega)
      have r2 : IntKind.u64.wrap (b / (h : Int) * (c' / (g : Int))) = b / (h : Int) * (c' / (g : Int)) := IntWalk.u64_in _ (by omega)
      have B := Lib.hid (fun w => build_any (decide (a' < 0)) (A / g * (D0 / h)) (B0 / h * (C / g)) w (by omega) (by omega) l5)
      rw [cN, cK] at B
      have L : (0 < (A : Int) / (g : Int) ∧ (1099511627776 : Int) / ((A : Int) / (g : Int)) < d / (h : Int)) ∨ (1048576 : Int) / (b / (h : Int)) < c' / (g : Int) → buE (A / g * (D0 / h)) (B0 / h * (C / g)) = 5 ∧ buN (decide (a' < 0)) (A / g * (D0 / h)) (B0 / h * (C / g)) = 0 ∧ buD (A / g * (D0 / h)) (B0 / h * (C / g)) = 0 := fun hb => by
        have hb' : 1099511627776 < A / g * (D0 / h) ∨ 1048576 < B0 / h * (C / g) := by
          rcases hb with ⟨x1, x2⟩ | x2
          · left
            rw [← K1.out, ← K4.out] at x2
            rw [← K1.out] at x1
            have x3 : 1099511627776 / (A / g) < D0 / h := Int.ofNat_lt.1 (by rw [Int.natCast_ediv 1099511627776]; exact x2)
            rw [Nat.mul_comm]; exact (Nat.div_lt_iff_lt_mul (by omega)).1 x3
          · right
            rw [← K2.out, ← K3.out] at x2
            have x3 : 1048576 / (B0 / h) < C / g := Int.ofNat_lt.1 (by rw [Int.natCast_ediv 1048576]; exact x2)
            have x4 : B0 / h ≠ 0 := fun t => y5 (by rw [← K3.out, t]; rfl)
            rw [Nat.mul_comm]; exact (Nat.div_lt_iff_lt_mul (Nat.pos_of_ne_zero x4)).1 x3
        obtain ⟨e1, e2, e3⟩ := bu_cop M4.out hb'
        exact ⟨e1, e2 _, e3⟩
      have Lh := Lib.hid L
      have t1 : IntKind.u64.wrap ((1099511627776 : Int) / ((A : Int) / (g : Int))) = (1099511627776 : Int) / ((A : Int) / (g : Int)) := IntWalk.u64_in _ ⟨Int.ediv_nonneg (by omega) (by omega), Int.le_trans (Int.ediv_le_self _ (by omega)) (by omega)⟩
      have t2 : IntKind.u64.wrap ((1048576 : Int) / (b / (h : Int))) = (1048576 : Int) / (b / (h : Int)) := IntWalk.u64_in _ ⟨Int.ediv_nonneg (by omega) (by omega), Int.le_trans (Int.ediv_le_self _ (by omega)) (by omega)⟩
      clear L cN cK n1 n2 M4 l5 K1 K2 K3 K4 na nb nc nd
      generalize buE (A / g * (D0 / h)) (B0 / h * (C / g)) = E at *
      generalize buN (decide (a' < 0)) (A / g * (D0 / h)) (B0 / h * (C / g)) = N at *
      generalize buD (A / g * (D0 / h)) (B0 / h * (C / g)) = D at *
      clear hA hB hC hD qb qk qd
      rcases hs with ⟨hs, e1, e2⟩ | ⟨hs, e1, e2⟩
      · go_enter Tryd.func38, Tryd.ntmps38
        go_wp2_with (go_at_call 44; refine (H.out _ _ ?_ ?_ ?_ ?_ ?_).mono ?_; simp; (simp [go_sem]); (simp [go_sem]); (simp [go_sem]); (simp [go_sem]); rintro e w1 ⟨rfl, hb1⟩; obtain ⟨hc1, hf1, hz1⟩ := bcell hb1; (try simp at hz1); (try have hw1_0 : w.heap.size < w1.heap.size := by omega); (try have hw1_1 : w.heap.size + 1 < w1.heap.size := by omega); (try have hw1_2 : w.heap.size + 1 + 1 < w1.heap.size := by omega); (try have hw1_3 : w.heap.size + 1 + 1 + 1 < w1.heap.size := by omega); (try have hw1_4 : w.heap.size + 1 + 1 + 1 + 1 < w1.heap.size := by omega); (try have hw1_5 : w.heap.size + 1 + 1 + 1 + 1 + 1 < w1.heap.size := by omega))
        go_upto_region 7 with fail
        have Z1 : w1.cell? ⟨w.heap.size, 0, none⟩ = some (.int .i64 a) := keep_cell hb1 (by simp [go_sem])
        have Z2 : w1.cell? ⟨w.heap.size, 1, none⟩ = some (.int .i64 b) := keep_cell hb1 (by simp [go_sem])
        have Z3 : w1.cell? ⟨w.heap.size + 1, 0, none⟩ = some (.int .i64 c) := keep_cell hb1 (by simp [go_sem])
        have Z4 : w1.cell? ⟨w.heap.size + 1, 1, none⟩ = some (.int .i64 d) := keep_cell hb1 (by simp [go_sem])
        have Z5 : w1.cell? ⟨w.heap.size + 1 + 1, 0, none⟩ = some (.int .i64 0) := keep_cell hb1 (by simp [go_sem])
        have Z6 : w1.cell? ⟨w.heap.size + 1 + 1, 1, none⟩ = some (.int .i64 0) := keep_cell hb1 (by simp [go_sem])
        have F1 : w1.frozen? ⟨w.heap.size, 0, none⟩ = false := (hb1.frozen (p := ⟨w.heap.size, 0, none⟩) (by simp [go_sem])).trans (by simp [go_sem])
        have F2 : w1.frozen? ⟨w.heap.size + 1, 0, none⟩ = false := (hb1.frozen (p := ⟨w.heap.size + 1, 0, none⟩) (by simp [go_sem])).trans (by simp [go_sem])
        have F3 : w1.frozen? ⟨w.heap.size + 1 + 1, 0, none⟩ = false := (hb1.frozen (p := ⟨w.heap.size + 1 + 1, 0, none⟩) (by simp [go_sem])).trans (by simp [go_sem])
        have F4 : w1.frozen? ⟨w.heap.size + 1 + 1, 1, none⟩ = false := (hb1.frozen (p := ⟨w.heap.size + 1 + 1, 1, none⟩) (by simp [go_sem])).trans (by simp [go_sem])
        have hbw : Below w.heap.size w w1 := (by repeat (first | exact Below.refl _ _ | assumption | refine Below.setCell ?_ (by (first | omega | (simp <;> omega))) _ | refine below_drewN ?_ _ | refine Below.drew ?_ | refine Below.alloc ?_ (by (first | omega | (simp <;> omega))) _ | (refine after (h1 := by assumption) ?_ ?_; rotate_left; (first | omega | (simp <;> omega)))))
        have hsz : w.heap.size + 1 + 1 < w1.heap.size := by omega
        clear hc1 hf1 hb1 hz1 H
        go_cut [] (fun wx => (wx.cell? ⟨w.heap.size, 0, none⟩ = some (.int .i64 a') ∧ wx.cell? ⟨w.heap.size, 1, none⟩ = some (.int .i64 b) ∧ wx.cell? ⟨w.heap.size + 1, 0, none⟩ = some (.int .i64 c') ∧ wx.cell? ⟨w.heap.size + 1, 1, none⟩ = some (.int .i64 d)) ∧ (wx.cell? ⟨w.heap.size + 1 + 1, 0, none⟩ = some (.int .i64 0) ∧ wx.cell? ⟨w.heap.size + 1 + 1, 1, none⟩ = some (.int .i64 0) ∧ wx.frozen? ⟨w.heap.size + 1 + 1, 0, none⟩ = false ∧ wx.frozen? ⟨w.heap.size + 1 + 1, 1, none⟩ = false) ∧ w.heap.size + 1 + 1 < wx.heap.size ∧ Below w.heap.size w wx)
        case first =>
          go_region
          simp only [Exit.then]
          go_step
          go_meet
          exact ⟨⟨by simp [*, go_sem], by simp [*, go_sem], by simp [*, go_sem], by simp [*, go_sem]⟩, ⟨by simp [*, go_sem], by simp [*, go_sem], by simp [*, go_sem], by simp [*, go_sem]⟩, by simp [*, go_sem], (by repeat (first | exact Below.refl _ _ | assumption | refine Below.setCell ?_ (by (first | omega | (simp <;> omega))) _ | refine below_drewN ?_ _ | refine Below.drew ?_ | refine Below.alloc ?_ (by (first | omega | (simp <;> omega))) _ | (refine after (h1 := by assumption) ?_ ?_; rotate_left; (first | omega | (simp <;> omega)))))⟩
        case rest =>
        obtain ⟨⟨Z1, Z2, Z3, Z4⟩, ⟨Z5, Z6, F3, F4⟩, hsz, hbw⟩ := hcut
        obtain ⟨wx, rfl⟩ : ∃ z : World, z = wc := ⟨_, rfl⟩
        go_upto_region 8 with fail
        go_quiet ((first | (go_at_call_of 42 (Value.int IntKind.i64 a'); exact quiet_left (Sa.out _)) | (go_at_call_of 42 (Value.int IntKind.i64 c'); exact quiet_left (Sc.out _)) | (go_at_call_of 61 (Value.int IntKind.u64 A); exact quiet_any (G1.out _)) | (go_at_call_of 61 (Value.int IntKind.u64 b); exact quiet_any (G2.out _))))
        go_upto_region 9 with fail
        go_quiet ((first | (go_at_call_of 42 (Value.int IntKind.i64 a'); first | exact quiet_left (Sa.out _) | exact quiet_add_left (Sa.out _)) | (go_at_call_of 42 (Value.int IntKind.i64 c'); exact quiet_left (Sc.out _)) | (go_at_call_of 61 (Value.int IntKind.u64 A); exact quiet_any (G1.out _)) | (go_at_call_of 61 (Value.int IntKind.u64 b); exact quiet_any (G2.out _))))
        go_upto_region 10 with fail
        go_quiet (fail)
        go_upto_region 11 with fail
        by_cases x1 : 0 < (A : Int) / (g : Int)
        · have s1 : decide (0 < (A : Int) / (g : Int)) = true := by simpa using x1
          by_cases x2 : (1099511627776 : Int) / ((A : Int) / (g : Int)) < d / (h : Int)
          · have s2 : decide ((1099511627776 : Int) / ((A : Int) / (g : Int)) < d / (h : Int)) = true := by simpa using x2
            obtain ⟨e1, e2, e3⟩ := Lh.out (by exact .inl ⟨x1, x2⟩)
            subst e1 e2 e3
            go_wp2_with fail
            exact bodyPost_ret (v := .tuple #[rat 0 0, .int .i64 5]) (by simp [*, results, Tryd.results38, go_sem]) rfl ⟨rfl, (by repeat (first | exact Below.refl _ _ | assumption | refine Below.setCell ?_ (by (first | omega | (simp <;> omega))) _ | refine below_drewN ?_ _ | refine Below.drew ?_ | refine Below.alloc ?_ (by (first | omega | (simp <;> omega))) _ | (refine after (h1 := by assumption) ?_ ?_; rotate_left; (first | omega | (simp <;> omega)))))⟩
          · have s2 : decide ((1099511627776 : Int) / ((A : Int) / (g : Int)) < d / (h : Int)) = false := by simpa using x2
            by_cases x3 : (1048576 : Int) / (b / (h : Int)) < c' / (g : Int)
            · have s3 : decide ((1048576 : Int) / (b / (h : Int)) < c' / (g : Int)) = true := by simpa using x3
              obtain ⟨e1, e2, e3⟩ := Lh.out (by exact .inr x3)
              subst e1 e2 e3
              go_wp2_with fail
              exact bodyPost_ret (v := .tuple #[rat 0 0, .int .i64 5]) (by simp [*, results, Tryd.results38, go_sem]) rfl ⟨rfl, (by repeat (first | exact Below.refl _ _ | assumption | refine Below.setCell ?_ (by (first | omega | (simp <;> omega))) _ | refine below_drewN ?_ _ | refine Below.drew ?_ | refine Below.alloc ?_ (by (first | omega | (simp <;> omega))) _ | (refine after (h1 := by assumption) ?_ ?_; rotate_left; (first | omega | (simp <;> omega)))))⟩
            · have s3 : decide ((1048576 : Int) / (b / (h : Int)) < c' / (g : Int)) = false := by simpa using x3
              go_wp2_with (go_at_call 41; refine (B.out _).mono ?_; rintro e w2 ⟨rfl, hb2⟩; have X1 := keep_cell hb2 (keep_drewN Z5); have X2 := keep_cell hb2 (keep_drewN Z6); have X3 := (hb2.frozen (p := ⟨w.heap.size + 1 + 1, 0, none⟩) hsz).trans F3; have X4 := (hb2.frozen (p := ⟨w.heap.size + 1 + 1, 1, none⟩) hsz).trans F4; have X5 : w.heap.size + 1 + 1 < w2.heap.size := Nat.lt_of_lt_of_le hsz hb2.size)
              exact bodyPost_ret (v := .tuple #[rat N D, .int .i64 E]) (by simp [*, results, Tryd.results38, go_sem]) rfl ⟨rfl, (by repeat (first | exact Below.refl _ _ | assumption | refine Below.setCell ?_ (by (first | omega | (simp <;> omega))) _ | refine below_drewN ?_ _ | refine Below.drew ?_ | refine Below.alloc ?_ (by (first | omega | (simp <;> omega))) _ | (refine after (h1 := by assumption) ?_ ?_; rotate_left; (first | omega | (simp <;> omega)))))⟩
        · have s1 : decide (0 < (A : Int) / (g : Int)) = false := by simpa using x1
          by_cases x3 : (1048576 : Int) / (b / (h : Int)) < c' / (g : Int)
          · have s3 : decide ((1048576 : Int) / (b / (h : Int)) < c' / (g : Int)) = true := by simpa using x3
            obtain ⟨e1, e2, e3⟩ := Lh.out (by exact .inr x3)
            subst e1 e2 e3
            go_wp2_with fail
            exact bodyPost_ret (v := .tuple #[rat 0 0, .int .i64 5]) (by simp [*, results, Tryd.results38, go_sem]) rfl ⟨rfl, (by repeat (first | exact Below.refl _ _ | assumption | refine Below.setCell ?_ (by (first | omega | (simp <;> omega))) _ | refine below_drewN ?_ _ | refine Below.drew ?_ | refine Below.alloc ?_ (by (first | omega | (simp <;> omega))) _ | (refine after (h1 := by assumption) ?_ ?_; rotate_left; (first | omega | (simp <;> omega)))))⟩
          · have s3 : decide ((1048576 : Int) / (b / (h : Int)) < c' / (g : Int)) = false := by simpa using x3
            go_wp2_with (go_at_call 41; refine (B.out _).mono ?_; rintro e w2 ⟨rfl, hb2⟩; have X1 := keep_cell hb2 (keep_drewN Z5); have X2 := keep_cell hb2 (keep_drewN Z6); have X3 := (hb2.frozen (p := ⟨w.heap.size + 1 + 1, 0, none⟩) hsz).trans F3; have X4 := (hb2.frozen (p := ⟨w.heap.size + 1 + 1, 1, none⟩) hsz).trans F4; have X5 : w.heap.size + 1 + 1 < w2.heap.size := Nat.lt_of_lt_of_le hsz hb2.size)
            exact bodyPost_ret (v := .tuple #[rat N D, .int .i64 E]) (by simp [*, results, Tryd.results38, go_sem]) rfl ⟨rfl, (by repeat (first | exact Below.refl _ _ | assumption | refine Below.setCell ?_ (by (first | omega | (simp <;> omega))) _ | refine below_drewN ?_ _ | refine Below.drew ?_ | refine Below.alloc ?_ (by (first | omega | (simp <;> omega))) _ | (refine after (h1 := by assumption) ?_ ?_; rotate_left; (first | omega | (simp <;> omega)))))⟩
      · subst e1 e2
        go_enter Tryd.func38, Tryd.ntmps38
        go_wp2_with (go_at_call 44; refine (H.out _ _ ?_ ?_ ?_ ?_ ?_).mono ?_; simp; (simp [go_sem]); (simp [go_sem]); (simp [go_sem]); (simp [go_sem]); rintro e w1 ⟨rfl, hb1⟩; obtain ⟨hc1, hf1, hz1⟩ := bcell hb1; (try simp at hz1); (try have hw1_0 : w.heap.size < w1.heap.size := by omega); (try have hw1_1 : w.heap.size + 1 < w1.heap.size := by omega); (try have hw1_2 : w.heap.size + 1 + 1 < w1.heap.size := by omega); (try have hw1_3 : w.heap.size + 1 + 1 + 1 < w1.heap.size := by omega); (try have hw1_4 : w.heap.size + 1 + 1 + 1 + 1 < w1.heap.size := by omega); (try have hw1_5 : w.heap.size + 1 + 1 + 1 + 1 + 1 < w1.heap.size := by omega))
        go_upto_region 8 with fail
        have Z1 : w1.cell? ⟨w.heap.size, 0, none⟩ = some (.int .i64 a') := keep_cell hb1 (by simp [go_sem])
        have Z2 : w1.cell? ⟨w.heap.size, 1, none⟩ = some (.int .i64 b) := keep_cell hb1 (by simp [go_sem])
        have Z3 : w1.cell? ⟨w.heap.size + 1, 0, none⟩ = some (.int .i64 c') := keep_cell hb1 (by simp [go_sem])
        have Z4 : w1.cell? ⟨w.heap.size + 1, 1, none⟩ = some (.int .i64 d) := keep_cell hb1 (by simp [go_sem])
        have Z5 : w1.cell? ⟨w.heap.size + 1 + 1, 0, none⟩ = some (.int .i64 0) := keep_cell hb1 (by simp [go_sem])
        have Z6 : w1.cell? ⟨w.heap.size + 1 + 1, 1, none⟩ = some (.int .i64 0) := keep_cell hb1 (by simp [go_sem])
        have F1 : w1.frozen? ⟨w.heap.size, 0, none⟩ = false := (hb1.frozen (p := ⟨w.heap.size, 0, none⟩) (by simp [go_sem])).trans (by simp [go_sem])
        have F2 : w1.frozen? ⟨w.heap.size + 1, 0, none⟩ = false := (hb1.frozen (p := ⟨w.heap.size + 1, 0, none⟩) (by simp [go_sem])).trans (by simp [go_sem])
        have F3 : w1.frozen? ⟨w.heap.size + 1 + 1, 0, none⟩ = false := (hb1.frozen (p := ⟨w.heap.size + 1 + 1, 0, none⟩) (by simp [go_sem])).trans (by simp [go_sem])
        have F4 : w1.frozen? ⟨w.heap.size + 1 + 1, 1, none⟩ = false := (hb1.frozen (p := ⟨w.heap.size + 1 + 1, 1, none⟩) (by simp [go_sem])).trans (by simp [go_sem])
        have hbw : Below w.heap.size w w1 := (by repeat (first | exact Below.refl _ _ | assumption | refine Below.setCell ?_ (by (first | omega | (simp <;> omega))) _ | refine below_drewN ?_ _ | refine Below.drew ?_ | refine Below.alloc ?_ (by (first | omega | (simp <;> omega))) _ | (refine after (h1 := by assumption) ?_ ?_; rotate_left; (first | omega | (simp <;> omega)))))
        have hsz : w.heap.size + 1 + 1 < w1.heap.size := by omega
        clear hc1 hf1 hb1 hz1 H
        go_quiet ((first | (go_at_call_of 42 (Value.int IntKind.i64 a'); exact quiet_left (Sa.out _)) | (go_at_call_of 42 (Value.int IntKind.i64 c'); exact quiet_left (Sc.out _)) | (go_at_call_of 61 (Value.int IntKind.u64 A); exact quiet_any (G1.out _)) | (go_at_call_of 61 (Value.int IntKind.u64 b); exact quiet_any (G2.out _))))
        go_upto_region 9 with fail
        go_quiet ((first | (go_at_call_of 42 (Value.int IntKind.i64 a'); first | exact quiet_left (Sa.out _) | exact quiet_add_left (Sa.out _)) | (go_at_call_of 42 (Value.int IntKind.i64 c'); exact quiet_left (Sc.out _)) | (go_at_call_of 61 (Value.int IntKind.u64 A); exact quiet_any (G1.out _)) | (go_at_call_of 61 (Value.int IntKind.u64 b); exact quiet_any (G2.out _))))
        go_upto_region 10 with fail
        go_quiet (fail)
        go_upto_region 11 with fail
        by_cases x1 : 0 < (A : Int) / (g : Int)
        · have s1 : decide (0 < (A : Int) / (g : Int)) = true := by simpa using x1
          by_cases x2 : (1099511627776 : Int) / ((A : Int) / (g : Int)) < d / (h : Int)
          · have s2 : decide ((1099511627776 : Int) / ((A : Int) / (g : Int)) < d / (h : Int)) = true := by simpa using x2
            obtain ⟨e1, e2, e3⟩ := Lh.out (by exact .inl ⟨x1, x2⟩)
            subst e1 e2 e3
            go_wp2_with fail
            exact bodyPost_ret (v := .tuple #[rat 0 0, .int .i64 5]) (by simp [*, results, Tryd.results38, go_sem]) rfl ⟨rfl, (by repeat (first | exact Below.refl _ _ | assumption | refine Below.setCell ?_ (by (first | omega | (simp <;> omega))) _ | refine below_drewN ?_ _ | refine Below.drew ?_ | refine Below.alloc ?_ (by (first | omega | (simp <;> omega))) _ | (refine after (h1 := by assumption) ?_ ?_; rotate_left; (first | omega | (simp <;> omega)))))⟩
          · have s2 : decide ((1099511627776 : Int) / ((A : Int) / (g : Int)) < d / (h : Int)) = false := by simpa using x2
            by_cases x3 : (1048576 : Int) / (b / (h : Int)) < c' / (g : Int)
            · have s3 : decide ((1048576 : Int) / (b / (h : Int)) < c' / (g : Int)) = true := by simpa using x3
              obtain ⟨e1, e2, e3⟩ := Lh.out (by exact .inr x3)
              subst e1 e2 e3
              go_wp2_with fail
              exact bodyPost_ret (v := .tuple #[rat 0 0, .int .i64 5]) (by simp [*, results, Tryd.results38, go_sem]) rfl ⟨rfl, (by repeat (first | exact Below.refl _ _ | assumption | refine Below.setCell ?_ (by (first | omega | (simp <;> omega))) _ | refine below_drewN ?_ _ | refine Below.drew ?_ | refine Below.alloc ?_ (by (first | omega | (simp <;> omega))) _ | (refine after (h1 := by assumption) ?_ ?_; rotate_left; (first | omega | (simp <;> omega)))))⟩
            · have s3 : decide ((1048576 : Int) / (b / (h : Int)) < c' / (g : Int)) = false := by simpa using x3
              go_wp2_with (go_at_call 41; refine (B.out _).mono ?_; rintro e w2 ⟨rfl, hb2⟩; have X1 := keep_cell hb2 (keep_drewN Z5); have X2 := keep_cell hb2 (keep_drewN Z6); have X3 := (hb2.frozen (p := ⟨w.heap.size + 1 + 1, 0, none⟩) hsz).trans F3; have X4 := (hb2.frozen (p := ⟨w.heap.size + 1 + 1, 1, none⟩) hsz).trans F4; have X5 : w.heap.size + 1 + 1 < w2.heap.size := Nat.lt_of_lt_of_le hsz hb2.size)
              exact bodyPost_ret (v := .tuple #[rat N D, .int .i64 E]) (by simp [*, results, Tryd.results38, go_sem]) rfl ⟨rfl, (by repeat (first | exact Below.refl _ _ | assumption | refine Below.setCell ?_ (by (first | omega | (simp <;> omega))) _ | refine below_drewN ?_ _ | refine Below.drew ?_ | refine Below.alloc ?_ (by (first | omega | (simp <;> omega))) _ | (refine after (h1 := by assumption) ?_ ?_; rotate_left; (first | omega | (simp <;> omega)))))⟩
        · have s1 : decide (0 < (A : Int) / (g : Int)) = false := by simpa using x1
          by_cases x3 : (1048576 : Int) / (b / (h : Int)) < c' / (g : Int)
          · have s3 : decide ((1048576 : Int) / (b / (h : Int)) < c' / (g : Int)) = true := by simpa using x3
            obtain ⟨e1, e2, e3⟩ := Lh.out (by exact .inr x3)
            subst e1 e2 e3
            go_wp2_with fail
            exact bodyPost_ret (v := .tuple #[rat 0 0, .int .i64 5]) (by simp [*, results, Tryd.results38, go_sem]) rfl ⟨rfl, (by repeat (first | exact Below.refl _ _ | assumption | refine Below.setCell ?_ (by (first | omega | (simp <;> omega))) _ | refine below_drewN ?_ _ | refine Below.drew ?_ | refine Below.alloc ?_ (by (first | omega | (simp <;> omega))) _ | (refine after (h1 := by assumption) ?_ ?_; rotate_left; (first | omega | (simp <;> omega)))))⟩
          · have s3 : decide ((1048576 : Int) / (b / (h : Int)) < c' / (g : Int)) = false := by simpa using x3
            go_wp2_with (go_at_call 41; refine (B.out _).mono ?_; rintro e w2 ⟨rfl, hb2⟩; have X1 := keep_cell hb2 (keep_drewN Z5); have X2 := keep_cell hb2 (keep_drewN Z6); have X3 := (hb2.frozen (p := ⟨w.heap.size + 1 + 1, 0, none⟩) hsz).trans F3; have X4 := (hb2.frozen (p := ⟨w.heap.size + 1 + 1, 1, none⟩) hsz).trans F4; have X5 : w.heap.size + 1 + 1 < w2.heap.size := Nat.lt_of_lt_of_le hsz hb2.size)
            exact bodyPost_ret (v := .tuple #[rat N D, .int .i64 E]) (by simp [*, results, Tryd.results38, go_sem]) rfl ⟨rfl, (by repeat (first | exact Below.refl _ _ | assumption | refine Below.setCell ?_ (by (first | omega | (simp <;> omega))) _ | refine below_drewN ?_ _ | refine Below.drew ?_ | refine Below.alloc ?_ (by (first | omega | (simp <;> omega))) _ | (refine after (h1 := by assumption) ?_ ?_; rotate_left; (first | omega | (simp <;> omega)))))⟩
  · rw [sel_no h, sel_no h, sel_no h]
    rw [val2_bad h] at H
    clear h
    go_enter Tryd.func38, Tryd.ntmps38
    go_wp2_with (go_at_call 44; refine (H.out _ _ ?_ ?_ ?_ ?_ ?_).mono ?_; simp; (simp [go_sem]); (simp [go_sem]); (simp [go_sem]); (simp [go_sem]); rintro e w1 ⟨rfl, hb1⟩; obtain ⟨hc1, hf1, hz1⟩ := bcell hb1; (try simp at hz1); (try have hw1_0 : w.heap.size < w1.heap.size := by omega); (try have hw1_1 : w.heap.size + 1 < w1.heap.size := by omega); (try have hw1_2 : w.heap.size + 1 + 1 < w1.heap.size := by omega); (try have hw1_3 : w.heap.size + 1 + 1 + 1 < w1.heap.size := by omega); (try have hw1_4 : w.heap.size + 1 + 1 + 1 + 1 < w1.heap.size := by omega); (try have hw1_5 : w.heap.size + 1 + 1 + 1 + 1 + 1 < w1.heap.size := by omega))
    exact bodyPost_ret (v := .tuple #[rat 0 0, .int .i64 1]) (by simp [*, results, Tryd.results38, go_sem]) rfl ⟨rfl, (by repeat (first | exact Below.refl _ _ | assumption | refine Below.setCell ?_ (by (first | omega | (simp <;> omega))) _ | refine below_drewN ?_ _ | refine Below.drew ?_ | refine Below.alloc ?_ (by (first | omega | (simp <;> omega))) _ | (refine after (h1 := by assumption) ?_ ?_; rotate_left; (first | omega | (simp <;> omega)))))⟩
end Go.Proofs.YtjcdjmjebbllkaaDoor
