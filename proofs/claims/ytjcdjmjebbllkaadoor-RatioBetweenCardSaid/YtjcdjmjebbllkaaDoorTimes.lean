/- What times and Mul return. -/
import Derived.Test.YtjcdjmjebbllkaaDoorMul
import Derived.Deep.DrawnRows
import Derived.Deep.DeepCutAuto
namespace Go.Proofs.YtjcdjmjebbllkaaDoor
open Go.RowKit
attribute [local go_sem] le_add_one'
attribute [local go_sem ↓] Go.wp_at_zero Go.wp_at_succ

set_option maxHeartbeats 1000000 in
theorem times_any (a b c d : Int) (w : World) (h1 : valE a b = 0) (h2 : valE c d = 0) :
    Calls Tryd.prog 60 #[.int .i64 a, .int .i64 b, .int .i64 c, .int .i64 d] w fun e w' => e = .returned (.tuple #[rat (newN (a * c) (b * d)) (newD (a * c) (b * d)), .int .i64 (newE (a * c) (b * d))]) ∧ Below w.heap.size w w' := by
  obtain ⟨b1, b2, a1, a2, _⟩ := valE_ok h1
  obtain ⟨d1, d2, c1, c2, _⟩ := valE_ok h2
  obtain ⟨l1, l2, l3, l4, l5⟩ := mul_law h1 h2
  rw [l1, l2, l3]
  clear l1 l2 l3
  have Sa := Lib.hid (fun w => size_any a w (by omega) (by omega))
  have Sb := Lib.hid (fun w => size_any b w (by omega) (by omega))
  have Sc := Lib.hid (fun w => size_any c w (by omega) (by omega))
  have Sd := Lib.hid (fun w => size_any d w (by omega) (by omega))
  have qa : a.natAbs ≤ 1099511627776 := by omega
  have qb : b.natAbs ≤ 1048576 := by omega
  have qc : c.natAbs ≤ 1099511627776 := by omega
  have qd : d.natAbs ≤ 1048576 := by omega
  have G1 := Lib.hid (fun w => gcd_any a.natAbs d.natAbs w (by omega) (by omega))
  have G2 := Lib.hid (fun w => gcd_any c.natAbs b.natAbs w (by omega) (by omega))
  have pg : 0 < Nat.gcd a.natAbs d.natAbs := Nat.gcd_pos_of_pos_right _ (by omega)
  have ph : 0 < Nat.gcd c.natAbs b.natAbs := Nat.gcd_pos_of_pos_right _ (by omega)
  clear h1 h2
  have sa : 0 < b.natAbs ∧ 0 < d.natAbs := by omega
  generalize a.natAbs = A at *
  generalize b.natAbs = B0 at *
  generalize c.natAbs = C at *
  generalize d.natAbs = D0 at *
  generalize Nat.gcd A D0 = g at *
  generalize Nat.gcd C B0 = h at *
  have na : A / g ≤ A := Nat.div_le_self _ _
  have nc : C / h ≤ C := Nat.div_le_self _ _
  have nb : B0 / h ≤ B0 := Nat.div_le_self _ _
  have nd : D0 / g ≤ D0 := Nat.div_le_self _ _
  have K1 := Lib.hid (Int.natCast_ediv A g)
  have K2 := Lib.hid (Int.natCast_ediv C h)
  have K3 := Lib.hid (Int.natCast_ediv B0 h)
  have K4 := Lib.hid (Int.natCast_ediv D0 g)
  have M4 := Lib.hid l4
  clear l4
  have y1 : 0 ≤ (A : Int) / (g : Int) ∧ (A : Int) / (g : Int) ≤ 1099511627776 := ⟨Int.ediv_nonneg (by omega) (by omega), by have := K1.out; omega⟩
  have y2 : 0 ≤ (C : Int) / (h : Int) ∧ (C : Int) / (h : Int) ≤ 1099511627776 := ⟨Int.ediv_nonneg (by omega) (by omega), by have := K2.out; omega⟩
  have y3 : 0 ≤ (B0 : Int) / (h : Int) ∧ (B0 : Int) / (h : Int) ≤ 1048576 := ⟨Int.ediv_nonneg (by omega) (by omega), by have := K3.out; omega⟩
  have y4 : 0 ≤ (D0 : Int) / (g : Int) ∧ (D0 : Int) / (g : Int) ≤ 1048576 := ⟨Int.ediv_nonneg (by omega) (by omega), by have := K4.out; omega⟩
  have q1 : IntKind.u64.wrap ((A : Int) / (g : Int)) = (A : Int) / (g : Int) := IntWalk.u64_in _ (by omega)
  have q2 : IntKind.u64.wrap ((C : Int) / (h : Int)) = (C : Int) / (h : Int) := IntWalk.u64_in _ (by omega)
  have q3 : IntKind.u64.wrap ((B0 : Int) / (h : Int)) = (B0 : Int) / (h : Int) := IntWalk.u64_in _ (by omega)
  have q4 : IntKind.u64.wrap ((D0 : Int) / (g : Int)) = (D0 : Int) / (g : Int) := IntWalk.u64_in _ (by omega)
  by_cases hbig : 0 < A / g ∧ 1099511627776 / (A / g) < C / h
  · have hN : 1099511627776 < A / g * (C / h) := by
      rw [Nat.mul_comm]; exact (Nat.div_lt_iff_lt_mul hbig.1).1 hbig.2
    obtain ⟨e1, e2, e3⟩ := bu_cop M4.out (.inl hN)
    rw [e1, e2, e3]
    clear e1 e2 e3 hN
    have z1 : (0 : Int) < (A : Int) / (g : Int) := by have := K1.out; omega
    have z2 : (1099511627776 : Int) / ((A : Int) / (g : Int)) < (C : Int) / (h : Int) := by
      have t : ((1099511627776 / (A / g) : Nat) : Int) < ((C / h : Nat) : Int) := Int.ofNat_lt.2 hbig.2
      rw [Int.natCast_ediv 1099511627776, K1.out, K2.out] at t
      exact t
    clear hbig
    go_enter Tryd.func60, Tryd.ntmps60
    go_wp2_with fail
    refine (Sa.out _).mono ?_
    rintro e w' ⟨rfl, rfl⟩
    go_wp2_with fail
    refine (Sd.out _).mono ?_
    rintro e w' ⟨rfl, rfl⟩
    go_wp2_with fail
    refine (G1.out _).mono ?_
    rintro e w' ⟨rfl, dr1, rfl⟩
    go_wp2_with fail
    refine (Sc.out _).mono ?_
    rintro e w' ⟨rfl, rfl⟩
    go_wp2_with fail
    refine (Sb.out _).mono ?_
    rintro e w' ⟨rfl, rfl⟩
    go_wp2_with fail
    refine (G2.out _).mono ?_
    rintro e w' ⟨rfl, dr2, rfl⟩
    go_wp2_with fail
    go_quiet ((first | (go_at_call_of 42 (Value.int IntKind.i64 a); exact quiet_add_left (Sa.out _)) | (go_at_call_of 42 (Value.int IntKind.i64 c); exact quiet_add_left (Sc.out _))))
    go_wp2
    exact bodyPost_ret (v := .tuple #[rat 0 0, .int .i64 5]) (by simp [*, results, Tryd.results60, go_sem]) rfl ⟨rfl, (by repeat (first | exact Below.refl _ _ | assumption | refine Below.setCell ?_ (by (first | omega | (simp <;> omega))) _ | refine below_drewN ?_ _ | refine Below.drew ?_ | refine Below.alloc ?_ (by (first | omega | (simp <;> omega))) _ | (refine after (h1 := by assumption) ?_ ?_; rotate_left; (first | omega | (simp <;> omega)))))⟩
  · have hN : A / g * (C / h) ≤ 1099511627776 := by
      rcases Nat.eq_zero_or_pos (A / g) with h0 | h0
      · rw [h0]; omega
      · have : C / h ≤ 1099511627776 / (A / g) := by omega
        rw [Nat.mul_comm]; exact (Nat.le_div_iff_mul_le h0).1 this
    have hK : B0 / h * (D0 / g) ≤ 1048576 * 1048576 := Nat.mul_le_mul (by omega) (by omega)
    have cN : ((A / g * (C / h) : Nat) : Int) = (A : Int) / (g : Int) * ((C : Int) / (h : Int)) := by rw [Int.natCast_mul, K1.out, K2.out]
    have cK : ((B0 / h * (D0 / g) : Nat) : Int) = (B0 : Int) / (h : Int) * ((D0 : Int) / (g : Int)) := by rw [Int.natCast_mul, K3.out, K4.out]
    have u1 : 0 ≤ (A : Int) / (g : Int) * ((C : Int) / (h : Int)) ∧ (A : Int) / (g : Int) * ((C : Int) / (h : Int)) ≤ 1099511627776 := by rw [← cN]; omega
    have u2 : 0 ≤ (B0 : Int) / (h : Int) * ((D0 : Int) / (g : Int)) ∧ (B0 : Int) / (h : Int) * ((D0 : Int) / (g : Int)) ≤ 1099511627776 := by rw [← cK]; omega
    have w1 : IntKind.u64.wrap ((A : Int) / (g : Int) * ((C : Int) / (h : Int))) = (A : Int) / (g : Int) * ((C : Int) / (h : Int)) := IntWalk.u64_in _ (by omega)
    have w2 : IntKind.u64.wrap ((B0 : Int) / (h : Int) * ((D0 : Int) / (g : Int))) = (B0 : Int) / (h : Int) * ((D0 : Int) / (g : Int)) := IntWalk.u64_in _ (by omega)
    have B := Lib.hid (fun s w => build_any s (A / g * (C / h)) (B0 / h * (D0 / g)) w (by omega) (by omega) l5)
    rw [cN, cK] at B
    clear hN hK cN cK l5 M4
    generalize buE (A / g * (C / h)) (B0 / h * (D0 / g)) = E at *
    generalize buD (A / g * (C / h)) (B0 / h * (D0 / g)) = D at *
    have hz : (0 < (A : Int) / (g : Int) ∧ ¬ (1099511627776 : Int) / ((A : Int) / (g : Int)) < (C : Int) / (h : Int)) ∨ decide (0 < (A : Int) / (g : Int)) = false := by
      by_cases x : 0 < (A : Int) / (g : Int)
      · left
        refine ⟨x, fun t => hbig ⟨?_, ?_⟩⟩
        · have := K1.out; omega
        · have t' : ((1099511627776 / (A / g) : Nat) : Int) < ((C / h : Nat) : Int) := by rw [Int.natCast_ediv 1099511627776, K1.out, K2.out]; exact t
          exact Int.ofNat_lt.1 t'
      · right; simpa using x
    clear hbig
    rcases hz with ⟨hz1, hz2⟩ | hz1
    all_goals
      go_enter Tryd.func60, Tryd.ntmps60
      go_wp2_with fail
      refine (Sa.out _).mono ?_
      rintro e w' ⟨rfl, rfl⟩
      go_wp2_with fail
      refine (Sd.out _).mono ?_
      rintro e w' ⟨rfl, rfl⟩
      go_wp2_with fail
      refine (G1.out _).mono ?_
      rintro e w' ⟨rfl, dr1, rfl⟩
      go_wp2_with fail
      refine (Sc.out _).mono ?_
      rintro e w' ⟨rfl, rfl⟩
      go_wp2_with fail
      refine (Sb.out _).mono ?_
      rintro e w' ⟨rfl, rfl⟩
      go_wp2_with fail
      refine (G2.out _).mono ?_
      rintro e w' ⟨rfl, dr2, rfl⟩
      go_wp2_with fail
      go_quiet ((first | (go_at_call_of 42 (Value.int IntKind.i64 a); exact quiet_add_left (Sa.out _)) | (go_at_call_of 42 (Value.int IntKind.i64 c); exact quiet_add_left (Sc.out _))))
      go_upto_region 5 with fail
      go_cut [9] (fun u wx => u = .int .i64 E ∧ wx.cell? ⟨w.heap.size, 0, none⟩ = some (.int .i64 (buN (decide (a < 0) != decide (c < 0)) (A / g * (C / h)) (B0 / h * (D0 / g)))) ∧ wx.cell? ⟨w.heap.size, 1, none⟩ = some (.int .i64 D) ∧ Below w.heap.size w wx)
      case first =>
        have W1 : ((w.alloc (Obj.cells #[Value.int IntKind.i64 0, Value.int IntKind.i64 0] 24)).drewN (dr1 + dr2 + nq)).cell? ⟨w.heap.size, 0, none⟩ = some (.int .i64 0) := by simp [go_sem]
        have W2 : ((w.alloc (Obj.cells #[Value.int IntKind.i64 0, Value.int IntKind.i64 0] 24)).drewN (dr1 + dr2 + nq)).cell? ⟨w.heap.size, 1, none⟩ = some (.int .i64 0) := by simp [go_sem]
        have W3 : ((w.alloc (Obj.cells #[Value.int IntKind.i64 0, Value.int IntKind.i64 0] 24)).drewN (dr1 + dr2 + nq)).frozen? ⟨w.heap.size, 0, none⟩ = false := by simp [go_sem]
        have W4 : Below w.heap.size w ((w.alloc (Obj.cells #[Value.int IntKind.i64 0, Value.int IntKind.i64 0] 24)).drewN (dr1 + dr2 + nq)) := (by repeat (first | exact Below.refl _ _ | assumption | refine Below.setCell ?_ (by (first | omega | (simp <;> omega))) _ | refine below_drewN ?_ _ | refine Below.drew ?_ | refine Below.alloc ?_ (by (first | omega | (simp <;> omega))) _ | (refine after (h1 := by assumption) ?_ ?_; rotate_left; (first | omega | (simp <;> omega)))))
        have W5 : w.heap.size < ((w.alloc (Obj.cells #[Value.int IntKind.i64 0, Value.int IntKind.i64 0] 24)).drewN (dr1 + dr2 + nq)).heap.size := by simp [go_sem]
        have W6 : ((w.alloc (Obj.cells #[Value.int IntKind.i64 0, Value.int IntKind.i64 0] 24)).drewN (dr1 + dr2 + nq)).frozen? ⟨w.heap.size, 1, none⟩ = false := by simp [go_sem]
        generalize ((w.alloc (Obj.cells #[Value.int IntKind.i64 0, Value.int IntKind.i64 0] 24)).drewN (dr1 + dr2 + nq)) = W0 at *
        have ph' : ¬ h = 0 := by omega
        have pg' : ¬ g = 0 := by omega
        have W6 : W0.frozen? ⟨w.heap.size, 1, none⟩ = false := W6
        go_region_with ((first | (go_at_call_of 42 (Value.int IntKind.i64 b); (with_reducible refine (Sb.out _).mono ?_); rintro e w' ⟨rfl, rfl⟩) | (go_at_call_of 42 (Value.int IntKind.i64 d); (with_reducible refine (Sd.out _).mono ?_); rintro e w' ⟨rfl, rfl⟩) | (go_at_call 41; (with_reducible refine (B.out _ _).mono ?_); rintro e w1 ⟨rfl, hb1⟩; have X1 : w1.cell? ⟨w.heap.size, 0, none⟩ = some (.int .i64 0) := keep_cell hb1 W1; have X2 : w1.cell? ⟨w.heap.size, 1, none⟩ = some (.int .i64 0) := keep_cell hb1 W2; have X3 : w1.frozen? ⟨w.heap.size, 0, none⟩ = false := (hb1.frozen (p := ⟨w.heap.size, 0, none⟩) W5).trans W3; have X4 : w1.frozen? ⟨w.heap.size, 1, none⟩ = false := (hb1.frozen (p := ⟨w.heap.size, 1, none⟩) W5).trans W6; have X5 : w.heap.size < w1.heap.size := Nat.lt_of_lt_of_le W5 hb1.size)))
        go_wp2_with fail
        go_meet
        exact ⟨rfl, by simp [X1, go_sem]; rfl, by simp [X2, go_sem], (by repeat (first | exact Below.refl _ _ | assumption | refine Below.setCell ?_ (by (first | omega | (simp <;> omega))) _ | refine below_drewN ?_ _ | refine Below.drew ?_ | refine Below.alloc ?_ (by (first | omega | (simp <;> omega))) _ | (refine after (h1 := by assumption) ?_ ?_; rotate_left; (first | omega | (simp <;> omega)))))⟩
      case rest =>
        obtain ⟨rfl, xa, xb, hbx⟩ := hcut
        obtain ⟨wx, rfl⟩ : ∃ z : World, z = wc := ⟨_, rfl⟩
        clear Sa Sb Sc Sd G1 G2 B
        go_wp2_with fail
        exact bodyPost_ret (v := .tuple #[rat (buN (decide (a < 0) != decide (c < 0)) (A / g * (C / h)) (B0 / h * (D0 / g))) D, .int .i64 E]) (by simp [*, results, Tryd.results60, go_sem]) rfl ⟨rfl, (by repeat (first | exact Below.refl _ _ | assumption | refine Below.setCell ?_ (by (first | omega | (simp <;> omega))) _ | refine below_drewN ?_ _ | refine Below.drew ?_ | refine Below.alloc ?_ (by (first | omega | (simp <;> omega))) _ | (refine after (h1 := by assumption) ?_ ?_; rotate_left; (first | omega | (simp <;> omega)))))⟩
end Go.Proofs.YtjcdjmjebbllkaaDoor
