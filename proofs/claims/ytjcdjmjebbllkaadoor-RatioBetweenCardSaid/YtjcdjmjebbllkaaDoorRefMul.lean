/- What the reference's Mul returns. -/
import Derived.Test.YtjcdjmjebbllkaaDoorMulW
import Derived.Test.YtjcdjmjebbllkaaDoorRefMulM
namespace Go.Proofs.YtjcdjmjebbllkaaDoor
open Go.RowKit
attribute [local go_sem] le_add_one'
attribute [local go_sem ↓] Go.wp_at_zero Go.wp_at_succ

theorem new_zero {t : Int} (h : 0 < t) : newE 0 t = 0 ∧ newN 0 t = 0 ∧ newD 0 t = 1 := by
  have e : newE 0 t = 0 := by
    unfold newE
    rw [if_neg (by omega), Int.zero_gcd, Nat.div_self (by omega)]; simp
  refine ⟨e, ?_, ?_⟩
  · unfold newN; rw [e]; simp
  · unfold newD; rw [e, Int.zero_gcd, Nat.div_self (by omega)]; simp

theorem over_iff {x y : Int} (hx : 0 ≤ x) (hy : 0 < y) : ((1099511627776 : Int).tdiv y < x) ↔ 1099511627776 < x.natAbs * y.natAbs := by
  rw [Int.tdiv_eq_ediv_of_nonneg (by omega), Int.ediv_lt_iff_lt_mul hy]
  have : x * y = ((x.natAbs * y.natAbs : Nat) : Int) := by
    rw [Int.natCast_mul, Int.natAbs_of_nonneg hx, Int.natAbs_of_nonneg (by omega)]
  omega
theorem max_div (y : Int) : -1099511627776 ≤ (1099511627776 : Int).tdiv y ∧ (1099511627776 : Int).tdiv y ≤ 1099511627776 := by
  have h : ((1099511627776 : Int).tdiv y).natAbs = (1099511627776 : Int).natAbs / y.natAbs := Int.natAbs_tdiv _ _
  have := Nat.div_le_self (1099511627776 : Int).natAbs y.natAbs
  omega

set_option maxHeartbeats 1000000 in
theorem refmul_any (a b c d : Int) (w : World) :
    Calls Tryd.prog 37 #[rat a b, rat c d] w fun e w' => e = .returned (.tuple #[rat (mulN a b c d) (mulD a b c d), .int .i64 (mulE a b c d)]) ∧ Below w.heap.size w w' := by
  have H := Lib.hid (both_any a b c d)
  unfold mulN mulD mulE
  by_cases h : val2 a b c d = 0
  · rw [sel_ok h, sel_ok h, sel_ok h]
    rw [h] at H
    obtain ⟨v1, v2⟩ := val2_ok h
    clear h
    obtain ⟨b1, b2, b3, b4, _⟩ := valE_ok v1
    obtain ⟨d1, d2, d3, d4, _⟩ := valE_ok v2
    by_cases hz : a = 0 ∨ c = 0
    · have e0 : a * c = 0 := Int.mul_eq_zero.2 hz
      obtain ⟨e1, e2, e3⟩ := new_zero (t := b * d) (Int.mul_pos (by omega) (by omega))
      rw [e0, e1, e2, e3]
      clear e0 e1 e2 e3 v1 v2
      by_cases ha : a = 0
      · subst ha
        clear hz
        go_enter Tryd.func37, Tryd.ntmps37
        go_wp2_with (go_at_call 17; refine (H.out _).mono ?_; rintro e w1 ⟨rfl, hb1⟩; obtain ⟨hc1, hf1, hz1⟩ := bcell hb1; (try simp at hz1); (try have hw1_0 : w.heap.size < w1.heap.size := by omega); (try have hw1_1 : w.heap.size + 1 < w1.heap.size := by omega); (try have hw1_2 : w.heap.size + 1 + 1 < w1.heap.size := by omega); (try have hw1_3 : w.heap.size + 1 + 1 + 1 < w1.heap.size := by omega); (try have hw1_4 : w.heap.size + 1 + 1 + 1 + 1 < w1.heap.size := by omega); (try have hw1_5 : w.heap.size + 1 + 1 + 1 + 1 + 1 < w1.heap.size := by omega))
        exact bodyPost_ret (v := .tuple #[rat 0 1, .int .i64 0]) (by simp [*, results, Tryd.results37, go_sem]) rfl ⟨rfl, (by repeat (first | exact Below.refl _ _ | assumption | refine Below.setCell ?_ (by (first | omega | (simp <;> omega))) _ | refine below_drewN ?_ _ | refine Below.drew ?_ | refine Below.alloc ?_ (by (first | omega | (simp <;> omega))) _ | (refine after (h1 := by assumption) ?_ ?_; rotate_left; (first | omega | (simp <;> omega)))))⟩
      · have hc : c = 0 := hz.resolve_left ha
        subst hc
        clear hz
        have ha' : decide (a = 0) = false := by simpa using ha
        go_enter Tryd.func37, Tryd.ntmps37
        go_wp2_with (go_at_call 17; refine (H.out _).mono ?_; rintro e w1 ⟨rfl, hb1⟩; obtain ⟨hc1, hf1, hz1⟩ := bcell hb1; (try simp at hz1); (try have hw1_0 : w.heap.size < w1.heap.size := by omega); (try have hw1_1 : w.heap.size + 1 < w1.heap.size := by omega); (try have hw1_2 : w.heap.size + 1 + 1 < w1.heap.size := by omega); (try have hw1_3 : w.heap.size + 1 + 1 + 1 < w1.heap.size := by omega); (try have hw1_4 : w.heap.size + 1 + 1 + 1 + 1 < w1.heap.size := by omega); (try have hw1_5 : w.heap.size + 1 + 1 + 1 + 1 + 1 < w1.heap.size := by omega))
        exact bodyPost_ret (v := .tuple #[rat 0 1, .int .i64 0]) (by simp [*, results, Tryd.results37, go_sem]) rfl ⟨rfl, (by repeat (first | exact Below.refl _ _ | assumption | refine Below.setCell ?_ (by (first | omega | (simp <;> omega))) _ | refine below_drewN ?_ _ | refine Below.drew ?_ | refine Below.alloc ?_ (by (first | omega | (simp <;> omega))) _ | (refine after (h1 := by assumption) ?_ ?_; rotate_left; (first | omega | (simp <;> omega)))))⟩
    · simp only [not_or] at hz
      obtain ⟨ha, hc⟩ := hz
      obtain ⟨n, m, k, hn, hm, hk, n0, m0, n1, m1, k1, r1, r2, ⟨e1, e2, e3⟩, L⟩ := refmul_law v1 v2 ha hc
      rw [e1, e2, e3]
      clear e1 e2 e3 v1 v2
      have G := Lib.hid (fun w => common_any a d w (by omega) (by omega) (by omega) (by omega))
      have G' := Lib.hid (fun w => common_any c b w (by omega) (by omega) (by omega) (by omega))
      have pg : 0 < Int.gcd a d := gcd_pos_right a d (by omega)
      have ph : 0 < Int.gcd c b := gcd_pos_right c b (by omega)
      generalize Int.gcd a d = g at *
      generalize Int.gcd c b = h at *
      have Hn := Lib.hid hn
      have Hm := Lib.hid hm
      have Hk := Lib.hid hk
      have Lh := Lib.hid L
      clear hn hm hk L
      have F : ¬ (1099511627776 < n.natAbs * m.natAbs) → Hid (∀ w : World, Calls Tryd.prog 43 #[.int .i64 (n * m), .int .i64 k] w fun e w' => e = .returned (.tuple #[rat (newN (n * m) k) (newD (n * m) k), .int .i64 (newE (n * m) k)]) ∧ Below w.heap.size w w') := fun h =>
        Lib.hid (fun w => of_any (n * m) k w (by have := Int.natAbs_mul n m; omega) (by have := Int.natAbs_mul n m; omega) (by omega) (by omega) (by omega))
      generalize newE (n * m) k = E at *
      generalize newN (n * m) k = N at *
      generalize newD (n * m) k = D at *
      have ha' : (a == 0) = false := by simpa using ha
      have hc' : (c == 0) = false := by simpa using hc
      have pg' : ¬ g = 0 := by omega
      have ph' : ¬ h = 0 := by omega
      have q1 : IntKind.i64.wrap (a.tdiv (g : Int)) = n := by rw [Hn.out]; exact IntWalk.i64_in _ (by omega)
      have q2 : IntKind.i64.wrap (c.tdiv (h : Int)) = m := by rw [Hm.out]; exact IntWalk.i64_in _ (by omega)
      have q3 : IntKind.i64.wrap (b.tdiv (h : Int)) = b.tdiv (h : Int) := IntWalk.i64_in _ (by omega)
      have q4 : IntKind.i64.wrap (d.tdiv (g : Int)) = d.tdiv (g : Int) := IntWalk.i64_in _ (by omega)
      have q5 : IntKind.i64.wrap (b.tdiv (h : Int) * d.tdiv (g : Int)) = k := by rw [Hk.out]; exact IntWalk.i64_in _ (by omega)
      go_enter Tryd.func37, Tryd.ntmps37
      go_wp2_with (go_at_call 17; refine (H.out _).mono ?_; rintro e w1 ⟨rfl, hb1⟩; obtain ⟨hc1, hf1, hz1⟩ := bcell hb1; (try simp at hz1); (try have hw1_0 : w.heap.size < w1.heap.size := by omega); (try have hw1_1 : w.heap.size + 1 < w1.heap.size := by omega); (try have hw1_2 : w.heap.size + 1 + 1 < w1.heap.size := by omega); (try have hw1_3 : w.heap.size + 1 + 1 + 1 < w1.heap.size := by omega); (try have hw1_4 : w.heap.size + 1 + 1 + 1 + 1 < w1.heap.size := by omega); (try have hw1_5 : w.heap.size + 1 + 1 + 1 + 1 + 1 < w1.heap.size := by omega))
      refine (G.out _).mono ?_
      rintro e w' ⟨rfl, dr1, rfl⟩
      go_wp2_with fail
      refine (G'.out _).mono ?_
      rintro e w' ⟨rfl, dr2, rfl⟩
      go_wp2_with fail
      go_quiet (fail)
      go_upto_region 11 with fail
      have t1 : IntKind.i64.wrap ((1099511627776 : Int).tdiv m) = (1099511627776 : Int).tdiv m := IntWalk.i64_in _ (by have := max_div m; omega)
      have t2 : IntKind.i64.wrap (-(1099511627776 : Int).tdiv m) = -(1099511627776 : Int).tdiv m := IntWalk.i64_in _ (by have := max_div m; omega)
      have Z1 : w1.cell? ⟨w.heap.size + 1 + 1, 0, none⟩ = some (.int .i64 0) := keep_cell hb1 (by simp [go_sem])
      have Z2 : w1.cell? ⟨w.heap.size + 1 + 1, 1, none⟩ = some (.int .i64 0) := keep_cell hb1 (by simp [go_sem])
      have Z3 : w1.frozen? ⟨w.heap.size + 1 + 1, 0, none⟩ = false := (hb1.frozen (p := ⟨w.heap.size + 1 + 1, 0, none⟩) (by simp [go_sem])).trans (by simp [go_sem])
      have Z4 : w1.frozen? ⟨w.heap.size + 1 + 1, 1, none⟩ = false := (hb1.frozen (p := ⟨w.heap.size + 1 + 1, 1, none⟩) (by simp [go_sem])).trans (by simp [go_sem])
      clear hc1 hf1
      clear G G' H
      by_cases P : 1099511627776 < n.natAbs * m.natAbs ∨ 1048576 < k
      · obtain ⟨e1, e2, e3⟩ := Lh.out P
        subst e1 e2 e3
        clear Lh F
        rcases Int.lt_or_gt_of_ne n0 with sn | sn <;> rcases Int.lt_or_gt_of_ne m0 with sm | sm
        · have o := over_iff (x := -n) (y := -m) (by omega) (by omega)
          simp only [Int.natAbs_neg] at o
          rw [← o] at P
          clear o
          have s1 : decide (0 < m) = false := by simp; omega
          have s2 : decide (0 < n) = false := by simp; omega
          have s3 : decide (m < 0) = true := by simp; omega
          have s4 : decide (n < 0) = true := by simp; omega
          by_cases c1 : (1099511627776 : Int).tdiv m < n
          · have s5 : decide ((1099511627776 : Int).tdiv m < n) = true := by simpa using c1
            by_cases c4 : 1048576 < k
            · have s6 : decide (1048576 < k) = true := by simpa using c4
              go_wp2_with fail
              exact bodyPost_ret (v := .tuple #[rat 0 0, .int .i64 5]) (by simp [*, results, Tryd.results37, go_sem]) rfl ⟨rfl, (by repeat (first | exact Below.refl _ _ | assumption | refine Below.setCell ?_ (by (first | omega | (simp <;> omega))) _ | refine below_drewN ?_ _ | refine Below.drew ?_ | refine Below.alloc ?_ (by (first | omega | (simp <;> omega))) _ | (refine after (h1 := by assumption) ?_ ?_; rotate_left; (first | omega | (simp <;> omega)))))⟩
            · have s6 : decide (1048576 < k) = false := by simpa using c4
              have s7 := P.resolve_right c4
              have s8 : decide (n < (1099511627776 : Int).tdiv m) = true := by rw [Int.tdiv_neg] at s7; simp; omega
              go_wp2_with fail
              exact bodyPost_ret (v := .tuple #[rat 0 0, .int .i64 5]) (by simp [*, results, Tryd.results37, go_sem]) rfl ⟨rfl, (by repeat (first | exact Below.refl _ _ | assumption | refine Below.setCell ?_ (by (first | omega | (simp <;> omega))) _ | refine below_drewN ?_ _ | refine Below.drew ?_ | refine Below.alloc ?_ (by (first | omega | (simp <;> omega))) _ | (refine after (h1 := by assumption) ?_ ?_; rotate_left; (first | omega | (simp <;> omega)))))⟩
          · have s5 : decide ((1099511627776 : Int).tdiv m < n) = false := by simpa using c1
            by_cases c4 : 1048576 < k
            · have s6 : decide (1048576 < k) = true := by simpa using c4
              go_wp2_with fail
              exact bodyPost_ret (v := .tuple #[rat 0 0, .int .i64 5]) (by simp [*, results, Tryd.results37, go_sem]) rfl ⟨rfl, (by repeat (first | exact Below.refl _ _ | assumption | refine Below.setCell ?_ (by (first | omega | (simp <;> omega))) _ | refine below_drewN ?_ _ | refine Below.drew ?_ | refine Below.alloc ?_ (by (first | omega | (simp <;> omega))) _ | (refine after (h1 := by assumption) ?_ ?_; rotate_left; (first | omega | (simp <;> omega)))))⟩
            · have s6 : decide (1048576 < k) = false := by simpa using c4
              have s7 := P.resolve_right c4
              have s8 : decide (n < (1099511627776 : Int).tdiv m) = true := by rw [Int.tdiv_neg] at s7; simp; omega
              go_wp2_with fail
              exact bodyPost_ret (v := .tuple #[rat 0 0, .int .i64 5]) (by simp [*, results, Tryd.results37, go_sem]) rfl ⟨rfl, (by repeat (first | exact Below.refl _ _ | assumption | refine Below.setCell ?_ (by (first | omega | (simp <;> omega))) _ | refine below_drewN ?_ _ | refine Below.drew ?_ | refine Below.alloc ?_ (by (first | omega | (simp <;> omega))) _ | (refine after (h1 := by assumption) ?_ ?_; rotate_left; (first | omega | (simp <;> omega)))))⟩
        · have o := over_iff (x := -n) (y := m) (by omega) (by omega)
          simp only [Int.natAbs_neg] at o
          rw [← o] at P
          clear o
          have s1 : decide (0 < m) = true := by simp; omega
          have s2 : decide (0 < n) = false := by simp; omega
          have s3 : decide (m < 0) = false := by simp; omega
          have s4 : decide (n < 0) = true := by simp; omega
          by_cases c1 : (1099511627776 : Int).tdiv m < n
          · have s5 : decide ((1099511627776 : Int).tdiv m < n) = true := by simpa using c1
            by_cases c4 : 1048576 < k
            · have s6 : decide (1048576 < k) = true := by simpa using c4
              go_wp2_with fail
              exact bodyPost_ret (v := .tuple #[rat 0 0, .int .i64 5]) (by simp [*, results, Tryd.results37, go_sem]) rfl ⟨rfl, (by repeat (first | exact Below.refl _ _ | assumption | refine Below.setCell ?_ (by (first | omega | (simp <;> omega))) _ | refine below_drewN ?_ _ | refine Below.drew ?_ | refine Below.alloc ?_ (by (first | omega | (simp <;> omega))) _ | (refine after (h1 := by assumption) ?_ ?_; rotate_left; (first | omega | (simp <;> omega)))))⟩
            · have s6 : decide (1048576 < k) = false := by simpa using c4
              have s7 := P.resolve_right c4
              have s8 : decide ((1099511627776 : Int).tdiv (m) < -n) = true := by simpa using s7
              go_wp2_with fail
              exact bodyPost_ret (v := .tuple #[rat 0 0, .int .i64 5]) (by simp [*, results, Tryd.results37, go_sem]) rfl ⟨rfl, (by repeat (first | exact Below.refl _ _ | assumption | refine Below.setCell ?_ (by (first | omega | (simp <;> omega))) _ | refine below_drewN ?_ _ | refine Below.drew ?_ | refine Below.alloc ?_ (by (first | omega | (simp <;> omega))) _ | (refine after (h1 := by assumption) ?_ ?_; rotate_left; (first | omega | (simp <;> omega)))))⟩
          · have s5 : decide ((1099511627776 : Int).tdiv m < n) = false := by simpa using c1
            by_cases c4 : 1048576 < k
            · have s6 : decide (1048576 < k) = true := by simpa using c4
              go_wp2_with fail
              exact bodyPost_ret (v := .tuple #[rat 0 0, .int .i64 5]) (by simp [*, results, Tryd.results37, go_sem]) rfl ⟨rfl, (by repeat (first | exact Below.refl _ _ | assumption | refine Below.setCell ?_ (by (first | omega | (simp <;> omega))) _ | refine below_drewN ?_ _ | refine Below.drew ?_ | refine Below.alloc ?_ (by (first | omega | (simp <;> omega))) _ | (refine after (h1 := by assumption) ?_ ?_; rotate_left; (first | omega | (simp <;> omega)))))⟩
            · have s6 : decide (1048576 < k) = false := by simpa using c4
              have s7 := P.resolve_right c4
              have s8 : decide ((1099511627776 : Int).tdiv (m) < -n) = true := by simpa using s7
              go_wp2_with fail
              exact bodyPost_ret (v := .tuple #[rat 0 0, .int .i64 5]) (by simp [*, results, Tryd.results37, go_sem]) rfl ⟨rfl, (by repeat (first | exact Below.refl _ _ | assumption | refine Below.setCell ?_ (by (first | omega | (simp <;> omega))) _ | refine below_drewN ?_ _ | refine Below.drew ?_ | refine Below.alloc ?_ (by (first | omega | (simp <;> omega))) _ | (refine after (h1 := by assumption) ?_ ?_; rotate_left; (first | omega | (simp <;> omega)))))⟩
        · have o := over_iff (x := n) (y := -m) (by omega) (by omega)
          simp only [Int.natAbs_neg] at o
          rw [← o] at P
          clear o
          have s1 : decide (0 < m) = false := by simp; omega
          have s2 : decide (0 < n) = true := by simp; omega
          have s3 : decide (m < 0) = true := by simp; omega
          have s4 : decide (n < 0) = false := by simp; omega
          by_cases c1 : (1099511627776 : Int).tdiv m < n
          · have s5 : decide ((1099511627776 : Int).tdiv m < n) = true := by simpa using c1
            by_cases c4 : 1048576 < k
            · have s6 : decide (1048576 < k) = true := by simpa using c4
              go_wp2_with fail
              exact bodyPost_ret (v := .tuple #[rat 0 0, .int .i64 5]) (by simp [*, results, Tryd.results37, go_sem]) rfl ⟨rfl, (by repeat (first | exact Below.refl _ _ | assumption | refine Below.setCell ?_ (by (first | omega | (simp <;> omega))) _ | refine below_drewN ?_ _ | refine Below.drew ?_ | refine Below.alloc ?_ (by (first | omega | (simp <;> omega))) _ | (refine after (h1 := by assumption) ?_ ?_; rotate_left; (first | omega | (simp <;> omega)))))⟩
            · have s6 : decide (1048576 < k) = false := by simpa using c4
              have s7 := P.resolve_right c4
              have s8 : decide (-(1099511627776 : Int).tdiv m < n) = true := by rw [Int.tdiv_neg] at s7; simp; omega
              go_wp2_with fail
              exact bodyPost_ret (v := .tuple #[rat 0 0, .int .i64 5]) (by simp [*, results, Tryd.results37, go_sem]) rfl ⟨rfl, (by repeat (first | exact Below.refl _ _ | assumption | refine Below.setCell ?_ (by (first | omega | (simp <;> omega))) _ | refine below_drewN ?_ _ | refine Below.drew ?_ | refine Below.alloc ?_ (by (first | omega | (simp <;> omega))) _ | (refine after (h1 := by assumption) ?_ ?_; rotate_left; (first | omega | (simp <;> omega)))))⟩
          · have s5 : decide ((1099511627776 : Int).tdiv m < n) = false := by simpa using c1
            by_cases c4 : 1048576 < k
            · have s6 : decide (1048576 < k) = true := by simpa using c4
              go_wp2_with fail
              exact bodyPost_ret (v := .tuple #[rat 0 0, .int .i64 5]) (by simp [*, results, Tryd.results37, go_sem]) rfl ⟨rfl, (by repeat (first | exact Below.refl _ _ | assumption | refine Below.setCell ?_ (by (first | omega | (simp <;> omega))) _ | refine below_drewN ?_ _ | refine Below.drew ?_ | refine Below.alloc ?_ (by (first | omega | (simp <;> omega))) _ | (refine after (h1 := by assumption) ?_ ?_; rotate_left; (first | omega | (simp <;> omega)))))⟩
            · have s6 : decide (1048576 < k) = false := by simpa using c4
              have s7 := P.resolve_right c4
              have s8 : decide (-(1099511627776 : Int).tdiv m < n) = true := by rw [Int.tdiv_neg] at s7; simp; omega
              go_wp2_with fail
              exact bodyPost_ret (v := .tuple #[rat 0 0, .int .i64 5]) (by simp [*, results, Tryd.results37, go_sem]) rfl ⟨rfl, (by repeat (first | exact Below.refl _ _ | assumption | refine Below.setCell ?_ (by (first | omega | (simp <;> omega))) _ | refine below_drewN ?_ _ | refine Below.drew ?_ | refine Below.alloc ?_ (by (first | omega | (simp <;> omega))) _ | (refine after (h1 := by assumption) ?_ ?_; rotate_left; (first | omega | (simp <;> omega)))))⟩
        · have o := over_iff (x := n) (y := m) (by omega) (by omega)
          rw [← o] at P
          clear o
          have s1 : decide (0 < m) = true := by simp; omega
          have s2 : decide (0 < n) = true := by simp; omega
          have s3 : decide (m < 0) = false := by simp; omega
          have s4 : decide (n < 0) = false := by simp; omega
          by_cases c1 : (1099511627776 : Int).tdiv m < n
          · have s5 : decide ((1099511627776 : Int).tdiv m < n) = true := by simpa using c1
            go_wp2_with fail
            exact bodyPost_ret (v := .tuple #[rat 0 0, .int .i64 5]) (by simp [*, results, Tryd.results37, go_sem]) rfl ⟨rfl, (by repeat (first | exact Below.refl _ _ | assumption | refine Below.setCell ?_ (by (first | omega | (simp <;> omega))) _ | refine below_drewN ?_ _ | refine Below.drew ?_ | refine Below.alloc ?_ (by (first | omega | (simp <;> omega))) _ | (refine after (h1 := by assumption) ?_ ?_; rotate_left; (first | omega | (simp <;> omega)))))⟩
          · have s5 : decide ((1099511627776 : Int).tdiv m < n) = false := by simpa using c1
            have s6 : decide (1048576 < k) = true := by simpa using P.resolve_left c1
            go_wp2_with fail
            exact bodyPost_ret (v := .tuple #[rat 0 0, .int .i64 5]) (by simp [*, results, Tryd.results37, go_sem]) rfl ⟨rfl, (by repeat (first | exact Below.refl _ _ | assumption | refine Below.setCell ?_ (by (first | omega | (simp <;> omega))) _ | refine below_drewN ?_ _ | refine Below.drew ?_ | refine Below.alloc ?_ (by (first | omega | (simp <;> omega))) _ | (refine after (h1 := by assumption) ?_ ?_; rotate_left; (first | omega | (simp <;> omega)))))⟩
      · have F := F (fun t => P (.inl t))
        have q6 : IntKind.i64.wrap (n * m) = n * m := IntWalk.i64_in _ (by have := Int.natAbs_mul n m; omega)
        clear Lh
        rcases Int.lt_or_gt_of_ne n0 with sn | sn <;> rcases Int.lt_or_gt_of_ne m0 with sm | sm
        · have o := over_iff (x := -n) (y := -m) (by omega) (by omega)
          simp only [Int.natAbs_neg] at o
          rw [← o] at P
          clear o
          have s1 : decide (0 < m) = false := by simp; omega
          have s2 : decide (0 < n) = false := by simp; omega
          have s3 : decide (m < 0) = true := by simp; omega
          have s4 : decide (n < 0) = true := by simp; omega
          simp only [not_or] at P
          obtain ⟨p1, p2⟩ := P
          have s6 : decide (1048576 < k) = false := by simpa using p2
          have s8 : decide (n < (1099511627776 : Int).tdiv m) = false := by rw [Int.tdiv_neg] at p1; simp; omega
          by_cases c1 : (1099511627776 : Int).tdiv m < n
          · have s5 : decide ((1099511627776 : Int).tdiv m < n) = true := by simpa using c1
            go_wp2_with (go_at_call 43; refine (F.out _).mono ?_; rintro e w2 ⟨rfl, hb2⟩; have X1 := keep_cell hb2 (keep_drewN Z1); have X2 := keep_cell hb2 (keep_drewN Z2); have X3 := (hb2.frozen (p := ⟨w.heap.size + 1 + 1, 0, none⟩) hw1_2).trans Z3; have X4 := (hb2.frozen (p := ⟨w.heap.size + 1 + 1, 1, none⟩) hw1_2).trans Z4; have X5 : w.heap.size + 1 + 1 < w2.heap.size := Nat.lt_of_lt_of_le hw1_2 hb2.size)
            exact bodyPost_ret (v := .tuple #[rat N D, .int .i64 E]) (by simp [*, results, Tryd.results37, go_sem]) rfl ⟨rfl, (by repeat (first | exact Below.refl _ _ | assumption | refine Below.setCell ?_ (by (first | omega | (simp <;> omega))) _ | refine below_drewN ?_ _ | refine Below.drew ?_ | refine Below.alloc ?_ (by (first | omega | (simp <;> omega))) _ | (refine after (h1 := by assumption) ?_ ?_; rotate_left; (first | omega | (simp <;> omega)))))⟩
          · have s5 : decide ((1099511627776 : Int).tdiv m < n) = false := by simpa using c1
            go_wp2_with (go_at_call 43; refine (F.out _).mono ?_; rintro e w2 ⟨rfl, hb2⟩; have X1 := keep_cell hb2 (keep_drewN Z1); have X2 := keep_cell hb2 (keep_drewN Z2); have X3 := (hb2.frozen (p := ⟨w.heap.size + 1 + 1, 0, none⟩) hw1_2).trans Z3; have X4 := (hb2.frozen (p := ⟨w.heap.size + 1 + 1, 1, none⟩) hw1_2).trans Z4; have X5 : w.heap.size + 1 + 1 < w2.heap.size := Nat.lt_of_lt_of_le hw1_2 hb2.size)
            exact bodyPost_ret (v := .tuple #[rat N D, .int .i64 E]) (by simp [*, results, Tryd.results37, go_sem]) rfl ⟨rfl, (by repeat (first | exact Below.refl _ _ | assumption | refine Below.setCell ?_ (by (first | omega | (simp <;> omega))) _ | refine below_drewN ?_ _ | refine Below.drew ?_ | refine Below.alloc ?_ (by (first | omega | (simp <;> omega))) _ | (refine after (h1 := by assumption) ?_ ?_; rotate_left; (first | omega | (simp <;> omega)))))⟩
        · have o := over_iff (x := -n) (y := m) (by omega) (by omega)
          simp only [Int.natAbs_neg] at o
          rw [← o] at P
          clear o
          have s1 : decide (0 < m) = true := by simp; omega
          have s2 : decide (0 < n) = false := by simp; omega
          have s3 : decide (m < 0) = false := by simp; omega
          have s4 : decide (n < 0) = true := by simp; omega
          simp only [not_or] at P
          obtain ⟨p1, p2⟩ := P
          have s6 : decide (1048576 < k) = false := by simpa using p2
          have s8 : decide ((1099511627776 : Int).tdiv (m) < -n) = false := by simpa using p1
          by_cases c1 : (1099511627776 : Int).tdiv m < n
          · exact absurd c1 (by have := Int.tdiv_nonneg (a := 1099511627776) (b := m) (by omega) (by omega); omega)
          · have s5 : decide ((1099511627776 : Int).tdiv m < n) = false := by simpa using c1
            go_wp2_with (go_at_call 43; refine (F.out _).mono ?_; rintro e w2 ⟨rfl, hb2⟩; have X1 := keep_cell hb2 (keep_drewN Z1); have X2 := keep_cell hb2 (keep_drewN Z2); have X3 := (hb2.frozen (p := ⟨w.heap.size + 1 + 1, 0, none⟩) hw1_2).trans Z3; have X4 := (hb2.frozen (p := ⟨w.heap.size + 1 + 1, 1, none⟩) hw1_2).trans Z4; have X5 : w.heap.size + 1 + 1 < w2.heap.size := Nat.lt_of_lt_of_le hw1_2 hb2.size)
            exact bodyPost_ret (v := .tuple #[rat N D, .int .i64 E]) (by simp [*, results, Tryd.results37, go_sem]) rfl ⟨rfl, (by repeat (first | exact Below.refl _ _ | assumption | refine Below.setCell ?_ (by (first | omega | (simp <;> omega))) _ | refine below_drewN ?_ _ | refine Below.drew ?_ | refine Below.alloc ?_ (by (first | omega | (simp <;> omega))) _ | (refine after (h1 := by assumption) ?_ ?_; rotate_left; (first | omega | (simp <;> omega)))))⟩
        · have o := over_iff (x := n) (y := -m) (by omega) (by omega)
          simp only [Int.natAbs_neg] at o
          rw [← o] at P
          clear o
          have s1 : decide (0 < m) = false := by simp; omega
          have s2 : decide (0 < n) = true := by simp; omega
          have s3 : decide (m < 0) = true := by simp; omega
          have s4 : decide (n < 0) = false := by simp; omega
          simp only [not_or] at P
          obtain ⟨p1, p2⟩ := P
          have s6 : decide (1048576 < k) = false := by simpa using p2
          have s8 : decide (-(1099511627776 : Int).tdiv m < n) = false := by rw [Int.tdiv_neg] at p1; simp; omega
          by_cases c1 : (1099511627776 : Int).tdiv m < n
          · have s5 : decide ((1099511627776 : Int).tdiv m < n) = true := by simpa using c1
            go_wp2_with (go_at_call 43; refine (F.out _).mono ?_; rintro e w2 ⟨rfl, hb2⟩; have X1 := keep_cell hb2 (keep_drewN Z1); have X2 := keep_cell hb2 (keep_drewN Z2); have X3 := (hb2.frozen (p := ⟨w.heap.size + 1 + 1, 0, none⟩) hw1_2).trans Z3; have X4 := (hb2.frozen (p := ⟨w.heap.size + 1 + 1, 1, none⟩) hw1_2).trans Z4; have X5 : w.heap.size + 1 + 1 < w2.heap.size := Nat.lt_of_lt_of_le hw1_2 hb2.size)
            exact bodyPost_ret (v := .tuple #[rat N D, .int .i64 E]) (by simp [*, results, Tryd.results37, go_sem]) rfl ⟨rfl, (by repeat (first | exact Below.refl _ _ | assumption | refine Below.setCell ?_ (by (first | omega | (simp <;> omega))) _ | refine below_drewN ?_ _ | refine Below.drew ?_ | refine Below.alloc ?_ (by (first | omega | (simp <;> omega))) _ | (refine after (h1 := by assumption) ?_ ?_; rotate_left; (first | omega | (simp <;> omega)))))⟩
          · have s5 : decide ((1099511627776 : Int).tdiv m < n) = false := by simpa using c1
            go_wp2_with (go_at_call 43; refine (F.out _).mono ?_; rintro e w2 ⟨rfl, hb2⟩; have X1 := keep_cell hb2 (keep_drewN Z1); have X2 := keep_cell hb2 (keep_drewN Z2); have X3 := (hb2.frozen (p := ⟨w.heap.size + 1 + 1, 0, none⟩) hw1_2).trans Z3; have X4 := (hb2.frozen (p := ⟨w.heap.size + 1 + 1, 1, none⟩) hw1_2).trans Z4; have X5 : w.heap.size + 1 + 1 < w2.heap.size := Nat.lt_of_lt_of_le hw1_2 hb2.size)
            exact bodyPost_ret (v := .tuple #[rat N D, .int .i64 E]) (by simp [*, results, Tryd.results37, go_sem]) rfl ⟨rfl, (by repeat (first | exact Below.refl _ _ | assumption | refine Below.setCell ?_ (by (first | omega | (simp <;> omega))) _ | refine below_drewN ?_ _ | refine Below.drew ?_ | refine Below.alloc ?_ (by (first | omega | (simp <;> omega))) _ | (refine after (h1 := by assumption) ?_ ?_; rotate_left; (first | omega | (simp <;> omega)))))⟩
        · have o := over_iff (x := n) (y := m) (by omega) (by omega)
          rw [← o] at P
          clear o
          have s1 : decide (0 < m) = true := by simp; omega
          have s2 : decide (0 < n) = true := by simp; omega
          have s3 : decide (m < 0) = false := by simp; omega
          have s4 : decide (n < 0) = false := by simp; omega
          simp only [not_or] at P
          obtain ⟨p1, p2⟩ := P
          have s6 : decide (1048576 < k) = false := by simpa using p2
          have s5 : decide ((1099511627776 : Int).tdiv m < n) = false := by simpa using p1
          go_wp2_with (go_at_call 43; refine (F.out _).mono ?_; rintro e w2 ⟨rfl, hb2⟩; have X1 := keep_cell hb2 (keep_drewN Z1); have X2 := keep_cell hb2 (keep_drewN Z2); have X3 := (hb2.frozen (p := ⟨w.heap.size + 1 + 1, 0, none⟩) hw1_2).trans Z3; have X4 := (hb2.frozen (p := ⟨w.heap.size + 1 + 1, 1, none⟩) hw1_2).trans Z4; have X5 : w.heap.size + 1 + 1 < w2.heap.size := Nat.lt_of_lt_of_le hw1_2 hb2.size)
          exact bodyPost_ret (v := .tuple #[rat N D, .int .i64 E]) (by simp [*, results, Tryd.results37, go_sem]) rfl ⟨rfl, (by repeat (first | exact Below.refl _ _ | assumption | refine Below.setCell ?_ (by (first | omega | (simp <;> omega))) _ | refine below_drewN ?_ _ | refine Below.drew ?_ | refine Below.alloc ?_ (by (first | omega | (simp <;> omega))) _ | (refine after (h1 := by assumption) ?_ ?_; rotate_left; (first | omega | (simp <;> omega)))))⟩
  · rw [sel_no h, sel_no h, sel_no h]
    rw [val2_bad h] at H
    clear h
    go_enter Tryd.func37, Tryd.ntmps37
    go_wp2_with (go_at_call 17; refine (H.out _).mono ?_; rintro e w1 ⟨rfl, hb1⟩; obtain ⟨hc1, hf1, hz1⟩ := bcell hb1; (try simp at hz1); (try have hw1_0 : w.heap.size < w1.heap.size := by omega); (try have hw1_1 : w.heap.size + 1 < w1.heap.size := by omega); (try have hw1_2 : w.heap.size + 1 + 1 < w1.heap.size := by omega); (try have hw1_3 : w.heap.size + 1 + 1 + 1 < w1.heap.size := by omega); (try have hw1_4 : w.heap.size + 1 + 1 + 1 + 1 < w1.heap.size := by omega); (try have hw1_5 : w.heap.size + 1 + 1 + 1 + 1 + 1 < w1.heap.size := by omega))
    exact bodyPost_ret (v := .tuple #[rat 0 0, .int .i64 1]) (by simp [*, results, Tryd.results37, go_sem]) rfl ⟨rfl, (by repeat (first | exact Below.refl _ _ | assumption | refine Below.setCell ?_ (by (first | omega | (simp <;> omega))) _ | refine below_drewN ?_ _ | refine Below.drew ?_ | refine Below.alloc ?_ (by (first | omega | (simp <;> omega))) _ | (refine after (h1 := by assumption) ?_ ?_; rotate_left; (first | omega | (simp <;> omega)))))⟩
end Go.Proofs.YtjcdjmjebbllkaaDoor
