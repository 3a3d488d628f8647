/- What the reference's Between returns. -/
import Derived.Test.YtjcdjmjebbllkaaDoorBetS
import Derived.Test.YtjcdjmjebbllkaaDoorBet
namespace Go.Proofs.YtjcdjmjebbllkaaDoor
open Go.RowKit
attribute [local go_sem] le_add_one'
attribute [local go_sem ↓] Go.wp_at_zero Go.wp_at_succ

def Two' (W : World) (g : Nat) (n d : Int) : Prop := W.cell? ⟨g, 0, none⟩ = some (.int .i64 n) ∧ W.cell? ⟨g, 1, none⟩ = some (.int .i64 d)

theorem late {W w3 : World} {g : Nat} {n d : Int} {u v : Value} (hb : Below W.heap.size W w3) (hg : W.heap.size ≤ g) (h0 : w3.cell? ⟨g, 0, none⟩ = some u) (h1 : w3.cell? ⟨g, 1, none⟩ = some v) :
    Two' ((w3.setCell ⟨g, 0, none⟩ (.int .i64 n)).setCell ⟨g, 1, none⟩ (.int .i64 d)) g n d ∧ Below W.heap.size W ((w3.setCell ⟨g, 0, none⟩ (.int .i64 n)).setCell ⟨g, 1, none⟩ (.int .i64 d)) := by
  have k0 : (w3.setCell ⟨g, 0, none⟩ (.int .i64 n)).cell? ⟨g, 1, none⟩ = some v := (World.cell?_setCell_other _ _ _ _ (by simp)).trans h1
  exact ⟨⟨(World.cell?_setCell_other _ _ _ _ (by simp)).trans (World.cell?_setCell_same _ _ _ h0), World.cell?_setCell_same _ _ _ k0⟩, (hb.setCell hg _).setCell hg _⟩

theorem simOk_of {a b c d : Int} (v1 : valE a b = 0) (v2 : valE c d = 0) (ha : 0 ≤ a) (hlt : a * d < c * b) : SimOk a b c d := by
  obtain ⟨b1, b2, -, b4, -⟩ := valE_ok v1
  obtain ⟨d1, d2, -, d4, -⟩ := valE_ok v2
  have c0 : 1 ≤ c := by
    rcases Int.lt_or_le 0 c with z | z
    · omega
    · have e1 : 0 ≤ a * d := Int.mul_nonneg ha (by omega)
      have e2 : 0 ≤ (-c) * b := Int.mul_nonneg (by omega) (by omega)
      rw [Int.neg_mul] at e2; omega
  exact ⟨ha, b4, b1, b2, c0, d4, by omega, d2, hlt⟩

theorem refbet_sim (a b c d : Int) (w : World) (v1 : valE a b = 0) (v2 : valE c d = 0) (ha : 0 ≤ a) (hlt : a * d < c * b) :
    Calls Tryd.prog 16 #[rat a b, rat c d] w fun e w' => e = .returned (.tuple #[rat (newN (simF (b + d).toNat a b c d).1 (simF (b + d).toNat a b c d).2) (newD (simF (b + d).toNat a b c d).1 (simF (b + d).toNat a b c d).2), .int .i64 (newE (simF (b + d).toNat a b c d).1 (simF (b + d).toNat a b c d).2)]) ∧ Below w.heap.size w w' := by
  have ok := simOk_of v1 v2 ha hlt
  obtain ⟨b1, b2, -, b4, -⟩ := valE_ok v1
  obtain ⟨d1, d2, -, d4, -⟩ := valE_ok v2
  obtain ⟨l1, l2⟩ := sim_law (b + d).toNat ok (by omega)
  obtain ⟨k1, k2, k3, k4⟩ := sim_bd (b + d).toNat ok (by omega)
  exact refbet_pos a b c d _ _ w v1 v2 ha hlt l1 k2 k1 (by omega) (by omega) l2

set_option maxHeartbeats 2000000 in
set_option maxRecDepth 100000 in
theorem refbet_any (a b c d : Int) (w : World) :
    Calls Tryd.prog 16 #[rat a b, rat c d] w fun e w' => e = .returned (.tuple #[rat (btN a b c d) (btD a b c d), .int .i64 (btE a b c d)]) ∧ Below w.heap.size w w' := by
  have H := Lib.hid (both_any a b c d)
  unfold btN btD btE
  by_cases h : val2 a b c d = 0
  · rw [sel_ok h, sel_ok h, sel_ok h]
    rw [h] at H
    obtain ⟨v1, v2⟩ := val2_ok h
    clear h
    obtain ⟨b1, b2, b3, b4, -⟩ := valE_ok v1
    obtain ⟨d1, d2, d3, d4, -⟩ := valE_ok v2
    have m1 := mul_bd (x := a) (y := d) b3 b4 (by omega) d2
    have m2 := mul_bd (x := c) (y := b) d3 d4 (by omega) b2
    have L := Lib.hid (fun w => less_any a b c d w (by omega) (by omega))
    by_cases hlt : a * d < c * b
    · rw [if_neg (by omega), if_neg (by omega), if_neg (by omega)]
      by_cases ha : 0 ≤ a
      · have e : btP a b c d = simF (b + d).toNat a b c d := by unfold btP; rw [if_neg (by omega)]
        rw [e]
        exact refbet_sim a b c d w v1 v2 ha hlt
      · by_cases hc : 0 < c
        · have e : btP a b c d = (0, 1) := by unfold btP; rw [if_pos (by omega), if_pos hc]
          rw [e]
          obtain ⟨z1, z2, z3⟩ := new_zero (t := 1) (by decide)
          show Calls _ _ _ _ fun e w' => e = .returned (.tuple #[rat (newN 0 1) (newD 0 1), .int .i64 (newE 0 1)]) ∧ _
          rw [z1, z2, z3]
          rw [decide_eq_true hlt] at L
          have s1 : decide (a < 0) = true := by simp; omega
          have s2 : decide (c ≤ 0) = false := by simp; omega
          clear e z1 z2 z3 v1 v2 m1 m2 hlt
          go_enter Tryd.func16, Tryd.ntmps16
          go_wp2_with (first | (go_at_call 17; refine (H.out _).mono ?_; rintro e w1 ⟨rfl, hb1⟩; obtain ⟨hc1, hf1, hz1⟩ := bcell hb1; (try simp at hz1); (try have hw1_0 : w.heap.size < w1.heap.size := by omega); (try have hw1_1 : w.heap.size + 1 < w1.heap.size := by omega); (try have hw1_2 : w.heap.size + 1 + 1 < w1.heap.size := by omega); (try have hw1_3 : w.heap.size + 1 + 1 + 1 < w1.heap.size := by omega); (try have hw1_4 : w.heap.size + 1 + 1 + 1 + 1 < w1.heap.size := by omega); (try have hw1_5 : w.heap.size + 1 + 1 + 1 + 1 + 1 < w1.heap.size := by omega)) | (go_at_call 18; refine (L.out _).mono ?_; rintro e w2 ⟨rfl, hb2⟩; obtain ⟨hc2, hf2, hz2⟩ := bcell hb2; (try simp at hz2); (try have hw2_0 : w.heap.size < w2.heap.size := by omega); (try have hw2_1 : w.heap.size + 1 < w2.heap.size := by omega); (try have hw2_2 : w.heap.size + 1 + 1 < w2.heap.size := by omega); (try have hw2_3 : w.heap.size + 1 + 1 + 1 < w2.heap.size := by omega); (try have hw2_4 : w.heap.size + 1 + 1 + 1 + 1 < w2.heap.size := by omega); (try have hw2_5 : w.heap.size + 1 + 1 + 1 + 1 + 1 < w2.heap.size := by omega); (try have hv2_1_0 : w1.heap.size < w2.heap.size := by omega); (try have hv2_1_1 : w1.heap.size + 1 < w2.heap.size := by omega); (try have hv2_1_2 : w1.heap.size + 1 + 1 < w2.heap.size := by omega)))
          exact bodyPost_ret (v := .tuple #[rat 0 1, .int .i64 0]) (by simp [*, results, Tryd.results16, go_sem]) rfl ⟨rfl, (by repeat (first | exact Below.refl _ _ | assumption | refine Below.setCell ?_ (by (first | omega | (simp <;> omega))) _ | refine below_drewN ?_ _ | refine Below.drew ?_ | refine Below.alloc ?_ (by (first | omega | (simp <;> omega))) _ | (refine after (h1 := by assumption) ?_ ?_; rotate_left; (first | omega | (simp <;> omega)))))⟩
        · have e : btP a b c d = (-(simF (d + b).toNat (-c) d (-a) b).1, (simF (d + b).toNat (-c) d (-a) b).2) := by unfold btP; rw [if_pos (by omega), if_neg hc]
          rw [e]
          clear e
          have R := Lib.hid (fun w => refbet_sim (-c) d (-a) b w (by rw [valE_neg]; exact v2) (by rw [valE_neg]; exact v1) (by omega) (by rw [Int.neg_mul, Int.neg_mul]; omega))
          show Calls _ _ _ _ fun e w' => e = .returned (.tuple #[rat (newN (-(simF (d + b).toNat (-c) d (-a) b).1) (simF (d + b).toNat (-c) d (-a) b).2) (newD (-(simF (d + b).toNat (-c) d (-a) b).1) (simF (d + b).toNat (-c) d (-a) b).2), .int .i64 (newE (-(simF (d + b).toNat (-c) d (-a) b).1) (simF (d + b).toNat (-c) d (-a) b).2)]) ∧ _
          obtain ⟨z1, z2, z3⟩ := new_minus (simF (d + b).toNat (-c) d (-a) b).1 (simF (d + b).toNat (-c) d (-a) b).2
          rw [z1, z2, z3]
          clear z1 z2 z3
          have bN := newN_bd (simF (d + b).toNat (-c) d (-a) b).1 (simF (d + b).toNat (-c) d (-a) b).2
          generalize newE (simF (d + b).toNat (-c) d (-a) b).1 (simF (d + b).toNat (-c) d (-a) b).2 = E at *
          generalize newN (simF (d + b).toNat (-c) d (-a) b).1 (simF (d + b).toNat (-c) d (-a) b).2 = NN at *
          generalize newD (simF (d + b).toNat (-c) d (-a) b).1 (simF (d + b).toNat (-c) d (-a) b).2 = DD at *
          have N1 := Lib.hid (fun w => neg_any c d w (by omega) (by omega))
          have N2 := Lib.hid (fun w => neg_any a b w (by omega) (by omega))
          have N3 := Lib.hid (fun w => neg_any NN DD w (by omega) (by omega))
          rw [decide_eq_true hlt] at L
          have s1 : decide (a < 0) = true := by simp; omega
          have s2 : decide (c ≤ 0) = true := by simp; omega
          clear v1 v2 m1 m2 hlt
          go_enter Tryd.func16, Tryd.ntmps16
          go_upto_region 1 with fail
          have BX : Box (((w.alloc (Obj.cells #[.int .i64 a, .int .i64 b] 24)).alloc (Obj.cells #[.int .i64 c, .int .i64 d] 24)).alloc (Obj.cells #[.int .i64 0, .int .i64 0] 24)) w.heap.size a b := ⟨by simp [go_sem], by simp [go_sem], by simp [go_sem], by simp [go_sem], by simp [go_sem]⟩
          have BY : Box (((w.alloc (Obj.cells #[.int .i64 a, .int .i64 b] 24)).alloc (Obj.cells #[.int .i64 c, .int .i64 d] 24)).alloc (Obj.cells #[.int .i64 0, .int .i64 0] 24)) (w.heap.size + 1) c d := ⟨by simp [go_sem], by simp [go_sem], by simp [go_sem], by simp [go_sem], by simp [go_sem]⟩
          have BR : Box (((w.alloc (Obj.cells #[.int .i64 a, .int .i64 b] 24)).alloc (Obj.cells #[.int .i64 c, .int .i64 d] 24)).alloc (Obj.cells #[.int .i64 0, .int .i64 0] 24)) (w.heap.size + 1 + 1) 0 0 := ⟨by simp [go_sem], by simp [go_sem], by simp [go_sem], by simp [go_sem], by simp [go_sem]⟩
          have HB : Below w.heap.size w (((w.alloc (Obj.cells #[.int .i64 a, .int .i64 b] 24)).alloc (Obj.cells #[.int .i64 c, .int .i64 d] 24)).alloc (Obj.cells #[.int .i64 0, .int .i64 0] 24)) := (by repeat (first | exact Below.refl _ _ | assumption | refine Below.setCell ?_ (by (first | omega | (simp <;> omega))) _ | refine below_drewN ?_ _ | refine Below.drew ?_ | refine Below.alloc ?_ (by (first | omega | (simp <;> omega))) _ | (refine after (h1 := by assumption) ?_ ?_; rotate_left; (first | omega | (simp <;> omega)))))
          generalize (((w.alloc (Obj.cells #[.int .i64 a, .int .i64 b] 24)).alloc (Obj.cells #[.int .i64 c, .int .i64 d] 24)).alloc (Obj.cells #[.int .i64 0, .int .i64 0] 24)) = W0 at *
          obtain ⟨f1, f2, f3, f4, f5⟩ := id BX
          obtain ⟨f6, f7, f8, f9, f10⟩ := id BY
          go_upto_region 2 with (go_at_call 17; refine (H.out _).mono ?_; rintro e W1 ⟨rfl, hb1⟩)
          replace BX := BX.keep hb1
          replace BY := BY.keep hb1
          replace BR := BR.keep hb1
          replace HB := HB.trans (hb1.mono HB.size)
          clear f1 f2 f3 f4 f5 f6 f7 f8 f9 f10 hb1 H
          obtain ⟨f1, f2, f3, f4, f5⟩ := id BX
          obtain ⟨f6, f7, f8, f9, f10⟩ := id BY
          go_upto_region 5 with (go_at_call 18; refine (L.out _).mono ?_; rintro e W2 ⟨rfl, hb1⟩)
          replace BX := BX.keep hb1
          replace BY := BY.keep hb1
          replace BR := BR.keep hb1
          replace HB := HB.trans (hb1.mono HB.size)
          clear f1 f2 f3 f4 f5 f6 f7 f8 f9 f10 hb1 L
          obtain ⟨f1, f2, f3, f4, f5⟩ := id BX
          obtain ⟨f6, f7, f8, f9, f10⟩ := id BY
          go_upto_region 8 with fail
          go_cut [8, 9] (fun u v wx => ∃ g : Nat, u = .pointer (some ⟨g, 0, none⟩) ∧ v = .int .i64 E ∧ Two' wx g NN DD ∧ Below w.heap.size w wx ∧ Box wx (w.heap.size + 1 + 1) 0 0)
          case first =>
            clear N3
            have ea0 : W2.heap.size ≠ w.heap.size := by omega
            have eb0 : W2.heap.size ≠ w.heap.size + 1 := by omega
            go_region_held3 (fun w' => w'.cell? ⟨w.heap.size, 0, none⟩ = some (.int .i64 a) ∧ w'.cell? ⟨w.heap.size, 1, none⟩ = some (.int .i64 b) ∧ w'.cell? ⟨w.heap.size + 1, 0, none⟩ = some (.int .i64 c) ∧ w'.cell? ⟨w.heap.size + 1, 1, none⟩ = some (.int .i64 d)) (first | (refine ⟨?_, ?_, ?_, ?_⟩ <;> (repeat first | assumption | refine keep_cell (by assumption) ?_ | refine keep_alloc ?_ _ | refine keep_drew ?_) <;> done) | go_keep) ((first | (go_at_call_of 40 (Value.agg #[Value.int IntKind.i64 c, Value.int IntKind.i64 d]); (with_reducible refine (N1.out _).mono ?_); rintro e w1 ⟨rfl, hb1⟩; obtain ⟨hc1, hf1, hz1⟩ := bcell hb1; (try simp at hz1); (try have ea1 : w1.heap.size ≠ w.heap.size := by omega); (try have eb1 : w1.heap.size ≠ w.heap.size + 1 := by omega); (try have ec1 : ¬ w1.heap.size = w.heap.size := by omega); (try have ed1 : ¬ w1.heap.size = w.heap.size + 1 := by omega); (try have k1W2 : W2.heap.size < w1.heap.size := by omega)) | (go_at_call_of 40 (Value.agg #[Value.int IntKind.i64 a, Value.int IntKind.i64 b]); (with_reducible refine (N2.out _).mono ?_); rintro e w2 ⟨rfl, hb2⟩; obtain ⟨hc2, hf2, hz2⟩ := bcell hb2; (try simp at hz2); (try have ea2 : w2.heap.size ≠ w.heap.size := by omega); (try have eb2 : w2.heap.size ≠ w.heap.size + 1 := by omega); (try have ec2 : ¬ w2.heap.size = w.heap.size := by omega); (try have ed2 : ¬ w2.heap.size = w.heap.size + 1 := by omega); (try have k2W2 : W2.heap.size < w2.heap.size := by omega); (try have k2w1 : w1.heap.size < w2.heap.size := by omega)) | (go_at_call 16; (with_reducible refine (R.out _).mono ?_); rintro e w3 ⟨rfl, hb3⟩; obtain ⟨hc3, hf3, hz3⟩ := bcell hb3; (try simp at hz3); (try have ea3 : w3.heap.size ≠ w.heap.size := by omega); (try have eb3 : w3.heap.size ≠ w.heap.size + 1 := by omega); (try have ec3 : ¬ w3.heap.size = w.heap.size := by omega); (try have ed3 : ¬ w3.heap.size = w.heap.size + 1 := by omega); (try have k3W2 : W2.heap.size < w3.heap.size := by omega); (try have k3w1 : w1.heap.size < w3.heap.size := by omega); (try have k3w2 : w2.heap.size < w3.heap.size := by omega))))
            all_goals
              go_wp2_with fail
              go_meet
              have K : Below W2.heap.size W2 w3 := (by repeat (first | exact Below.refl _ _ | assumption | refine Below.setCell ?_ (by (first | omega | (simp <;> omega))) _ | refine below_drewN ?_ _ | refine Below.drew ?_ | refine Below.alloc ?_ (by (first | omega | (simp <;> omega))) _ | (refine after (h1 := by assumption) ?_ ?_; rotate_left; (first | omega | (simp <;> omega)))))
              first
                | (have K' := below_alloc K (Nat.le_refl _) (Obj.cells #[.int .i64 NN, .int .i64 DD] 24)
                   exact ⟨_, rfl, rfl, ⟨(box_alloc w3 NN DD 24).1, (box_alloc w3 NN DD 24).2.1⟩, HB.trans (K'.mono HB.size), BR.keep K'⟩)
                | (have K' := late (n := NN) (d := DD) (g := w2.heap.size) K (by omega) (by simp [*, go_sem]; rfl) (by simp [*, go_sem]; rfl)
                   exact ⟨_, rfl, rfl, K'.1, HB.trans (K'.2.mono HB.size), BR.keep K'.2⟩)
                | (have K' := late (n := NN) (d := DD) (g := w1.heap.size) K (by omega) (by simp [*, go_sem]; rfl) (by simp [*, go_sem]; rfl)
                   exact ⟨_, rfl, rfl, K'.1, HB.trans (K'.2.mono HB.size), BR.keep K'.2⟩)
                | (have K' := late (n := NN) (d := DD) (g := W2.heap.size) K (by omega) (by simp [*, go_sem]; rfl) (by simp [*, go_sem]; rfl)
                   exact ⟨_, rfl, rfl, K'.1, HB.trans (K'.2.mono HB.size), BR.keep K'.2⟩)
          case rest =>
            obtain ⟨g, rfl, rfl, ⟨t1, t2⟩, HB', BR'⟩ := hcut
            obtain ⟨wx, rfl⟩ : ∃ z : World, z = wc := ⟨_, rfl⟩
            clear BX BY BR HB f1 f2 f3 f4 f5 f6 f7 f8 f9 f10 N1 N2 R
            go_wp2_with (go_at_call 40; refine (N3.out _).mono ?_; rintro e w4 ⟨rfl, hb4⟩; have R3 := BR'.keep hb4; have HB3 := HB'.trans (hb4.mono HB'.size); obtain ⟨f11, f12, f13, f14, f15⟩ := id R3)
            exact bodyPost_ret (v := .tuple #[rat (-NN) DD, .int .i64 E]) (by simp [*, results, Tryd.results16, go_sem]) rfl ⟨rfl, (by repeat (first | exact Below.refl _ _ | assumption | refine Below.setCell ?_ (by (first | omega | (simp <;> omega))) _ | refine below_drewN ?_ _ | refine Below.drew ?_ | refine Below.alloc ?_ (by (first | omega | (simp <;> omega))) _ | (refine after (h1 := by assumption) ?_ ?_; rotate_left; (first | omega | (simp <;> omega)))))⟩
    · rw [if_pos (by omega), if_pos (by omega), if_pos (by omega)]
      rw [decide_eq_false hlt] at L
      clear v1 v2 m1 m2 hlt
      go_enter Tryd.func16, Tryd.ntmps16
      go_wp2_with (first | (go_at_call 17; refine (H.out _).mono ?_; rintro e w1 ⟨rfl, hb1⟩; obtain ⟨hc1, hf1, hz1⟩ := bcell hb1; (try simp at hz1); (try have hw1_0 : w.heap.size < w1.heap.size := by omega); (try have hw1_1 : w.heap.size + 1 < w1.heap.size := by omega); (try have hw1_2 : w.heap.size + 1 + 1 < w1.heap.size := by omega); (try have hw1_3 : w.heap.size + 1 + 1 + 1 < w1.heap.size := by omega); (try have hw1_4 : w.heap.size + 1 + 1 + 1 + 1 < w1.heap.size := by omega); (try have hw1_5 : w.heap.size + 1 + 1 + 1 + 1 + 1 < w1.heap.size := by omega)) | (go_at_call 18; refine (L.out _).mono ?_; rintro e w2 ⟨rfl, hb2⟩; obtain ⟨hc2, hf2, hz2⟩ := bcell hb2; (try simp at hz2); (try have hw2_0 : w.heap.size < w2.heap.size := by omega); (try have hw2_1 : w.heap.size + 1 < w2.heap.size := by omega); (try have hw2_2 : w.heap.size + 1 + 1 < w2.heap.size := by omega); (try have hw2_3 : w.heap.size + 1 + 1 + 1 < w2.heap.size := by omega); (try have hw2_4 : w.heap.size + 1 + 1 + 1 + 1 < w2.heap.size := by omega); (try have hw2_5 : w.heap.size + 1 + 1 + 1 + 1 + 1 < w2.heap.size := by omega); (try have hv2_1_0 : w1.heap.size < w2.heap.size := by omega); (try have hv2_1_1 : w1.heap.size + 1 < w2.heap.size := by omega); (try have hv2_1_2 : w1.heap.size + 1 + 1 < w2.heap.size := by omega)))
      exact bodyPost_ret (v := .tuple #[rat 0 0, .int .i64 13]) (by simp [*, results, Tryd.results16, go_sem]) rfl ⟨rfl, (by repeat (first | exact Below.refl _ _ | assumption | refine Below.setCell ?_ (by (first | omega | (simp <;> omega))) _ | refine below_drewN ?_ _ | refine Below.drew ?_ | refine Below.alloc ?_ (by (first | omega | (simp <;> omega))) _ | (refine after (h1 := by assumption) ?_ ?_; rotate_left; (first | omega | (simp <;> omega)))))⟩
  · rw [sel_no h, sel_no h, sel_no h]
    rw [val2_bad h] at H
    clear h
    go_enter Tryd.func16, Tryd.ntmps16
    go_wp2_with (go_at_call 17; refine (H.out _).mono ?_; rintro e w1 ⟨rfl, hb1⟩; obtain ⟨hc1, hf1, hz1⟩ := bcell hb1; (try simp at hz1); (try have hw1_0 : w.heap.size < w1.heap.size := by omega); (try have hw1_1 : w.heap.size + 1 < w1.heap.size := by omega); (try have hw1_2 : w.heap.size + 1 + 1 < w1.heap.size := by omega); (try have hw1_3 : w.heap.size + 1 + 1 + 1 < w1.heap.size := by omega); (try have hw1_4 : w.heap.size + 1 + 1 + 1 + 1 < w1.heap.size := by omega); (try have hw1_5 : w.heap.size + 1 + 1 + 1 + 1 + 1 < w1.heap.size := by omega))
    exact bodyPost_ret (v := .tuple #[rat 0 0, .int .i64 1]) (by simp [*, results, Tryd.results16, go_sem]) rfl ⟨rfl, (by repeat (first | exact Below.refl _ _ | assumption | refine Below.setCell ?_ (by (first | omega | (simp <;> omega))) _ | refine below_drewN ?_ _ | refine Below.drew ?_ | refine Below.alloc ?_ (by (first | omega | (simp <;> omega))) _ | (refine after (h1 := by assumption) ?_ ?_; rotate_left; (first | omega | (simp <;> omega)))))⟩
end Go.Proofs.YtjcdjmjebbllkaaDoor
