/- What the reference's Between returns for a first ratio from 0 on. -/
import Derived.Test.YtjcdjmjebbllkaaDoorBetR
import Derived.Test.YtjcdjmjebbllkaaDoorCmp
namespace Go.Proofs.YtjcdjmjebbllkaaDoor
open Go.RowKit
attribute [local go_sem] le_add_one'
attribute [local go_sem ↓] Go.wp_at_zero Go.wp_at_succ

set_option maxHeartbeats 2000000 in
set_option maxRecDepth 100000 in
theorem refbet_pos (a b c d N D : Int) (w : World) (v1 : valE a b = 0) (v2 : valE c d = 0) (ha : 0 ≤ a) (hlt : a * d < c * b)
    (hB : Btw a b c d N D) (hD : 1 ≤ D) (hN : 1 ≤ N) (hN' : N ≤ 4398046511104) (hD' : D ≤ 4194304) (hmin : ∀ n e : Int, 1 ≤ e → Btw a b c d n e → N ≤ n ∧ D ≤ e) :
    Calls Tryd.prog 16 #[rat a b, rat c d] w fun e w' => e = .returned (.tuple #[rat (newN N D) (newD N D), .int .i64 (newE N D)]) ∧ Below w.heap.size w w' := by
  obtain ⟨b1, b2, -, b4, -⟩ := valE_ok v1
  obtain ⟨d1, d2, -, d4, -⟩ := valE_ok v2
  have hg := btw_gcd hD hB hmin
  have H := Lib.hid (both_any a b c d)
  rw [val2_yes v1 v2] at H
  have c0 : 0 ≤ c := by
    rcases Int.lt_or_le c 0 with z | z
    · have e1 : 0 ≤ a * d := Int.mul_nonneg ha (by omega)
      have e2 : c * b < 0 := Int.mul_neg_of_neg_of_pos z (by omega)
      omega
    · exact z
  have m1 : a * d ≤ 1099511627776 * 1048576 := Int.mul_le_mul (by omega) d2 (by omega) (by omega)
  have m2 : c * b ≤ 1099511627776 * 1048576 := Int.mul_le_mul (by omega) b2 (by omega) (by omega)
  have m3 : 0 ≤ a * d := Int.mul_nonneg ha (by omega)
  have L := Lib.hid (fun w => less_any a b c d w (by omega) (by omega))
  rw [decide_eq_true hlt] at L
  have O := Lib.hid (fun w => of_any N D w (by omega) (by omega) (by omega) (by omega) (by omega))
  have E5 : Hid (1048576 < D → newE N D = 5 ∧ newN N D = 0 ∧ newD N D = 0) := Lib.hid (fun h => by
    obtain ⟨q1, q2, q3⟩ := new_bu N D (by omega)
    obtain ⟨r1, r2, r3⟩ := bu_cop (N := N.natAbs) (K := D.natAbs) hg (.inr (by omega))
    rw [q1, q2, q3]; exact ⟨r1, r2 _, r3⟩)
  have TY := Lib.hid (try_yes b1 (show 0 ≤ d by omega) hD hB hmin)
  have TN := Lib.hid (fun (e : Int) (h : 1 ≤ e) (h' : e < D) => try_no b1 h h' hmin)
  have RL := Lib.hid (fun (e : Int) (h : 1 ≤ e) (h' : e ≤ 1048576) => round_law (T := tryN a b e) ha b4 b1 b2 c0 d4 d1 d2 h h' rfl)
  clear hB hmin hg v1 v2 m1 m2 m3 hlt
  generalize newE N D = E at *
  generalize newN N D = NN at *
  generalize newD N D = DD at *
  have s1 : decide (a < 0) = false := by simpa using ha
  go_enter Tryd.func16, Tryd.ntmps16
  go_upto_region 1 with fail
  have BX : Box (((w.alloc (Obj.cells #[.int .i64 a, .int .i64 b] 24)).alloc (Obj.cells #[.int .i64 c, .int .i64 d] 24)).alloc (Obj.cells #[.int .i64 0, .int .i64 0] 24)) w.heap.size a b := ⟨by simp [go_sem], by simp [go_sem], by simp [go_sem], by simp [go_sem], by simp [go_sem]⟩
  have BY : Box (((w.alloc (Obj.cells #[.int .i64 a, .int .i64 b] 24)).alloc (Obj.cells #[.int .i64 c, .int .i64 d] 24)).alloc (Obj.cells #[.int .i64 0, .int .i64 0] 24)) (w.heap.size + 1) c d := ⟨by simp [go_sem], by simp [go_sem], by simp [go_sem], by simp [go_sem], by simp [go_sem]⟩
  have BR : Box (((w.alloc (Obj.cells #[.int .i64 a, .int .i64 b] 24)).alloc (Obj.cells #[.int .i64 c, .int .i64 d] 24)).alloc (Obj.cells #[.int .i64 0, .int .i64 0] 24)) (w.heap.size + 1 + 1) 0 0 := ⟨by simp [go_sem], by simp [go_sem], by simp [go_sem], by simp [go_sem], by simp [go_sem]⟩
  have HB : Below w.heap.size w (((w.alloc (Obj.cells #[.int .i64 a, .int .i64 b] 24)).alloc (Obj.cells #[.int .i64 c, .int .i64 d] 24)).alloc (Obj.cells #[.int .i64 0, .int .i64 0] 24)) := (by repeat (first | exact Below.refl _ _ | assumption | refine Below.setCell ?_ (by (first | omega | (simp <;> omega))) _ | refine below_drewN ?_ _ | refine Below.drew ?_ | refine Below.alloc ?_ (by (first | omega | (simp <;> omega))) _ | (refine after (h1 := by assumption) ?_ ?_; rotate_left; (first | omega | (simp <;> omega)))))
  generalize (((w.alloc (Obj.cells #[.int .i64 a, .int .i64 b] 24)).alloc (Obj.cells #[.int .i64 c, .int .i64 d] 24)).alloc (Obj.cells #[.int .i64 0, .int .i64 0] 24)) = W0 at *
  obtain ⟨f1, f2, f3, f4, f5⟩ := id BX
  obtain ⟨f6, f7, f8, f9, f10⟩ := id BY
  go_upto_region 2 with (go_at_call 17; refine (H.out _).mono ?_; rintro e W1 ⟨rfl, hb1⟩)
  replace BX := BX.keep hb1
  replace BY := BY.keep hb1
  replace BR := BR.keep hb1
  replace HB := HB.trans (hb1.mono HB.size)
  clear f1 f2 f3 f4 f5 f6 f7 f8 f9 f10 hb1 H
  obtain ⟨f1, f2, f3, f4, f5⟩ := id BX
  obtain ⟨f6, f7, f8, f9, f10⟩ := id BY
  go_upto_region 5 with (go_at_call 18; refine (L.out _).mono ?_; rintro e W2 ⟨rfl, hb1⟩)
  replace BX := BX.keep hb1
  replace BY := BY.keep hb1
  replace BR := BR.keep hb1
  replace HB := HB.trans (hb1.mono HB.size)
  clear f1 f2 f3 f4 f5 f6 f7 f8 f9 f10 hb1 L
  obtain ⟨f1, f2, f3, f4, f5⟩ := id BX
  obtain ⟨f6, f7, f8, f9, f10⟩ := id BY
  go_upto_region 13 with fail
  go_loopw [10] (fun x wr => ∃ e : Int, 1 ≤ e ∧ e ≤ D ∧ e ≤ 1048577 ∧ x = .int .i64 e ∧ Below w.heap.size w wr ∧ Box wr w.heap.size a b ∧ Box wr (w.heap.size + 1) c d ∧ Box wr (w.heap.size + 1 + 1) 0 0) (fun x _ => 1048577 - (intOf x).toNat)
  case atStart => exact ⟨1, by omega, hD, by omega, rfl, HB, BX, BY, BR⟩
  case round =>
    clear BX BY BR HB f1 f2 f3 f4 f5 f6 f7 f8 f9 f10
    obtain ⟨e, he, heD, he', rfl, HB, BX, BY, BR⟩ := hrel
    obtain ⟨f1, f2, f3, f4, f5⟩ := id BX
    obtain ⟨f6, f7, f8, f9, f10⟩ := id BY
    by_cases hl : e ≤ 1048576
    · obtain ⟨A1, A2, A3, A4, A5, B1, B2, B3, B4, B5, B6, ⟨q1, q1', q2, q3, q3', q4, q5, q5', q6⟩, ⟨q7, q7', q8, q8', q9, q9', q10, q11, q11', q12⟩, ⟨i1, i2, i3, i4, i5, i6, i7, i8, i9, i10, i11, i12⟩, hiff⟩ := RL.out e he hl
      have w1 : IntKind.i64.wrap A1 = A1 := IntWalk.i64_in _ (by omega)
      have w2 : IntKind.i64.wrap A2 = A2 := IntWalk.i64_in _ (by omega)
      have w3 : IntKind.i64.wrap A3 = A3 := IntWalk.i64_in _ (by omega)
      have w4 : IntKind.i64.wrap A4 = A4 := IntWalk.i64_in _ (by omega)
      have w5 : IntKind.i64.wrap A5 = A5 := IntWalk.i64_in _ (by omega)
      have w6 : IntKind.i64.wrap (A2 + A5) = A2 + A5 := IntWalk.i64_in _ (by omega)
      have w7 : IntKind.i64.wrap (tryN a b e) = tryN a b e := IntWalk.i64_in _ (by omega)
      have w8 : IntKind.i64.wrap B1 = B1 := IntWalk.i64_in _ (by omega)
      have w9 : IntKind.i64.wrap B2 = B2 := IntWalk.i64_in _ (by omega)
      have w10 : IntKind.i64.wrap B3 = B3 := IntWalk.i64_in _ (by omega)
      have w11 : IntKind.i64.wrap B4 = B4 := IntWalk.i64_in _ (by omega)
      have w12 : IntKind.i64.wrap B5 = B5 := IntWalk.i64_in _ (by omega)
      have w13 : IntKind.i64.wrap B6 = B6 := IntWalk.i64_in _ (by omega)
      have ne1 : ¬ b = 0 := by omega
      have ne2 : ¬ d = 0 := by omega
      have ne3 : ¬ e = 0 := by omega
      have hI := Lib.hid hiff
      clear hiff i1 i2 i3 i4 i5 i6 i7 i8 i9 i10 i11 i12
      go_upto_region 15 with fail
      go_quiet (fail)
      go_upto_region 16 with fail
      rcases Int.lt_or_eq_of_le heD with hlt | heq
      · have no := TN.out e he hlt
        have nn : ¬ (B1 < B2 ∨ B1 = B2 ∧ B4 < B6) := fun t => by
          have h := hI.out.1 t
          first | exact no h | exact absurd h (Int.not_lt.2 no)
        have g1 : decide (B1 < B2) = false := decide_eq_false (fun t => nn (.inl t))
        by_cases x : B1 = B2
        · have g2 : (B1 == B2) = true := by simpa using x
          have g3 : decide (B4 < B6) = false := decide_eq_false (fun t => nn (.inr ⟨x, t⟩))
          clear x nn no hI q1 q1' q2 q3 q3' q4 q5 q5' q6 w1 w2 w3 w4 w5 w6 TY TN RL E5 O
          go_quiet (fail)
          go_wp2_with fail
          refine ⟨⟨e + 1, by omega, by omega, by omega, by simp, below_drewN HB _, BX, BY, BR⟩, ?_⟩
          simp [intOf]
          try omega
        · have g2 : (B1 == B2) = false := by simpa using x
          clear x nn no hI q1 q1' q2 q3 q3' q4 q5 q5' q6 w1 w2 w3 w4 w5 w6 TY TN RL E5 O
          go_quiet (fail)
          go_wp2_with fail
          refine ⟨⟨e + 1, by omega, by omega, by omega, by simp, below_drewN HB _, BX, BY, BR⟩, ?_⟩
          simp [intOf]
          try omega
      · subst heq
        obtain ⟨t1, t2⟩ := TY.out
        have yy := hI.out.2 t2
        rw [← t1] at O
        clear t1 t2 hI TY TN RL E5
        rcases yy with y | ⟨y1, y2⟩
        · have g1 : decide (B1 < B2) = true := decide_eq_true y
          clear y
          go_quiet (fail)
          go_wp2_with (go_at_call 43; refine (O.out _).mono ?_; rintro e3 w3 ⟨rfl, hb3⟩; replace hb3 := undrewN hb3; have R3 := BR.keep hb3; have HB3 := HB.trans (hb3.mono HB.size); obtain ⟨f11, f12, f13, f14, f15⟩ := id R3)
          exact bodyPost_ret (v := .tuple #[rat NN DD, .int .i64 E]) (by simp [*, results, Tryd.results16, go_sem]) rfl ⟨rfl, (by repeat (first | exact Below.refl _ _ | assumption | refine Below.setCell ?_ (by (first | omega | (simp <;> omega))) _ | refine below_drewN ?_ _ | refine Below.drew ?_ | refine Below.alloc ?_ (by (first | omega | (simp <;> omega))) _ | (refine after (h1 := by assumption) ?_ ?_; rotate_left; (first | omega | (simp <;> omega)))))⟩
        · have g1 : decide (B1 < B2) = false := decide_eq_false (by omega)
          have g2 : (B1 == B2) = true := by simpa using y1
          have g3 : decide (B4 < B6) = true := decide_eq_true y2
          clear y1 y2
          go_quiet (fail)
          go_wp2_with (go_at_call 43; refine (O.out _).mono ?_; rintro e3 w3 ⟨rfl, hb3⟩; replace hb3 := undrewN hb3; have R3 := BR.keep hb3; have HB3 := HB.trans (hb3.mono HB.size); obtain ⟨f11, f12, f13, f14, f15⟩ := id R3)
          exact bodyPost_ret (v := .tuple #[rat NN DD, .int .i64 E]) (by simp [*, results, Tryd.results16, go_sem]) rfl ⟨rfl, (by repeat (first | exact Below.refl _ _ | assumption | refine Below.setCell ?_ (by (first | omega | (simp <;> omega))) _ | refine below_drewN ?_ _ | refine Below.drew ?_ | refine Below.alloc ?_ (by (first | omega | (simp <;> omega))) _ | (refine after (h1 := by assumption) ?_ ?_; rotate_left; (first | omega | (simp <;> omega)))))⟩
    · obtain rfl : e = 1048577 := by omega
      obtain ⟨rfl, rfl, rfl⟩ := E5.out (by omega)
      clear O TY TN RL E5
      obtain ⟨f11, f12, f13, f14, f15⟩ := id BR
      go_wp2_with fail
      exact bodyPost_ret (v := .tuple #[rat 0 0, .int .i64 5]) (by simp [*, results, Tryd.results16, go_sem]) rfl ⟨rfl, (by repeat (first | exact Below.refl _ _ | assumption | refine Below.setCell ?_ (by (first | omega | (simp <;> omega))) _ | refine below_drewN ?_ _ | refine Below.drew ?_ | refine Below.alloc ?_ (by (first | omega | (simp <;> omega))) _ | (refine after (h1 := by assumption) ?_ ?_; rotate_left; (first | omega | (simp <;> omega)))))⟩
end Go.Proofs.YtjcdjmjebbllkaaDoor
