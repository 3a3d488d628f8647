/- What the references' common, Around, Bound, Of and New return. -/
import Derived.Test.YtjcdjmjebbllkaaDoorNew
namespace Go.Proofs.YtjcdjmjebbllkaaDoor
open Go.RowKit

theorem gcd_tmod (p q : Int) : Int.gcd q (p.tmod q) = Int.gcd p q := by
  unfold Int.gcd
  rw [Int.natAbs_tmod, Nat.gcd_comm p.natAbs, Nat.gcd_comm q.natAbs, ← Nat.gcd_rec]
theorem tmod_lt (p q : Int) (h : q ≠ 0) : (p.tmod q).natAbs < q.natAbs := by
  rw [Int.natAbs_tmod]; exact Nat.mod_lt _ (by omega)

set_option maxHeartbeats 400000 in
theorem common_any (a b : Int) (w : World) (ha0 : -9223372036854775807 ≤ a) (ha : a ≤ 9223372036854775807) (hb0 : -9223372036854775807 ≤ b) (hb : b ≤ 9223372036854775807) :
    Calls Tryd.prog 58 #[.int .i64 a, .int .i64 b] w fun e w' => e = .returned (.int .i64 (Int.gcd a b : Int)) ∧ ∃ n, w' = w.drewN n := by
  go_enter Tryd.func58, Tryd.ntmps58
  go_wp2
  go_loopw [0, 1] (fun x y wr => ∃ p q : Int, (-9223372036854775807 ≤ p ∧ p ≤ 9223372036854775807) ∧ (-9223372036854775807 ≤ q ∧ q ≤ 9223372036854775807) ∧ Int.gcd p q = Int.gcd a b ∧ x = .int .i64 p ∧ y = .int .i64 q ∧ ∃ n, wr = w.drewN n) (fun _ y _ => (intOf y).natAbs)
  case atStart => exact ⟨a, b, ⟨ha0, ha⟩, ⟨hb0, hb⟩, rfl, rfl, rfl, 0, rfl⟩
  case round =>
    obtain ⟨p, q, ⟨hp0, hp⟩, ⟨hq0, hq⟩, hg, rfl, rfl, n, rfl⟩ := hrel
    have HG := Lib.hid hg
    clear hg
    by_cases hlt : q = 0
    · subst hlt
      by_cases h0 : p < 0
      · go_wp2
        go_ret
        exact ⟨ret_int (a := -p) (by rw [← HG.out]; simp; omega), n, rfl⟩
      · go_wp2
        go_ret
        exact ⟨ret_int (a := p) (by rw [← HG.out]; simp; omega), n, rfl⟩
    · have hm := tmod_lt p q hlt
      have hq1 : (q != 0) = true := by simp [hlt]
      have hq2 : (q == 0) = false := by simp [hlt]
      have hm2 : -9223372036854775807 ≤ p.tmod q ∧ p.tmod q ≤ 9223372036854775807 := by
        generalize p.tmod q = r at *
        omega
      have hm3 : (p.tmod q).natAbs < q.natAbs ∧ True := ⟨hm, trivial⟩
      clear hm
      have hw1 : IntKind.i64.wrap (p.tmod q) = p.tmod q := IntWalk.i64_in _ (by omega)
      go_wp2
      go_quiet (fail)
      go_wp2
      go_roundw
      case rel => exact ⟨q, p.tmod q, ⟨hq0, hq⟩, by omega, by rw [gcd_tmod, HG.out], rfl, rfl, _, World.drewN_drewN _ _ _⟩
      case measure => exact hm3.1

set_option maxHeartbeats 400000 in
theorem around_any (n m : Int) (w : World) (hn0 : -9223372036854775808 ≤ n) (hn : n ≤ 9223372036854775807) (hm0 : 1 ≤ m) (hm : m ≤ 9223372036854775807) :
    Calls Tryd.prog 9 #[.int .i64 n, .int .i64 m] w fun e w' => e = .returned (.int .i64 (arN n m)) ∧ w = w' := by
  by_cases h : n < 0
  · have e : arN n m = -(n + 1) % m := by unfold arN; rw [if_pos h]
    rw [e]
    clear e
    go_enter Tryd.func9, Tryd.ntmps9
    go_wp2
    go_ret
    exact ⟨ret_int (a := -(n + 1).tmod m) (by rw [← Int.neg_tmod, Int.tmod_eq_emod_of_nonneg (by omega)]), rfl⟩
  · have e : arN n m = n % m := by unfold arN; rw [if_neg h]
    rw [e]
    clear e
    go_enter Tryd.func9, Tryd.ntmps9
    go_wp2
    go_ret
    exact ⟨rfl, rfl⟩

set_option maxHeartbeats 400000 in
theorem bound_any (n m : Int) (w : World) (hn0 : -9223372036854775808 ≤ n) (hn : n ≤ 9223372036854775807) (hm0 : 0 ≤ m) (hm : m ≤ 4611686018427387000) :
    Calls Tryd.prog 26 #[.int .i64 n, .int .i64 m] w fun e w' => e = .returned (.int .i64 (arN n (2 * m + 1) - m)) ∧ w = w' := by
  have h1 := arN_nonneg n (2 * m + 1) (by omega)
  have h2 := arN_lt n (2 * m + 1) (by omega)
  go_enter Tryd.func26, Tryd.ntmps26
  go_wp2_with (go_at_call 9; refine (around_any n (2 * m + 1) _ hn0 hn (by omega) (by omega)).mono ?_; rintro e w' ⟨rfl, rfl⟩)
  go_ret
  exact ⟨rfl, rfl⟩
end Go.Proofs.YtjcdjmjebbllkaaDoor
