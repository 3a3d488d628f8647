/- What New, Valid and their references return, whatever the arguments. -/
import Derived.Test.YtjcdjmjebbllkaaDoorGcd
import Derived.Test.YtjcdjmjebbllkaaDoorMath
import Derived.Deep.RegionWith
import Derived.Deep.RegionHeld3
namespace Go.Proofs.YtjcdjmjebbllkaaDoor
open Go.RowKit

theorem below_drewN {B : Nat} {a w : World} (h : Below B a w) (n : Nat) : Below B a (w.drewN n) := ⟨h.os, h.tape, h.output, h.size, h.block⟩

theorem bcell {W w1 : World} (hb : Below W.heap.size W w1) : (∀ b o, b < W.heap.size → w1.cell? ⟨b, o, none⟩ = W.cell? ⟨b, o, none⟩) ∧ (∀ b o, b < W.heap.size → w1.frozen? ⟨b, o, none⟩ = W.frozen? ⟨b, o, none⟩) ∧ W.heap.size ≤ w1.heap.size :=
  ⟨fun b o h => hb.cell (p := ⟨b, o, none⟩) h, fun b o h => hb.frozen (p := ⟨b, o, none⟩) h, hb.size⟩
theorem le_add_one' {a b : Nat} (h : a ≤ b) : (a ≤ b + 1) = True := by simp; omega
@[simp] theorem World.heap_size_setCell' (w : World) (p : Addr) (u : Value) : (w.setCell p u).heap.size = w.heap.size := by simp [World.setCell]

theorem after {B : Nat} {w W w1 : World} (h : Below B w W) (hB : B ≤ W.heap.size) (h1 : Below W.heap.size W w1) : Below B w w1 := h.trans (h1.mono hB)

/-- The values of a ratio and of a pair of a ratio and an error. -/
abbrev rat (n d : Int) : Value := .agg #[.int .i64 n, .int .i64 d]
theorem ret_rate {a b c a' b' c' : Int} (h : a = a') (h' : b = b') (h'' : c = c') : Ending.returned (.tuple #[rat a b, .int .i64 c]) = .returned (.tuple #[rat a' b', .int .i64 c']) := by rw [h, h', h'']

/-- build at a sign and two sizes: their quotient in lowest terms. -/
def buE (n d : Nat) : Int := if 1099511627776 < n / Nat.gcd n d ∨ 1048576 < d / Nat.gcd n d then 5 else 0
def buN (b : Bool) (n d : Nat) : Int := if buE n d = 0 then (if b then -((n / Nat.gcd n d : Nat) : Int) else ((n / Nat.gcd n d : Nat) : Int)) else 0
def buD (n d : Nat) : Int := if buE n d = 0 then ((d / Nat.gcd n d : Nat) : Int) else 0
theorem bu_no {n d : Nat} (h : 1099511627776 < n / Nat.gcd n d ∨ 1048576 < d / Nat.gcd n d) : buE n d = 5 ∧ (∀ b, buN b n d = 0) ∧ buD n d = 0 := by
  have e : buE n d = 5 := by unfold buE; rw [if_pos h]
  exact ⟨e, fun b => by unfold buN; rw [e]; rfl, by unfold buD; rw [e]; rfl⟩
theorem bu_yes {n d : Nat} (h : n / Nat.gcd n d ≤ 1099511627776) (h' : d / Nat.gcd n d ≤ 1048576) : buE n d = 0 ∧ buN true n d = -((n / Nat.gcd n d : Nat) : Int) ∧ buN false n d = ((n / Nat.gcd n d : Nat) : Int) ∧ buD n d = ((d / Nat.gcd n d : Nat) : Int) := by
  have e : buE n d = 0 := by unfold buE; rw [if_neg (by omega)]
  exact ⟨e, by unfold buN; rw [e]; rfl, by unfold buN; rw [e]; rfl, by unfold buD; rw [e]; rfl⟩

set_option maxHeartbeats 400000 in
theorem build_any (b : Bool) (n d : Nat) (w : World) (hn : n < 18446744073709551616) (hd : d < 18446744073709551616) (hd0 : 0 < d) :
    Calls Tryd.prog 41 #[.bool b, .int .u64 (n : Int), .int .u64 (d : Int)] w fun e w' => e = .returned (.tuple #[rat (buN b n d) (buD n d), .int .i64 (buE n d)]) ∧ Below w.heap.size w w' := by
  have hg : 0 < Nat.gcd n d := Nat.gcd_pos_of_pos_right _ hd0
  have H1 := Lib.hid (@bu_no n d)
  have H2 := Lib.hid (@bu_yes n d)
  generalize hgg : Nat.gcd n d = g at *
  have HG := Lib.hid hgg
  clear hgg
  have hng : 0 ≤ (n : Int) / (g : Int) ∧ (n : Int) / (g : Int) ≤ n := ⟨Int.ediv_nonneg (by omega) (by omega), Int.ediv_le_self _ (by omega)⟩
  have hdg : 0 ≤ (d : Int) / (g : Int) ∧ (d : Int) / (g : Int) ≤ d := ⟨Int.ediv_nonneg (by omega) (by omega), Int.ediv_le_self _ (by omega)⟩
  have K1 : Hid (((n / g : Nat) : Int) = (n : Int) / (g : Int)) := by exact Int.natCast_ediv n g
  have K2 : Hid (((d / g : Nat) : Int) = (d : Int) / (g : Int)) := by exact Int.natCast_ediv d g
  by_cases h1 : (1099511627776 : Int) < n / g
  · go_enter Tryd.func41, Tryd.ntmps41
    go_wp2_with (go_at_call 61; refine (gcd_any n d _ hn hd).mono ?_; rintro e w' ⟨rfl, q, rfl⟩; rw [HG.out])
    go_quiet (fail)
    go_wp2
    obtain ⟨e1, e2, e3⟩ := H1.out (by have := K1.out; omega)
    exact bodyPost_ret (v := .tuple #[rat 0 0, .int .i64 5]) (by simp [results, Tryd.results41, go_sem]) rfl ⟨ret_rate (e2 b).symm e3.symm e1.symm, (by repeat (first | exact Below.refl _ _ | assumption | refine Below.setCell ?_ (by (first | omega | (simp <;> omega))) _ | refine below_drewN ?_ _ | refine Below.drew ?_ | refine Below.alloc ?_ (by (first | omega | (simp <;> omega))) _ | (refine after (h1 := by assumption) ?_ ?_; rotate_left; (first | omega | (simp <;> omega)))))⟩
  by_cases h2 : (1048576 : Int) < d / g
  · go_enter Tryd.func41, Tryd.ntmps41
    go_wp2_with (go_at_call 61; refine (gcd_any n d _ hn hd).mono ?_; rintro e w' ⟨rfl, q, rfl⟩; rw [HG.out])
    go_quiet (fail)
    go_wp2
    obtain ⟨e1, e2, e3⟩ := H1.out (by have := K2.out; omega)
    exact bodyPost_ret (v := .tuple #[rat 0 0, .int .i64 5]) (by simp [results, Tryd.results41, go_sem]) rfl ⟨ret_rate (e2 b).symm e3.symm e1.symm, (by repeat (first | exact Below.refl _ _ | assumption | refine Below.setCell ?_ (by (first | omega | (simp <;> omega))) _ | refine below_drewN ?_ _ | refine Below.drew ?_ | refine Below.alloc ?_ (by (first | omega | (simp <;> omega))) _ | (refine after (h1 := by assumption) ?_ ?_; rotate_left; (first | omega | (simp <;> omega)))))⟩
  · cases b
    · go_enter Tryd.func41, Tryd.ntmps41
      go_wp2_with (go_at_call 61; refine (gcd_any n d _ hn hd).mono ?_; rintro e w' ⟨rfl, q, rfl⟩; rw [HG.out])
      go_quiet (fail)
      go_wp2
      obtain ⟨e1, e2, e3, e4⟩ := H2.out (by have := K1.out; omega) (by have := K2.out; omega)
      exact bodyPost_ret (v := .tuple #[rat (n / g) (d / g), .int .i64 0]) (by simp [results, Tryd.results41, go_sem]) rfl ⟨ret_rate (K1.out.symm.trans e3.symm) (K2.out.symm.trans e4.symm) e1.symm, (by repeat (first | exact Below.refl _ _ | assumption | refine Below.setCell ?_ (by (first | omega | (simp <;> omega))) _ | refine below_drewN ?_ _ | refine Below.drew ?_ | refine Below.alloc ?_ (by (first | omega | (simp <;> omega))) _ | (refine after (h1 := by assumption) ?_ ?_; rotate_left; (first | omega | (simp <;> omega)))))⟩
    · go_enter Tryd.func41, Tryd.ntmps41
      go_wp2_with (go_at_call 61; refine (gcd_any n d _ hn hd).mono ?_; rintro e w' ⟨rfl, q, rfl⟩; rw [HG.out])
      go_quiet (fail)
      go_wp2
      obtain ⟨e1, e2, e3, e4⟩ := H2.out (by have := K1.out; omega) (by have := K2.out; omega)
      exact bodyPost_ret (v := .tuple #[rat (-(n / g)) (d / g), .int .i64 0]) (by simp [results, Tryd.results41, go_sem]) rfl ⟨ret_rate (by rw [e2, K1.out]) (K2.out.symm.trans e4.symm) e1.symm, (by repeat (first | exact Below.refl _ _ | assumption | refine Below.setCell ?_ (by (first | omega | (simp <;> omega))) _ | refine below_drewN ?_ _ | refine Below.drew ?_ | refine Below.alloc ?_ (by (first | omega | (simp <;> omega))) _ | (refine after (h1 := by assumption) ?_ ?_; rotate_left; (first | omega | (simp <;> omega)))))⟩

theorem new_bu (a b : Int) (h : b ≠ 0) : newE a b = buE a.natAbs b.natAbs ∧ newN a b = buN (decide (a < 0) != decide (b < 0)) a.natAbs b.natAbs ∧ newD a b = buD a.natAbs b.natAbs := by
  have e : newE a b = buE a.natAbs b.natAbs := by
    unfold newE buE
    rw [if_neg h]; rfl
  refine ⟨e, ?_, ?_⟩
  · unfold newN buN
    rw [e]
    show (if buE a.natAbs b.natAbs = 0 then (if a < 0 ↔ b < 0 then ((a.natAbs / Nat.gcd a.natAbs b.natAbs : Nat) : Int) else -((a.natAbs / Nat.gcd a.natAbs b.natAbs : Nat) : Int)) else 0) = _
    by_cases h1 : a < 0 <;> by_cases h2 : b < 0 <;> simp [h1, h2]
  · unfold newD buD
    rw [e]; rfl

set_option maxHeartbeats 400000 in
theorem new_any (a b : Int) (w : World) (ha0 : -9223372036854775808 ≤ a) (ha : a ≤ 9223372036854775807) (hb0 : -9223372036854775808 ≤ b) (hb : b ≤ 9223372036854775807) :
    Calls Tryd.prog 10 #[.int .i64 a, .int .i64 b] w fun e w' => e = .returned (.tuple #[rat (newN a b) (newD a b), .int .i64 (newE a b)]) ∧ Below w.heap.size w w' := by
  by_cases h0 : b = 0
  · have e1 : newE a b = 1 := by unfold newE; rw [if_pos h0]
    have e2 : newN a b = 0 := by unfold newN; rw [e1]; rfl
    have e3 : newD a b = 0 := by unfold newD; rw [e1]; rfl
    rw [e1, e2, e3]
    subst h0
    clear e1 e2 e3
    go_enter Tryd.func10, Tryd.ntmps10
    go_wp2
    exact bodyPost_ret (v := .tuple #[rat 0 0, .int .i64 1]) (by simp [results, Tryd.results10, go_sem]) rfl ⟨rfl, (by repeat (first | exact Below.refl _ _ | assumption | refine Below.setCell ?_ (by (first | omega | (simp <;> omega))) _ | refine below_drewN ?_ _ | refine Below.drew ?_ | refine Below.alloc ?_ (by (first | omega | (simp <;> omega))) _ | (refine after (h1 := by assumption) ?_ ?_; rotate_left; (first | omega | (simp <;> omega)))))⟩
  · obtain ⟨e1, e2, e3⟩ := new_bu a b h0
    rw [e1, e2, e3]
    clear e1 e2 e3
    have hb' : 0 < b.natAbs := by omega
    by_cases h1 : a < 0 <;> by_cases h2 : b < 0
    all_goals
      simp only [h1, h2, decide_true, decide_false, Bool.true_bne, Bool.false_bne, Bool.not_true, Bool.not_false]
      go_enter Tryd.func10, Tryd.ntmps10
      go_wp2_with (first | (go_at_call_of 42 (Value.int IntKind.i64 a); refine (size_any a _ ha0 ha).mono ?_; rintro e w' ⟨rfl, rfl⟩) | (go_at_call_of 42 (Value.int IntKind.i64 b); refine (size_any b _ hb0 hb).mono ?_; rintro e w' ⟨rfl, rfl⟩) | (go_at_call 41; refine (build_any _ a.natAbs b.natAbs _ (by omega) (by omega) hb').mono ?_; rintro e w1 ⟨rfl, hb1⟩; obtain ⟨hc1, hf1, hz1⟩ := bcell hb1; (try simp at hz1); (try have hw1_0 : w.heap.size < w1.heap.size := by omega); (try have hw1_1 : w.heap.size + 1 < w1.heap.size := by omega); (try have hw1_2 : w.heap.size + 1 + 1 < w1.heap.size := by omega); (try have hw1_3 : w.heap.size + 1 + 1 + 1 < w1.heap.size := by omega); (try have hw1_4 : w.heap.size + 1 + 1 + 1 + 1 < w1.heap.size := by omega); (try have hw1_5 : w.heap.size + 1 + 1 + 1 + 1 + 1 < w1.heap.size := by omega)))
      first | exact bodyPost_ret (v := .tuple #[rat (buN true a.natAbs b.natAbs) (buD a.natAbs b.natAbs), .int .i64 (buE a.natAbs b.natAbs)]) (by simp [*, results, Tryd.results10, go_sem]) rfl ⟨rfl, (by repeat (first | exact Below.refl _ _ | assumption | refine Below.setCell ?_ (by (first | omega | (simp <;> omega))) _ | refine below_drewN ?_ _ | refine Below.drew ?_ | refine Below.alloc ?_ (by (first | omega | (simp <;> omega))) _ | (refine after (h1 := by assumption) ?_ ?_; rotate_left; (first | omega | (simp <;> omega)))))⟩ | exact bodyPost_ret (v := .tuple #[rat (buN false a.natAbs b.natAbs) (buD a.natAbs b.natAbs), .int .i64 (buE a.natAbs b.natAbs)]) (by simp [*, results, Tryd.results10, go_sem]) rfl ⟨rfl, (by repeat (first | exact Below.refl _ _ | assumption | refine Below.setCell ?_ (by (first | omega | (simp <;> omega))) _ | refine below_drewN ?_ _ | refine Below.drew ?_ | refine Below.alloc ?_ (by (first | omega | (simp <;> omega))) _ | (refine after (h1 := by assumption) ?_ ?_; rotate_left; (first | omega | (simp <;> omega)))))⟩
end Go.Proofs.YtjcdjmjebbllkaaDoor
