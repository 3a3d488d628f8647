/- The plain law of RatioField: small ratios add and multiply as fractions do. No program in sight. -/
import Derived.Test.YtjcdjmjebbllkaaDoorDivW
import Derived.Test.YtjcdjmjebbllkaaDoorGen
namespace Go.Proofs.YtjcdjmjebbllkaaDoor

/-- N / D is x / y in lowest terms. -/
def Rep (N D x y : Int) : Prop := 1 ≤ D ∧ Int.gcd N D = 1 ∧ N * y = x * D

theorem cancel {a b k : Int} (hk : k ≠ 0) (h : a * k = b * k) : a = b := Int.eq_of_mul_eq_mul_right hk h

theorem Rep.uniq {N D M E x y u v : Int} (h1 : Rep N D x y) (h2 : Rep M E u v) (hy : y ≠ 0) (hv : v ≠ 0) (h : x * v = u * y) : N = M ∧ D = E := by
  obtain ⟨d1, g1, e1⟩ := h1
  obtain ⟨d2, g2, e2⟩ := h2
  have hk : y * v ≠ 0 := Int.mul_ne_zero hy hv
  have key : N * E = M * D := cancel hk (by grind)
  have c1 : Nat.Coprime N.natAbs D.natAbs := g1
  have c2 : Nat.Coprime M.natAbs E.natAbs := g2
  have k2 : N.natAbs * E.natAbs = M.natAbs * D.natAbs := by rw [← Int.natAbs_mul, ← Int.natAbs_mul, key]
  have dv1 : D.natAbs ∣ E.natAbs := (Nat.Coprime.symm c1).dvd_of_dvd_mul_left ⟨M.natAbs, by rw [k2, Nat.mul_comm]⟩
  have dv2 : E.natAbs ∣ D.natAbs := (Nat.Coprime.symm c2).dvd_of_dvd_mul_left ⟨N.natAbs, by rw [← k2, Nat.mul_comm]⟩
  have eq : D.natAbs = E.natAbs := Nat.dvd_antisymm dv1 dv2
  have de : D = E := by omega
  subst de
  exact ⟨cancel (k := D) (by omega) key, rfl⟩

theorem Rep.move {N D x y u v : Int} (h1 : Rep N D x y) (hy : y ≠ 0) (h : x * v = u * y) : Rep N D u v :=
  ⟨h1.1, h1.2.1, cancel hy (by have := h1.2.2; grind)⟩
theorem rep_self {a b : Int} (h : valE a b = 0) : Rep a b a b := ⟨(valE_ok h).1, (valE_ok h).2.2.2.2, rfl⟩

theorem rep_new {x y : Int} (hy : y ≠ 0) (h : newE x y = 0) : Rep (newN x y) (newD x y) x y := by
  have v := valE_ok (val_of_new h)
  refine ⟨v.1, v.2.2.2.2, ?_⟩
  have hg := gcd_pos_right x y hy
  obtain ⟨p, hp⟩ : (Int.gcd x y : Nat) ∣ x.natAbs := Int.gcd_dvd_natAbs_left x y
  obtain ⟨q, hq⟩ : (Int.gcd x y : Nat) ∣ y.natAbs := Int.gcd_dvd_natAbs_right x y
  have e1 : newD x y = ((y.natAbs / Int.gcd x y : Nat) : Int) := by unfold newD; rw [if_pos h]
  have e2 : newN x y = if (x < 0) ↔ (y < 0) then ((x.natAbs / Int.gcd x y : Nat) : Int) else -((x.natAbs / Int.gcd x y : Nat) : Int) := by unfold newN; rw [if_pos h]
  rw [e1, e2, Nat.div_eq_of_eq_mul_right hg hp, Nat.div_eq_of_eq_mul_right hg hq]
  generalize Int.gcd x y = g at *
  have k : (p : Int) * (y.natAbs : Int) = (x.natAbs : Int) * (q : Int) := by
    rw [hp, hq, Int.natCast_mul, Int.natCast_mul]; grind
  split
  · rename_i c
    by_cases hx : x < 0
    · have hy' := c.1 hx
      have a1 : (x.natAbs : Int) = -x := by omega
      have a2 : (y.natAbs : Int) = -y := by omega
      rw [a1, a2] at k; grind
    · have hy' : ¬ y < 0 := fun t => hx (c.2 t)
      have a1 : (x.natAbs : Int) = x := by omega
      have a2 : (y.natAbs : Int) = y := by omega
      rw [a1, a2] at k; grind
  · rename_i c
    by_cases hx : x < 0
    · have hy' : ¬ y < 0 := fun t => c ⟨fun _ => t, fun _ => hx⟩
      have a1 : (x.natAbs : Int) = -x := by omega
      have a2 : (y.natAbs : Int) = y := by omega
      rw [a1, a2] at k; grind
    · have hy' : y < 0 := Decidable.byContradiction fun t => c ⟨fun s => absurd s hx, fun s => absurd s t⟩
      have a1 : (x.natAbs : Int) = x := by omega
      have a2 : (y.natAbs : Int) = -y := by omega
      rw [a1, a2] at k; grind

theorem new_small (x y : Int) : (newN x y).natAbs ≤ x.natAbs ∧ (newD x y).natAbs ≤ y.natAbs := by
  have k1 := Nat.div_le_self x.natAbs (Int.gcd x y)
  have k2 := Nat.div_le_self y.natAbs (Int.gcd x y)
  unfold newN newD
  generalize x.natAbs / Int.gcd x y = p at *
  generalize y.natAbs / Int.gcd x y = q at *
  refine ⟨?_, ?_⟩ <;> split <;> (try split) <;> omega

theorem fits_neg {a b : Int} (h0 : -1099511627776 ≤ a) (h1 : a ≤ 1099511627776) (h2 : -1048576 ≤ b) (h3 : b ≤ 1048576) (hb : b ≠ 0) : newE a b = 0 := by
  rcases Int.lt_or_gt_of_ne hb with h | h
  · rw [← (new_neg a b).1]; exact fits_all (by omega) (by omega) (by omega) (by omega)
  · exact fits_all h0 h1 (by omega) h3

/-- All that a fitting quotient is. -/
theorem new_all {x y : Int} (X Y : Nat) (hx : x.natAbs ≤ X) (hy : y.natAbs ≤ Y) (h0 : y ≠ 0) (hX : X ≤ 1099511627776) (hY : Y ≤ 1048576) :
    newE x y = 0 ∧ valE (newN x y) (newD x y) = 0 ∧ Rep (newN x y) (newD x y) x y ∧ (newN x y).natAbs ≤ X ∧ (newD x y).natAbs ≤ Y := by
  have e : newE x y = 0 := fits_neg (by omega) (by omega) (by omega) (by omega) h0
  have s := new_small x y
  exact ⟨e, val_of_new e, rep_new h0 e, by omega, by omega⟩

theorem abs_mul {a b : Int} {A B : Nat} (ha : a.natAbs ≤ A) (hb : b.natAbs ≤ B) : (a * b).natAbs ≤ A * B := by
  rw [Int.natAbs_mul]; exact Nat.mul_le_mul ha hb
theorem abs_add {a b : Int} {A B : Nat} (ha : a.natAbs ≤ A) (hb : b.natAbs ≤ B) : (a + b).natAbs ≤ A + B := by omega

theorem add_all {a b c d : Int} (A B C D : Nat) (v1 : valE a b = 0) (v2 : valE c d = 0) (ha : a.natAbs ≤ A) (hb : b.natAbs ≤ B) (hc : c.natAbs ≤ C) (hd : d.natAbs ≤ D) (h1 : A * D + C * B ≤ 1099511627776) (h2 : B * D ≤ 1048576) :
    addE a b c d = 0 ∧ valE (addN a b c d) (addD a b c d) = 0 ∧ Rep (addN a b c d) (addD a b c d) (a * d + c * b) (b * d) ∧ (addN a b c d).natAbs ≤ A * D + C * B ∧ (addD a b c d).natAbs ≤ B * D := by
  have w := val2_yes v1 v2
  unfold addE addN addD
  rw [sel_ok w, sel_ok w, sel_ok w]
  have b0 := (valE_ok v1).1
  have d0 := (valE_ok v2).1
  exact new_all _ _ (abs_add (abs_mul ha hd) (abs_mul hc hb)) (abs_mul hb hd) (Int.mul_ne_zero (by omega) (by omega)) h1 h2
theorem sub_all {a b c d : Int} (A B C D : Nat) (v1 : valE a b = 0) (v2 : valE c d = 0) (ha : a.natAbs ≤ A) (hb : b.natAbs ≤ B) (hc : c.natAbs ≤ C) (hd : d.natAbs ≤ D) (h1 : A * D + C * B ≤ 1099511627776) (h2 : B * D ≤ 1048576) :
    subE a b c d = 0 ∧ valE (subN a b c d) (subD a b c d) = 0 ∧ Rep (subN a b c d) (subD a b c d) (a * d + -c * b) (b * d) ∧ (subN a b c d).natAbs ≤ A * D + C * B ∧ (subD a b c d).natAbs ≤ B * D := by
  have w := val2_yes v1 v2
  unfold subE subN subD
  rw [sel_ok w, sel_ok w, sel_ok w]
  have b0 := (valE_ok v1).1
  have d0 := (valE_ok v2).1
  exact new_all _ _ (abs_add (abs_mul ha hd) (abs_mul (by omega) hb)) (abs_mul hb hd) (Int.mul_ne_zero (by omega) (by omega)) h1 h2
theorem mul_all {a b c d : Int} (A B C D : Nat) (v1 : valE a b = 0) (v2 : valE c d = 0) (ha : a.natAbs ≤ A) (hb : b.natAbs ≤ B) (hc : c.natAbs ≤ C) (hd : d.natAbs ≤ D) (h1 : A * C ≤ 1099511627776) (h2 : B * D ≤ 1048576) :
    mulE a b c d = 0 ∧ valE (mulN a b c d) (mulD a b c d) = 0 ∧ Rep (mulN a b c d) (mulD a b c d) (a * c) (b * d) ∧ (mulN a b c d).natAbs ≤ A * C ∧ (mulD a b c d).natAbs ≤ B * D := by
  have w := val2_yes v1 v2
  unfold mulE mulN mulD
  rw [sel_ok w, sel_ok w, sel_ok w]
  have b0 := (valE_ok v1).1
  have d0 := (valE_ok v2).1
  exact new_all _ _ (abs_mul ha hc) (abs_mul hb hd) (Int.mul_ne_zero (by omega) (by omega)) h1 h2
theorem div_all {a b c d : Int} (A B C D : Nat) (v1 : valE a b = 0) (v2 : valE c d = 0) (h0 : c ≠ 0) (ha : a.natAbs ≤ A) (hb : b.natAbs ≤ B) (hc : c.natAbs ≤ C) (hd : d.natAbs ≤ D) (h1 : A * D ≤ 1099511627776) (h2 : B * C ≤ 1048576) :
    divE a b c d = 0 ∧ valE (divN a b c d) (divD a b c d) = 0 ∧ Rep (divN a b c d) (divD a b c d) (a * d) (b * c) ∧ (divN a b c d).natAbs ≤ A * D ∧ (divD a b c d).natAbs ≤ B * C := by
  have w := val2_yes v1 v2
  unfold divE divN divD
  rw [sel_ok w, sel_ok w, sel_ok w, if_neg h0, if_neg h0, if_neg h0]
  have b0 := (valE_ok v1).1
  exact new_all _ _ (abs_mul ha hd) (abs_mul hb hc) (Int.mul_ne_zero (by omega) h0) h1 h2

theorem sgn_scale {p q r s K L : Int} (hK : 0 < K) (hL : 0 < L) (h : (p - q) * K = (r - s) * L) : sgnI p q = sgnI r s := by
  unfold sgnI
  rcases Int.lt_trichotomy p q with x | x | x
  · have : (p - q) * K < 0 := Int.mul_neg_of_neg_of_pos (by omega) hK
    have y : r - s < 0 := by
      rcases Int.lt_or_le (r - s) 0 with z | z
      · exact z
      · have := Int.mul_nonneg z (Int.le_of_lt hL); omega
    rw [if_pos x, if_pos (by omega)]
  · have : (p - q) * K = 0 := by rw [x, Int.sub_self, Int.zero_mul]
    have y : r - s = 0 := by
      rcases Int.mul_eq_zero.1 (h.symm.trans this) with z | z
      · exact z
      · omega
    rw [if_neg (by omega), if_neg (by omega), if_neg (by omega), if_neg (by omega)]
  · have : 0 < (p - q) * K := Int.mul_pos (by omega) hK
    have y : 0 < r - s := by
      rcases Int.lt_or_le 0 (r - s) with z | z
      · exact z
      · have := Int.mul_nonneg (show 0 ≤ -(r - s) by omega) (Int.le_of_lt hL)
        rw [Int.neg_mul] at this; omega
    rw [if_neg (by omega), if_pos x, if_neg (by omega), if_pos (by omega)]
theorem sgn_swap (p q : Int) : sgnI p q = -sgnI q p := by
  unfold sgnI
  split <;> split <;> (try split) <;> omega
theorem sgn_zero (p q : Int) : sgnI p q = 0 ↔ p = q := by
  unfold sgnI
  split <;> (try split) <;> omega
end Go.Proofs.YtjcdjmjebbllkaaDoor
