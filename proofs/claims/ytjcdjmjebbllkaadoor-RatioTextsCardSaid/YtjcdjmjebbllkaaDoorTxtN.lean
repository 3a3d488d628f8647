/- The plain law of Parse, second part: either text's own way to the result. -/
import Derived.Test.YtjcdjmjebbllkaaDoorTxtM
namespace Go.Proofs.YtjcdjmjebbllkaaDoor

theorem index_none {c : UInt8} : ∀ {l : List UInt8}, c ∉ l → Lib.index l [c] = -1
  | [], _ => rfl
  | b :: l, h => by
    have h1 : ¬ c = b := fun e => h (by rw [e]; exact List.mem_cons_self)
    have h2 : c ∉ l := fun e => h (List.mem_cons_of_mem _ e)
    have e : ([c].isPrefixOf (b :: l)) = false := by simp [List.isPrefixOf, h1]
    rw [Lib.index, e, index_none h2]
    rfl
theorem index_at {c : UInt8} {u : List UInt8} : ∀ {w : List UInt8}, c ∉ w → Lib.index (w ++ c :: u) [c] = (w.length : Int)
  | [], _ => by simp [Lib.index, List.isPrefixOf]
  | b :: l, h => by
    have h1 : ¬ c = b := fun e => h (by rw [e]; exact List.mem_cons_self)
    have h2 : c ∉ l := fun e => h (List.mem_cons_of_mem _ e)
    have e : ([c].isPrefixOf (b :: (l ++ c :: u))) = false := by simp [List.isPrefixOf, h1]
    rw [List.cons_append, Lib.index, e, index_at h2]
    have n : ((l.length : Int) == -1) = false := by rw [beq_eq_false_iff_ne]; omega
    rw [n, List.length_cons]
    simp
theorem cut_none {c : UInt8} {l : List UInt8} (h : c ∉ l) : Lib.cut l [c] = (l, [], false) := by
  unfold Lib.cut
  rw [index_none h, if_neg (by decide)]
theorem cut_at {c : UInt8} {w u : List UInt8} (h : c ∉ w) : Lib.cut (w ++ c :: u) [c] = (w, u, true) := by
  unfold Lib.cut
  rw [index_at h, if_pos (by omega)]
  simp

theorem not_digits {w u : List UInt8} {c : UInt8} (h : isD c = false) (m : Nat) : digL (w ++ c :: u) m = false := by
  unfold digL
  simp [h]
theorem no_mem {w : List UInt8} (h : w.all isD = true) {c : UInt8} (hc : isD c = false) : c ∉ w := fun e => by
  have := List.all_eq_true.1 h c e
  rw [hc] at this; exact absurd this (by decide)
/-- The leading digits, and what comes behind them. -/
theorem lead_cases (r : List UInt8) : ∃ w t, r = w ++ t ∧ r.takeWhile isD = w ∧ r.dropWhile isD = t ∧ w.all isD = true ∧ (t = [] ∨ ∃ c u, t = c :: u ∧ isD c = false) := by
  refine ⟨_, _, (List.takeWhile_append_dropWhile (p := isD) (l := r)).symm, rfl, rfl, ?_, ?_⟩
  · exact List.all_takeWhile
  · match h : r.dropWhile isD with
    | [] => exact .inl rfl
    | c :: u =>
      refine .inr ⟨c, u, rfl, ?_⟩
      have := List.head?_dropWhile_not isD r
      rw [h] at this
      simpa using this

/-- The way of the first text. -/
def prgR (neg : Bool) (r : List UInt8) : Int × Int × Int :=
  if (Lib.cut r [47]).2.2 = true then (if digL (Lib.cut r [47]).1 15 = true ∧ digL (Lib.cut r [47]).2.1 7 = true then fin neg (Lib.cut r [47]).1 (numV 0 (Lib.cut r [47]).2.1) else (0, 0, 2))
  else if digL (Lib.cut r [46]).1 15 = true ∧ ((Lib.cut r [46]).2.2 = true → digL (Lib.cut r [46]).2.1 6 = true) then fin neg ((Lib.cut r [46]).1 ++ (Lib.cut r [46]).2.1) (10 ^ (Lib.cut r [46]).2.1.length) else (0, 0, 2)

theorem dig15 {w : List UInt8} (h : w.all isD = true) : digL w 15 = true ↔ 1 ≤ w.length ∧ w.length ≤ 15 := by
  rw [digL_iff]
  constructor
  · intro ⟨a, b, _⟩; exact ⟨List.length_pos_iff.2 a, b⟩
  · intro ⟨a, b⟩; exact ⟨fun e => by rw [e] at a; exact absurd a (by decide), b, h⟩
theorem prg_eq (neg : Bool) (r : List UInt8) : prgR neg r = parR neg r := by
  obtain ⟨w, t, hr, h1, h2, hw, ht⟩ := lead_cases r
  have n47 : isD 47 = false := by decide
  have n46 : isD 46 = false := by decide
  unfold parR
  rw [h1, h2]
  clear h1 h2
  rcases ht with rfl | ⟨c, u, rfl, hc⟩
  · rw [List.append_nil] at hr
    subst hr
    unfold prgR
    rw [cut_none (no_mem hw n47), cut_none (no_mem hw n46)]
    simp only [Bool.false_eq_true, if_false, false_implies, and_true, List.append_nil, List.length_nil, Nat.pow_zero]
    by_cases h : 1 ≤ r.length ∧ r.length ≤ 15
    · rw [if_pos ((dig15 hw).2 h), if_pos h]
    · rw [if_neg (fun e => h ((dig15 hw).1 e)), if_neg h]
  · by_cases h47 : c = 47
    · subst h47 hr
      unfold prgR
      rw [cut_at (no_mem hw n47)]
      simp only [if_true, true_and]
      by_cases h : 1 ≤ w.length ∧ w.length ≤ 15
      · rw [if_pos h]
        by_cases h' : digL u 7 = true
        · rw [if_pos ⟨(dig15 hw).2 h, h'⟩, if_pos h']
        · rw [if_neg (fun e => h' e.2), if_neg h', if_neg (fun e => absurd e.1 (by decide))]
      · rw [if_neg (fun e => h ((dig15 hw).1 e.1)), if_neg h]
    · have hr' : r = w ++ c :: u := hr
      by_cases m47 : (47 : UInt8) ∈ u
      · obtain ⟨u1, u2, hu, hm⟩ := List.eq_append_cons_of_mem m47
        have e : Lib.cut r [47] = (w ++ c :: u1, u2, true) := by
          rw [hr', hu, ← List.cons_append, ← List.append_assoc]
          refine cut_at ?_
          simp only [List.mem_append, List.mem_cons, not_or]
          exact ⟨no_mem hw n47, fun e => h47 e.symm, hm⟩
        unfold prgR
        rw [e]
        simp only [if_true]
        rw [if_neg (fun e => by have := e.1; rw [not_digits hc] at this; exact absurd this (by decide))]
        have nd : ¬ (c = 46 ∧ digL u 6 = true) := fun e => by
          have := (digL_iff.1 e.2).2.2
          exact no_mem this n47 m47
        have n1 : ¬ (c = 47 ∧ digL u 7 = true) := fun e => h47 e.1
        rw [if_neg n1, if_neg nd, ite_self]
      · have e : Lib.cut r [47] = (r, [], false) := by
          refine cut_none ?_
          rw [hr']
          simp only [List.mem_append, List.mem_cons, not_or]
          exact ⟨no_mem hw n47, fun e => h47 e.symm, m47⟩
        unfold prgR
        rw [e]
        simp only [Bool.false_eq_true, if_false]
        have n1 : ¬ (c = 47 ∧ digL u 7 = true) := fun e => h47 e.1
        rw [if_neg n1]
        by_cases h46 : c = 46
        · subst h46 hr
          rw [cut_at (no_mem hw n46)]
          simp only [true_and, forall_const]
          by_cases h : 1 ≤ w.length ∧ w.length ≤ 15
          · rw [if_pos h]
            by_cases h' : digL u 6 = true
            · rw [if_pos ⟨(dig15 hw).2 h, h'⟩, if_pos h']
            · rw [if_neg (fun e => h' e.2), if_neg h']
          · rw [if_neg (fun e => h ((dig15 hw).1 e.1)), if_neg h]
        · have n2 : ¬ (c = 46 ∧ digL u 6 = true) := fun e => h46 e.1
          rw [if_neg n2, ite_self]
          by_cases m46 : (46 : UInt8) ∈ u
          · obtain ⟨u1, u2, hu, hm⟩ := List.eq_append_cons_of_mem m46
            have e : Lib.cut r [46] = (w ++ c :: u1, u2, true) := by
              rw [hr', hu, ← List.cons_append, ← List.append_assoc]
              refine cut_at ?_
              simp only [List.mem_append, List.mem_cons, not_or]
              exact ⟨no_mem hw n46, fun e => h46 e.symm, hm⟩
            rw [e]
            rw [if_neg (fun e => by have := e.1; rw [not_digits hc] at this; exact absurd this (by decide))]
          · have e : Lib.cut r [46] = (r, [], false) := by
              refine cut_none ?_
              rw [hr']
              simp only [List.mem_append, List.mem_cons, not_or]
              exact ⟨no_mem hw n46, fun e => h46 e.symm, m46⟩
            rw [e, hr']
            rw [if_neg (fun e => by have := e.1; rw [not_digits hc] at this; exact absurd this (by decide))]

/-! ### The way of the reference -/
/-- The number that digits stand for, or one from 46 * 10^17 on. -/
def valS (a : Nat) : List UInt8 → Nat
  | [] => a
  | c :: r => valS (min a 460000000000000000 * 10 + (c.toNat - 48)) r
theorem valS_bd (l : List UInt8) : ∀ a : Nat, l.all isD = true → a ≤ 4600000000000000009 → valS a l ≤ 4600000000000000009 := by
  induction l with
  | nil => intro a _ h; exact h
  | cons c l ih =>
    intro a h ha
    simp only [List.all_cons, Bool.and_eq_true] at h
    have hc := isD_iff.1 h.1
    have := ih (min a 460000000000000000 * 10 + (c.toNat - 48)) h.2 (by omega)
    exact this
theorem valS_big (l : List UInt8) : ∀ a b : Nat, l.all isD = true → (a = b ∨ (4600000000000000000 ≤ a ∧ 4600000000000000000 ≤ b)) → (valS a l = numV b l ∨ (4600000000000000000 ≤ valS a l ∧ 4600000000000000000 ≤ numV b l)) := by
  induction l with
  | nil => intro a b _ h; exact h
  | cons c l ih =>
    intro a b h hab
    simp only [List.all_cons, Bool.and_eq_true] at h
    have hc := isD_iff.1 h.1
    have := ih (min a 460000000000000000 * 10 + (c.toNat - 48)) (b * 10 + (c.toNat - 48)) h.2 (by omega)
    exact this
theorem valS_small {l : List UInt8} (h : l.all isD = true) (hv : numV 0 l < 4600000000000000000) : valS 0 l = numV 0 l := by
  rcases valS_big l 0 0 h (.inl rfl) with e | e
  · exact e
  · omega
theorem valS_range {l : List UInt8} (h : l.all isD = true) : 4600000000000000000 ≤ valS 0 l ↔ 4600000000000000000 ≤ numV 0 l := by
  rcases valS_big l 0 0 h (.inl rfl) with e | e
  · rw [e]
  · exact ⟨fun _ => e.2, fun _ => e.1⟩

def sg (neg : Bool) (v : Nat) : Int := if neg then -(v : Int) else (v : Int)
/-- The last part: of all digits and a denominator. -/
def finR (neg : Bool) (all : List UInt8) (d : Nat) : Int × Int × Int :=
  if d = 0 then (0, 0, 1) else if 4600000000000000000 ≤ valS 0 all then (0, 0, 5) else (newN (sg neg (valS 0 all)) d, newD (sg neg (valS 0 all)) d, newE (sg neg (valS 0 all)) d)
theorem new_sg (neg : Bool) (v d : Nat) (hd : d ≠ 0) : newN (sg neg v) d = buN neg v d ∧ newD (sg neg v) d = buD v d ∧ newE (sg neg v) d = buE v d := by
  have e0 : (sg neg v).natAbs = v := by unfold sg; cases neg <;> simp
  have e1 : Int.gcd (sg neg v) d = Nat.gcd v d := by
    unfold Int.gcd; rw [e0]; rfl
  have e2 : ((d : Int)).natAbs = d := rfl
  have e : newE (sg neg v) d = buE v d := by
    unfold newE buE
    rw [e0, e1, e2, if_neg (by omega)]
  refine ⟨?_, ?_, e⟩
  · unfold newN buN
    rw [e, e0, e1]
    have nd : ¬ (d : Int) < 0 := by omega
    cases neg
    · have : ¬ sg false v < 0 := by unfold sg; simp
      rw [if_pos (c := (sg false v < 0 ↔ (d : Int) < 0)) ⟨fun h => absurd h this, fun h => absurd h nd⟩]
      simp
    · by_cases hv : v = 0
      · subst hv
        have : ¬ sg true 0 < 0 := by unfold sg; simp
        rw [if_pos (c := (sg true 0 < 0 ↔ (d : Int) < 0)) ⟨fun h => absurd h this, fun h => absurd h nd⟩]
        simp
      · have : sg true v < 0 := by unfold sg; simp; omega
        rw [if_neg (c := (sg true v < 0 ↔ (d : Int) < 0)) (fun h => nd (h.1 this))]
        simp
  · unfold newD buD
    rw [e, e1, e2]
theorem fin_eq (neg : Bool) {all : List UInt8} (d : Nat) (h : all.all isD = true) (hd : numV 0 all < 4600000000000000000 ∨ d ≤ 1000000) : finR neg all d = fin neg all d := by
  unfold finR fin
  by_cases d0 : d = 0
  · rw [if_pos d0, if_pos d0]
  · rw [if_neg d0, if_neg d0]
    by_cases h1 : 4600000000000000000 ≤ numV 0 all
    · rw [if_pos ((valS_range h).2 h1)]
      by_cases h2 : 10000000000000000000 ≤ numV 0 all
      · rw [if_pos h2]
      · rw [if_neg h2]
        have hg : Nat.gcd (numV 0 all) d ≤ 1000000 := Nat.le_trans (Nat.gcd_le_right _ (by omega)) (by omega)
        have hp : 0 < Nat.gcd (numV 0 all) d := Nat.gcd_pos_of_pos_right _ (by omega)
        have hq : 1099511627776 < numV 0 all / Nat.gcd (numV 0 all) d := by
          have : 4600000000000 ≤ numV 0 all / Nat.gcd (numV 0 all) d := by
            rw [Nat.le_div_iff_mul_le hp]
            have := Nat.mul_le_mul_left 4600000000000 hg
            omega
          omega
        obtain ⟨b1, b2, b3⟩ := bu_no (.inl hq)
        rw [b1, b2, b3]
    · rw [if_neg (fun e => h1 ((valS_range h).1 e)), if_neg (by omega), valS_small h (by omega)]
      obtain ⟨b1, b2, b3⟩ := new_sg neg (numV 0 all) d d0
      rw [b1, b2, b3]

/-- How many digits a row of bytes begins with. -/
def lead (l : List UInt8) : Nat := (l.takeWhile isD).length
theorem take_lead (l : List UInt8) : l.take (lead l) = l.takeWhile isD := by
  have h := List.takeWhile_append_dropWhile (p := isD) (l := l)
  unfold lead
  conv => lhs; arg 2; rw [← h]
  exact List.take_left
theorem drop_lead (l : List UInt8) : l.drop (lead l) = l.dropWhile isD := by
  have h := List.takeWhile_append_dropWhile (p := isD) (l := l)
  unfold lead
  conv => lhs; arg 2; rw [← h]
  exact List.drop_left
theorem lead_le (l : List UInt8) : lead l ≤ l.length := (List.takeWhile_sublist _).length_le
theorem lead_all (l : List UInt8) : lead l = l.length ↔ l.all isD = true := by
  have h := List.takeWhile_append_dropWhile (p := isD) (l := l)
  constructor
  · intro e
    have t := take_lead l
    rw [e, List.take_length] at t
    rw [t]; exact List.all_takeWhile
  · intro a
    have : l.takeWhile isD = l := (by have := List.takeWhile_append_of_pos (p := isD) (l₁ := l) (l₂ := []) (fun x hx => List.all_eq_true.1 a x hx); simpa using this)
    unfold lead; rw [this]

def refR (neg : Bool) (r : List UInt8) : Int × Int × Int :=
  if lead r < 1 ∨ 15 < lead r then (0, 0, 2)
  else match r.drop (lead r) with
    | [] => finR neg (r.take (lead r)) 1
    | c :: u => if (c ≠ 46 ∧ c ≠ 47) ∨ lead u < 1 ∨ 1 + lead u < u.length + 1 ∨ (c = 47 ∧ 7 < lead u) ∨ (c ≠ 47 ∧ 6 < lead u) then (0, 0, 2)
      else if c = 47 then finR neg (r.take (lead r)) (valS 0 u) else finR neg (r.take (lead r) ++ u) (10 ^ lead u)
end Go.Proofs.YtjcdjmjebbllkaaDoor
