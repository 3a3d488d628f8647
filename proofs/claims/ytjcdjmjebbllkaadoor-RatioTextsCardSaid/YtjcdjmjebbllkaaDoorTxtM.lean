/- The plain law of Parse: what the two texts make of a row of bytes is the same. -/
import Derived.Test.YtjcdjmjebbllkaaDoorDig
import Derived.Test.YtjcdjmjebbllkaaDoorOf
import Derived.Laws.RangeAny
namespace Go.Proofs.YtjcdjmjebbllkaaDoor

def isD (c : UInt8) : Bool := decide (48 ≤ c.toNat) && decide (c.toNat ≤ 57)
theorem isD_iff {c : UInt8} : isD c = true ↔ 48 ≤ c.toNat ∧ c.toNat ≤ 57 := by unfold isD; simp
/-- The number that digits stand for, behind others that stand for a. -/
def numV (a : Nat) : List UInt8 → Nat
  | [] => a
  | c :: r => numV (a * 10 + (c.toNat - 48)) r
theorem numV_append : ∀ (l : List UInt8) (a : Nat) (m : List UInt8), numV a (l ++ m) = numV (numV a l) m
  | [], _, _ => rfl
  | _ :: l, _, m => numV_append l _ m
theorem numV_ge : ∀ (l : List UInt8) (a : Nat), a * 10 ^ l.length ≤ numV a l
  | [], a => Nat.le_of_eq (by rw [List.length_nil, Nat.pow_zero, Nat.mul_one]; rfl)
  | c :: l, a => by
    have h := numV_ge l (a * 10 + (c.toNat - 48))
    have e : a * 10 ^ (c :: l).length = (a * 10) * 10 ^ l.length := by
      rw [List.length_cons, Nat.pow_succ, Nat.mul_comm (10 ^ l.length) 10, Nat.mul_assoc]
    rw [e]
    exact Nat.le_trans (Nat.mul_le_mul_right _ (Nat.le_add_right _ _)) h
theorem numV_le (l : List UInt8) (a : Nat) : a ≤ numV a l :=
  Nat.le_trans (Nat.le_mul_of_pos_right a (Nat.pow_pos (by decide))) (numV_ge l a)
theorem numV_lt : ∀ (l : List UInt8) (a : Nat), l.all isD = true → numV a l < (a + 1) * 10 ^ l.length
  | [], a, _ => by rw [List.length_nil, Nat.pow_zero, Nat.mul_one]; exact Nat.lt_succ_self a
  | c :: l, a, h => by
    simp only [List.all_cons, Bool.and_eq_true] at h
    have hc := isD_iff.1 h.1
    have h' := numV_lt l (a * 10 + (c.toNat - 48)) h.2
    have e : (a + 1) * 10 ^ (c :: l).length = ((a + 1) * 10) * 10 ^ l.length := by
      rw [List.length_cons, Nat.pow_succ, Nat.mul_comm (10 ^ l.length) 10, Nat.mul_assoc]
    rw [e]
    exact Nat.lt_of_lt_of_le h' (Nat.mul_le_mul_right _ (by omega))
theorem pow10_le {a b : Nat} (h : a ≤ b) : 10 ^ a ≤ 10 ^ b := Nat.pow_le_pow_right (by decide) h
theorem numV_lt' {l : List UInt8} {n : Nat} (h : l.all isD = true) (hn : l.length ≤ n) : numV 0 l < 10 ^ n := by
  have := numV_lt l 0 h
  have h2 := pow10_le hn
  omega

/-- A row of 1 to m digits. -/
def digL (l : List UInt8) (m : Nat) : Bool := decide (l ≠ []) && decide (l.length ≤ m) && l.all isD
theorem digL_iff {l : List UInt8} {m : Nat} : digL l m = true ↔ l ≠ [] ∧ l.length ≤ m ∧ l.all isD = true := by
  unfold digL; simp [and_assoc]

/-! ### The closure over runes says the same -/
theorem idx_digits (s : ByteArray) : ∀ (f pos : Nat), s.size ≤ pos + f → ((s.data.toList.drop pos).all isD = true ↔ Lib.idxFuncFrom badR true s f pos < 0)
  | 0, pos, h => by
    rw [List.drop_eq_nil_of_le (by rw [← Lib.size_eq]; omega)]
    simp [Lib.idxFuncFrom]
  | f + 1, pos, h => by
    by_cases hp : pos < s.size
    · have hl : pos < s.data.toList.length := by rw [← Lib.size_eq]; exact hp
      rw [List.drop_eq_getElem_cons hl, List.all_cons]
      have e : s.data.toList[pos] = s[pos] := rfl
      rw [e, Lib.idxFuncFrom, if_pos hp]
      by_cases ha : (s[pos]).toNat < 128
      · rw [decode_ascii s pos hp ha]
        by_cases hd : isD s[pos] = true
        · have hb : ¬ badR (s[pos]).toNat = true := by
            have := isD_iff.1 hd
            unfold badR; simp; omega
          rw [if_neg hb, hd, Bool.true_and]
          exact idx_digits s f (pos + 1) (by omega)
        · have hb : badR (s[pos]).toNat = true := by
            rw [isD_iff] at hd
            unfold badR; simp; omega
          rw [if_pos hb]
          simp [hd]
      · have hh := (decode_high s pos hp (by omega)).1
        have hd : ¬ isD s[pos] = true := by rw [isD_iff]; omega
        have hb : badR (Utf8.decode s pos).1 = true := by unfold badR; simp; omega
        rw [if_pos hb]
        simp [hd]
    · rw [List.drop_eq_nil_of_le (by rw [← Lib.size_eq]; omega), Lib.idxFuncFrom_end _ _ _ _ _ hp]
      simp
theorem digB_eq (s : ByteArray) (m : Nat) : digB s m = digL s.data.toList m := by
  have h := idx_digits s s.size 0 (by omega)
  rw [List.drop_zero] at h
  have e1 : decide (s.size ≠ 0) = decide (s.data.toList ≠ []) := by
    rw [Lib.size_eq, decide_eq_decide, Ne, Ne, List.length_eq_zero_iff]
  have e2 : decide (¬ 0 ≤ Lib.idxFunc badR true s) = s.data.toList.all isD := by
    rw [Bool.eq_iff_iff, decide_eq_true_iff, h]; unfold Lib.idxFunc; omega
  unfold digB digL
  rw [e1, e2, Lib.size_eq]

/-! ### What the number readers say of digits -/
theorem parseM_ok (M : Nat) (hM : M < 18446744073709551616) (l : List UInt8) : ∀ a : Nat, l.all isD = true → numV a l ≤ M → Lib.parseUintM M a l = .ok (numV a l) := by
  induction l with
  | nil => intro a _ _; rfl
  | cons c l ih =>
    intro a h hv
    simp only [List.all_cons, Bool.and_eq_true] at h
    have hc := isD_iff.1 h.1
    have hge := numV_le l (a * 10 + (c.toNat - 48))
    have hv' : numV (a * 10 + (c.toNat - 48)) l ≤ M := hv
    have n1 : ¬ 1844674407370955162 ≤ a := by omega
    have n2 : ¬ M < a * 10 + (c.toNat - 48) := by omega
    rw [Lib.parseUintM, if_pos hc, if_neg n1, if_neg n2]
    exact ih _ h.2 hv'
theorem parseM_range (M : Nat) (hM : M = 18446744073709551615) (l : List UInt8) : ∀ a : Nat, a ≤ M → l.all isD = true → M < numV a l → Lib.parseUintM M a l = .range := by
  induction l with
  | nil => intro a ha _ hv; exact absurd (show M < a from hv) (by omega)
  | cons c l ih =>
    intro a ha h hv
    simp only [List.all_cons, Bool.and_eq_true] at h
    have hc := isD_iff.1 h.1
    have hv' : M < numV (a * 10 + (c.toNat - 48)) l := hv
    rw [Lib.parseUintM, if_pos hc]
    by_cases h1 : 1844674407370955162 ≤ a
    · rw [if_pos h1]
    · rw [if_neg h1]
      by_cases h2 : M < a * 10 + (c.toNat - 48)
      · rw [if_pos h2]
      · rw [if_neg h2]
        exact ih _ (by omega) h.2 hv'
theorem pow64 : (2 : Nat) ^ 64 - 1 = 18446744073709551615 := by decide
theorem all48 {l : List UInt8} (h : l.all isD = true) : (48 :: l).all isD = true := by rw [List.all_cons, h]; decide
theorem parseB_ok {l : List UInt8} (h : l.all isD = true) (hv : numV 0 l < 18446744073709551616) : Lib.parseUintB 64 (48 :: l) = .ok (numV 0 l) := by
  unfold Lib.parseUintB
  rw [if_neg (by simp), pow64]
  exact parseM_ok _ (by decide) (48 :: l) 0 (all48 h) (Nat.le_of_lt_succ hv)
theorem parseB_range {l : List UInt8} (h : l.all isD = true) (hv : ¬ numV 0 l < 18446744073709551616) : Lib.parseUintB 64 (48 :: l) = .range := by
  unfold Lib.parseUintB
  rw [if_neg (by simp), pow64]
  exact parseM_range _ rfl (48 :: l) 0 (Nat.zero_le _) (all48 h) (Nat.lt_of_lt_of_le (by decide) (Nat.le_of_not_lt hv))
theorem parse10_digits (l : List UInt8) : ∀ a : Nat, l.all isD = true → numV a l < 9223372036854775808 → Lib.parseUint10 a l = .ok (numV a l) := by
  induction l with
  | nil => intro a _ _; rfl
  | cons c l ih =>
    intro a h hv
    simp only [List.all_cons, Bool.and_eq_true] at h
    have hc := isD_iff.1 h.1
    have hge := numV_le l (a * 10 + (c.toNat - 48))
    have hv' : numV (a * 10 + (c.toNat - 48)) l < 9223372036854775808 := hv
    have n1 : ¬ 1844674407370955162 ≤ a := by omega
    have n2 : ¬ 18446744073709551616 ≤ a * 10 + (c.toNat - 48) := by omega
    rw [Lib.parseUint10, if_pos hc, if_neg n1, if_neg n2]
    exact ih _ h.2 hv'
theorem atoi_digits {l : List UInt8} (hl : l ≠ []) (h : l.all isD = true) (hv : numV 0 l < 9223372036854775808) : Lib.atoiAll l = .ok (numV 0 l : Int) := by
  match l, hl with
  | c :: r, _ =>
    simp only [List.all_cons, Bool.and_eq_true] at h
    have hc := isD_iff.1 h.1
    have n1 : ¬ (c.toNat = 43 ∨ c.toNat = 45) := by omega
    have n2 : ¬ c.toNat = 45 := by omega
    generalize hz : numV 0 (c :: r) = z at *
    unfold Lib.atoiAll Lib.parseMag
    simp only
    rw [if_neg n1, if_neg (by simp), parse10_digits (c :: r) 0 (by rw [List.all_cons, h.1, h.2]; rfl) (by rw [hz]; exact hv), hz]
    simp only
    rw [if_neg (fun e => by omega), if_neg (fun e => n2 e.1), if_neg n2]

/-! ### Zeros ahead -/
theorem trim_num : ∀ (l : List UInt8), numV 0 (Lib.trimLeftB l 48) = numV 0 l
  | [] => rfl
  | c :: l => by
    unfold Lib.trimLeftB
    rw [List.dropWhile_cons]
    by_cases h : (c == 48) = true
    · rw [if_pos h]
      have e : c = 48 := by simpa using h
      subst e
      exact trim_num l
    · rw [if_neg h]
theorem trim_all : ∀ (l : List UInt8), l.all isD = true → (Lib.trimLeftB l 48).all isD = true
  | [], _ => rfl
  | c :: l, h => by
    unfold Lib.trimLeftB
    rw [List.dropWhile_cons]
    split
    · simp only [List.all_cons, Bool.and_eq_true] at h
      exact trim_all l h.2
    · exact h
theorem trim_le (l : List UInt8) : (Lib.trimLeftB l 48).length ≤ l.length := by
  unfold Lib.trimLeftB
  exact (List.dropWhile_sublist _).length_le
theorem trim_head : ∀ (l : List UInt8), l.all isD = true → Lib.trimLeftB l 48 = [] ∨ 10 ^ ((Lib.trimLeftB l 48).length - 1) ≤ numV 0 (Lib.trimLeftB l 48)
  | [], _ => .inl rfl
  | c :: l, h => by
    simp only [List.all_cons, Bool.and_eq_true] at h
    unfold Lib.trimLeftB
    rw [List.dropWhile_cons]
    by_cases h2 : (c == 48) = true
    · rw [if_pos h2]; exact trim_head l h.2
    · rw [if_neg h2]
      right
      have hc := isD_iff.1 h.1
      have hn : ¬ c.toNat = 48 := fun e => h2 (beq_iff_eq.2 (UInt8.toNat_inj.1 e))
      have hg := numV_ge l (0 * 10 + (c.toNat - 48))
      have e : (c :: l).length - 1 = l.length := by rw [List.length_cons, Nat.add_sub_cancel]
      rw [e]
      exact Nat.le_trans (Nat.le_mul_of_pos_left _ (by omega)) hg
theorem pow19 : (10 : Nat) ^ 19 = 10000000000000000000 := by decide
theorem trim_long {l : List UInt8} (h : l.all isD = true) : 19 < (Lib.trimLeftB l 48).length ↔ 10000000000000000000 ≤ numV 0 l := by
  have t1 := trim_num l
  have t2 := trim_head l h
  have t3 := trim_all l h
  generalize Lib.trimLeftB l 48 = z at *
  rw [← t1]
  constructor
  · intro hl
    rcases t2 with e | e
    · rw [e] at hl; exact absurd hl (by decide)
    · have h1 : 10 ^ 19 ≤ 10 ^ (z.length - 1) := pow10_le (a := 19) (b := z.length - 1) (by omega)
      rw [pow19] at h1
      exact Nat.le_trans h1 e
  · intro hv
    rcases Nat.lt_or_ge 19 z.length with h' | h'
    · exact h'
    · have h2 : numV 0 z < 10 ^ 19 := numV_lt' (n := 19) t3 h'
      rw [pow19] at h2
      omega

/-! ### The results -/
/-- The last part: of all digits and a denominator. -/
def fin (neg : Bool) (all : List UInt8) (d : Nat) : Int × Int × Int :=
  if d = 0 then (0, 0, 1) else if 10000000000000000000 ≤ numV 0 all then (0, 0, 5) else (buN neg (numV 0 all) d, buD (numV 0 all) d, buE (numV 0 all) d)
/-- What Parse returns: num, den, error. -/
def parR (neg : Bool) (r : List UInt8) : Int × Int × Int :=
  if 1 ≤ (r.takeWhile isD).length ∧ (r.takeWhile isD).length ≤ 15 then
    match r.dropWhile isD with
    | [] => fin neg (r.takeWhile isD) 1
    | c :: u => if c = 47 ∧ digL u 7 = true then fin neg (r.takeWhile isD) (numV 0 u) else if c = 46 ∧ digL u 6 = true then fin neg (r.takeWhile isD ++ u) (10 ^ u.length) else (0, 0, 2)
  else (0, 0, 2)
def parL (l : List UInt8) : Int × Int × Int := parR (Lib.hasPrefix l [45]) (Lib.trimPrefix l [45])
end Go.Proofs.YtjcdjmjebbllkaaDoor
