/- Parse leads back: the plain law. -/
import Derived.Test.YtjcdjmjebbllkaaDoorTxtW
namespace Go.Proofs.YtjcdjmjebbllkaaDoor

theorem dig_char {k : Nat} (h : k < 10) : (UInt8.ofNat (48 + k)).toNat = 48 + k := by
  rw [UInt8.toNat_ofNat']; omega
theorem dec_all (u : Nat) : (Lib.decDigits u).all isD = true := by
  induction u using Nat.strongRecOn with
  | _ u ih =>
    rw [Lib.decDigits]
    split
    · next h =>
      rw [List.all_cons, List.all_nil, Bool.and_true, isD_iff, dig_char h]; omega
    · next h =>
      rw [List.all_append, ih (u / 10) (by omega), List.all_cons, List.all_nil, Bool.and_true, Bool.true_and, isD_iff, dig_char (by omega)]; omega
theorem dec_num (u : Nat) : numV 0 (Lib.decDigits u) = u := by
  induction u using Nat.strongRecOn with
  | _ u ih =>
    rw [Lib.decDigits]
    split
    · next h =>
      show 0 * 10 + ((UInt8.ofNat (48 + u)).toNat - 48) = u
      rw [dig_char h]; omega
    · next h =>
      rw [numV_append, ih (u / 10) (by omega)]
      show u / 10 * 10 + ((UInt8.ofNat (48 + u % 10)).toNat - 48) = u
      rw [dig_char (by omega)]; omega
theorem dec_pos (u : Nat) : 1 ≤ (Lib.decDigits u).length := by
  rw [Lib.decDigits]; split <;> simp
theorem tw_all {w t : List UInt8} (hw : w.all isD = true) (ht : t = [] ∨ ∃ c u, t = c :: u ∧ isD c = false) : (w ++ t).takeWhile isD = w ∧ (w ++ t).dropWhile isD = t := by
  have h : ∀ x ∈ w, isD x = true := fun x hx => List.all_eq_true.1 hw x hx
  rw [List.takeWhile_append_of_pos h, List.dropWhile_append_of_pos h]
  rcases ht with rfl | ⟨c, u, rfl, hc⟩
  · simp
  · simp [hc]
theorem bu_back (neg : Bool) (v d : Nat) (hg : Nat.gcd v d = 1) (hv : v ≤ 1099511627776) (hd : d ≤ 1048576) : buN neg v d = sg neg v ∧ buD v d = d ∧ buE v d = 0 := by
  obtain ⟨h1, h2, h3, h4⟩ := bu_yes (n := v) (d := d) (by rw [hg, Nat.div_one]; exact hv) (by rw [hg, Nat.div_one]; exact hd)
  rw [hg, Nat.div_one] at h2 h3
  rw [hg, Nat.div_one] at h4
  refine ⟨?_, h4, h1⟩
  cases neg
  · exact h3
  · exact h2
theorem par_back (neg : Bool) (v d : Nat) (hg : Nat.gcd v d = 1) (hv : v ≤ 1099511627776) (hd : d ≤ 1048576) (hd0 : 1 ≤ d) :
    parR neg (if d = 1 then Lib.decDigits v else Lib.decDigits v ++ 47 :: Lib.decDigits d) = (sg neg v, (d : Int), 0) := by
  have hw := dec_all v
  have l1 := dec_pos v
  have l2 := digits_bd 14 v (by rw [show (10 : Nat) ^ (14 + 1) = 1000000000000000 from by decide]; omega)
  obtain ⟨b1, b2, b3⟩ := bu_back neg v d hg hv hd
  have hf : ∀ d' : Nat, d' = d → fin neg (Lib.decDigits v) d' = (sg neg v, (d : Int), 0) := by
    rintro d' rfl
    unfold fin
    rw [dec_num, if_neg (by omega), if_neg (by omega), b1, b2, b3]
  unfold parR
  by_cases h : d = 1
  · obtain ⟨t1, t2⟩ := tw_all (t := []) hw (.inl rfl)
    rw [List.append_nil] at t1 t2
    rw [if_pos h, t1, t2, if_pos ⟨l1, l2⟩]
    exact hf 1 h.symm
  · obtain ⟨t1, t2⟩ := tw_all (t := 47 :: Lib.decDigits d) hw (.inr ⟨_, _, rfl, by decide⟩)
    have hd7 : digL (Lib.decDigits d) 7 = true := by
      rw [digL_iff]
      refine ⟨fun e => ?_, digits_bd 6 d (by rw [show (10 : Nat) ^ (6 + 1) = 10000000 from by decide]; omega), dec_all d⟩
      have := dec_pos d
      rw [e] at this; exact absurd this (by decide)
    rw [if_neg h, t1, t2, if_pos ⟨l1, l2⟩]
    simp only
    rw [if_pos ⟨trivial, hd7⟩, dec_num]
    exact hf d rfl
theorem back_any {n d : Int} (h : valE n d = 0) : parL (textL n d) = (n, d, 0) := by
  obtain ⟨h1, h2, h3, h4, h5⟩ := valE_ok h
  have hg : Nat.gcd n.natAbs d.toNat = 1 := by
    have e : d.natAbs = d.toNat := by omega
    rw [← e]; exact h5
  have P := par_back (decide (n < 0)) n.natAbs d.toNat hg (by omega) (by omega) (by omega)
  have hs : sg (decide (n < 0)) n.natAbs = n := by
    unfold sg
    by_cases hn : n < 0
    · rw [decide_eq_true hn, if_pos rfl]; omega
    · rw [decide_eq_false hn]; simp; omega
  rw [hs, Int.toNat_of_nonneg (by omega)] at P
  have hd' : Lib.itoa d = Lib.decDigits d.toNat := by unfold Lib.itoa; rw [if_neg (by omega)]
  have hd1 : (d = 1) = (d.toNat = 1) := by simp only [eq_iff_iff]; omega
  unfold parL textL
  rw [hd']
  by_cases hn : n < 0
  · rw [decide_eq_true hn] at P
    have e : (if d = 1 then Lib.itoa n else Lib.itoa n ++ 47 :: Lib.decDigits d.toNat) = 45 :: (if d.toNat = 1 then Lib.decDigits n.natAbs else Lib.decDigits n.natAbs ++ 47 :: Lib.decDigits d.toNat) := by
      unfold Lib.itoa
      rw [if_pos hn]
      by_cases hd : d.toNat = 1
      · rw [if_pos (by omega), if_pos hd]
      · rw [if_neg (by omega), if_neg hd]; rfl
    rw [e]
    exact P
  · rw [decide_eq_false hn] at P
    have e : (if d = 1 then Lib.itoa n else Lib.itoa n ++ 47 :: Lib.decDigits d.toNat) = (if d.toNat = 1 then Lib.decDigits n.natAbs else Lib.decDigits n.natAbs ++ 47 :: Lib.decDigits d.toNat) := by
      unfold Lib.itoa
      rw [if_neg hn, show n.toNat = n.natAbs from by omega]
      by_cases hd : d.toNat = 1
      · rw [if_pos (by omega), if_pos hd]
      · rw [if_neg (by omega), if_neg hd]
    rw [e]
    have hh : ∀ t : List UInt8, Lib.hasPrefix (Lib.decDigits n.natAbs ++ t) [45] = false := fun t => by
      match hc : Lib.decDigits n.natAbs with
      | [] => have := dec_pos n.natAbs; rw [hc] at this; exact absurd this (by decide)
      | c :: r =>
        have := dec_all n.natAbs
        rw [hc, List.all_cons, Bool.and_eq_true] at this
        have hi := isD_iff.1 this.1
        have hne : ¬ (45 : UInt8) = c := fun e => by rw [← e] at hi; exact absurd hi (by decide)
        simp [Lib.hasPrefix, List.isPrefixOf, hne]
    have hh2 : Lib.hasPrefix (if d.toNat = 1 then Lib.decDigits n.natAbs else Lib.decDigits n.natAbs ++ 47 :: Lib.decDigits d.toNat) [45] = false := by
      split
      · have := hh []; rw [List.append_nil] at this; exact this
      · exact hh _
    have ht : Lib.trimPrefix (if d.toNat = 1 then Lib.decDigits n.natAbs else Lib.decDigits n.natAbs ++ 47 :: Lib.decDigits d.toNat) [45] = (if d.toNat = 1 then Lib.decDigits n.natAbs else Lib.decDigits n.natAbs ++ 47 :: Lib.decDigits d.toNat) := by
      unfold Lib.trimPrefix; rw [hh2]; rfl
    rw [hh2, ht]
    exact P
theorem text_len (n d : Int) (hn0 : -9223372036854775808 ≤ n) (hn : n ≤ 9223372036854775807) (hd0 : -9223372036854775808 ≤ d) (hd : d ≤ 9223372036854775807) : (textL n d).length ≤ 41 := by
  have l1 := itoa_len n hn0 hn
  have l2 := itoa_len d hd0 hd
  unfold textL
  split
  · omega
  · rw [List.length_append, List.length_cons]; omega
theorem text_pos (n d : Int) : 1 ≤ (textL n d).length := by
  have h : 1 ≤ (Lib.itoa n).length := by
    unfold Lib.itoa
    split
    · simp
    · exact dec_pos _
  unfold textL
  split
  · exact h
  · rw [List.length_append]; omega
end Go.Proofs.YtjcdjmjebbllkaaDoor
