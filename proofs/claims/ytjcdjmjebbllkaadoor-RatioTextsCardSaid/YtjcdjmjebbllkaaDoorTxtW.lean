/- Text, the reference's Text, and the small functions of the reference's Parse. -/
import Derived.Test.YtjcdjmjebbllkaaDoorDeci
import Derived.Test.YtjcdjmjebbllkaaDoorTxtO
import Derived.Test.YtjcdjmjebbllkaaDoorShelf
import Derived.Test.YtjcdjmjebbllkaaDoorMul
import Derived.Lib.AppendIntMem
namespace Go.Proofs.YtjcdjmjebbllkaaDoor
open Go.RowKit
attribute [local go_sem] le_add_one'

/-- The text of a ratio. -/
def textL (n d : Int) : List UInt8 := if d = 1 then Lib.itoa n else Lib.itoa n ++ 47 :: Lib.itoa d
/-- The table of the powers of ten is as it was laid, whatever a call does at its own blocks. -/
def Pows (B : Nat) (w : World) : Prop := Lib.TabBelow Tryd.prog B w "internal/strconv.uint64pow10" .u64 Lib.pow10Tab
theorem Pows.on {B : Nat} {w w1 : World} (h : Pows B w) (hb : Below B w w1) : Pows B w1 := Lib.TabBelow.on h hb
theorem Pows.up {B C : Nat} {w : World} (h : Pows B w) (hB : B ≤ C) : Pows C w := fun w' hb => h w' (hb.mono hB)

theorem itoa_any (n : Int) (w : World) (h0 : -9223372036854775808 ≤ n) (h1 : n ≤ 9223372036854775807) (hp : Pows w.heap.size w) :
    Calls Tryd.prog 47 #[.int .i64 n] w fun e w' => e = .returned (.string ⟨(Lib.itoa n).toArray⟩) ∧ Below w.heap.size w w' := by
  refine (Tryd.strconv_Itoa n h0 h1 w hp.here).mono ?_
  rintro e w' ⟨rfl, k, os, rfl⟩
  exact ⟨rfl, Lib.below_grow _ w (Nat.le_refl _) k os⟩

theorem ret_str {l m : List UInt8} (h : l = m) : Ending.returned (.string ⟨l.toArray⟩) = .returned (.string ⟨m.toArray⟩) := by rw [h]

theorem slash_cat {A B : List UInt8} : ((⟨A.toArray⟩ : ByteArray) ++ ((⟨#[47]⟩ : ByteArray) ++ (⟨B.toArray⟩ : ByteArray)) : ByteArray) = ⟨(A ++ 47 :: B).toArray⟩ := by
  rw [show (⟨#[47]⟩ : ByteArray) = ⟨[47].toArray⟩ from rfl, ByteArray.mk_append_mk, ByteArray.mk_append_mk]; rfl
theorem slash_cat' {A B : List UInt8} : ((⟨A.toArray⟩ : ByteArray) ++ (⟨#[47]⟩ : ByteArray) ++ (⟨B.toArray⟩ : ByteArray) : ByteArray) = ⟨(A ++ 47 :: B).toArray⟩ := by
  rw [show (⟨#[47]⟩ : ByteArray) = ⟨[47].toArray⟩ from rfl, ByteArray.mk_append_mk, ByteArray.mk_append_mk, List.append_assoc]; rfl
theorem lead_lt (l : List UInt8) (k : Nat) (h : k < lead l) : ∃ h' : k < l.length, isD (l[k]'h') = true := by
  have e := List.takeWhile_append_dropWhile (p := isD) (l := l)
  have h2 : k < (l.takeWhile isD).length := h
  have h3 : k < l.length := Nat.lt_of_lt_of_le h (lead_le l)
  refine ⟨h3, ?_⟩
  have h4 : l[k] = (l.takeWhile isD)[k] := (List.IsPrefix.getElem (List.takeWhile_prefix isD) h2).symm
  rw [h4]
  exact List.all_eq_true.1 List.all_takeWhile _ (List.getElem_mem h2)
theorem lead_stop (l : List UInt8) (h : lead l < l.length) : isD (l[lead l]'h) = false := by
  have hd := List.head?_dropWhile_not isD l
  rw [← drop_lead l, List.drop_eq_getElem_cons h] at hd
  have h' : (isD (l[lead l]'h)) = false := hd
  exact h'

set_option maxHeartbeats 400000 in
theorem reftext_any (n d : Int) (w : World) (hn0 : -9223372036854775808 ≤ n) (hn : n ≤ 9223372036854775807) (hd0 : -9223372036854775808 ≤ d) (hd : d ≤ 9223372036854775807) :
    Calls Tryd.prog 22 #[rat n d] w fun e w' => e = .returned (.string ⟨(textL n d).toArray⟩) ∧ Below w.heap.size w w' := by
  have D1 := Lib.hid (fun w => decimal_any n w hn0 hn)
  have D2 := Lib.hid (fun w => decimal_any d w hd0 hd)
  have l1 := itoa_len n hn0 hn
  have l2 := itoa_len d hd0 hd
  unfold textL
  by_cases h : d = 1
  · rw [if_pos h]
    subst h
    generalize Lib.itoa n = A at *
    go_enter Tryd.func22, Tryd.ntmps22
    go_wp2_with fail
    refine (D1.out _).mono ?_
    rintro e w' ⟨rfl, rfl⟩
    go_wp2_with fail
    go_ret
    exact ⟨rfl, (by repeat (first | exact Below.refl _ _ | assumption | refine Below.setCell ?_ (by (first | omega | (simp <;> omega))) _ | refine below_drewN ?_ _ | refine Below.drew ?_ | refine Below.alloc ?_ (by (first | omega | (simp <;> omega))) _ | (refine after (h1 := by assumption) ?_ ?_; rotate_left; (first | omega | (simp <;> omega)))))⟩
  · rw [if_neg h]
    generalize Lib.itoa n = A at *
    generalize Lib.itoa d = B at *
    have hb : (d == 1) = false := by simpa using h
    clear h
    go_enter Tryd.func22, Tryd.ntmps22
    go_wp2_with fail
    go_quiet ((first | (go_at_call_of 23 (Value.int IntKind.i64 n); exact quiet_left (D1.out _)) | (go_at_call_of 23 (Value.int IntKind.i64 d); exact quiet_left (D2.out _))))
    go_wp2_with fail
    go_ret
    exact ⟨by rw [slash_cat']; rfl, (by repeat (first | exact Below.refl _ _ | assumption | refine Below.setCell ?_ (by (first | omega | (simp <;> omega))) _ | refine below_drewN ?_ _ | refine Below.drew ?_ | refine Below.alloc ?_ (by (first | omega | (simp <;> omega))) _ | (refine after (h1 := by assumption) ?_ ?_; rotate_left; (first | omega | (simp <;> omega)))))⟩

set_option maxHeartbeats 400000 in
theorem text_any (n d : Int) (w : World) (hp : Pows w.heap.size w) (hn0 : -9223372036854775808 ≤ n) (hn : n ≤ 9223372036854775807) (hd0 : -9223372036854775808 ≤ d) (hd : d ≤ 9223372036854775807) :
    Calls Tryd.prog 20 #[rat n d] w fun e w' => e = .returned (.string ⟨(textL n d).toArray⟩) ∧ Below w.heap.size w w' := by
  have D1 := Lib.hid (fun w h => itoa_any n w hn0 hn h)
  have D2 := Lib.hid (fun w h => itoa_any d w hd0 hd h)
  have l1 := itoa_len n hn0 hn
  have l2 := itoa_len d hd0 hd
  have HP := Lib.hid hp
  clear hp
  unfold textL
  by_cases h : d = 1
  · rw [if_pos h]
    subst h
    generalize Lib.itoa n = A at *
    go_enter Tryd.func20, Tryd.ntmps20
    go_wp2_with fail
    refine (D1.out _ ?_).mono ?_
    · exact (HP.out.on (by repeat (first | exact Below.refl _ _ | assumption | refine Below.setCell ?_ (by (first | omega | (simp <;> omega))) _ | refine below_drewN ?_ _ | refine Below.drew ?_ | refine Below.alloc ?_ (by (first | omega | (simp <;> omega))) _ | (refine after (h1 := by assumption) ?_ ?_; rotate_left; (first | omega | (simp <;> omega)))))).up (by simp)
    rintro e w1 ⟨rfl, hb1⟩
    obtain ⟨hc1, hf1, hz1⟩ := bcell hb1; (try simp at hz1); (try have hw1_0 : w.heap.size < w1.heap.size := by omega); (try have hw1_1 : w.heap.size + 1 < w1.heap.size := by omega); (try have hw1_2 : w.heap.size + 1 + 1 < w1.heap.size := by omega); (try have hw1_3 : w.heap.size + 1 + 1 + 1 < w1.heap.size := by omega); (try have hw1_4 : w.heap.size + 1 + 1 + 1 + 1 < w1.heap.size := by omega); (try have hw1_5 : w.heap.size + 1 + 1 + 1 + 1 + 1 < w1.heap.size := by omega)
    go_wp2_with fail
    go_ret
    exact ⟨rfl, (by repeat (first | exact Below.refl _ _ | assumption | refine Below.setCell ?_ (by (first | omega | (simp <;> omega))) _ | refine below_drewN ?_ _ | refine Below.drew ?_ | refine Below.alloc ?_ (by (first | omega | (simp <;> omega))) _ | (refine after (h1 := by assumption) ?_ ?_; rotate_left; (first | omega | (simp <;> omega)))))⟩
  · rw [if_neg h]
    generalize Lib.itoa n = A at *
    generalize Lib.itoa d = B at *
    have hb : (d == 1) = false := by simpa using h
    have hb' : (d != 1) = true := by simpa using h
    clear h
    go_enter Tryd.func20, Tryd.ntmps20
    go_wp2_with fail
    refine (D1.out _ ?_).mono ?_
    · exact (HP.out.on (by repeat (first | exact Below.refl _ _ | assumption | refine Below.setCell ?_ (by (first | omega | (simp <;> omega))) _ | refine below_drewN ?_ _ | refine Below.drew ?_ | refine Below.alloc ?_ (by (first | omega | (simp <;> omega))) _ | (refine after (h1 := by assumption) ?_ ?_; rotate_left; (first | omega | (simp <;> omega)))))).up (by simp)
    rintro e w1 ⟨rfl, hb1⟩
    obtain ⟨hc1, hf1, hz1⟩ := bcell hb1; (try simp at hz1); (try have hw1_0 : w.heap.size < w1.heap.size := by omega); (try have hw1_1 : w.heap.size + 1 < w1.heap.size := by omega); (try have hw1_2 : w.heap.size + 1 + 1 < w1.heap.size := by omega); (try have hw1_3 : w.heap.size + 1 + 1 + 1 < w1.heap.size := by omega); (try have hw1_4 : w.heap.size + 1 + 1 + 1 + 1 < w1.heap.size := by omega); (try have hw1_5 : w.heap.size + 1 + 1 + 1 + 1 + 1 < w1.heap.size := by omega)
    go_wp2_with fail
    refine (D2.out _ ?_).mono ?_
    · exact (HP.out.on (by repeat (first | exact Below.refl _ _ | assumption | refine Below.setCell ?_ (by (first | omega | (simp <;> omega))) _ | refine below_drewN ?_ _ | refine Below.drew ?_ | refine Below.alloc ?_ (by (first | omega | (simp <;> omega))) _ | (refine after (h1 := by assumption) ?_ ?_; rotate_left; (first | omega | (simp <;> omega)))))).up (by omega)
    rintro e w2 ⟨rfl, hb2⟩
    obtain ⟨hc2, hf2, hz2⟩ := bcell hb2; (try simp at hz2); (try have hw2_0 : w.heap.size < w2.heap.size := by omega); (try have hw2_1 : w.heap.size + 1 < w2.heap.size := by omega); (try have hw2_2 : w.heap.size + 1 + 1 < w2.heap.size := by omega); (try have hw2_3 : w.heap.size + 1 + 1 + 1 < w2.heap.size := by omega); (try have hw2_4 : w.heap.size + 1 + 1 + 1 + 1 < w2.heap.size := by omega); (try have hw2_5 : w.heap.size + 1 + 1 + 1 + 1 + 1 < w2.heap.size := by omega); (try have hv2_1_0 : w1.heap.size < w2.heap.size := by omega); (try have hv2_1_1 : w1.heap.size + 1 < w2.heap.size := by omega); (try have hv2_1_2 : w1.heap.size + 1 + 1 < w2.heap.size := by omega)
    go_wp2_with fail
    go_ret
    exact ⟨by rw [slash_cat]; rfl, (by repeat (first | exact Below.refl _ _ | assumption | refine Below.setCell ?_ (by (first | omega | (simp <;> omega))) _ | refine below_drewN ?_ _ | refine Below.drew ?_ | refine Below.alloc ?_ (by (first | omega | (simp <;> omega))) _ | (refine after (h1 := by assumption) ?_ ?_; rotate_left; (first | omega | (simp <;> omega)))))⟩

set_option maxHeartbeats 400000 in
theorem digits_at (s : ByteArray) (at' : Nat) (w : World) (hs : s.size ≤ 1000000) (ha : at' ≤ s.size) :
    Calls Tryd.prog 56 #[.string s, .int .i64 (at' : Int)] w fun e w' => e = .returned (.int .i64 (lead (s.data.toList.drop at') : Int)) ∧ w = w' := by
  have hl := lead_le (s.data.toList.drop at')
  have hz : (s.data.toList.drop at').length = s.size - at' := by rw [List.length_drop, ← Lib.size_eq]
  rw [hz] at hl
  have HL := Lib.hid (lead_lt (s.data.toList.drop at'))
  have HS := Lib.hid (lead_stop (s.data.toList.drop at'))
  generalize lead (s.data.toList.drop at') = N at *
  clear hz
  go_enter Tryd.func56, Tryd.ntmps56
  go_wp2_with fail
  go_loop [5] (fun n => ∃ K : Nat, K ≤ N ∧ n = .int .i64 (K : Int)) (fun n => N - (intOf n).toNat)
  case atStart => exact ⟨0, Nat.zero_le _, rfl⟩
  case round =>
    obtain ⟨K, hK, rfl⟩ := hrel
    by_cases hlt : K < N
    · obtain ⟨h1, h2⟩ := HL.out K hlt
      have h3 : at' + K < s.size := by rw [List.length_drop, ← Lib.size_eq] at h1; omega
      have h4 : isD (s[at' + K]'h3) = true := by rw [List.getElem_drop] at h2; exact h2
      have h5 := isD_iff.1 h4
      have b1 : (48 : Int) ≤ ((s[at' + K]'h3).toNat : Int) := by omega
      have b2 : ((s[at' + K]'h3).toNat : Int) ≤ 57 := by omega
      clear h1 h2 h4 h5
      go_wp2_with fail
      exact ⟨⟨K + 1, by omega, by go_num⟩, by simp [intOf]; omega⟩
    · obtain rfl : K = N := by omega
      by_cases h3 : at' + K < s.size
      · have h4 : isD (s[at' + K]'h3) = false := by
          have := HS.out (by rw [List.length_drop, ← Lib.size_eq]; omega)
          rw [List.getElem_drop] at this
          exact this
        by_cases b1 : (48 : Int) ≤ ((s[at' + K]'h3).toNat : Int)
        · have b2 : ¬ ((s[at' + K]'h3).toNat : Int) ≤ 57 := fun b2 => by
            have := isD_iff.2 (show 48 ≤ (s[at' + K]'h3).toNat ∧ (s[at' + K]'h3).toNat ≤ 57 from by omega)
            rw [h4] at this; exact absurd this (by decide)
          clear h4
          go_wp2_with fail
          go_ret
          exact ⟨rfl, rfl⟩
        · clear h4
          go_wp2_with fail
          go_ret
          exact ⟨rfl, rfl⟩
      · go_wp2_with fail
        go_ret
        exact ⟨rfl, rfl⟩

theorem take_succ_get (l : List UInt8) (k : Nat) (h : k < l.length) : l.take (k + 1) = l.take k ++ [l[k]] := List.take_succ_eq_append_getElem h
theorem valS_append : ∀ (l : List UInt8) (a : Nat) (m : List UInt8), valS a (l ++ m) = valS (valS a l) m
  | [], _, _ => rfl
  | _ :: l, _, m => valS_append l _ m
theorem valS_take (l : List UInt8) (k : Nat) (h : k < l.length) : valS 0 (l.take (k + 1)) = min (valS 0 (l.take k)) 460000000000000000 * 10 + ((l[k]).toNat - 48) := by
  rw [take_succ_get l k h, valS_append]; rfl

set_option maxHeartbeats 400000 in
theorem value_any (s : ByteArray) (w : World) (hs : s.size ≤ 1000000) (hd : s.data.toList.all isD = true) :
    Calls Tryd.prog 57 #[.string s] w fun e w' => e = .returned (.int .i64 (valS 0 s.data.toList : Int)) ∧ w = w' := by
  have hz : s.data.toList.length = s.size := (Lib.size_eq s).symm
  have HT := Lib.hid (valS_take s.data.toList)
  have HB := Lib.hid (fun k => valS_bd (s.data.toList.take k) 0 (List.all_eq_true.2 fun x hx => List.all_eq_true.1 hd x (List.mem_of_mem_take hx)) (by decide))
  have HD := Lib.hid hd
  have HZ := Lib.hid hz
  clear hz hd
  go_enter Tryd.func57, Tryd.ntmps57
  go_wp2_with fail
  go_loop [3, 4] (fun n i => ∃ K : Nat, K ≤ s.size ∧ n = .int .i64 (valS 0 (s.data.toList.take K) : Int) ∧ i = .int .i64 (K : Int)) (fun _ i => s.size - (intOf i).toNat)
  case atStart => exact ⟨0, Nat.zero_le _, rfl, rfl⟩
  case round =>
    obtain ⟨K, hK, rfl, rfl⟩ := hrel
    have hb := HB.out K
    by_cases hlt : K < s.size
    · have h1 := HT.out K (by rw [HZ.out]; exact hlt)
      have h2 := isD_iff.1 (List.all_eq_true.1 HD.out _ (List.getElem_mem (show K < s.data.toList.length by rw [HZ.out]; exact hlt)))
      have e : s.data.toList[K]'(by rw [HZ.out]; exact hlt) = s[K]'hlt := rfl
      rw [e] at h1 h2
      have b1 : (48 : Int) ≤ ((s[K]'hlt).toNat : Int) := by omega
      have b2 : ((s[K]'hlt).toNat : Int) ≤ 57 := by omega
      have H1 := Lib.hid h1
      clear h1 h2 e
      generalize valS 0 (s.data.toList.take K) = V at *
      go_wp2_with fail
      refine ⟨⟨K + 1, by omega, ?_, by go_num⟩, by simp [intOf]; omega⟩
      rw [H1.out]
      exact congrArg (Value.int IntKind.i64) (by omega)
    · obtain rfl : K = s.size := by omega
      go_wp2_with fail
      go_ret
      have e : s.data.toList.take s.size = s.data.toList := by rw [← HZ.out, List.take_length]
      exact ⟨by rw [e]; rfl, rfl⟩

set_option maxHeartbeats 400000 in
theorem short_any (s : ByteArray) (m : Nat) (w : World) :
    Calls Tryd.prog 24 #[.string s, .int .i64 (m : Int)] w fun e w' => e = .returned (.string (if m < s.size then s.extract 0 m else s)) ∧ w = w' := by
  by_cases h : m < s.size
  · rw [if_pos h]
    have h' : (m : Int) < (s.size : Int) := by omega
    go_enter Tryd.func24, Tryd.ntmps24
    go_wp2_with fail
    go_ret
    exact ⟨rfl, rfl⟩
  · rw [if_neg h]
    have h' : ¬ (m : Int) < (s.size : Int) := by omega
    go_enter Tryd.func24, Tryd.ntmps24
    go_wp2_with fail
    go_ret
    exact ⟨rfl, rfl⟩
end Go.Proofs.YtjcdjmjebbllkaaDoor
