/- Decimal of the first reference: the decimal numeral of a number. -/
import Derived.Test.YtjcdjmjebbllkaaDoorNew
import Derived.Laws.Concat
import Derived.Laws.Strings2
import Derived.Lib.ItoaNum
namespace Go.Proofs.YtjcdjmjebbllkaaDoor
open Go.RowKit
attribute [local go_sem] le_add_one'

/-- The digits of a number; none for 0. -/
def dd (u : Nat) : List UInt8 := if u = 0 then [] else Lib.decDigits u
theorem dd_step {u : Nat} (h : u ≠ 0) : dd u = dd (u / 10) ++ [UInt8.ofNat (48 + u % 10)] := by
  unfold dd
  rw [if_neg h, Lib.decDigits]
  by_cases h1 : u < 10
  · rw [dif_pos h1, if_pos (by omega), Nat.mod_eq_of_lt h1]; rfl
  · rw [dif_neg h1, if_neg (by omega)]
theorem ten_fin : ∀ i : Fin 10, (⟨#[48, 49, 50, 51, 52, 53, 54, 55, 56, 57]⟩ : ByteArray).extract i.val (i.val + 1) = ⟨[UInt8.ofNat (48 + i.val)].toArray⟩ := by decide +kernel
theorem ten_one {i : Nat} (h : i < 10) : (⟨#[48, 49, 50, 51, 52, 53, 54, 55, 56, 57]⟩ : ByteArray).extract i (i + 1) = ⟨[UInt8.ofNat (48 + i)].toArray⟩ := ten_fin ⟨i, h⟩
theorem digits_bd : ∀ (k u : Nat), u < 10 ^ (k + 1) → (Lib.decDigits u).length ≤ k + 1
  | 0, u, h => by rw [Lib.decDigits, dif_pos (by simpa using h)]; simp
  | k + 1, u, h => by
    rw [Lib.decDigits]
    split
    · simp
    · have := digits_bd k (u / 10) (by rw [Nat.pow_succ] at h; omega)
      simp; omega
/-- What the loop keeps: the digits so far, and those that are still to come. -/
def Dig (U K : Nat) (S : List UInt8) : Prop := dd K ++ S = dd U ∧ S.length ≤ 20
theorem Dig.step {U K : Nat} {S : List UInt8} (h : Dig U K S) (hK : K ≠ 0) (hU : U < 10 ^ 19) : Dig U (K / 10) (UInt8.ofNat (48 + K % 10) :: S) := by
  obtain ⟨h1, h2⟩ := h
  rw [dd_step hK, List.append_assoc] at h1
  refine ⟨h1, ?_⟩
  have e := congrArg List.length h1
  have b : (dd U).length ≤ 19 := by
    unfold dd
    split
    · simp
    · exact digits_bd 18 U hU
  simp at e ⊢
  omega

set_option maxHeartbeats 400000 in
theorem decimal_pos (U : Nat) (w : World) (h0 : 0 < U) (h1 : (U : Int) ≤ 9223372036854775807) :
    Calls Tryd.prog 23 #[.int .i64 (U : Int)] w fun e w' => e = .returned (.string ⟨(Lib.itoa U).toArray⟩) ∧ w = w' := by
  have hU : U < 10 ^ 19 := by
    rw [show (10 : Nat) ^ 19 = 10000000000000000000 from by decide]; omega
  have HU := Lib.hid hU
  clear hU
  have e0 : ((U : Int) == 0) = false := by rw [beq_eq_false_iff_ne]; omega
  go_enter Tryd.func23, Tryd.ntmps23
  go_wp2_with fail
  go_loop [4, 5] (fun s k => ∃ (K : Nat) (S : List UInt8), Dig U K S ∧ K ≤ U ∧ k = .int .i64 (K : Int) ∧ s = .string ⟨S.toArray⟩) (fun _ k => (intOf k).toNat)
  case atStart => exact ⟨U, [], ⟨by simp, by simp⟩, Nat.le_refl _, rfl, rfl⟩
  case round =>
    obtain ⟨K, S, hD, hKU, rfl, rfl⟩ := hrel
    have HD := Lib.hid hD
    have hl := hD.2
    clear hD
    by_cases hK : K = 0
    · subst hK
      go_wp2_with fail
      go_ret
      have h := HD.out.1
      have e : S = Lib.itoa (U : Int) := by
        rw [Lib.itoa, if_neg (by omega), Int.toNat_natCast]
        unfold dd at h
        rw [if_pos rfl, if_neg (by omega), List.nil_append] at h
        exact h
      rw [e]; exact ⟨rfl, rfl⟩
    · have e1 : ((K : Int) == 0) = false := by rw [beq_eq_false_iff_ne]; omega
      have e2 : ((K : Int) != 0) = true := by rw [bne_iff_ne]; omega
      have e3 : ¬ (K : Int) = 0 := by omega
      have hm : 0 ≤ (K : Int) % 10 := by omega
      have hm1 : (K : Int) % 10 < 10 := by omega
      go_wp2_with fail
      have hs := HD.out.step hK HU.out
      refine ⟨⟨K / 10, _, hs, by omega, by rw [Int.natCast_ediv]; rfl, ?_⟩, by simp [intOf]; omega⟩
      rw [ten_one (by omega), ByteArray.mk_append_mk]; rfl

set_option maxHeartbeats 400000 in
theorem decimal_neg (U : Nat) (w : World) (h0 : 0 < U) (h1 : (U : Int) ≤ 9223372036854775808) :
    Calls Tryd.prog 23 #[.int .i64 (-(U : Int))] w fun e w' => e = .returned (.string ⟨(Lib.itoa (-(U : Int))).toArray⟩) ∧ w = w' := by
  have hU : U < 10 ^ 19 := by
    rw [show (10 : Nat) ^ 19 = 10000000000000000000 from by decide]; omega
  have HU := Lib.hid hU
  clear hU
  have e0 : (-(U : Int) == 0) = false := by rw [beq_eq_false_iff_ne]; omega
  have e4 : decide (-(U : Int) < 0) = true := by rw [decide_eq_true_iff]; omega
  go_enter Tryd.func23, Tryd.ntmps23
  go_wp2_with fail
  go_loop [4, 5] (fun s k => ∃ (K : Nat) (S : List UInt8), Dig U K S ∧ K ≤ U ∧ k = .int .i64 (-(K : Int)) ∧ s = .string ⟨S.toArray⟩) (fun _ k => (-(intOf k)).toNat)
  case atStart => exact ⟨U, [], ⟨by simp, by simp⟩, Nat.le_refl _, rfl, rfl⟩
  case round =>
    obtain ⟨K, S, hD, hKU, rfl, rfl⟩ := hrel
    have HD := Lib.hid hD
    have hl := hD.2
    clear hD
    by_cases hK : K = 0
    · subst hK
      go_wp2_with fail
      go_ret
      have h := HD.out.1
      have e : 45 :: S = Lib.itoa (-(U : Int)) := by
        rw [Lib.itoa, if_pos (by omega), Int.natAbs_neg, Int.natAbs_natCast]
        unfold dd at h
        rw [if_pos rfl, if_neg (by omega), List.nil_append] at h
        rw [h]
      rw [← e, show (⟨#[45]⟩ : ByteArray) = ⟨[45].toArray⟩ from rfl, ByteArray.mk_append_mk]; exact ⟨rfl, rfl⟩
    · have e1 : (-(K : Int) == 0) = false := by rw [beq_eq_false_iff_ne]; omega
      have e2 : (-(K : Int) != 0) = true := by rw [bne_iff_ne]; omega
      have e3 : ¬ (K : Int) = 0 := by omega
      have hm : 0 ≤ (K : Int) % 10 := by omega
      have hm1 : (K : Int) % 10 < 10 := by omega
      go_wp2_with fail
      all_goals
        have hs := HD.out.step hK HU.out
        refine ⟨⟨K / 10, _, hs, by omega, by rw [Int.natCast_ediv]; rfl, ?_⟩, by simp [intOf]; omega⟩
      · rw [ten_one (by omega), ByteArray.mk_append_mk]; rfl
      · have z : K % 10 = 0 := by omega
        have z1 : (-((K : Int) % 10)).toNat = K % 10 := by omega
        have z2 : (-((K : Int) % 10) + 1).toNat = K % 10 + 1 := by omega
        rw [z1, z2, ten_one (by omega), ByteArray.mk_append_mk]; rfl

theorem decimal_any (n : Int) (w : World) (h0 : -9223372036854775808 ≤ n) (h1 : n ≤ 9223372036854775807) :
    Calls Tryd.prog 23 #[.int .i64 n] w fun e w' => e = .returned (.string ⟨(Lib.itoa n).toArray⟩) ∧ w = w' := by
  by_cases hp : 0 < n
  · have e : n = (n.toNat : Int) := by omega
    rw [e]
    exact decimal_pos n.toNat w (by omega) (by omega)
  · by_cases hn : n < 0
    · have e : n = -(n.natAbs : Int) := by omega
      rw [e]
      exact decimal_neg n.natAbs w (by omega) (by omega)
    · obtain rfl : n = 0 := by omega
      rw [show Lib.itoa 0 = [48] from by rw [Lib.itoa, if_neg (by decide), Lib.decDigits, dif_pos (by decide)]; rfl]
      go_enter Tryd.func23, Tryd.ntmps23
      go_wp2_with fail
      go_ret
      exact ⟨rfl, rfl⟩
theorem itoa_len (n : Int) (h0 : -9223372036854775808 ≤ n) (h1 : n ≤ 9223372036854775807) : (Lib.itoa n).length ≤ 20 := by
  have p : (10 : Nat) ^ (18 + 1) = 10000000000000000000 := by decide
  unfold Lib.itoa
  split
  · have := digits_bd 18 n.natAbs (by rw [p]; omega)
    simp; omega
  · have := digits_bd 18 n.toNat (by rw [p]; omega)
    omega
end Go.Proofs.YtjcdjmjebbllkaaDoor
