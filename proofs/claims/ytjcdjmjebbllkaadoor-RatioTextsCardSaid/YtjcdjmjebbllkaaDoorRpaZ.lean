/- Parse of the reference: what it returns. -/
import Derived.Test.YtjcdjmjebbllkaaDoorRpaBM
import Derived.Test.YtjcdjmjebbllkaaDoorRpaBP
import Derived.Test.YtjcdjmjebbllkaaDoorRpaSM
import Derived.Test.YtjcdjmjebbllkaaDoorRpaSP
import Derived.Test.YtjcdjmjebbllkaaDoorRpaDM
import Derived.Test.YtjcdjmjebbllkaaDoorRpaDP
import Derived.Test.YtjcdjmjebbllkaaDoorParD
namespace Go.Proofs.YtjcdjmjebbllkaaDoor
open Go.RowKit

theorem take_all' {l : List UInt8} (h : l.all isD = true) (n : Nat) : (l.take n).all isD = true :=
  List.all_eq_true.2 fun x hx => List.all_eq_true.1 h x (List.mem_of_mem_take hx)
theorem valS_lt {l : List UInt8} (h : l.all isD = true) (hl : l.length ≤ 15) : valS 0 l < 4600000000000000000 := by
  have h1 := num_15 h hl
  rw [valS_small h (by omega)]; omega
theorem beq_u8 {c d : UInt8} (h : c.toNat = d.toNat) : c = d := UInt8.toNat_inj.1 h

theorem rpa_M (s : ByteArray) (w : World) (hs : s.size ≤ 1000) (h0 : 0 < s.size) (hm : (s[0]'h0).toNat = 45) (r : List UInt8) (hr : s.data.toList.drop 1 = r) :
    Calls Tryd.prog 25 #[.string s] w fun e w' => e = .returned (rat3 (refR true r)) ∧ Below w.heap.size w w' := by
  have hrl : r.length = s.size - 1 := by rw [← hr, List.length_drop, ← Lib.size_eq]
  have hN : lead (s.data.toList.drop 1) = lead r := by rw [hr]
  have hle := lead_le r
  have hX : (s.extract 1 (1 + lead r)).data.toList = r.take (lead r) := by
    rw [ext_list', hr]; congr 1; omega
  have hR : (s.extract (1 + lead r) s.size).data.toList = r.drop (lead r) := by
    rw [ext_list', List.take_of_length_le (by rw [List.length_drop, ← Lib.size_eq]; omega), ← hr, List.drop_drop, hr]
  have hd : (r.take (lead r)).all isD = true := by rw [take_lead]; exact List.all_takeWhile
  have hXl : (r.take (lead r)).length ≤ lead r := by rw [List.length_take]; omega
  unfold refR
  by_cases h1 : lead r < 1
  · rw [if_pos (.inl h1)]
    exact rpa_M_n1 s w hs h0 hm (lead r) hN h1
  by_cases h2 : 15 < lead r
  · rw [if_pos (.inr h2)]
    exact rpa_M_n2 s w hs h0 hm (lead r) hN h2
  rw [if_neg (by omega)]
  have q1 : 1 ≤ lead r := by omega
  have q2 : lead r ≤ 15 := by omega
  have hsm := valS_lt hd (by omega)
  match hrd : r.drop (lead r) with
  | [] =>
    rw [hrd] at hR
    show Calls _ _ _ _ fun e w' => e = .returned (rat3 (finR true (r.take (lead r)) 1)) ∧ _
    have e : finR true (r.take (lead r)) 1 = (newN (-(valS 0 (r.take (lead r)) : Int)) 1, newD (-(valS 0 (r.take (lead r)) : Int)) 1, newE (-(valS 0 (r.take (lead r)) : Int)) 1) := by
      unfold finR
      rw [if_neg (by decide), if_neg (by omega)]
      rfl
    rw [e]
    refine rpa_M_i s w hs h0 hm (lead r) hN q1 q2 (by rw [Lib.size_eq, hR]; rfl) (by rw [hX]; exact hd) _ (by rw [hX]) (by omega) (by omega)
  | c :: u =>
    rw [hrd] at hR
    show Calls _ _ _ _ fun e w' => e = .returned (rat3 (if (c ≠ 46 ∧ c ≠ 47) ∨ lead u < 1 ∨ 1 + lead u < u.length + 1 ∨ (c = 47 ∧ 7 < lead u) ∨ (c ≠ 47 ∧ 6 < lead u) then (0, 0, 2)
      else if c = 47 then finR true (r.take (lead r)) (valS 0 u) else finR true (r.take (lead r) ++ u) (10 ^ lead u))) ∧ _
    have hul := lead_le u
    by_cases c47 : c = 47
    · have n47 : c.toNat = 47 := by rw [c47]; rfl
      have n46 : ¬ c = 46 := by rw [c47]; decide
      by_cases k1 : lead u < 1
      · rw [if_pos (.inr (.inl k1))]
        exact rpa_M_b1_47 s w hs h0 hm (lead r) hN q1 q2 c u hR (lead u) rfl n47 k1
      by_cases k2 : 1 + lead u < u.length + 1
      · rw [if_pos (.inr (.inr (.inl k2)))]
        exact rpa_M_b2_47 s w hs h0 hm (lead r) hN q1 q2 c u hR (lead u) rfl n47 (by omega) k2
      by_cases k3 : 7 < lead u
      · rw [if_pos (.inr (.inr (.inr (.inl ⟨c47, k3⟩))))]
        exact rpa_M_b3_47 s w hs h0 hm (lead r) hN q1 q2 c u hR (lead u) rfl n47 k3 k2
      rw [if_neg (by rintro (⟨_, e⟩ | e | e | ⟨_, e⟩ | ⟨e, _⟩) <;> first | exact e c47 | exact k1 e | exact k2 e | exact k3 e), if_pos c47]
      have hu : u.all isD = true := (lead_all u).1 (by omega)
      have hv := num_7 hu (by omega)
      have hvs := valS_small hu (by omega)
      by_cases d0 : valS 0 u = 0
      · have e : finR true (r.take (lead r)) (valS 0 u) = (0, 0, 1) := by unfold finR; rw [if_pos d0]
        rw [e]
        exact rpa_M_s0 s w hs h0 hm (lead r) hN q1 q2 c u hR (lead u) rfl n47 (by omega) (by omega) k2 hu _ rfl (by omega)
      · have e : finR true (r.take (lead r)) (valS 0 u) = (newN (-(valS 0 (r.take (lead r)) : Int)) (valS 0 u), newD (-(valS 0 (r.take (lead r)) : Int)) (valS 0 u), newE (-(valS 0 (r.take (lead r)) : Int)) (valS 0 u)) := by
          unfold finR
          rw [if_neg d0, if_neg (by omega)]
          rfl
        rw [e]
        exact rpa_M_s1 s w hs h0 hm (lead r) hN q1 q2 c u hR (lead u) rfl n47 (by omega) (by omega) k2 hu _ rfl (by omega) (by omega) (by rw [hX]; exact hd) _ (by rw [hX]) (by omega) (by omega)
    · have n47 : c.toNat ≠ 47 := fun e => c47 (beq_u8 e)
      by_cases c46 : c = 46
      · have n46 : c.toNat = 46 := by rw [c46]; rfl
        by_cases k1 : lead u < 1
        · rw [if_pos (.inr (.inl k1))]
          exact rpa_M_b1_46 s w hs h0 hm (lead r) hN q1 q2 c u hR (lead u) rfl n46 k1
        by_cases k2 : 1 + lead u < u.length + 1
        · rw [if_pos (.inr (.inr (.inl k2)))]
          exact rpa_M_b2_46 s w hs h0 hm (lead r) hN q1 q2 c u hR (lead u) rfl n46 (by omega) k2
        by_cases k3 : 6 < lead u
        · rw [if_pos (.inr (.inr (.inr (.inr ⟨c47, k3⟩))))]
          exact rpa_M_b3_46 s w hs h0 hm (lead r) hN q1 q2 c u hR (lead u) rfl n46 k3 k2
        rw [if_neg (by rintro (⟨e, _⟩ | e | e | ⟨e, _⟩ | ⟨_, e⟩) <;> first | exact e c46 | exact k1 e | exact k2 e | exact c47 e | exact k3 e), if_neg c47]
        have hu : u.all isD = true := (lead_all u).1 (by omega)
        have hall : (r.take (lead r) ++ u).all isD = true := by rw [List.all_append, hd, hu]; rfl
        have d0 : ¬ 10 ^ lead u = 0 := Nat.ne_of_gt (pow_1 _)
        by_cases hv : 4600000000000000000 ≤ valS 0 (r.take (lead r) ++ u)
        · have e : finR true (r.take (lead r) ++ u) (10 ^ lead u) = (0, 0, 5) := by unfold finR; rw [if_neg d0, if_pos hv]
          rw [e]
          exact rpa_M_d5 s w hs h0 hm (lead r) hN q1 q2 c u hR (lead u) rfl n46 (by omega) (by omega) k2 _ hX hall _ rfl _ rfl (by omega)
        · have e : finR true (r.take (lead r) ++ u) (10 ^ lead u) = (newN (-(valS 0 (r.take (lead r) ++ u) : Int)) ((10 ^ lead u : Nat) : Int), newD (-(valS 0 (r.take (lead r) ++ u) : Int)) ((10 ^ lead u : Nat) : Int), newE (-(valS 0 (r.take (lead r) ++ u) : Int)) ((10 ^ lead u : Nat) : Int)) := by
            unfold finR
            rw [if_neg d0, if_neg hv]
            rfl
          rw [e]
          exact rpa_M_d1 s w hs h0 hm (lead r) hN q1 q2 c u hR (lead u) rfl n46 (by omega) (by omega) k2 _ hX hall _ rfl _ rfl (by omega) (by omega)
      · have n46 : c.toNat ≠ 46 := fun e => c46 (beq_u8 e)
        rw [if_pos (.inl ⟨c46, c47⟩)]
        exact rpa_M_b0 s w hs h0 hm (lead r) hN q1 q2 c u hR (lead u) rfl n47 n46

theorem rpa_P (s : ByteArray) (w : World) (hs : s.size ≤ 1000) (h0 : 0 < s.size) (hm : ¬ (s[0]'h0).toNat = 45) (r : List UInt8) (hr : s.data.toList.drop 0 = r) :
    Calls Tryd.prog 25 #[.string s] w fun e w' => e = .returned (rat3 (refR false r)) ∧ Below w.heap.size w w' := by
  have hrl : r.length = s.size - 0 := by rw [← hr, List.length_drop, ← Lib.size_eq]
  have hN : lead (s.data.toList.drop 0) = lead r := by rw [hr]
  have hle := lead_le r
  have hX : (s.extract 0 (lead r)).data.toList = r.take (lead r) := by
    rw [ext_list', hr]; rfl
  have hR : (s.extract (lead r) s.size).data.toList = r.drop (lead r) := by
    rw [ext_list', List.take_of_length_le (by rw [List.length_drop, ← Lib.size_eq]; omega), ← hr, List.drop_drop, Nat.zero_add, hr]
  have hd : (r.take (lead r)).all isD = true := by rw [take_lead]; exact List.all_takeWhile
  have hXl : (r.take (lead r)).length ≤ lead r := by rw [List.length_take]; omega
  unfold refR
  by_cases h1 : lead r < 1
  · rw [if_pos (.inl h1)]
    exact rpa_P_n1 s w hs h0 hm (lead r) hN h1
  by_cases h2 : 15 < lead r
  · rw [if_pos (.inr h2)]
    exact rpa_P_n2 s w hs h0 hm (lead r) hN h2
  rw [if_neg (by omega)]
  have q1 : 1 ≤ lead r := by omega
  have q2 : lead r ≤ 15 := by omega
  have hsm := valS_lt hd (by omega)
  match hrd : r.drop (lead r) with
  | [] =>
    rw [hrd] at hR
    show Calls _ _ _ _ fun e w' => e = .returned (rat3 (finR false (r.take (lead r)) 1)) ∧ _
    have e : finR false (r.take (lead r)) 1 = (newN ((valS 0 (r.take (lead r)) : Int)) 1, newD ((valS 0 (r.take (lead r)) : Int)) 1, newE ((valS 0 (r.take (lead r)) : Int)) 1) := by
      unfold finR
      rw [if_neg (by decide), if_neg (by omega)]
      rfl
    rw [e]
    refine rpa_P_i s w hs h0 hm (lead r) hN q1 q2 (by rw [Lib.size_eq, hR]; rfl) (by rw [hX]; exact hd) _ (by rw [hX]) (by omega) (by omega)
  | c :: u =>
    rw [hrd] at hR
    show Calls _ _ _ _ fun e w' => e = .returned (rat3 (if (c ≠ 46 ∧ c ≠ 47) ∨ lead u < 1 ∨ 1 + lead u < u.length + 1 ∨ (c = 47 ∧ 7 < lead u) ∨ (c ≠ 47 ∧ 6 < lead u) then (0, 0, 2)
      else if c = 47 then finR false (r.take (lead r)) (valS 0 u) else finR false (r.take (lead r) ++ u) (10 ^ lead u))) ∧ _
    have hul := lead_le u
    by_cases c47 : c = 47
    · have n47 : c.toNat = 47 := by rw [c47]; rfl
      have n46 : ¬ c = 46 := by rw [c47]; decide
      by_cases k1 : lead u < 1
      · rw [if_pos (.inr (.inl k1))]
        exact rpa_P_b1_47 s w hs h0 hm (lead r) hN q1 q2 c u hR (lead u) rfl n47 k1
      by_cases k2 : 1 + lead u < u.length + 1
      · rw [if_pos (.inr (.inr (.inl k2)))]
        exact rpa_P_b2_47 s w hs h0 hm (lead r) hN q1 q2 c u hR (lead u) rfl n47 (by omega) k2
      by_cases k3 : 7 < lead u
      · rw [if_pos (.inr (.inr (.inr (.inl ⟨c47, k3⟩))))]
        exact rpa_P_b3_47 s w hs h0 hm (lead r) hN q1 q2 c u hR (lead u) rfl n47 k3 k2
      rw [if_neg (by rintro (⟨_, e⟩ | e | e | ⟨_, e⟩ | ⟨e, _⟩) <;> first | exact e c47 | exact k1 e | exact k2 e | exact k3 e), if_pos c47]
      have hu : u.all isD = true := (lead_all u).1 (by omega)
      have hv := num_7 hu (by omega)
      have hvs := valS_small hu (by omega)
      by_cases d0 : valS 0 u = 0
      · have e : finR false (r.take (lead r)) (valS 0 u) = (0, 0, 1) := by unfold finR; rw [if_pos d0]
        rw [e]
        exact rpa_P_s0 s w hs h0 hm (lead r) hN q1 q2 c u hR (lead u) rfl n47 (by omega) (by omega) k2 hu _ rfl (by omega)
      · have e : finR false (r.take (lead r)) (valS 0 u) = (newN ((valS 0 (r.take (lead r)) : Int)) (valS 0 u), newD ((valS 0 (r.take (lead r)) : Int)) (valS 0 u), newE ((valS 0 (r.take (lead r)) : Int)) (valS 0 u)) := by
          unfold finR
          rw [if_neg d0, if_neg (by omega)]
          rfl
        rw [e]
        exact rpa_P_s1 s w hs h0 hm (lead r) hN q1 q2 c u hR (lead u) rfl n47 (by omega) (by omega) k2 hu _ rfl (by omega) (by omega) (by rw [hX]; exact hd) _ (by rw [hX]) (by omega) (by omega)
    · have n47 : c.toNat ≠ 47 := fun e => c47 (beq_u8 e)
      by_cases c46 : c = 46
      · have n46 : c.toNat = 46 := by rw [c46]; rfl
        by_cases k1 : lead u < 1
        · rw [if_pos (.inr (.inl k1))]
          exact rpa_P_b1_46 s w hs h0 hm (lead r) hN q1 q2 c u hR (lead u) rfl n46 k1
        by_cases k2 : 1 + lead u < u.length + 1
        · rw [if_pos (.inr (.inr (.inl k2)))]
          exact rpa_P_b2_46 s w hs h0 hm (lead r) hN q1 q2 c u hR (lead u) rfl n46 (by omega) k2
        by_cases k3 : 6 < lead u
        · rw [if_pos (.inr (.inr (.inr (.inr ⟨c47, k3⟩))))]
          exact rpa_P_b3_46 s w hs h0 hm (lead r) hN q1 q2 c u hR (lead u) rfl n46 k3 k2
        rw [if_neg (by rintro (⟨e, _⟩ | e | e | ⟨e, _⟩ | ⟨_, e⟩) <;> first | exact e c46 | exact k1 e | exact k2 e | exact c47 e | exact k3 e), if_neg c47]
        have hu : u.all isD = true := (lead_all u).1 (by omega)
        have hall : (r.take (lead r) ++ u).all isD = true := by rw [List.all_append, hd, hu]; rfl
        have d0 : ¬ 10 ^ lead u = 0 := Nat.ne_of_gt (pow_1 _)
        by_cases hv : 4600000000000000000 ≤ valS 0 (r.take (lead r) ++ u)
        · have e : finR false (r.take (lead r) ++ u) (10 ^ lead u) = (0, 0, 5) := by unfold finR; rw [if_neg d0, if_pos hv]
          rw [e]
          exact rpa_P_d5 s w hs h0 hm (lead r) hN q1 q2 c u hR (lead u) rfl n46 (by omega) (by omega) k2 _ hX hall _ rfl _ rfl (by omega)
        · have e : finR false (r.take (lead r) ++ u) (10 ^ lead u) = (newN ((valS 0 (r.take (lead r) ++ u) : Int)) ((10 ^ lead u : Nat) : Int), newD ((valS 0 (r.take (lead r) ++ u) : Int)) ((10 ^ lead u : Nat) : Int), newE ((valS 0 (r.take (lead r) ++ u) : Int)) ((10 ^ lead u : Nat) : Int)) := by
            unfold finR
            rw [if_neg d0, if_neg hv]
            rfl
          rw [e]
          exact rpa_P_d1 s w hs h0 hm (lead r) hN q1 q2 c u hR (lead u) rfl n46 (by omega) (by omega) k2 _ hX hall _ rfl _ rfl (by omega) (by omega)
      · have n46 : c.toNat ≠ 46 := fun e => c46 (beq_u8 e)
        rw [if_pos (.inl ⟨c46, c47⟩)]
        exact rpa_P_b0 s w hs h0 hm (lead r) hN q1 q2 c u hR (lead u) rfl n47 n46

theorem refparse_any (l : List UInt8) (w : World) (hl : l.length ≤ 1000) :
    Calls Tryd.prog 25 #[.string ⟨l.toArray⟩] w fun e w' => e = .returned (rat3 (parL l)) ∧ Below w.heap.size w w' := by
  have hz : (⟨l.toArray⟩ : ByteArray).size = l.length := by simp [ByteArray.size]
  unfold parL
  rw [← ref_eq]
  match l, hl, hz with
  | [], _, hz => exact rpa_E_n1 ⟨([] : List UInt8).toArray⟩ w hz 0 rfl (by decide)
  | c :: u, hl, hz =>
    have h0 : 0 < (⟨(c :: u).toArray⟩ : ByteArray).size := by rw [hz]; simp
    have e0 : (⟨(c :: u).toArray⟩ : ByteArray)[0]'h0 = c := rfl
    by_cases h : c = 45
    · subst h
      exact rpa_M _ w (by omega) h0 (by rw [e0]; rfl) u rfl
    · have n : ¬ c.toNat = 45 := fun e => h (beq_u8 e)
      have e1 : Lib.hasPrefix (c :: u) [45] = false := by
        have : ¬ (45 : UInt8) = c := fun e => h e.symm
        simp [Lib.hasPrefix, List.isPrefixOf, this]
      have e2 : Lib.trimPrefix (c :: u) [45] = c :: u := by unfold Lib.trimPrefix; rw [e1]; rfl
      rw [e1, e2]
      exact rpa_P _ w (by omega) h0 (by rw [e0]; exact n) (c :: u) rfl
end Go.Proofs.YtjcdjmjebbllkaaDoor
