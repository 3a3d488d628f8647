/- The plain law of Parse, third part: the reference's way leads to the same. -/
import Derived.Test.YtjcdjmjebbllkaaDoorTxtN
namespace Go.Proofs.YtjcdjmjebbllkaaDoor

theorem pow_6 {k : Nat} (h : k ≤ 6) : 10 ^ k ≤ 1000000 := by
  have h1 : 10 ^ k ≤ 10 ^ 6 := pow10_le (a := k) (b := 6) h
  rw [show (10 : Nat) ^ 6 = 1000000 from by decide] at h1
  exact h1
theorem num_15 {w : List UInt8} (hw : w.all isD = true) (h : w.length ≤ 15) : numV 0 w < 1000000000000000 := by
  have h1 : numV 0 w < 10 ^ 15 := numV_lt' (n := 15) hw h
  rw [show (10 : Nat) ^ 15 = 1000000000000000 from by decide] at h1
  exact h1
theorem num_7 {w : List UInt8} (hw : w.all isD = true) (h : w.length ≤ 7) : numV 0 w < 10000000 := by
  have h1 : numV 0 w < 10 ^ 7 := numV_lt' (n := 7) hw h
  rw [show (10 : Nat) ^ 7 = 10000000 from by decide] at h1
  exact h1
theorem dig_lead {u : List UInt8} {m : Nat} : digL u m = true ↔ 1 ≤ lead u ∧ ¬ 1 + lead u < u.length + 1 ∧ lead u ≤ m := by
  have h := lead_all u
  have h2 := lead_le u
  rw [digL_iff]
  constructor
  · intro ⟨a, b, c⟩
    have e := h.2 c
    have := List.length_pos_iff.2 a
    omega
  · intro ⟨a, b, c⟩
    have e : lead u = u.length := by omega
    exact ⟨fun x => by rw [x] at e a; rw [e] at a; exact absurd a (by decide), by omega, h.1 e⟩
theorem ref_eq (neg : Bool) (r : List UInt8) : refR neg r = parR neg r := by
  obtain ⟨w, t, hr, h1, h2, hw, ht⟩ := lead_cases r
  have t1 := take_lead r
  have t2 := drop_lead r
  have t3 : lead r = w.length := by unfold lead; rw [h1]
  unfold refR parR
  rw [t1, t2, h1, h2, t3]
  clear t1 t2 t3 h1 h2 hr
  by_cases h : 1 ≤ w.length ∧ w.length ≤ 15
  · rw [if_neg (by omega), if_pos h]
    have hv := num_15 hw h.2
    rcases ht with rfl | ⟨c, u, rfl, hc⟩
    · exact fin_eq neg 1 hw (.inr (by decide))
    · simp only
      by_cases h47 : c = 47
      · subst h47
        by_cases hd : digL u 7 = true
        · have k := dig_lead.1 hd
          have ha := (digL_iff.1 hd).2.2
          rw [if_neg (by
            rintro (⟨_, e⟩ | e | e | ⟨_, e⟩ | ⟨e, _⟩)
            · exact e rfl
            · omega
            · exact k.2.1 e
            · omega
            · exact e rfl), if_pos rfl, if_pos ⟨rfl, hd⟩]
          rw [valS_small ha (by have := num_7 ha (digL_iff.1 hd).2.1; omega)]
          exact fin_eq neg _ hw (.inl (by omega))
        · rw [if_neg (c := 47 = 47 ∧ digL u 7 = true) (fun e => hd e.2), if_neg (c := (47 : UInt8) = 46 ∧ digL u 6 = true) (fun e => absurd e.1 (by decide))]
          rw [dig_lead] at hd
          rw [if_pos]
          by_cases k1 : 1 ≤ lead u
          · by_cases k2 : 1 + lead u < u.length + 1
            · exact .inr (.inr (.inl k2))
            · exact .inr (.inr (.inr (.inl ⟨rfl, Nat.lt_of_not_le fun k3 => hd ⟨k1, k2, k3⟩⟩)))
          · exact .inr (.inl (by omega))
      · have n1 : ¬ (c = 47 ∧ digL u 7 = true) := fun e => h47 e.1
        rw [if_neg n1]
        by_cases h46 : c = 46
        · subst h46
          by_cases hd : digL u 6 = true
          · have k := dig_lead.1 hd
            have ha := (digL_iff.1 hd).2.2
            have hl : lead u = u.length := (lead_all u).2 ha
            rw [if_neg (by
              rintro (⟨e, _⟩ | e | e | ⟨e, _⟩ | ⟨_, e⟩)
              · exact e rfl
              · omega
              · exact k.2.1 e
              · exact absurd e (by decide)
              · omega), if_neg (by decide), if_pos ⟨rfl, hd⟩, hl]
            exact fin_eq neg _ (by rw [List.all_append, hw, ha]; rfl) (.inr (pow_6 (by omega)))
          · rw [if_neg (c := 46 = 46 ∧ digL u 6 = true) (fun e => hd e.2)]
            rw [dig_lead] at hd
            rw [if_pos]
            by_cases k1 : 1 ≤ lead u
            · by_cases k2 : 1 + lead u < u.length + 1
              · exact .inr (.inr (.inl k2))
              · exact .inr (.inr (.inr (.inr ⟨by decide, Nat.lt_of_not_le fun k3 => hd ⟨k1, k2, k3⟩⟩)))
            · exact .inr (.inl (by omega))
        · have n2 : ¬ (c = 46 ∧ digL u 6 = true) := fun e => h46 e.1
          rw [if_neg n2, if_pos (.inl ⟨h46, h47⟩)]
  · rw [if_pos (by omega), if_neg h]
end Go.Proofs.YtjcdjmjebbllkaaDoor
