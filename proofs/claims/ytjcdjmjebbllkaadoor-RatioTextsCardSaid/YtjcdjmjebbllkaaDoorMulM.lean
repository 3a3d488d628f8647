/- The plain mathematics of products of fractions in lowest terms. -/
import Derived.Test.YtjcdjmjebbllkaaDoorNew
namespace Go.Proofs.YtjcdjmjebbllkaaDoor

theorem gcd_quot (A B : Nat) (hB : 0 < B) : Nat.gcd (A / Nat.gcd A B) (B / Nat.gcd A B) = 1 := by
  rw [Nat.gcd_div (Nat.gcd_dvd_left _ _) (Nat.gcd_dvd_right _ _)]
  exact Nat.div_self (Nat.gcd_pos_of_pos_right _ hB)

/-- Two fractions A / B and C / D in lowest terms: crosswise reduced, their product is in lowest terms. -/
theorem cross (A B C D : Nat) (hab : Nat.gcd A B = 1) (hcd : Nat.gcd C D = 1) (hB : 0 < B) (hD : 0 < D) :
    Nat.gcd (A * C) (B * D) = Nat.gcd A D * Nat.gcd C B ∧
    A * C / (Nat.gcd A D * Nat.gcd C B) = (A / Nat.gcd A D) * (C / Nat.gcd C B) ∧
    B * D / (Nat.gcd A D * Nat.gcd C B) = (B / Nat.gcd C B) * (D / Nat.gcd A D) ∧
    Nat.gcd ((A / Nat.gcd A D) * (C / Nat.gcd C B)) ((B / Nat.gcd C B) * (D / Nat.gcd A D)) = 1 := by
  have hg : 0 < Nat.gcd A D := Nat.gcd_pos_of_pos_right _ hD
  have hh : 0 < Nat.gcd C B := Nat.gcd_pos_of_pos_right _ hB
  obtain ⟨n, hn⟩ := Nat.gcd_dvd_left A D
  obtain ⟨d', hd'⟩ := Nat.gcd_dvd_right A D
  obtain ⟨m, hm⟩ := Nat.gcd_dvd_left C B
  obtain ⟨b', hb'⟩ := Nat.gcd_dvd_right C B
  have c1 : Nat.gcd n d' = 1 := by
    have h := gcd_quot A D hD
    rw [show A / Nat.gcd A D = n from Nat.div_eq_of_eq_mul_right hg hn, show D / Nat.gcd A D = d' from Nat.div_eq_of_eq_mul_right hg hd'] at h
    exact h
  have c2 : Nat.gcd m b' = 1 := by
    have h := gcd_quot C B hB
    rw [show C / Nat.gcd C B = m from Nat.div_eq_of_eq_mul_right hh hm, show B / Nat.gcd C B = b' from Nat.div_eq_of_eq_mul_right hh hb'] at h
    exact h
  have c3 : Nat.Coprime n b' := by
    have h : Nat.Coprime A B := hab
    exact Nat.Coprime.coprime_dvd_left ⟨_, by rw [Nat.mul_comm]; exact hn⟩ (Nat.Coprime.coprime_dvd_right ⟨_, by rw [Nat.mul_comm]; exact hb'⟩ h)
  have c4 : Nat.Coprime m d' := by
    have h : Nat.Coprime C D := hcd
    exact Nat.Coprime.coprime_dvd_left ⟨_, by rw [Nat.mul_comm]; exact hm⟩ (Nat.Coprime.coprime_dvd_right ⟨_, by rw [Nat.mul_comm]; exact hd'⟩ h)
  have cc : Nat.gcd (n * m) (b' * d') = 1 :=
    Nat.Coprime.mul_left (Nat.Coprime.mul_right c3 c1) (Nat.Coprime.mul_right c2 c4)
  have e1 : A * C = (Nat.gcd A D * Nat.gcd C B) * (n * m) := by
    calc A * C = (Nat.gcd A D * n) * (Nat.gcd C B * m) := by rw [← hn, ← hm]
      _ = _ := by simp only [Nat.mul_assoc, Nat.mul_left_comm, Nat.mul_comm]
  have e2 : B * D = (Nat.gcd A D * Nat.gcd C B) * (b' * d') := by
    calc B * D = (Nat.gcd C B * b') * (Nat.gcd A D * d') := by rw [← hb', ← hd']
      _ = _ := by simp only [Nat.mul_assoc, Nat.mul_left_comm, Nat.mul_comm]
  have q1 : A / Nat.gcd A D = n := Nat.div_eq_of_eq_mul_right hg hn
  have q2 : D / Nat.gcd A D = d' := Nat.div_eq_of_eq_mul_right hg hd'
  have q3 : C / Nat.gcd C B = m := Nat.div_eq_of_eq_mul_right hh hm
  have q4 : B / Nat.gcd C B = b' := Nat.div_eq_of_eq_mul_right hh hb'
  have hgh := Nat.mul_pos hg hh
  rw [q1, q2, q3, q4]
  refine ⟨?_, ?_, ?_, cc⟩
  · rw [e1, e2, Nat.gcd_mul_left, cc, Nat.mul_one]
  · rw [e1]; exact Nat.mul_div_cancel_left _ hgh
  · rw [e2]; exact Nat.mul_div_cancel_left _ hgh
end Go.Proofs.YtjcdjmjebbllkaaDoor
