/- Parse of the reference: the walk, way by way (part BM). -/
import Derived.Test.YtjcdjmjebbllkaaDoorRpaA
import Derived.Deep.DrawnRows
import Derived.Deep.DeepCutAuto
namespace Go.Proofs.YtjcdjmjebbllkaaDoor
open Go.RowKit
attribute [local go_sem] le_add_one'

set_option maxHeartbeats 4000000 in
set_option maxRecDepth 100000 in
theorem rpa_M_b0 (s : ByteArray) (w : World) (hs : s.size ≤ 1000) (h0 : 0 < s.size) (hm : (s[0]'h0).toNat = 45) (N : Nat) (hN : lead (s.data.toList.drop 1) = N) (h1 : 1 ≤ N) (h15 : N ≤ 15) (c : UInt8) (u : List UInt8) (hRl : (s.extract (1 + N) s.size).data.toList = c :: u) (K : Nat) (hK : lead u = K) (hc : c.toNat ≠ 47) (hc2 : c.toNat ≠ 46) :
    Calls Tryd.prog 25 #[.string s] w fun e w' => e = .returned (.tuple #[rat 0 0, .int .i64 2]) ∧ Below w.heap.size w w' := by
  have C := Lib.hid (fun w => digits_at s 1 w (by omega) (by omega))
  rw [hN] at C
  have b0 : (((s[0]'h0).toNat : Int) == 45) = true := by rw [beq_iff_eq]; omega
  have h0' : (0 : Int) < (s.size : Int) := by omega
  have hlen := lead_le (s.data.toList.drop 1)
  rw [hN, List.length_drop, ← Lib.size_eq] at hlen
  have hle : 1 + N ≤ s.size := by omega
  have hsX := Lib.hid (show (s.extract 1 (1 + N)).size = N from by rw [ByteArray.size_extract]; omega)
  have hsR := Lib.hid (show (s.extract (1 + N) s.size).size = s.size - (1 + N) from by rw [ByteArray.size_extract]; omega)
  have q1 : ¬ (N : Int) < 1 := by omega
  have q2 : ¬ (15 : Int) < (N : Int) := by omega
  have HRl := Lib.hid hRl
  have HK := Lib.hid hK
  clear hRl hK
  clear hN hlen hm
  go_enter Tryd.func25, Tryd.ntmps25
  go_upto_region 1 with fail
  have BR := box_alloc w 0 0 24
  have HB := below_alloc (Below.refl w.heap.size w) (Nat.le_refl _) (Obj.cells #[.int .i64 0, .int .i64 0] 24)
  generalize (w.alloc (Obj.cells #[.int .i64 0, .int .i64 0] 24)) = W0 at *
  obtain ⟨f1, f2, f3, f4, f5⟩ := id BR
  go_wp2_with fail
  refine (C.out _).mono ?_
  rintro e w' ⟨rfl, rfl⟩
  go_upto_region 10 with fail
  generalize s.extract 1 (1 + N) = X at *
  generalize s.extract (1 + N) s.size = R at *
  have hX1 : X.size ≤ 15 := by have := hsX.out; omega
  have hR1 : R.size ≤ 1000 := by have := hsR.out; omega
  have hRs : R.size = u.length + 1 := by rw [Lib.size_eq, HRl.out, List.length_cons]
  have hR0 : 0 < R.size := by omega
  have hR0' : (0 : Int) < (R.size : Int) := by omega
  have hRc : R[0]'hR0 = c := by
    have e : R[0]'hR0 = R.data.toList[0]'(by rw [← Lib.size_eq]; exact hR0) := rfl
    rw [e]; simp only [HRl.out, List.getElem_cons_zero]
  have DR := Lib.hid (fun w => digits_at R 1 w (by omega) (by omega))
  rw [HRl.out, List.drop_succ_cons, List.drop_zero, HK.out] at DR
  have hKl := lead_le u
  rw [HK.out] at hKl
  have c47 : (((R[0]'hR0).toNat : Int) == 47) = false := by rw [hRc]; rw [beq_eq_false_iff_ne]; omega
  have c46 : (((R[0]'hR0).toNat : Int) != 46) = true := by rw [hRc]; rw [bne_iff_ne]; omega
  clear hc hc2
  clear hRs hRc
  go_wp2_with fail
  refine (DR.out _).mono ?_
  rintro e w' ⟨rfl, rfl⟩
  go_wp2_with fail
  all_goals exact bodyPost_ret (v := .tuple #[rat 0 0, .int .i64 2]) (by simp [*, results, Tryd.results25, go_sem]) rfl ⟨rfl, (by repeat (first | assumption | refine Below.setCell ?_ (by first | omega | (simp <;> omega)) _))⟩

set_option maxHeartbeats 4000000 in
set_option maxRecDepth 100000 in
theorem rpa_M_b1_47 (s : ByteArray) (w : World) (hs : s.size ≤ 1000) (h0 : 0 < s.size) (hm : (s[0]'h0).toNat = 45) (N : Nat) (hN : lead (s.data.toList.drop 1) = N) (h1 : 1 ≤ N) (h15 : N ≤ 15) (c : UInt8) (u : List UInt8) (hRl : (s.extract (1 + N) s.size).data.toList = c :: u) (K : Nat) (hK : lead u = K) (hc : c.toNat = 47) (hk : K < 1) :
    Calls Tryd.prog 25 #[.string s] w fun e w' => e = .returned (.tuple #[rat 0 0, .int .i64 2]) ∧ Below w.heap.size w w' := by
  have C := Lib.hid (fun w => digits_at s 1 w (by omega) (by omega))
  rw [hN] at C
  have b0 : (((s[0]'h0).toNat : Int) == 45) = true := by rw [beq_iff_eq]; omega
  have h0' : (0 : Int) < (s.size : Int) := by omega
  have hlen := lead_le (s.data.toList.drop 1)
  rw [hN, List.length_drop, ← Lib.size_eq] at hlen
  have hle : 1 + N ≤ s.size := by omega
  have hsX := Lib.hid (show (s.extract 1 (1 + N)).size = N from by rw [ByteArray.size_extract]; omega)
  have hsR := Lib.hid (show (s.extract (1 + N) s.size).size = s.size - (1 + N) from by rw [ByteArray.size_extract]; omega)
  have q1 : ¬ (N : Int) < 1 := by omega
  have q2 : ¬ (15 : Int) < (N : Int) := by omega
  have HRl := Lib.hid hRl
  have HK := Lib.hid hK
  clear hRl hK
  clear hN hlen hm
  go_enter Tryd.func25, Tryd.ntmps25
  go_upto_region 1 with fail
  have BR := box_alloc w 0 0 24
  have HB := below_alloc (Below.refl w.heap.size w) (Nat.le_refl _) (Obj.cells #[.int .i64 0, .int .i64 0] 24)
  generalize (w.alloc (Obj.cells #[.int .i64 0, .int .i64 0] 24)) = W0 at *
  obtain ⟨f1, f2, f3, f4, f5⟩ := id BR
  go_wp2_with fail
  refine (C.out _).mono ?_
  rintro e w' ⟨rfl, rfl⟩
  go_upto_region 10 with fail
  generalize s.extract 1 (1 + N) = X at *
  generalize s.extract (1 + N) s.size = R at *
  have hX1 : X.size ≤ 15 := by have := hsX.out; omega
  have hR1 : R.size ≤ 1000 := by have := hsR.out; omega
  have hRs : R.size = u.length + 1 := by rw [Lib.size_eq, HRl.out, List.length_cons]
  have hR0 : 0 < R.size := by omega
  have hR0' : (0 : Int) < (R.size : Int) := by omega
  have hRc : R[0]'hR0 = c := by
    have e : R[0]'hR0 = R.data.toList[0]'(by rw [← Lib.size_eq]; exact hR0) := rfl
    rw [e]; simp only [HRl.out, List.getElem_cons_zero]
  have DR := Lib.hid (fun w => digits_at R 1 w (by omega) (by omega))
  rw [HRl.out, List.drop_succ_cons, List.drop_zero, HK.out] at DR
  have hKl := lead_le u
  rw [HK.out] at hKl
  have c47 : (((R[0]'hR0).toNat : Int) == 47) = true := by rw [hRc]; rw [beq_iff_eq]; omega
  have c46 : (((R[0]'hR0).toNat : Int) != 46) = true := by rw [hRc]; rw [bne_iff_ne]; omega
  have k1 : (K : Int) < 1 := by omega
  clear hc hk
  clear hRs hRc
  go_wp2_with fail
  refine (DR.out _).mono ?_
  rintro e w' ⟨rfl, rfl⟩
  go_wp2_with fail
  all_goals exact bodyPost_ret (v := .tuple #[rat 0 0, .int .i64 2]) (by simp [*, results, Tryd.results25, go_sem]) rfl ⟨rfl, (by repeat (first | assumption | refine Below.setCell ?_ (by first | omega | (simp <;> omega)) _))⟩

set_option maxHeartbeats 4000000 in
set_option maxRecDepth 100000 in
theorem rpa_M_b2_47 (s : ByteArray) (w : World) (hs : s.size ≤ 1000) (h0 : 0 < s.size) (hm : (s[0]'h0).toNat = 45) (N : Nat) (hN : lead (s.data.toList.drop 1) = N) (h1 : 1 ≤ N) (h15 : N ≤ 15) (c : UInt8) (u : List UInt8) (hRl : (s.extract (1 + N) s.size).data.toList = c :: u) (K : Nat) (hK : lead u = K) (hc : c.toNat = 47) (hk : 1 ≤ K) (hk2 : 1 + K < u.length + 1) :
    Calls Tryd.prog 25 #[.string s] w fun e w' => e = .returned (.tuple #[rat 0 0, .int .i64 2]) ∧ Below w.heap.size w w' := by
  have C := Lib.hid (fun w => digits_at s 1 w (by omega) (by omega))
  rw [hN] at C
  have b0 : (((s[0]'h0).toNat : Int) == 45) = true := by rw [beq_iff_eq]; omega
  have h0' : (0 : Int) < (s.size : Int) := by omega
  have hlen := lead_le (s.data.toList.drop 1)
  rw [hN, List.length_drop, ← Lib.size_eq] at hlen
  have hle : 1 + N ≤ s.size := by omega
  have hsX := Lib.hid (show (s.extract 1 (1 + N)).size = N from by rw [ByteArray.size_extract]; omega)
  have hsR := Lib.hid (show (s.extract (1 + N) s.size).size = s.size - (1 + N) from by rw [ByteArray.size_extract]; omega)
  have q1 : ¬ (N : Int) < 1 := by omega
  have q2 : ¬ (15 : Int) < (N : Int) := by omega
  have HRl := Lib.hid hRl
  have HK := Lib.hid hK
  clear hRl hK
  clear hN hlen hm
  go_enter Tryd.func25, Tryd.ntmps25
  go_upto_region 1 with fail
  have BR := box_alloc w 0 0 24
  have HB := below_alloc (Below.refl w.heap.size w) (Nat.le_refl _) (Obj.cells #[.int .i64 0, .int .i64 0] 24)
  generalize (w.alloc (Obj.cells #[.int .i64 0, .int .i64 0] 24)) = W0 at *
  obtain ⟨f1, f2, f3, f4, f5⟩ := id BR
  go_wp2_with fail
  refine (C.out _).mono ?_
  rintro e w' ⟨rfl, rfl⟩
  go_upto_region 10 with fail
  generalize s.extract 1 (1 + N) = X at *
  generalize s.extract (1 + N) s.size = R at *
  have hX1 : X.size ≤ 15 := by have := hsX.out; omega
  have hR1 : R.size ≤ 1000 := by have := hsR.out; omega
  have hRs : R.size = u.length + 1 := by rw [Lib.size_eq, HRl.out, List.length_cons]
  have hR0 : 0 < R.size := by omega
  have hR0' : (0 : Int) < (R.size : Int) := by omega
  have hRc : R[0]'hR0 = c := by
    have e : R[0]'hR0 = R.data.toList[0]'(by rw [← Lib.size_eq]; exact hR0) := rfl
    rw [e]; simp only [HRl.out, List.getElem_cons_zero]
  have DR := Lib.hid (fun w => digits_at R 1 w (by omega) (by omega))
  rw [HRl.out, List.drop_succ_cons, List.drop_zero, HK.out] at DR
  have hKl := lead_le u
  rw [HK.out] at hKl
  have c47 : (((R[0]'hR0).toNat : Int) == 47) = true := by rw [hRc]; rw [beq_iff_eq]; omega
  have c46 : (((R[0]'hR0).toNat : Int) != 46) = true := by rw [hRc]; rw [bne_iff_ne]; omega
  have k1 : ¬ (K : Int) < 1 := by omega
  have k2 : 1 + (K : Int) < (R.size : Int) := by omega
  clear hc hk hk2
  clear hRs hRc
  go_wp2_with fail
  refine (DR.out _).mono ?_
  rintro e w' ⟨rfl, rfl⟩
  go_wp2_with fail
  all_goals exact bodyPost_ret (v := .tuple #[rat 0 0, .int .i64 2]) (by simp [*, results, Tryd.results25, go_sem]) rfl ⟨rfl, (by repeat (first | assumption | refine Below.setCell ?_ (by first | omega | (simp <;> omega)) _))⟩

set_option maxHeartbeats 4000000 in
set_option maxRecDepth 100000 in
theorem rpa_M_b1_46 (s : ByteArray) (w : World) (hs : s.size ≤ 1000) (h0 : 0 < s.size) (hm : (s[0]'h0).toNat = 45) (N : Nat) (hN : lead (s.data.toList.drop 1) = N) (h1 : 1 ≤ N) (h15 : N ≤ 15) (c : UInt8) (u : List UInt8) (hRl : (s.extract (1 + N) s.size).data.toList = c :: u) (K : Nat) (hK : lead u = K) (hc : c.toNat = 46) (hk : K < 1) :
    Calls Tryd.prog 25 #[.string s] w fun e w' => e = .returned (.tuple #[rat 0 0, .int .i64 2]) ∧ Below w.heap.size w w' := by
  have C := Lib.hid (fun w => digits_at s 1 w (by omega) (by omega))
  rw [hN] at C
  have b0 : (((s[0]'h0).toNat : Int) == 45) = true := by rw [beq_iff_eq]; omega
  have h0' : (0 : Int) < (s.size : Int) := by omega
  have hlen := lead_le (s.data.toList.drop 1)
  rw [hN, List.length_drop, ← Lib.size_eq] at hlen
  have hle : 1 + N ≤ s.size := by omega
  have hsX := Lib.hid (show (s.extract 1 (1 + N)).size = N from by rw [ByteArray.size_extract]; omega)
  have hsR := Lib.hid (show (s.extract (1 + N) s.size).size = s.size - (1 + N) from by rw [ByteArray.size_extract]; omega)
  have q1 : ¬ (N : Int) < 1 := by omega
  have q2 : ¬ (15 : Int) < (N : Int) := by omega
  have HRl := Lib.hid hRl
  have HK := Lib.hid hK
  clear hRl hK
  clear hN hlen hm
  go_enter Tryd.func25, Tryd.ntmps25
  go_upto_region 1 with fail
  have BR := box_alloc w 0 0 24
  have HB := below_alloc (Below.refl w.heap.size w) (Nat.le_refl _) (Obj.cells #[.int .i64 0, .int .i64 0] 24)
  generalize (w.alloc (Obj.cells #[.int .i64 0, .int .i64 0] 24)) = W0 at *
  obtain ⟨f1, f2, f3, f4, f5⟩ := id BR
  go_wp2_with fail
  refine (C.out _).mono ?_
  rintro e w' ⟨rfl, rfl⟩
  go_upto_region 10 with fail
  generalize s.extract 1 (1 + N) = X at *
  generalize s.extract (1 + N) s.size = R at *
  have hX1 : X.size ≤ 15 := by have := hsX.out; omega
  have hR1 : R.size ≤ 1000 := by have := hsR.out; omega
  have hRs : R.size = u.length + 1 := by rw [Lib.size_eq, HRl.out, List.length_cons]
  have hR0 : 0 < R.size := by omega
  have hR0' : (0 : Int) < (R.size : Int) := by omega
  have hRc : R[0]'hR0 = c := by
    have e : R[0]'hR0 = R.data.toList[0]'(by rw [← Lib.size_eq]; exact hR0) := rfl
    rw [e]; simp only [HRl.out, List.getElem_cons_zero]
  have DR := Lib.hid (fun w => digits_at R 1 w (by omega) (by omega))
  rw [HRl.out, List.drop_succ_cons, List.drop_zero, HK.out] at DR
  have hKl := lead_le u
  rw [HK.out] at hKl
  have c47 : (((R[0]'hR0).toNat : Int) == 47) = false := by rw [hRc]; rw [beq_eq_false_iff_ne]; omega
  have c46 : (((R[0]'hR0).toNat : Int) != 46) = false := by rw [hRc]; rw [bne_eq_false_iff_eq]; omega
  have k1 : (K : Int) < 1 := by omega
  clear hc hk
  clear hRs hRc
  go_wp2_with fail
  refine (DR.out _).mono ?_
  rintro e w' ⟨rfl, rfl⟩
  go_wp2_with fail
  all_goals exact bodyPost_ret (v := .tuple #[rat 0 0, .int .i64 2]) (by simp [*, results, Tryd.results25, go_sem]) rfl ⟨rfl, (by repeat (first | assumption | refine Below.setCell ?_ (by first | omega | (simp <;> omega)) _))⟩

set_option maxHeartbeats 4000000 in
set_option maxRecDepth 100000 in
theorem rpa_M_b2_46 (s : ByteArray) (w : World) (hs : s.size ≤ 1000) (h0 : 0 < s.size) (hm : (s[0]'h0).toNat = 45) (N : Nat) (hN : lead (s.data.toList.drop 1) = N) (h1 : 1 ≤ N) (h15 : N ≤ 15) (c : UInt8) (u : List UInt8) (hRl : (s.extract (1 + N) s.size).data.toList = c :: u) (K : Nat) (hK : lead u = K) (hc : c.toNat = 46) (hk : 1 ≤ K) (hk2 : 1 + K < u.length + 1) :
    Calls Tryd.prog 25 #[.string s] w fun e w' => e = .returned (.tuple #[rat 0 0, .int .i64 2]) ∧ Below w.heap.size w w' := by
  have C := Lib.hid (fun w => digits_at s 1 w (by omega) (by omega))
  rw [hN] at C
  have b0 : (((s[0]'h0).toNat : Int) == 45) = true := by rw [beq_iff_eq]; omega
  have h0' : (0 : Int) < (s.size : Int) := by omega
  have hlen := lead_le (s.data.toList.drop 1)
  rw [hN, List.length_drop, ← Lib.size_eq] at hlen
  have hle : 1 + N ≤ s.size := by omega
  have hsX := Lib.hid (show (s.extract 1 (1 + N)).size = N from by rw [ByteArray.size_extract]; omega)
  have hsR := Lib.hid (show (s.extract (1 + N) s.size).size = s.size - (1 + N) from by rw [ByteArray.size_extract]; omega)
  have q1 : ¬ (N : Int) < 1 := by omega
  have q2 : ¬ (15 : Int) < (N : Int) := by omega
  have HRl := Lib.hid hRl
  have HK := Lib.hid hK
  clear hRl hK
  clear hN hlen hm
  go_enter Tryd.func25, Tryd.ntmps25
  go_upto_region 1 with fail
  have BR := box_alloc w 0 0 24
  have HB := below_alloc (Below.refl w.heap.size w) (Nat.le_refl _) (Obj.cells #[.int .i64 0, .int .i64 0] 24)
  generalize (w.alloc (Obj.cells #[.int .i64 0, .int .i64 0] 24)) = W0 at *
  obtain ⟨f1, f2, f3, f4, f5⟩ := id BR
  go_wp2_with fail
  refine (C.out _).mono ?_
  rintro e w' ⟨rfl, rfl⟩
  go_upto_region 10 with fail
  generalize s.extract 1 (1 + N) = X at *
  generalize s.extract (1 + N) s.size = R at *
  have hX1 : X.size ≤ 15 := by have := hsX.out; omega
  have hR1 : R.size ≤ 1000 := by have := hsR.out; omega
  have hRs : R.size = u.length + 1 := by rw [Lib.size_eq, HRl.out, List.length_cons]
  have hR0 : 0 < R.size := by omega
  have hR0' : (0 : Int) < (R.size : Int) := by omega
  have hRc : R[0]'hR0 = c := by
    have e : R[0]'hR0 = R.data.toList[0]'(by rw [← Lib.size_eq]; exact hR0) := rfl
    rw [e]; simp only [HRl.out, List.getElem_cons_zero]
  have DR := Lib.hid (fun w => digits_at R 1 w (by omega) (by omega))
  rw [HRl.out, List.drop_succ_cons, List.drop_zero, HK.out] at DR
  have hKl := lead_le u
  rw [HK.out] at hKl
  have c47 : (((R[0]'hR0).toNat : Int) == 47) = false := by rw [hRc]; rw [beq_eq_false_iff_ne]; omega
  have c46 : (((R[0]'hR0).toNat : Int) != 46) = false := by rw [hRc]; rw [bne_eq_false_iff_eq]; omega
  have k1 : ¬ (K : Int) < 1 := by omega
  have k2 : 1 + (K : Int) < (R.size : Int) := by omega
  clear hc hk hk2
  clear hRs hRc
  go_wp2_with fail
  refine (DR.out _).mono ?_
  rintro e w' ⟨rfl, rfl⟩
  go_wp2_with fail
  all_goals exact bodyPost_ret (v := .tuple #[rat 0 0, .int .i64 2]) (by simp [*, results, Tryd.results25, go_sem]) rfl ⟨rfl, (by repeat (first | assumption | refine Below.setCell ?_ (by first | omega | (simp <;> omega)) _))⟩

set_option maxHeartbeats 4000000 in
set_option maxRecDepth 100000 in
theorem rpa_M_b3_47 (s : ByteArray) (w : World) (hs : s.size ≤ 1000) (h0 : 0 < s.size) (hm : (s[0]'h0).toNat = 45) (N : Nat) (hN : lead (s.data.toList.drop 1) = N) (h1 : 1 ≤ N) (h15 : N ≤ 15) (c : UInt8) (u : List UInt8) (hRl : (s.extract (1 + N) s.size).data.toList = c :: u) (K : Nat) (hK : lead u = K) (hc : c.toNat = 47) (hk : 7 < K) (hk2 : ¬ 1 + K < u.length + 1) :
    Calls Tryd.prog 25 #[.string s] w fun e w' => e = .returned (.tuple #[rat 0 0, .int .i64 2]) ∧ Below w.heap.size w w' := by
  have C := Lib.hid (fun w => digits_at s 1 w (by omega) (by omega))
  rw [hN] at C
  have b0 : (((s[0]'h0).toNat : Int) == 45) = true := by rw [beq_iff_eq]; omega
  have h0' : (0 : Int) < (s.size : Int) := by omega
  have hlen := lead_le (s.data.toList.drop 1)
  rw [hN, List.length_drop, ← Lib.size_eq] at hlen
  have hle : 1 + N ≤ s.size := by omega
  have hsX := Lib.hid (show (s.extract 1 (1 + N)).size = N from by rw [ByteArray.size_extract]; omega)
  have hsR := Lib.hid (show (s.extract (1 + N) s.size).size = s.size - (1 + N) from by rw [ByteArray.size_extract]; omega)
  have q1 : ¬ (N : Int) < 1 := by omega
  have q2 : ¬ (15 : Int) < (N : Int) := by omega
  have HRl := Lib.hid hRl
  have HK := Lib.hid hK
  clear hRl hK
  clear hN hlen hm
  go_enter Tryd.func25, Tryd.ntmps25
  go_upto_region 1 with fail
  have BR := box_alloc w 0 0 24
  have HB := below_alloc (Below.refl w.heap.size w) (Nat.le_refl _) (Obj.cells #[.int .i64 0, .int .i64 0] 24)
  generalize (w.alloc (Obj.cells #[.int .i64 0, .int .i64 0] 24)) = W0 at *
  obtain ⟨f1, f2, f3, f4, f5⟩ := id BR
  go_wp2_with fail
  refine (C.out _).mono ?_
  rintro e w' ⟨rfl, rfl⟩
  go_upto_region 10 with fail
  generalize s.extract 1 (1 + N) = X at *
  generalize s.extract (1 + N) s.size = R at *
  have hX1 : X.size ≤ 15 := by have := hsX.out; omega
  have hR1 : R.size ≤ 1000 := by have := hsR.out; omega
  have hRs : R.size = u.length + 1 := by rw [Lib.size_eq, HRl.out, List.length_cons]
  have hR0 : 0 < R.size := by omega
  have hR0' : (0 : Int) < (R.size : Int) := by omega
  have hRc : R[0]'hR0 = c := by
    have e : R[0]'hR0 = R.data.toList[0]'(by rw [← Lib.size_eq]; exact hR0) := rfl
    rw [e]; simp only [HRl.out, List.getElem_cons_zero]
  have DR := Lib.hid (fun w => digits_at R 1 w (by omega) (by omega))
  rw [HRl.out, List.drop_succ_cons, List.drop_zero, HK.out] at DR
  have hKl := lead_le u
  rw [HK.out] at hKl
  have c47 : (((R[0]'hR0).toNat : Int) == 47) = true := by rw [hRc]; rw [beq_iff_eq]; omega
  have c46 : (((R[0]'hR0).toNat : Int) != 46) = true := by rw [hRc]; rw [bne_iff_ne]; omega
  have k1 : ¬ (K : Int) < 1 := by omega
  have k2 : ¬ 1 + (K : Int) < (R.size : Int) := by omega
  have k3 : (7 : Int) < (K : Int) := by omega
  clear hc hk hk2
  clear hRs hRc
  go_wp2_with fail
  refine (DR.out _).mono ?_
  rintro e w' ⟨rfl, rfl⟩
  go_wp2_with fail
  all_goals exact bodyPost_ret (v := .tuple #[rat 0 0, .int .i64 2]) (by simp [*, results, Tryd.results25, go_sem]) rfl ⟨rfl, (by repeat (first | assumption | refine Below.setCell ?_ (by first | omega | (simp <;> omega)) _))⟩

set_option maxHeartbeats 4000000 in
set_option maxRecDepth 100000 in
theorem rpa_M_b3_46 (s : ByteArray) (w : World) (hs : s.size ≤ 1000) (h0 : 0 < s.size) (hm : (s[0]'h0).toNat = 45) (N : Nat) (hN : lead (s.data.toList.drop 1) = N) (h1 : 1 ≤ N) (h15 : N ≤ 15) (c : UInt8) (u : List UInt8) (hRl : (s.extract (1 + N) s.size).data.toList = c :: u) (K : Nat) (hK : lead u = K) (hc : c.toNat = 46) (hk : 6 < K) (hk2 : ¬ 1 + K < u.length + 1) :
    Calls Tryd.prog 25 #[.string s] w fun e w' => e = .returned (.tuple #[rat 0 0, .int .i64 2]) ∧ Below w.heap.size w w' := by
  have C := Lib.hid (fun w => digits_at s 1 w (by omega) (by omega))
  rw [hN] at C
  have b0 : (((s[0]'h0).toNat : Int) == 45) = true := by rw [beq_iff_eq]; omega
  have h0' : (0 : Int) < (s.size : Int) := by omega
  have hlen := lead_le (s.data.toList.drop 1)
  rw [hN, List.length_drop, ← Lib.size_eq] at hlen
  have hle : 1 + N ≤ s.size := by omega
  have hsX := Lib.hid (show (s.extract 1 (1 + N)).size = N from by rw [ByteArray.size_extract]; omega)
  have hsR := Lib.hid (show (s.extract (1 + N) s.size).size = s.size - (1 + N) from by rw [ByteArray.size_extract]; omega)
  have q1 : ¬ (N : Int) < 1 := by omega
  have q2 : ¬ (15 : Int) < (N : Int) := by omega
  have HRl := Lib.hid hRl
  have HK := Lib.hid hK
  clear hRl hK
  clear hN hlen hm
  go_enter Tryd.func25, Tryd.ntmps25
  go_upto_region 1 with fail
  have BR := box_alloc w 0 0 24
  have HB := below_alloc (Below.refl w.heap.size w) (Nat.le_refl _) (Obj.cells #[.int .i64 0, .int .i64 0] 24)
  generalize (w.alloc (Obj.cells #[.int .i64 0, .int .i64 0] 24)) = W0 at *
  obtain ⟨f1, f2, f3, f4, f5⟩ := id BR
  go_wp2_with fail
  refine (C.out _).mono ?_
  rintro e w' ⟨rfl, rfl⟩
  go_upto_region 10 with fail
  generalize s.extract 1 (1 + N) = X at *
  generalize s.extract (1 + N) s.size = R at *
  have hX1 : X.size ≤ 15 := by have := hsX.out; omega
  have hR1 : R.size ≤ 1000 := by have := hsR.out; omega
  have hRs : R.size = u.length + 1 := by rw [Lib.size_eq, HRl.out, List.length_cons]
  have hR0 : 0 < R.size := by omega
  have hR0' : (0 : Int) < (R.size : Int) := by omega
  have hRc : R[0]'hR0 = c := by
    have e : R[0]'hR0 = R.data.toList[0]'(by rw [← Lib.size_eq]; exact hR0) := rfl
    rw [e]; simp only [HRl.out, List.getElem_cons_zero]
  have DR := Lib.hid (fun w => digits_at R 1 w (by omega) (by omega))
  rw [HRl.out, List.drop_succ_cons, List.drop_zero, HK.out] at DR
  have hKl := lead_le u
  rw [HK.out] at hKl
  have c47 : (((R[0]'hR0).toNat : Int) == 47) = false := by rw [hRc]; rw [beq_eq_false_iff_ne]; omega
  have c46 : (((R[0]'hR0).toNat : Int) != 46) = false := by rw [hRc]; rw [bne_eq_false_iff_eq]; omega
  have k1 : ¬ (K : Int) < 1 := by omega
  have k2 : ¬ 1 + (K : Int) < (R.size : Int) := by omega
  have k3 : (6 : Int) < (K : Int) := by omega
  clear hc hk hk2
  clear hRs hRc
  go_wp2_with fail
  refine (DR.out _).mono ?_
  rintro e w' ⟨rfl, rfl⟩
  go_wp2_with fail
  all_goals exact bodyPost_ret (v := .tuple #[rat 0 0, .int .i64 2]) (by simp [*, results, Tryd.results25, go_sem]) rfl ⟨rfl, (by repeat (first | assumption | refine Below.setCell ?_ (by first | omega | (simp <;> omega)) _))⟩

end Go.Proofs.YtjcdjmjebbllkaaDoor
