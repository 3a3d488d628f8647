/- Parse of the reference: the walk, way by way (part DM). -/
import Derived.Test.YtjcdjmjebbllkaaDoorRpaA
import Derived.Deep.DrawnRows
import Derived.Deep.DeepCutAuto
namespace Go.Proofs.YtjcdjmjebbllkaaDoor
open Go.RowKit
attribute [local go_sem] le_add_one'

set_option maxHeartbeats 4000000 in
set_option maxRecDepth 100000 in
theorem rpa_M_d5 (s : ByteArray) (w : World) (hs : s.size ≤ 1000) (h0 : 0 < s.size) (hm : (s[0]'h0).toNat = 45) (N : Nat) (hN : lead (s.data.toList.drop 1) = N) (h1 : 1 ≤ N) (h15 : N ≤ 15) (c : UInt8) (u : List UInt8) (hRl : (s.extract (1 + N) s.size).data.toList = c :: u) (K : Nat) (hK : lead u = K) (hc : c.toNat = 46) (hk : 1 ≤ K) (hk6 : K ≤ 6) (hk2 : ¬ 1 + K < u.length + 1) (xl : List UInt8) (hXl : (s.extract 1 (1 + N)).data.toList = xl) (hXd : (xl ++ u).all isD = true) (v : Int) (hv : (valS 0 (xl ++ u) : Int) = v) (D : Nat) (hD : 10 ^ K = D) (hv5 : 4600000000000000000 ≤ v) :
    Calls Tryd.prog 25 #[.string s] w fun e w' => e = .returned (.tuple #[rat 0 0, .int .i64 5]) ∧ Below w.heap.size w w' := by
  have C := Lib.hid (fun w => digits_at s 1 w (by omega) (by omega))
  rw [hN] at C
  have b0 : (((s[0]'h0).toNat : Int) == 45) = true := by rw [beq_iff_eq]; omega
  have h0' : (0 : Int) < (s.size : Int) := by omega
  have hlen := lead_le (s.data.toList.drop 1)
  rw [hN, List.length_drop, ← Lib.size_eq] at hlen
  have hle : 1 + N ≤ s.size := by omega
  have hsX := Lib.hid (show (s.extract 1 (1 + N)).size = N from by rw [ByteArray.size_extract]; omega)
  have hsR := Lib.hid (show (s.extract (1 + N) s.size).size = s.size - (1 + N) from by rw [ByteArray.size_extract]; omega)
  have q1 : ¬ (N : Int) < 1 := by omega
  have q2 : ¬ (15 : Int) < (N : Int) := by omega
  have HXl := Lib.hid hXl
  have HXd := Lib.hid hXd
  have HV := Lib.hid hv
  have HD := Lib.hid hD
  have hD6 := pow_6 hk6
  have hD1 : 1 ≤ 10 ^ K := Nat.one_le_pow _ _ (by decide)
  rw [hD] at hD6 hD1
  clear hXl hXd hv hD
  have HV5 := Lib.hid hv5
  clear hv5
  have HRl := Lib.hid hRl
  have HK := Lib.hid hK
  clear hRl hK
  clear hN hlen hm
  go_enter Tryd.func25, Tryd.ntmps25
  go_upto_region 1 with fail
  have BR := box_alloc w 0 0 24
  have HB := below_alloc (Below.refl w.heap.size w) (Nat.le_refl _) (Obj.cells #[.int .i64 0, .int .i64 0] 24)
  generalize (w.alloc (Obj.cells #[.int .i64 0, .int .i64 0] 24)) = W0 at *
  obtain ⟨f1, f2, f3, f4, f5⟩ := id BR
  go_wp2_with fail
  refine (C.out _).mono ?_
  rintro e w' ⟨rfl, rfl⟩
  go_upto_region 10 with fail
  generalize s.extract 1 (1 + N) = X at *
  generalize s.extract (1 + N) s.size = R at *
  have hX1 : X.size ≤ 15 := by have := hsX.out; omega
  have hR1 : R.size ≤ 1000 := by have := hsR.out; omega
  have hRs : R.size = u.length + 1 := by rw [Lib.size_eq, HRl.out, List.length_cons]
  have hR0 : 0 < R.size := by omega
  have hR0' : (0 : Int) < (R.size : Int) := by omega
  have hRc : R[0]'hR0 = c := by
    have e : R[0]'hR0 = R.data.toList[0]'(by rw [← Lib.size_eq]; exact hR0) := rfl
    rw [e]; simp only [HRl.out, List.getElem_cons_zero]
  have DR := Lib.hid (fun w => digits_at R 1 w (by omega) (by omega))
  rw [HRl.out, List.drop_succ_cons, List.drop_zero, HK.out] at DR
  have hKl := lead_le u
  rw [HK.out] at hKl
  have c47 : (((R[0]'hR0).toNat : Int) == 47) = false := by rw [hRc]; rw [beq_eq_false_iff_ne]; omega
  have c46 : (((R[0]'hR0).toNat : Int) != 46) = false := by rw [hRc]; rw [bne_eq_false_iff_eq]; omega
  have k1 : ¬ (K : Int) < 1 := by omega
  have k2 : ¬ 1 + (K : Int) < (R.size : Int) := by omega
  have k3 : ¬ (6 : Int) < (K : Int) := by omega
  have hU : (R.extract 1 R.size).data.toList = u := by
    rw [ext_list', HRl.out, List.drop_succ_cons, List.drop_zero, List.take_of_length_le (by omega)]
  have hUs : (R.extract 1 R.size).size ≤ 1000 := by rw [Lib.size_eq, hU]; omega
  have hXU : (X ++ R.extract 1 R.size).data.toList = xl ++ u := by
    have e : (X ++ R.extract 1 R.size).data.toList = X.data.toList ++ (R.extract 1 R.size).data.toList := by simp
    rw [e, HXl.out, hU]
  have hXUs : (X ++ R.extract 1 R.size).size ≤ 1000000 := by
    rw [Lib.size_eq, hXU, List.length_append]
    have : X.size = xl.length := by rw [Lib.size_eq, HXl.out]
    omega
  have V := Lib.hid (fun w => value_any (X ++ R.extract 1 R.size) w hXUs (by rw [hXU]; exact HXd.out))
  rw [hXU, HV.out] at V
  have hadd := fun w => run_string_add_sum (P := Tryd.prog) w X (R.extract 1 R.size) (by omega)
  clear hXU hU hUs hc hk hk2
  clear hRs hRc
  go_wp2_with fail
  refine (DR.out _).mono ?_
  rintro e w' ⟨rfl, rfl⟩
  go_wp2_with fail
  go_loop [8, 11] (fun d i => ∃ k : Nat, k ≤ K ∧ d = .int .i64 ((10 ^ k : Nat) : Int) ∧ i = .int .i64 (k : Int)) (fun _ i => K - (intOf i).toNat)
  case atStart => exact ⟨0, Nat.zero_le _, rfl, rfl⟩
  case round =>
    obtain ⟨k, hk, rfl, rfl⟩ := hrel
    by_cases hlt : k < K
    · have hp : 10 ^ k ≤ 100000 := by
        have h1 : 10 ^ k ≤ 10 ^ 5 := pow10_le (a := k) (b := 5) (by omega)
        rw [show (10 : Nat) ^ 5 = 100000 from by decide] at h1
        exact h1
      have HP := Lib.hid (show 10 ^ (k + 1) = 10 ^ k * 10 from Nat.pow_succ ..)
      generalize 10 ^ k = P at *
      go_wp2_with fail
      refine ⟨⟨k + 1, by omega, ?_, by go_num⟩, by simp [intOf]; omega⟩
      rw [HP.out]; exact congrArg (Value.int IntKind.i64) (by omega)
    · obtain rfl : k = K := by omega
      rw [HD.out]
      have d0 : ((D : Int) == 0) = false := by rw [beq_eq_false_iff_ne]; omega
      go_wp2_with fail
      refine (V.out _).mono ?_
      rintro e w' ⟨rfl, rfl⟩
      have hv5 := HV5.out
      go_wp2_with fail
      all_goals exact bodyPost_ret (v := .tuple #[rat 0 0, .int .i64 5]) (by simp [*, results, Tryd.results25, go_sem]) rfl ⟨rfl, (by repeat (first | assumption | refine Below.setCell ?_ (by first | omega | (simp <;> omega)) _))⟩

set_option maxHeartbeats 4000000 in
set_option maxRecDepth 100000 in
theorem rpa_M_d1 (s : ByteArray) (w : World) (hs : s.size ≤ 1000) (h0 : 0 < s.size) (hm : (s[0]'h0).toNat = 45) (N : Nat) (hN : lead (s.data.toList.drop 1) = N) (h1 : 1 ≤ N) (h15 : N ≤ 15) (c : UInt8) (u : List UInt8) (hRl : (s.extract (1 + N) s.size).data.toList = c :: u) (K : Nat) (hK : lead u = K) (hc : c.toNat = 46) (hk : 1 ≤ K) (hk6 : K ≤ 6) (hk2 : ¬ 1 + K < u.length + 1) (xl : List UInt8) (hXl : (s.extract 1 (1 + N)).data.toList = xl) (hXd : (xl ++ u).all isD = true) (v : Int) (hv : (valS 0 (xl ++ u) : Int) = v) (D : Nat) (hD : 10 ^ K = D) (hv0 : 0 ≤ v) (hv2 : v < 4600000000000000000) :
    Calls Tryd.prog 25 #[.string s] w fun e w' => e = .returned (.tuple #[rat (newN (-v) (D : Int)) (newD (-v) (D : Int)), .int .i64 (newE (-v) (D : Int))]) ∧ Below w.heap.size w w' := by
  have C := Lib.hid (fun w => digits_at s 1 w (by omega) (by omega))
  rw [hN] at C
  have b0 : (((s[0]'h0).toNat : Int) == 45) = true := by rw [beq_iff_eq]; omega
  have h0' : (0 : Int) < (s.size : Int) := by omega
  have hlen := lead_le (s.data.toList.drop 1)
  rw [hN, List.length_drop, ← Lib.size_eq] at hlen
  have hle : 1 + N ≤ s.size := by omega
  have hsX := Lib.hid (show (s.extract 1 (1 + N)).size = N from by rw [ByteArray.size_extract]; omega)
  have hsR := Lib.hid (show (s.extract (1 + N) s.size).size = s.size - (1 + N) from by rw [ByteArray.size_extract]; omega)
  have q1 : ¬ (N : Int) < 1 := by omega
  have q2 : ¬ (15 : Int) < (N : Int) := by omega
  have HXl := Lib.hid hXl
  have HXd := Lib.hid hXd
  have HV := Lib.hid hv
  have HD := Lib.hid hD
  have hD6 := pow_6 hk6
  have hD1 : 1 ≤ 10 ^ K := Nat.one_le_pow _ _ (by decide)
  rw [hD] at hD6 hD1
  clear hXl hXd hv hD
  have OF := Lib.hid (fun w => of_any (-v) (D : Int) w (by omega) (by omega) (by omega) (by omega) (by omega))
  have HV2 := Lib.hid hv2
  clear hv2
  have HRl := Lib.hid hRl
  have HK := Lib.hid hK
  clear hRl hK
  clear hN hlen hm
  go_enter Tryd.func25, Tryd.ntmps25
  go_upto_region 1 with fail
  have BR := box_alloc w 0 0 24
  have HB := below_alloc (Below.refl w.heap.size w) (Nat.le_refl _) (Obj.cells #[.int .i64 0, .int .i64 0] 24)
  generalize (w.alloc (Obj.cells #[.int .i64 0, .int .i64 0] 24)) = W0 at *
  obtain ⟨f1, f2, f3, f4, f5⟩ := id BR
  go_wp2_with fail
  refine (C.out _).mono ?_
  rintro e w' ⟨rfl, rfl⟩
  go_upto_region 10 with fail
  generalize s.extract 1 (1 + N) = X at *
  generalize s.extract (1 + N) s.size = R at *
  have hX1 : X.size ≤ 15 := by have := hsX.out; omega
  have hR1 : R.size ≤ 1000 := by have := hsR.out; omega
  have hRs : R.size = u.length + 1 := by rw [Lib.size_eq, HRl.out, List.length_cons]
  have hR0 : 0 < R.size := by omega
  have hR0' : (0 : Int) < (R.size : Int) := by omega
  have hRc : R[0]'hR0 = c := by
    have e : R[0]'hR0 = R.data.toList[0]'(by rw [← Lib.size_eq]; exact hR0) := rfl
    rw [e]; simp only [HRl.out, List.getElem_cons_zero]
  have DR := Lib.hid (fun w => digits_at R 1 w (by omega) (by omega))
  rw [HRl.out, List.drop_succ_cons, List.drop_zero, HK.out] at DR
  have hKl := lead_le u
  rw [HK.out] at hKl
  have c47 : (((R[0]'hR0).toNat : Int) == 47) = false := by rw [hRc]; rw [beq_eq_false_iff_ne]; omega
  have c46 : (((R[0]'hR0).toNat : Int) != 46) = false := by rw [hRc]; rw [bne_eq_false_iff_eq]; omega
  have k1 : ¬ (K : Int) < 1 := by omega
  have k2 : ¬ 1 + (K : Int) < (R.size : Int) := by omega
  have k3 : ¬ (6 : Int) < (K : Int) := by omega
  have hU : (R.extract 1 R.size).data.toList = u := by
    rw [ext_list', HRl.out, List.drop_succ_cons, List.drop_zero, List.take_of_length_le (by omega)]
  have hUs : (R.extract 1 R.size).size ≤ 1000 := by rw [Lib.size_eq, hU]; omega
  have hXU : (X ++ R.extract 1 R.size).data.toList = xl ++ u := by
    have e : (X ++ R.extract 1 R.size).data.toList = X.data.toList ++ (R.extract 1 R.size).data.toList := by simp
    rw [e, HXl.out, hU]
  have hXUs : (X ++ R.extract 1 R.size).size ≤ 1000000 := by
    rw [Lib.size_eq, hXU, List.length_append]
    have : X.size = xl.length := by rw [Lib.size_eq, HXl.out]
    omega
  have V := Lib.hid (fun w => value_any (X ++ R.extract 1 R.size) w hXUs (by rw [hXU]; exact HXd.out))
  rw [hXU, HV.out] at V
  have hadd := fun w => run_string_add_sum (P := Tryd.prog) w X (R.extract 1 R.size) (by omega)
  clear hXU hU hUs hc hk hk2
  clear hRs hRc
  go_wp2_with fail
  refine (DR.out _).mono ?_
  rintro e w' ⟨rfl, rfl⟩
  go_wp2_with fail
  go_loop [8, 11] (fun d i => ∃ k : Nat, k ≤ K ∧ d = .int .i64 ((10 ^ k : Nat) : Int) ∧ i = .int .i64 (k : Int)) (fun _ i => K - (intOf i).toNat)
  case atStart => exact ⟨0, Nat.zero_le _, rfl, rfl⟩
  case round =>
    obtain ⟨k, hk, rfl, rfl⟩ := hrel
    by_cases hlt : k < K
    · have hp : 10 ^ k ≤ 100000 := by
        have h1 : 10 ^ k ≤ 10 ^ 5 := pow10_le (a := k) (b := 5) (by omega)
        rw [show (10 : Nat) ^ 5 = 100000 from by decide] at h1
        exact h1
      have HP := Lib.hid (show 10 ^ (k + 1) = 10 ^ k * 10 from Nat.pow_succ ..)
      generalize 10 ^ k = P at *
      go_wp2_with fail
      refine ⟨⟨k + 1, by omega, ?_, by go_num⟩, by simp [intOf]; omega⟩
      rw [HP.out]; exact congrArg (Value.int IntKind.i64) (by omega)
    · obtain rfl : k = K := by omega
      rw [HD.out]
      have d0 : ((D : Int) == 0) = false := by rw [beq_eq_false_iff_ne]; omega
      go_wp2_with fail
      refine (V.out _).mono ?_
      rintro e w' ⟨rfl, rfl⟩
      have hv' : v ≤ 4599999999999999999 := by have := HV2.out; omega
      have hv'' : ¬ 4600000000000000000 ≤ v := by omega
      go_wp2_with fail
      refine (OF.out _).mono ?_
      rintro e W9 ⟨rfl, hb⟩
      replace BR := BR.keep hb
      replace HB := HB.trans (hb.mono HB.size)
      clear hb f1 f2 f3 f4 f5
      obtain ⟨f1, f2, f3, f4, f5⟩ := id BR
      go_wp2_with fail
      all_goals exact bodyPost_ret (v := .tuple #[rat (newN (-v) (D : Int)) (newD (-v) (D : Int)), .int .i64 (newE (-v) (D : Int))]) (by simp [*, results, Tryd.results25, go_sem]) rfl ⟨rfl, (by repeat (first | assumption | refine Below.setCell ?_ (by first | omega | (simp <;> omega)) _))⟩

end Go.Proofs.YtjcdjmjebbllkaaDoor
