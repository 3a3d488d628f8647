/- Parse of the reference: the walk, way by way (part SP). -/
import Derived.Test.YtjcdjmjebbllkaaDoorRpaA
import Derived.Deep.DrawnRows
import Derived.Deep.DeepCutAuto
namespace Go.Proofs.YtjcdjmjebbllkaaDoor
open Go.RowKit
attribute [local go_sem] le_add_one'

set_option maxHeartbeats 4000000 in
set_option maxRecDepth 100000 in
theorem rpa_P_s0 (s : ByteArray) (w : World) (hs : s.size ≤ 1000) (h0 : 0 < s.size) (hm : ¬ (s[0]'h0).toNat = 45) (N : Nat) (hN : lead (s.data.toList.drop 0) = N) (h1 : 1 ≤ N) (h15 : N ≤ 15) (c : UInt8) (u : List UInt8) (hRl : (s.extract (N) s.size).data.toList = c :: u) (K : Nat) (hK : lead u = K) (hc : c.toNat = 47) (hk : 1 ≤ K) (hk7 : K ≤ 7) (hk2 : ¬ 1 + K < u.length + 1) (hud : u.all isD = true) (d : Int) (hd : (valS 0 u : Int) = d) (hd0 : d = 0) :
    Calls Tryd.prog 25 #[.string s] w fun e w' => e = .returned (.tuple #[rat 0 0, .int .i64 1]) ∧ Below w.heap.size w w' := by
  have C := Lib.hid (fun w => digits_at s 0 w (by omega) (by omega))
  rw [hN] at C
  have b0 : (((s[0]'h0).toNat : Int) == 45) = false := by rw [beq_eq_false_iff_ne]; omega
  have h0' : (0 : Int) < (s.size : Int) := by omega
  have hlen := lead_le (s.data.toList.drop 0)
  rw [hN, List.length_drop, ← Lib.size_eq] at hlen
  have hle : 0 + N ≤ s.size := by omega
  have hsX := Lib.hid (show (s.extract 0 (N)).size = N from by rw [ByteArray.size_extract]; omega)
  have hsR := Lib.hid (show (s.extract (N) s.size).size = s.size - (0 + N) from by rw [ByteArray.size_extract]; omega)
  have q1 : ¬ (N : Int) < 1 := by omega
  have q2 : ¬ (15 : Int) < (N : Int) := by omega
  have HUD := Lib.hid hud
  have HD := Lib.hid hd
  clear hud hd
  subst hd0
  have HRl := Lib.hid hRl
  have HK := Lib.hid hK
  clear hRl hK
  clear hN hlen hm
  go_enter Tryd.func25, Tryd.ntmps25
  go_upto_region 1 with fail
  have BR := box_alloc w 0 0 24
  have HB := below_alloc (Below.refl w.heap.size w) (Nat.le_refl _) (Obj.cells #[.int .i64 0, .int .i64 0] 24)
  generalize (w.alloc (Obj.cells #[.int .i64 0, .int .i64 0] 24)) = W0 at *
  obtain ⟨f1, f2, f3, f4, f5⟩ := id BR
  go_wp2_with fail
  refine (C.out _).mono ?_
  rintro e w' ⟨rfl, rfl⟩
  go_upto_region 10 with fail
  generalize s.extract 0 (N) = X at *
  generalize s.extract (N) s.size = R at *
  have hX1 : X.size ≤ 15 := by have := hsX.out; omega
  have hR1 : R.size ≤ 1000 := by have := hsR.out; omega
  have hRs : R.size = u.length + 1 := by rw [Lib.size_eq, HRl.out, List.length_cons]
  have hR0 : 0 < R.size := by omega
  have hR0' : (0 : Int) < (R.size : Int) := by omega
  have hRc : R[0]'hR0 = c := by
    have e : R[0]'hR0 = R.data.toList[0]'(by rw [← Lib.size_eq]; exact hR0) := rfl
    rw [e]; simp only [HRl.out, List.getElem_cons_zero]
  have DR := Lib.hid (fun w => digits_at R 1 w (by omega) (by omega))
  rw [HRl.out, List.drop_succ_cons, List.drop_zero, HK.out] at DR
  have hKl := lead_le u
  rw [HK.out] at hKl
  have c47 : (((R[0]'hR0).toNat : Int) == 47) = true := by rw [hRc]; rw [beq_iff_eq]; omega
  have c46 : (((R[0]'hR0).toNat : Int) != 46) = true := by rw [hRc]; rw [bne_iff_ne]; omega
  have k1 : ¬ (K : Int) < 1 := by omega
  have k2 : ¬ 1 + (K : Int) < (R.size : Int) := by omega
  have k3 : ¬ (7 : Int) < (K : Int) := by omega
  have hU : (R.extract 1 R.size).data.toList = u := by
    rw [ext_list', HRl.out, List.drop_succ_cons, List.drop_zero, List.take_of_length_le (by omega)]
  have hUs : (R.extract 1 R.size).size ≤ 1000 := by rw [Lib.size_eq, hU]; omega
  have V2 := Lib.hid (fun w => value_any (R.extract 1 R.size) w (by omega) (by rw [hU]; exact HUD.out))
  rw [hU, HD.out] at V2
  clear hU hUs hc hk hk2 hk7
  clear hRs hRc
  go_wp2_with fail
  refine (DR.out _).mono ?_
  rintro e w' ⟨rfl, rfl⟩
  go_wp2_with fail
  refine (V2.out _).mono ?_
  rintro e w' ⟨rfl, rfl⟩
  go_wp2_with fail
  all_goals exact bodyPost_ret (v := .tuple #[rat 0 0, .int .i64 1]) (by simp [*, results, Tryd.results25, go_sem]) rfl ⟨rfl, (by repeat (first | assumption | refine Below.setCell ?_ (by first | omega | (simp <;> omega)) _))⟩

set_option maxHeartbeats 4000000 in
set_option maxRecDepth 100000 in
theorem rpa_P_s1 (s : ByteArray) (w : World) (hs : s.size ≤ 1000) (h0 : 0 < s.size) (hm : ¬ (s[0]'h0).toNat = 45) (N : Nat) (hN : lead (s.data.toList.drop 0) = N) (h1 : 1 ≤ N) (h15 : N ≤ 15) (c : UInt8) (u : List UInt8) (hRl : (s.extract (N) s.size).data.toList = c :: u) (K : Nat) (hK : lead u = K) (hc : c.toNat = 47) (hk : 1 ≤ K) (hk7 : K ≤ 7) (hk2 : ¬ 1 + K < u.length + 1) (hud : u.all isD = true) (d : Int) (hd : (valS 0 u : Int) = d) (hd0 : 1 ≤ d) (hd7 : d < 10000000) (hXd : (s.extract 0 (N)).data.toList.all isD = true) (v : Int) (hv : (valS 0 (s.extract 0 (N)).data.toList : Int) = v) (hv0 : 0 ≤ v) (hv2 : v < 4600000000000000000) :
    Calls Tryd.prog 25 #[.string s] w fun e w' => e = .returned (.tuple #[rat (newN v d) (newD v d), .int .i64 (newE v d)]) ∧ Below w.heap.size w w' := by
  have C := Lib.hid (fun w => digits_at s 0 w (by omega) (by omega))
  rw [hN] at C
  have b0 : (((s[0]'h0).toNat : Int) == 45) = false := by rw [beq_eq_false_iff_ne]; omega
  have h0' : (0 : Int) < (s.size : Int) := by omega
  have hlen := lead_le (s.data.toList.drop 0)
  rw [hN, List.length_drop, ← Lib.size_eq] at hlen
  have hle : 0 + N ≤ s.size := by omega
  have hsX := Lib.hid (show (s.extract 0 (N)).size = N from by rw [ByteArray.size_extract]; omega)
  have hsR := Lib.hid (show (s.extract (N) s.size).size = s.size - (0 + N) from by rw [ByteArray.size_extract]; omega)
  have q1 : ¬ (N : Int) < 1 := by omega
  have q2 : ¬ (15 : Int) < (N : Int) := by omega
  have HUD := Lib.hid hud
  have HD := Lib.hid hd
  clear hud hd
  have V := Lib.hid (fun w h => value_any (s.extract 0 (N)) w h hXd)
  rw [hv] at V
  have HV2 := Lib.hid hv2
  have OF := Lib.hid (fun w => of_any v d w (by omega) (by omega) (by omega) (by omega) (by omega))
  clear hv hXd hv2
  have HRl := Lib.hid hRl
  have HK := Lib.hid hK
  clear hRl hK
  clear hN hlen hm
  go_enter Tryd.func25, Tryd.ntmps25
  go_upto_region 1 with fail
  have BR := box_alloc w 0 0 24
  have HB := below_alloc (Below.refl w.heap.size w) (Nat.le_refl _) (Obj.cells #[.int .i64 0, .int .i64 0] 24)
  generalize (w.alloc (Obj.cells #[.int .i64 0, .int .i64 0] 24)) = W0 at *
  obtain ⟨f1, f2, f3, f4, f5⟩ := id BR
  go_wp2_with fail
  refine (C.out _).mono ?_
  rintro e w' ⟨rfl, rfl⟩
  go_upto_region 10 with fail
  generalize s.extract 0 (N) = X at *
  generalize s.extract (N) s.size = R at *
  have hX1 : X.size ≤ 15 := by have := hsX.out; omega
  have hR1 : R.size ≤ 1000 := by have := hsR.out; omega
  have hRs : R.size = u.length + 1 := by rw [Lib.size_eq, HRl.out, List.length_cons]
  have hR0 : 0 < R.size := by omega
  have hR0' : (0 : Int) < (R.size : Int) := by omega
  have hRc : R[0]'hR0 = c := by
    have e : R[0]'hR0 = R.data.toList[0]'(by rw [← Lib.size_eq]; exact hR0) := rfl
    rw [e]; simp only [HRl.out, List.getElem_cons_zero]
  have DR := Lib.hid (fun w => digits_at R 1 w (by omega) (by omega))
  rw [HRl.out, List.drop_succ_cons, List.drop_zero, HK.out] at DR
  have hKl := lead_le u
  rw [HK.out] at hKl
  have c47 : (((R[0]'hR0).toNat : Int) == 47) = true := by rw [hRc]; rw [beq_iff_eq]; omega
  have c46 : (((R[0]'hR0).toNat : Int) != 46) = true := by rw [hRc]; rw [bne_iff_ne]; omega
  have k1 : ¬ (K : Int) < 1 := by omega
  have k2 : ¬ 1 + (K : Int) < (R.size : Int) := by omega
  have k3 : ¬ (7 : Int) < (K : Int) := by omega
  have hU : (R.extract 1 R.size).data.toList = u := by
    rw [ext_list', HRl.out, List.drop_succ_cons, List.drop_zero, List.take_of_length_le (by omega)]
  have hUs : (R.extract 1 R.size).size ≤ 1000 := by rw [Lib.size_eq, hU]; omega
  have V2 := Lib.hid (fun w => value_any (R.extract 1 R.size) w (by omega) (by rw [hU]; exact HUD.out))
  rw [hU, HD.out] at V2
  clear hU hUs hc hk hk2 hk7
  have d0 : (d == 0) = false := by rw [beq_eq_false_iff_ne]; omega
  clear hRs hRc
  go_wp2_with fail
  refine (DR.out _).mono ?_
  rintro e w' ⟨rfl, rfl⟩
  go_wp2_with fail
  refine (V2.out _).mono ?_
  rintro e w' ⟨rfl, rfl⟩
  go_wp2_with fail
  refine (V.out _ (by omega)).mono ?_
  rintro e w' ⟨rfl, rfl⟩
  have hv' : v ≤ 4599999999999999999 := by have := HV2.out; omega
  have hv'' : ¬ 4600000000000000000 ≤ v := by omega
  go_wp2_with fail
  refine (OF.out _).mono ?_
  rintro e W9 ⟨rfl, hb⟩
  replace BR := BR.keep hb
  replace HB := HB.trans (hb.mono HB.size)
  clear hb f1 f2 f3 f4 f5
  obtain ⟨f1, f2, f3, f4, f5⟩ := id BR
  go_wp2_with fail
  all_goals exact bodyPost_ret (v := .tuple #[rat (newN v d) (newD v d), .int .i64 (newE v d)]) (by simp [*, results, Tryd.results25, go_sem]) rfl ⟨rfl, (by repeat (first | assumption | refine Below.setCell ?_ (by first | omega | (simp <;> omega)) _))⟩

end Go.Proofs.YtjcdjmjebbllkaaDoor
