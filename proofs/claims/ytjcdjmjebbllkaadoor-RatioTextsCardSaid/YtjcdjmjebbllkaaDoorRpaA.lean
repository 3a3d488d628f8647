/- Parse of the reference: the walk, way by way (part A). -/
import Derived.Test.YtjcdjmjebbllkaaDoorTxtS
import Derived.Deep.DrawnRows
import Derived.Deep.DeepCutAuto
namespace Go.Proofs.YtjcdjmjebbllkaaDoor
open Go.RowKit
attribute [local go_sem] le_add_one'

theorem ext_list' (s : ByteArray) (a b : Nat) : (s.extract a b).data.toList = (s.data.toList.drop a).take (b - a) := by
  simp [ByteArray.data_extract, List.extract_eq_take_drop]

set_option maxHeartbeats 4000000 in
set_option maxRecDepth 100000 in
theorem rpa_M_n1 (s : ByteArray) (w : World) (hs : s.size ≤ 1000) (h0 : 0 < s.size) (hm : (s[0]'h0).toNat = 45) (N : Nat) (hN : lead (s.data.toList.drop 1) = N) (h1 : N < 1) :
    Calls Tryd.prog 25 #[.string s] w fun e w' => e = .returned (.tuple #[rat 0 0, .int .i64 2]) ∧ Below w.heap.size w w' := by
  have C := Lib.hid (fun w => digits_at s 1 w (by omega) (by omega))
  rw [hN] at C
  have b0 : (((s[0]'h0).toNat : Int) == 45) = true := by rw [beq_iff_eq]; omega
  have h0' : (0 : Int) < (s.size : Int) := by omega
  have hlen := lead_le (s.data.toList.drop 1)
  rw [hN, List.length_drop, ← Lib.size_eq] at hlen
  have h1' : (N : Int) < 1 := by omega
  clear hN hlen hm
  go_enter Tryd.func25, Tryd.ntmps25
  go_upto_region 1 with fail
  have BR := box_alloc w 0 0 24
  have HB := below_alloc (Below.refl w.heap.size w) (Nat.le_refl _) (Obj.cells #[.int .i64 0, .int .i64 0] 24)
  generalize (w.alloc (Obj.cells #[.int .i64 0, .int .i64 0] 24)) = W0 at *
  obtain ⟨f1, f2, f3, f4, f5⟩ := id BR
  go_wp2_with fail
  refine (C.out _).mono ?_
  rintro e w' ⟨rfl, rfl⟩
  go_wp2_with fail
  all_goals exact bodyPost_ret (v := .tuple #[rat 0 0, .int .i64 2]) (by simp [*, results, Tryd.results25, go_sem]) rfl ⟨rfl, (by repeat (first | assumption | refine Below.setCell ?_ (by first | omega | (simp <;> omega)) _))⟩

set_option maxHeartbeats 4000000 in
set_option maxRecDepth 100000 in
theorem rpa_M_n2 (s : ByteArray) (w : World) (hs : s.size ≤ 1000) (h0 : 0 < s.size) (hm : (s[0]'h0).toNat = 45) (N : Nat) (hN : lead (s.data.toList.drop 1) = N) (h1 : 15 < N) :
    Calls Tryd.prog 25 #[.string s] w fun e w' => e = .returned (.tuple #[rat 0 0, .int .i64 2]) ∧ Below w.heap.size w w' := by
  have C := Lib.hid (fun w => digits_at s 1 w (by omega) (by omega))
  rw [hN] at C
  have b0 : (((s[0]'h0).toNat : Int) == 45) = true := by rw [beq_iff_eq]; omega
  have h0' : (0 : Int) < (s.size : Int) := by omega
  have hlen := lead_le (s.data.toList.drop 1)
  rw [hN, List.length_drop, ← Lib.size_eq] at hlen
  have h1' : ¬ (N : Int) < 1 := by omega
  have h2' : (15 : Int) < (N : Int) := by omega
  clear hN hlen hm
  go_enter Tryd.func25, Tryd.ntmps25
  go_upto_region 1 with fail
  have BR := box_alloc w 0 0 24
  have HB := below_alloc (Below.refl w.heap.size w) (Nat.le_refl _) (Obj.cells #[.int .i64 0, .int .i64 0] 24)
  generalize (w.alloc (Obj.cells #[.int .i64 0, .int .i64 0] 24)) = W0 at *
  obtain ⟨f1, f2, f3, f4, f5⟩ := id BR
  go_wp2_with fail
  refine (C.out _).mono ?_
  rintro e w' ⟨rfl, rfl⟩
  go_wp2_with fail
  all_goals exact bodyPost_ret (v := .tuple #[rat 0 0, .int .i64 2]) (by simp [*, results, Tryd.results25, go_sem]) rfl ⟨rfl, (by repeat (first | assumption | refine Below.setCell ?_ (by first | omega | (simp <;> omega)) _))⟩

set_option maxHeartbeats 4000000 in
set_option maxRecDepth 100000 in
theorem rpa_P_n1 (s : ByteArray) (w : World) (hs : s.size ≤ 1000) (h0 : 0 < s.size) (hm : ¬ (s[0]'h0).toNat = 45) (N : Nat) (hN : lead (s.data.toList.drop 0) = N) (h1 : N < 1) :
    Calls Tryd.prog 25 #[.string s] w fun e w' => e = .returned (.tuple #[rat 0 0, .int .i64 2]) ∧ Below w.heap.size w w' := by
  have C := Lib.hid (fun w => digits_at s 0 w (by omega) (by omega))
  rw [hN] at C
  have b0 : (((s[0]'h0).toNat : Int) == 45) = false := by rw [beq_eq_false_iff_ne]; omega
  have h0' : (0 : Int) < (s.size : Int) := by omega
  have hlen := lead_le (s.data.toList.drop 0)
  rw [hN, List.length_drop, ← Lib.size_eq] at hlen
  have h1' : (N : Int) < 1 := by omega
  clear hN hlen hm
  go_enter Tryd.func25, Tryd.ntmps25
  go_upto_region 1 with fail
  have BR := box_alloc w 0 0 24
  have HB := below_alloc (Below.refl w.heap.size w) (Nat.le_refl _) (Obj.cells #[.int .i64 0, .int .i64 0] 24)
  generalize (w.alloc (Obj.cells #[.int .i64 0, .int .i64 0] 24)) = W0 at *
  obtain ⟨f1, f2, f3, f4, f5⟩ := id BR
  go_wp2_with fail
  refine (C.out _).mono ?_
  rintro e w' ⟨rfl, rfl⟩
  go_wp2_with fail
  all_goals exact bodyPost_ret (v := .tuple #[rat 0 0, .int .i64 2]) (by simp [*, results, Tryd.results25, go_sem]) rfl ⟨rfl, (by repeat (first | assumption | refine Below.setCell ?_ (by first | omega | (simp <;> omega)) _))⟩

set_option maxHeartbeats 4000000 in
set_option maxRecDepth 100000 in
theorem rpa_P_n2 (s : ByteArray) (w : World) (hs : s.size ≤ 1000) (h0 : 0 < s.size) (hm : ¬ (s[0]'h0).toNat = 45) (N : Nat) (hN : lead (s.data.toList.drop 0) = N) (h1 : 15 < N) :
    Calls Tryd.prog 25 #[.string s] w fun e w' => e = .returned (.tuple #[rat 0 0, .int .i64 2]) ∧ Below w.heap.size w w' := by
  have C := Lib.hid (fun w => digits_at s 0 w (by omega) (by omega))
  rw [hN] at C
  have b0 : (((s[0]'h0).toNat : Int) == 45) = false := by rw [beq_eq_false_iff_ne]; omega
  have h0' : (0 : Int) < (s.size : Int) := by omega
  have hlen := lead_le (s.data.toList.drop 0)
  rw [hN, List.length_drop, ← Lib.size_eq] at hlen
  have h1' : ¬ (N : Int) < 1 := by omega
  have h2' : (15 : Int) < (N : Int) := by omega
  clear hN hlen hm
  go_enter Tryd.func25, Tryd.ntmps25
  go_upto_region 1 with fail
  have BR := box_alloc w 0 0 24
  have HB := below_alloc (Below.refl w.heap.size w) (Nat.le_refl _) (Obj.cells #[.int .i64 0, .int .i64 0] 24)
  generalize (w.alloc (Obj.cells #[.int .i64 0, .int .i64 0] 24)) = W0 at *
  obtain ⟨f1, f2, f3, f4, f5⟩ := id BR
  go_wp2_with fail
  refine (C.out _).mono ?_
  rintro e w' ⟨rfl, rfl⟩
  go_wp2_with fail
  all_goals exact bodyPost_ret (v := .tuple #[rat 0 0, .int .i64 2]) (by simp [*, results, Tryd.results25, go_sem]) rfl ⟨rfl, (by repeat (first | assumption | refine Below.setCell ?_ (by first | omega | (simp <;> omega)) _))⟩

set_option maxHeartbeats 4000000 in
set_option maxRecDepth 100000 in
theorem rpa_E_n1 (s : ByteArray) (w : World) (h0 : s.size = 0) (N : Nat) (hN : lead (s.data.toList.drop 0) = N) (h1 : N < 1) :
    Calls Tryd.prog 25 #[.string s] w fun e w' => e = .returned (.tuple #[rat 0 0, .int .i64 2]) ∧ Below w.heap.size w w' := by
  have C := Lib.hid (fun w => digits_at s 0 w (by omega) (by omega))
  rw [hN] at C
  have h0' : ¬ (0 : Int) < (s.size : Int) := by omega
  have h0'' : ¬ 0 < s.size := by omega
  have hlen := lead_le (s.data.toList.drop 0)
  rw [hN, List.length_drop, ← Lib.size_eq] at hlen
  have h1' : (N : Int) < 1 := by omega
  clear hN hlen
  go_enter Tryd.func25, Tryd.ntmps25
  go_upto_region 1 with fail
  have BR := box_alloc w 0 0 24
  have HB := below_alloc (Below.refl w.heap.size w) (Nat.le_refl _) (Obj.cells #[.int .i64 0, .int .i64 0] 24)
  generalize (w.alloc (Obj.cells #[.int .i64 0, .int .i64 0] 24)) = W0 at *
  obtain ⟨f1, f2, f3, f4, f5⟩ := id BR
  go_wp2_with fail
  refine (C.out _).mono ?_
  rintro e w' ⟨rfl, rfl⟩
  go_wp2_with fail
  all_goals exact bodyPost_ret (v := .tuple #[rat 0 0, .int .i64 2]) (by simp [*, results, Tryd.results25, go_sem]) rfl ⟨rfl, (by repeat (first | assumption | refine Below.setCell ?_ (by first | omega | (simp <;> omega)) _))⟩

set_option maxHeartbeats 4000000 in
set_option maxRecDepth 100000 in
theorem rpa_M_i (s : ByteArray) (w : World) (hs : s.size ≤ 1000) (h0 : 0 < s.size) (hm : (s[0]'h0).toNat = 45) (N : Nat) (hN : lead (s.data.toList.drop 1) = N) (h1 : 1 ≤ N) (h15 : N ≤ 15) (hR : (s.extract (1 + N) s.size).size = 0) (hXd : (s.extract 1 (1 + N)).data.toList.all isD = true) (v : Int) (hv : (valS 0 (s.extract 1 (1 + N)).data.toList : Int) = v) (hv0 : 0 ≤ v) (hv2 : v < 4600000000000000000) :
    Calls Tryd.prog 25 #[.string s] w fun e w' => e = .returned (.tuple #[rat (newN (-v) 1) (newD (-v) 1), .int .i64 (newE (-v) 1)]) ∧ Below w.heap.size w w' := by
  have C := Lib.hid (fun w => digits_at s 1 w (by omega) (by omega))
  rw [hN] at C
  have b0 : (((s[0]'h0).toNat : Int) == 45) = true := by rw [beq_iff_eq]; omega
  have h0' : (0 : Int) < (s.size : Int) := by omega
  have hlen := lead_le (s.data.toList.drop 1)
  rw [hN, List.length_drop, ← Lib.size_eq] at hlen
  have hle : 1 + N ≤ s.size := by omega
  have hsX := Lib.hid (show (s.extract 1 (1 + N)).size = N from by rw [ByteArray.size_extract]; omega)
  have hsR := Lib.hid (show (s.extract (1 + N) s.size).size = s.size - (1 + N) from by rw [ByteArray.size_extract]; omega)
  have q1 : ¬ (N : Int) < 1 := by omega
  have q2 : ¬ (15 : Int) < (N : Int) := by omega
  have V := Lib.hid (fun w h => value_any (s.extract 1 (1 + N)) w h hXd)
  rw [hv] at V
  have HR := Lib.hid hR
  have OF := Lib.hid (fun w => of_any (-v) 1 w (by omega) (by omega) (by omega) (by omega) (by omega))
  have HV2 := Lib.hid hv2
  clear hv hXd hR hv2
  clear hN hlen hm
  go_enter Tryd.func25, Tryd.ntmps25
  go_upto_region 1 with fail
  have BR := box_alloc w 0 0 24
  have HB := below_alloc (Below.refl w.heap.size w) (Nat.le_refl _) (Obj.cells #[.int .i64 0, .int .i64 0] 24)
  generalize (w.alloc (Obj.cells #[.int .i64 0, .int .i64 0] 24)) = W0 at *
  obtain ⟨f1, f2, f3, f4, f5⟩ := id BR
  go_wp2_with fail
  refine (C.out _).mono ?_
  rintro e w' ⟨rfl, rfl⟩
  go_upto_region 10 with fail
  generalize s.extract 1 (1 + N) = X at *
  generalize s.extract (1 + N) s.size = R at *
  have hX1 : X.size ≤ 15 := by have := hsX.out; omega
  have hR1 : R.size ≤ 1000 := by have := hsR.out; omega
  have hR' : ¬ (0 : Int) < (R.size : Int) := by have := HR.out; omega
  have hR'' : ¬ 0 < R.size := by have := HR.out; omega
  have hv' : v ≤ 4599999999999999999 := by have := HV2.out; omega
  have hv'' : ¬ 4600000000000000000 ≤ v := by omega
  go_wp2_with fail
  refine (V.out _ (by omega)).mono ?_
  rintro e w' ⟨rfl, rfl⟩
  go_wp2_with fail
  refine (OF.out _).mono ?_
  rintro e W9 ⟨rfl, hb⟩
  replace BR := BR.keep hb
  replace HB := HB.trans (hb.mono HB.size)
  clear hb f1 f2 f3 f4 f5
  obtain ⟨f1, f2, f3, f4, f5⟩ := id BR
  go_wp2_with fail
  all_goals exact bodyPost_ret (v := .tuple #[rat (newN (-v) 1) (newD (-v) 1), .int .i64 (newE (-v) 1)]) (by simp [*, results, Tryd.results25, go_sem]) rfl ⟨rfl, (by repeat (first | assumption | refine Below.setCell ?_ (by first | omega | (simp <;> omega)) _))⟩

set_option maxHeartbeats 4000000 in
set_option maxRecDepth 100000 in
theorem rpa_P_i (s : ByteArray) (w : World) (hs : s.size ≤ 1000) (h0 : 0 < s.size) (hm : ¬ (s[0]'h0).toNat = 45) (N : Nat) (hN : lead (s.data.toList.drop 0) = N) (h1 : 1 ≤ N) (h15 : N ≤ 15) (hR : (s.extract (N) s.size).size = 0) (hXd : (s.extract 0 (N)).data.toList.all isD = true) (v : Int) (hv : (valS 0 (s.extract 0 (N)).data.toList : Int) = v) (hv0 : 0 ≤ v) (hv2 : v < 4600000000000000000) :
    Calls Tryd.prog 25 #[.string s] w fun e w' => e = .returned (.tuple #[rat (newN v 1) (newD v 1), .int .i64 (newE v 1)]) ∧ Below w.heap.size w w' := by
  have C := Lib.hid (fun w => digits_at s 0 w (by omega) (by omega))
  rw [hN] at C
  have b0 : (((s[0]'h0).toNat : Int) == 45) = false := by rw [beq_eq_false_iff_ne]; omega
  have h0' : (0 : Int) < (s.size : Int) := by omega
  have hlen := lead_le (s.data.toList.drop 0)
  rw [hN, List.length_drop, ← Lib.size_eq] at hlen
  have hle : 0 + N ≤ s.size := by omega
  have hsX := Lib.hid (show (s.extract 0 (N)).size = N from by rw [ByteArray.size_extract]; omega)
  have hsR := Lib.hid (show (s.extract (N) s.size).size = s.size - (0 + N) from by rw [ByteArray.size_extract]; omega)
  have q1 : ¬ (N : Int) < 1 := by omega
  have q2 : ¬ (15 : Int) < (N : Int) := by omega
  have V := Lib.hid (fun w h => value_any (s.extract 0 (N)) w h hXd)
  rw [hv] at V
  have HR := Lib.hid hR
  have OF := Lib.hid (fun w => of_any v 1 w (by omega) (by omega) (by omega) (by omega) (by omega))
  have HV2 := Lib.hid hv2
  clear hv hXd hR hv2
  clear hN hlen hm
  go_enter Tryd.func25, Tryd.ntmps25
  go_upto_region 1 with fail
  have BR := box_alloc w 0 0 24
  have HB := below_alloc (Below.refl w.heap.size w) (Nat.le_refl _) (Obj.cells #[.int .i64 0, .int .i64 0] 24)
  generalize (w.alloc (Obj.cells #[.int .i64 0, .int .i64 0] 24)) = W0 at *
  obtain ⟨f1, f2, f3, f4, f5⟩ := id BR
  go_wp2_with fail
  refine (C.out _).mono ?_
  rintro e w' ⟨rfl, rfl⟩
  go_upto_region 10 with fail
  generalize s.extract 0 (N) = X at *
  generalize s.extract (N) s.size = R at *
  have hX1 : X.size ≤ 15 := by have := hsX.out; omega
  have hR1 : R.size ≤ 1000 := by have := hsR.out; omega
  have hR' : ¬ (0 : Int) < (R.size : Int) := by have := HR.out; omega
  have hR'' : ¬ 0 < R.size := by have := HR.out; omega
  have hv' : v ≤ 4599999999999999999 := by have := HV2.out; omega
  have hv'' : ¬ 4600000000000000000 ≤ v := by omega
  go_wp2_with fail
  refine (V.out _ (by omega)).mono ?_
  rintro e w' ⟨rfl, rfl⟩
  go_wp2_with fail
  refine (OF.out _).mono ?_
  rintro e W9 ⟨rfl, hb⟩
  replace BR := BR.keep hb
  replace HB := HB.trans (hb.mono HB.size)
  clear hb f1 f2 f3 f4 f5
  obtain ⟨f1, f2, f3, f4, f5⟩ := id BR
  go_wp2_with fail
  all_goals exact bodyPost_ret (v := .tuple #[rat (newN v 1) (newD v 1), .int .i64 (newE v 1)]) (by simp [*, results, Tryd.results25, go_sem]) rfl ⟨rfl, (by repeat (first | assumption | refine Below.setCell ?_ (by first | omega | (simp <;> omega)) _))⟩

end Go.Proofs.YtjcdjmjebbllkaaDoor
