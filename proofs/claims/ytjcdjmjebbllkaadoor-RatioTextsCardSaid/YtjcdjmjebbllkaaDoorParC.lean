/- Parse of the package, the ways that come through, without a slash. -/
import Derived.Test.YtjcdjmjebbllkaaDoorParA
import Derived.Deep.DrawnRows
import Derived.Deep.DeepCutAuto
namespace Go.Proofs.YtjcdjmjebbllkaaDoor
open Go.RowKit
attribute [local go_sem] le_add_one'

theorem pow_5 {k n : Nat} (h : k < n) (hn : n ≤ 6) : 10 ^ k ≤ 100000 := by
  have h1 : 10 ^ k ≤ 10 ^ 5 := pow10_le (a := k) (b := 5) (by omega)
  rw [show (10 : Nat) ^ 5 = 100000 from by decide] at h1
  exact h1
theorem pow_1 (k : Nat) : 1 ≤ 10 ^ k := Nat.one_le_pow _ _ (by decide)

set_option maxHeartbeats 4000000 in
set_option maxRecDepth 100000 in
theorem parse_p3t (l : List UInt8) (w : World) (hl : l.length ≤ 1000) (hE : Env w) (neg : Bool) (r : List UInt8) (hneg : Lib.hasPrefix l [45] = neg) (hrr : Lib.trimPrefix l [45] = r) (x y : List UInt8) (h47 : Lib.cut r [47] = (r, [], false)) (h46 : Lib.cut r [46] = (x, y, true)) (d1 : digL x 15 = true) (d2 : digL y 6 = true) (hv : 10000000000000000000 ≤ numV 0 (x ++ y)) :
    Calls Tryd.prog 21 #[.string ⟨l.toArray⟩] w fun e w' => e = .returned (.tuple #[rat 0 0, .int .i64 5]) ∧ Below w.heap.size w w' := by
  have D15 := Lib.hid (fun w => dig_any x 15 w)
  rw [d1] at D15
  have D6 := Lib.hid (fun w => dig_any y 6 w)
  rw [d2] at D6
  have hda := digL_iff.1 d1
  have hy6 := (digL_iff.1 d2).2.1
  have hya := (digL_iff.1 d2).2.2
  have hall : (x ++ y).all isD = true := by rw [List.all_append, hda.2.2, hya]; rfl
  have htl := trim_le (x ++ y)
  rw [List.length_append] at htl
  have T := Lib.hid (fun w => trim_any (x ++ y) w)
  have PU := Lib.hid (fun w h => puint_any (Lib.trimLeftB (x ++ y) 48) w (by omega) (trim_all (x ++ y) hall) h)
  have TN := Lib.hid (trim_num (x ++ y))
  have hsz : (⟨(Lib.trimLeftB (x ++ y) 48).toArray⟩ : ByteArray).size = (Lib.trimLeftB (x ++ y) 48).length := by simp [ByteArray.size]
  have ht21 : (Lib.trimLeftB (x ++ y) 48).length ≤ 21 := by omega
  have hx15 := hda.2.1
  have HY := Lib.hid hya
  have LT := Lib.hid (trim_long hall)
  have hl20 : 19 < (Lib.trimLeftB (x ++ y) 48).length := LT.out.2 hv
  clear hv
  clear hda d1 d2 htl hya hall
  generalize Lib.trimLeftB (x ++ y) 48 = t at *
  have C1 := Lib.hid (fun w => cutprefix_any l w)
  rw [hneg, hrr] at C1
  have hrl : r.length ≤ 1000 := by
    rw [← hrr]; unfold Lib.trimPrefix; split
    · rw [List.length_drop]; omega
    · exact hl
  have C2 := Lib.hid (fun w h => cut_any r 47 w hrl h)
  rw [h47] at C2
  have HE := Lib.hid hE
  have C3 := Lib.hid (fun w h => cut_any r 46 w hrl h)
  rw [h46] at C3
  clear hl hE hneg hrr h47 h46
  go_enter Tryd.func21, Tryd.ntmps21
  go_upto_region 1 with fail
  have BR := box_alloc w 0 0 24
  have HB := below_alloc (Below.refl w.heap.size w) (Nat.le_refl _) (Obj.cells #[.int .i64 0, .int .i64 0] 24)
  replace HE := Lib.hid (HE.out.keep HB)
  generalize (w.alloc (Obj.cells #[.int .i64 0, .int .i64 0] 24)) = W0 at *
  obtain ⟨f1, f2, f3, f4, f5⟩ := id BR
  go_wp2_with fail
  refine (C1.out _).mono ?_
  rintro e W1 ⟨rfl, hb⟩
  replace BR := BR.keep hb
  replace HB := HB.trans (hb.mono HB.size)
  replace HE := Lib.hid (HE.out.keep hb)
  clear hb f1 f2 f3 f4 f5
  obtain ⟨f1, f2, f3, f4, f5⟩ := id BR
  go_wp2_with fail
  refine (C2.out _ HE.out).mono ?_
  rintro e W2 ⟨rfl, hb⟩
  replace BR := BR.keep hb
  replace HB := HB.trans (hb.mono HB.size)
  replace HE := Lib.hid (HE.out.keep hb)
  clear hb f1 f2 f3 f4 f5
  obtain ⟨f1, f2, f3, f4, f5⟩ := id BR
  go_wp2_with fail
  refine (C3.out _ HE.out).mono ?_
  rintro e W3 ⟨rfl, hb⟩
  replace BR := BR.keep hb
  replace HB := HB.trans (hb.mono HB.size)
  replace HE := Lib.hid (HE.out.keep hb)
  clear hb f1 f2 f3 f4 f5
  obtain ⟨f1, f2, f3, f4, f5⟩ := id BR
  go_wp2_with fail
  refine (D15.out _).mono ?_
  rintro e W4 ⟨rfl, hb⟩
  replace BR := BR.keep hb
  replace HB := HB.trans (hb.mono HB.size)
  replace HE := Lib.hid (HE.out.keep hb)
  clear hb f1 f2 f3 f4 f5
  obtain ⟨f1, f2, f3, f4, f5⟩ := id BR
  go_wp2_with fail
  refine (D6.out _).mono ?_
  rintro e W5 ⟨rfl, hb⟩
  replace BR := BR.keep hb
  replace HB := HB.trans (hb.mono HB.size)
  replace HE := Lib.hid (HE.out.keep hb)
  clear hb f1 f2 f3 f4 f5
  obtain ⟨f1, f2, f3, f4, f5⟩ := id BR
  go_wp2_with fail
  rw [cat_mk]
  refine (T.out _).mono ?_
  rintro e W6 ⟨rfl, hb⟩
  replace BR := BR.keep hb
  replace HB := HB.trans (hb.mono HB.size)
  replace HE := Lib.hid (HE.out.keep hb)
  clear hb f1 f2 f3 f4 f5
  obtain ⟨f1, f2, f3, f4, f5⟩ := id BR
  go_wp2_with fail
  rw [cat_48]
  refine (PU.out _ HE.out).mono ?_
  rintro e W7 ⟨⟨u, v, rfl, hu⟩, hb⟩
  have HU := Lib.hid hu
  clear hu
  replace BR := BR.keep hb
  replace HB := HB.trans (hb.mono HB.size)
  replace HE := Lib.hid (HE.out.keep hb)
  clear hb f1 f2 f3 f4 f5
  obtain ⟨f1, f2, f3, f4, f5⟩ := id BR
  go_wp2_with fail
  go_loopw [15] (fun d wr => ∃ k : Nat, k ≤ y.length ∧ wr = W7.iter ⟨y.toArray⟩ k ∧ d = .int .i64 ((10 ^ k : Nat) : Int)) (fun _ wr => y.length - wr.iterPos W7.heap.size)
  case atStart => exact ⟨0, Nat.zero_le _, rfl, rfl⟩
  case round =>
    obtain ⟨k, hk, rfl, rfl⟩ := hrel
    have hys : (⟨y.toArray⟩ : ByteArray).size = y.length := by simp [ByteArray.size]
    by_cases hlt : k < y.length
    · have h1 : k < (⟨y.toArray⟩ : ByteArray).size := by omega
      have h2 : ((⟨y.toArray⟩ : ByteArray)[k]'h1).toNat < 128 := by
        have e : (⟨y.toArray⟩ : ByteArray)[k]'h1 = y[k]'hlt := rfl
        have := isD_iff.1 (List.all_eq_true.1 HY.out _ (List.getElem_mem hlt))
        rw [e]; omega
      have hn := fun ty => run_next_ascii (P := Tryd.prog) W7 ⟨y.toArray⟩ k ty h1 h2
      have hp := pow_5 hlt hy6
      have hp1 : 10 ^ (k + 1) = 10 ^ k * 10 := Nat.pow_succ ..
      have HP := Lib.hid hp1
      clear hp1 h2
      generalize 10 ^ k = P at *
      go_wp2
      refine ⟨⟨k + 1, by omega, rfl, ?_⟩, ?_⟩
      · rw [HP.out]; exact congrArg (Value.int IntKind.i64) (by omega)
      · simp; omega
    · obtain rfl : k = y.length := by omega
      have hn := fun ty => run_next_end (P := Tryd.prog) W7 ⟨y.toArray⟩ y.length ty (by omega)
      have hI : Below W7.heap.size W7 (W7.iter ⟨y.toArray⟩ y.length) := by unfold World.iter; exact below_alloc (Below.refl _ _) (Nat.le_refl _) _
      replace BR := BR.keep hI
      replace HB := HB.trans (hI.mono HB.size)
      clear f1 f2 f3 f4 f5
      obtain ⟨f1, f2, f3, f4, f5⟩ := id BR
      have hp := pow_6 hy6
      have hq := pow_1 y.length
      have hp0 : (((10 ^ y.length : Nat) : Int) == 0) = false := by rw [beq_eq_false_iff_ne]; omega
      generalize 10 ^ y.length = P at *
      go_wp2_with fail
      exact bodyPost_ret (v := .tuple #[rat 0 0, .int .i64 5]) (by simp [*, results, Tryd.results21, go_sem]) rfl ⟨rfl, (by repeat (first | assumption | refine Below.setCell ?_ (by first | omega | (simp <;> omega)) _))⟩

set_option maxHeartbeats 4000000 in
set_option maxRecDepth 100000 in
theorem parse_p4t (l : List UInt8) (w : World) (hl : l.length ≤ 1000) (hE : Env w) (neg : Bool) (r : List UInt8) (hneg : Lib.hasPrefix l [45] = neg) (hrr : Lib.trimPrefix l [45] = r) (x y : List UInt8) (h47 : Lib.cut r [47] = (r, [], false)) (h46 : Lib.cut r [46] = (x, y, true)) (d1 : digL x 15 = true) (d2 : digL y 6 = true) (hv : ¬ 10000000000000000000 ≤ numV 0 (x ++ y)) (P : Nat) (hP : 10 ^ y.length = P) :
    Calls Tryd.prog 21 #[.string ⟨l.toArray⟩] w fun e w' => e = .returned (.tuple #[rat (buN neg (numV 0 (x ++ y)) P) (buD (numV 0 (x ++ y)) P), .int .i64 (buE (numV 0 (x ++ y)) P)]) ∧ Below w.heap.size w w' := by
  have D15 := Lib.hid (fun w => dig_any x 15 w)
  rw [d1] at D15
  have D6 := Lib.hid (fun w => dig_any y 6 w)
  rw [d2] at D6
  have hda := digL_iff.1 d1
  have hy6 := (digL_iff.1 d2).2.1
  have hya := (digL_iff.1 d2).2.2
  have hall : (x ++ y).all isD = true := by rw [List.all_append, hda.2.2, hya]; rfl
  have htl := trim_le (x ++ y)
  rw [List.length_append] at htl
  have T := Lib.hid (fun w => trim_any (x ++ y) w)
  have PU := Lib.hid (fun w h => puint_any (Lib.trimLeftB (x ++ y) 48) w (by omega) (trim_all (x ++ y) hall) h)
  have TN := Lib.hid (trim_num (x ++ y))
  have hsz : (⟨(Lib.trimLeftB (x ++ y) 48).toArray⟩ : ByteArray).size = (Lib.trimLeftB (x ++ y) 48).length := by simp [ByteArray.size]
  have ht21 : (Lib.trimLeftB (x ++ y) 48).length ≤ 21 := by omega
  have hx15 := hda.2.1
  have HY := Lib.hid hya
  have LT := Lib.hid (trim_long hall)
  have hl20 : (Lib.trimLeftB (x ++ y) 48).length ≤ 19 := Nat.le_of_not_lt fun h => hv (LT.out.1 h)
  have HPP := Lib.hid hP
  clear hP
  clear hda d1 d2 htl hya hall
  generalize Lib.trimLeftB (x ++ y) 48 = t at *
  have C1 := Lib.hid (fun w => cutprefix_any l w)
  rw [hneg, hrr] at C1
  have hrl : r.length ≤ 1000 := by
    rw [← hrr]; unfold Lib.trimPrefix; split
    · rw [List.length_drop]; omega
    · exact hl
  have C2 := Lib.hid (fun w h => cut_any r 47 w hrl h)
  rw [h47] at C2
  have HE := Lib.hid hE
  have C3 := Lib.hid (fun w h => cut_any r 46 w hrl h)
  rw [h46] at C3
  clear hl hE hneg hrr h47 h46
  go_enter Tryd.func21, Tryd.ntmps21
  go_upto_region 1 with fail
  have BR := box_alloc w 0 0 24
  have HB := below_alloc (Below.refl w.heap.size w) (Nat.le_refl _) (Obj.cells #[.int .i64 0, .int .i64 0] 24)
  replace HE := Lib.hid (HE.out.keep HB)
  generalize (w.alloc (Obj.cells #[.int .i64 0, .int .i64 0] 24)) = W0 at *
  obtain ⟨f1, f2, f3, f4, f5⟩ := id BR
  go_wp2_with fail
  refine (C1.out _).mono ?_
  rintro e W1 ⟨rfl, hb⟩
  replace BR := BR.keep hb
  replace HB := HB.trans (hb.mono HB.size)
  replace HE := Lib.hid (HE.out.keep hb)
  clear hb f1 f2 f3 f4 f5
  obtain ⟨f1, f2, f3, f4, f5⟩ := id BR
  go_wp2_with fail
  refine (C2.out _ HE.out).mono ?_
  rintro e W2 ⟨rfl, hb⟩
  replace BR := BR.keep hb
  replace HB := HB.trans (hb.mono HB.size)
  replace HE := Lib.hid (HE.out.keep hb)
  clear hb f1 f2 f3 f4 f5
  obtain ⟨f1, f2, f3, f4, f5⟩ := id BR
  go_wp2_with fail
  refine (C3.out _ HE.out).mono ?_
  rintro e W3 ⟨rfl, hb⟩
  replace BR := BR.keep hb
  replace HB := HB.trans (hb.mono HB.size)
  replace HE := Lib.hid (HE.out.keep hb)
  clear hb f1 f2 f3 f4 f5
  obtain ⟨f1, f2, f3, f4, f5⟩ := id BR
  go_wp2_with fail
  refine (D15.out _).mono ?_
  rintro e W4 ⟨rfl, hb⟩
  replace BR := BR.keep hb
  replace HB := HB.trans (hb.mono HB.size)
  replace HE := Lib.hid (HE.out.keep hb)
  clear hb f1 f2 f3 f4 f5
  obtain ⟨f1, f2, f3, f4, f5⟩ := id BR
  go_wp2_with fail
  refine (D6.out _).mono ?_
  rintro e W5 ⟨rfl, hb⟩
  replace BR := BR.keep hb
  replace HB := HB.trans (hb.mono HB.size)
  replace HE := Lib.hid (HE.out.keep hb)
  clear hb f1 f2 f3 f4 f5
  obtain ⟨f1, f2, f3, f4, f5⟩ := id BR
  go_wp2_with fail
  rw [cat_mk]
  refine (T.out _).mono ?_
  rintro e W6 ⟨rfl, hb⟩
  replace BR := BR.keep hb
  replace HB := HB.trans (hb.mono HB.size)
  replace HE := Lib.hid (HE.out.keep hb)
  clear hb f1 f2 f3 f4 f5
  obtain ⟨f1, f2, f3, f4, f5⟩ := id BR
  go_wp2_with fail
  rw [cat_48]
  refine (PU.out _ HE.out).mono ?_
  rintro e W7 ⟨⟨u, v, rfl, hu⟩, hb⟩
  have HU := Lib.hid hu
  clear hu
  replace BR := BR.keep hb
  replace HB := HB.trans (hb.mono HB.size)
  replace HE := Lib.hid (HE.out.keep hb)
  clear hb f1 f2 f3 f4 f5
  obtain ⟨f1, f2, f3, f4, f5⟩ := id BR
  go_wp2_with fail
  go_loopw [15] (fun d wr => ∃ k : Nat, k ≤ y.length ∧ wr = W7.iter ⟨y.toArray⟩ k ∧ d = .int .i64 ((10 ^ k : Nat) : Int)) (fun _ wr => y.length - wr.iterPos W7.heap.size)
  case atStart => exact ⟨0, Nat.zero_le _, rfl, rfl⟩
  case round =>
    obtain ⟨k, hk, rfl, rfl⟩ := hrel
    have hys : (⟨y.toArray⟩ : ByteArray).size = y.length := by simp [ByteArray.size]
    by_cases hlt : k < y.length
    · have h1 : k < (⟨y.toArray⟩ : ByteArray).size := by omega
      have h2 : ((⟨y.toArray⟩ : ByteArray)[k]'h1).toNat < 128 := by
        have e : (⟨y.toArray⟩ : ByteArray)[k]'h1 = y[k]'hlt := rfl
        have := isD_iff.1 (List.all_eq_true.1 HY.out _ (List.getElem_mem hlt))
        rw [e]; omega
      have hn := fun ty => run_next_ascii (P := Tryd.prog) W7 ⟨y.toArray⟩ k ty h1 h2
      have hp := pow_5 hlt hy6
      have hp1 : 10 ^ (k + 1) = 10 ^ k * 10 := Nat.pow_succ ..
      have HP := Lib.hid hp1
      clear hp1 h2
      generalize 10 ^ k = P at *
      go_wp2
      refine ⟨⟨k + 1, by omega, rfl, ?_⟩, ?_⟩
      · rw [HP.out]; exact congrArg (Value.int IntKind.i64) (by omega)
      · simp; omega
    · obtain rfl : k = y.length := by omega
      have hn := fun ty => run_next_end (P := Tryd.prog) W7 ⟨y.toArray⟩ y.length ty (by omega)
      have hI : Below W7.heap.size W7 (W7.iter ⟨y.toArray⟩ y.length) := by unfold World.iter; exact below_alloc (Below.refl _ _) (Nat.le_refl _) _
      replace BR := BR.keep hI
      replace HB := HB.trans (hI.mono HB.size)
      clear f1 f2 f3 f4 f5
      obtain ⟨f1, f2, f3, f4, f5⟩ := id BR
      have hp := pow_6 hy6
      have hq := pow_1 y.length
      have hp0 : (((10 ^ y.length : Nat) : Int) == 0) = false := by rw [beq_eq_false_iff_ne]; omega
      rw [HPP.out] at hp hq hp0 ⊢
      have hu := HU.out (by rw [TN.out]; omega)
      rw [TN.out] at hu
      clear HU TN
      subst hu
      have BU := Lib.hid (fun w => build_any neg (numV 0 (x ++ y)) (P) w (by omega) (by omega) (by omega))
      go_wp2_with fail
      refine (BU.out _).mono ?_
      rintro e W9 ⟨rfl, hb⟩
      replace BR := BR.keep hb
      replace HB := HB.trans (hb.mono HB.size)
      clear hb f1 f2 f3 f4 f5
      obtain ⟨f1, f2, f3, f4, f5⟩ := id BR
      go_wp2_with fail
      exact bodyPost_ret (v := .tuple #[rat (buN neg (numV 0 (x ++ y)) (P)) (buD (numV 0 (x ++ y)) (P)), .int .i64 (buE (numV 0 (x ++ y)) (P))]) (by simp [*, results, Tryd.results21, go_sem]) rfl ⟨rfl, (by repeat (first | assumption | refine Below.setCell ?_ (by first | omega | (simp <;> omega)) _))⟩

set_option maxHeartbeats 4000000 in
set_option maxRecDepth 100000 in
theorem parse_p3f (l : List UInt8) (w : World) (hl : l.length ≤ 1000) (hE : Env w) (neg : Bool) (r : List UInt8) (hneg : Lib.hasPrefix l [45] = neg) (hrr : Lib.trimPrefix l [45] = r) (x y : List UInt8) (h47 : Lib.cut r [47] = (r, [], false)) (h46 : Lib.cut r [46] = (x, y, false)) (d1 : digL x 15 = true) (d2 : y = []) (hv : 10000000000000000000 ≤ numV 0 (x ++ y)) :
    Calls Tryd.prog 21 #[.string ⟨l.toArray⟩] w fun e w' => e = .returned (.tuple #[rat 0 0, .int .i64 5]) ∧ Below w.heap.size w w' := by
  have D15 := Lib.hid (fun w => dig_any x 15 w)
  rw [d1] at D15
  have hda := digL_iff.1 d1
  have hy6 : y.length ≤ 6 := by rw [d2]; decide
  have hya : y.all isD = true := by rw [d2]; rfl
  have hall : (x ++ y).all isD = true := by rw [List.all_append, hda.2.2, hya]; rfl
  have htl := trim_le (x ++ y)
  rw [List.length_append] at htl
  have T := Lib.hid (fun w => trim_any (x ++ y) w)
  have PU := Lib.hid (fun w h => puint_any (Lib.trimLeftB (x ++ y) 48) w (by omega) (trim_all (x ++ y) hall) h)
  have TN := Lib.hid (trim_num (x ++ y))
  have hsz : (⟨(Lib.trimLeftB (x ++ y) 48).toArray⟩ : ByteArray).size = (Lib.trimLeftB (x ++ y) 48).length := by simp [ByteArray.size]
  have ht21 : (Lib.trimLeftB (x ++ y) 48).length ≤ 21 := by omega
  have hx15 := hda.2.1
  have HY := Lib.hid hya
  have LT := Lib.hid (trim_long hall)
  have hl20 : 19 < (Lib.trimLeftB (x ++ y) 48).length := LT.out.2 hv
  clear hv
  clear hda d1 d2 htl hya hall
  generalize Lib.trimLeftB (x ++ y) 48 = t at *
  have C1 := Lib.hid (fun w => cutprefix_any l w)
  rw [hneg, hrr] at C1
  have hrl : r.length ≤ 1000 := by
    rw [← hrr]; unfold Lib.trimPrefix; split
    · rw [List.length_drop]; omega
    · exact hl
  have C2 := Lib.hid (fun w h => cut_any r 47 w hrl h)
  rw [h47] at C2
  have HE := Lib.hid hE
  have C3 := Lib.hid (fun w h => cut_any r 46 w hrl h)
  rw [h46] at C3
  clear hl hE hneg hrr h47 h46
  go_enter Tryd.func21, Tryd.ntmps21
  go_upto_region 1 with fail
  have BR := box_alloc w 0 0 24
  have HB := below_alloc (Below.refl w.heap.size w) (Nat.le_refl _) (Obj.cells #[.int .i64 0, .int .i64 0] 24)
  replace HE := Lib.hid (HE.out.keep HB)
  generalize (w.alloc (Obj.cells #[.int .i64 0, .int .i64 0] 24)) = W0 at *
  obtain ⟨f1, f2, f3, f4, f5⟩ := id BR
  go_wp2_with fail
  refine (C1.out _).mono ?_
  rintro e W1 ⟨rfl, hb⟩
  replace BR := BR.keep hb
  replace HB := HB.trans (hb.mono HB.size)
  replace HE := Lib.hid (HE.out.keep hb)
  clear hb f1 f2 f3 f4 f5
  obtain ⟨f1, f2, f3, f4, f5⟩ := id BR
  go_wp2_with fail
  refine (C2.out _ HE.out).mono ?_
  rintro e W2 ⟨rfl, hb⟩
  replace BR := BR.keep hb
  replace HB := HB.trans (hb.mono HB.size)
  replace HE := Lib.hid (HE.out.keep hb)
  clear hb f1 f2 f3 f4 f5
  obtain ⟨f1, f2, f3, f4, f5⟩ := id BR
  go_wp2_with fail
  refine (C3.out _ HE.out).mono ?_
  rintro e W3 ⟨rfl, hb⟩
  replace BR := BR.keep hb
  replace HB := HB.trans (hb.mono HB.size)
  replace HE := Lib.hid (HE.out.keep hb)
  clear hb f1 f2 f3 f4 f5
  obtain ⟨f1, f2, f3, f4, f5⟩ := id BR
  go_wp2_with fail
  refine (D15.out _).mono ?_
  rintro e W4 ⟨rfl, hb⟩
  replace BR := BR.keep hb
  replace HB := HB.trans (hb.mono HB.size)
  replace HE := Lib.hid (HE.out.keep hb)
  clear hb f1 f2 f3 f4 f5
  obtain ⟨f1, f2, f3, f4, f5⟩ := id BR
  go_wp2_with fail
  rw [cat_mk]
  refine (T.out _).mono ?_
  rintro e W6 ⟨rfl, hb⟩
  replace BR := BR.keep hb
  replace HB := HB.trans (hb.mono HB.size)
  replace HE := Lib.hid (HE.out.keep hb)
  clear hb f1 f2 f3 f4 f5
  obtain ⟨f1, f2, f3, f4, f5⟩ := id BR
  go_wp2_with fail
  rw [cat_48]
  refine (PU.out _ HE.out).mono ?_
  rintro e W7 ⟨⟨u, v, rfl, hu⟩, hb⟩
  have HU := Lib.hid hu
  clear hu
  replace BR := BR.keep hb
  replace HB := HB.trans (hb.mono HB.size)
  replace HE := Lib.hid (HE.out.keep hb)
  clear hb f1 f2 f3 f4 f5
  obtain ⟨f1, f2, f3, f4, f5⟩ := id BR
  go_wp2_with fail
  go_loopw [15] (fun d wr => ∃ k : Nat, k ≤ y.length ∧ wr = W7.iter ⟨y.toArray⟩ k ∧ d = .int .i64 ((10 ^ k : Nat) : Int)) (fun _ wr => y.length - wr.iterPos W7.heap.size)
  case atStart => exact ⟨0, Nat.zero_le _, rfl, rfl⟩
  case round =>
    obtain ⟨k, hk, rfl, rfl⟩ := hrel
    have hys : (⟨y.toArray⟩ : ByteArray).size = y.length := by simp [ByteArray.size]
    by_cases hlt : k < y.length
    · have h1 : k < (⟨y.toArray⟩ : ByteArray).size := by omega
      have h2 : ((⟨y.toArray⟩ : ByteArray)[k]'h1).toNat < 128 := by
        have e : (⟨y.toArray⟩ : ByteArray)[k]'h1 = y[k]'hlt := rfl
        have := isD_iff.1 (List.all_eq_true.1 HY.out _ (List.getElem_mem hlt))
        rw [e]; omega
      have hn := fun ty => run_next_ascii (P := Tryd.prog) W7 ⟨y.toArray⟩ k ty h1 h2
      have hp := pow_5 hlt hy6
      have hp1 : 10 ^ (k + 1) = 10 ^ k * 10 := Nat.pow_succ ..
      have HP := Lib.hid hp1
      clear hp1 h2
      generalize 10 ^ k = P at *
      go_wp2
      refine ⟨⟨k + 1, by omega, rfl, ?_⟩, ?_⟩
      · rw [HP.out]; exact congrArg (Value.int IntKind.i64) (by omega)
      · simp; omega
    · obtain rfl : k = y.length := by omega
      have hn := fun ty => run_next_end (P := Tryd.prog) W7 ⟨y.toArray⟩ y.length ty (by omega)
      have hI : Below W7.heap.size W7 (W7.iter ⟨y.toArray⟩ y.length) := by unfold World.iter; exact below_alloc (Below.refl _ _) (Nat.le_refl _) _
      replace BR := BR.keep hI
      replace HB := HB.trans (hI.mono HB.size)
      clear f1 f2 f3 f4 f5
      obtain ⟨f1, f2, f3, f4, f5⟩ := id BR
      have hp := pow_6 hy6
      have hq := pow_1 y.length
      have hp0 : (((10 ^ y.length : Nat) : Int) == 0) = false := by rw [beq_eq_false_iff_ne]; omega
      generalize 10 ^ y.length = P at *
      go_wp2_with fail
      exact bodyPost_ret (v := .tuple #[rat 0 0, .int .i64 5]) (by simp [*, results, Tryd.results21, go_sem]) rfl ⟨rfl, (by repeat (first | assumption | refine Below.setCell ?_ (by first | omega | (simp <;> omega)) _))⟩

set_option maxHeartbeats 4000000 in
set_option maxRecDepth 100000 in
theorem parse_p4f (l : List UInt8) (w : World) (hl : l.length ≤ 1000) (hE : Env w) (neg : Bool) (r : List UInt8) (hneg : Lib.hasPrefix l [45] = neg) (hrr : Lib.trimPrefix l [45] = r) (x y : List UInt8) (h47 : Lib.cut r [47] = (r, [], false)) (h46 : Lib.cut r [46] = (x, y, false)) (d1 : digL x 15 = true) (d2 : y = []) (hv : ¬ 10000000000000000000 ≤ numV 0 (x ++ y)) (P : Nat) (hP : 10 ^ y.length = P) :
    Calls Tryd.prog 21 #[.string ⟨l.toArray⟩] w fun e w' => e = .returned (.tuple #[rat (buN neg (numV 0 (x ++ y)) P) (buD (numV 0 (x ++ y)) P), .int .i64 (buE (numV 0 (x ++ y)) P)]) ∧ Below w.heap.size w w' := by
  have D15 := Lib.hid (fun w => dig_any x 15 w)
  rw [d1] at D15
  have hda := digL_iff.1 d1
  have hy6 : y.length ≤ 6 := by rw [d2]; decide
  have hya : y.all isD = true := by rw [d2]; rfl
  have hall : (x ++ y).all isD = true := by rw [List.all_append, hda.2.2, hya]; rfl
  have htl := trim_le (x ++ y)
  rw [List.length_append] at htl
  have T := Lib.hid (fun w => trim_any (x ++ y) w)
  have PU := Lib.hid (fun w h => puint_any (Lib.trimLeftB (x ++ y) 48) w (by omega) (trim_all (x ++ y) hall) h)
  have TN := Lib.hid (trim_num (x ++ y))
  have hsz : (⟨(Lib.trimLeftB (x ++ y) 48).toArray⟩ : ByteArray).size = (Lib.trimLeftB (x ++ y) 48).length := by simp [ByteArray.size]
  have ht21 : (Lib.trimLeftB (x ++ y) 48).length ≤ 21 := by omega
  have hx15 := hda.2.1
  have HY := Lib.hid hya
  have LT := Lib.hid (trim_long hall)
  have hl20 : (Lib.trimLeftB (x ++ y) 48).length ≤ 19 := Nat.le_of_not_lt fun h => hv (LT.out.1 h)
  have HPP := Lib.hid hP
  clear hP
  clear hda d1 d2 htl hya hall
  generalize Lib.trimLeftB (x ++ y) 48 = t at *
  have C1 := Lib.hid (fun w => cutprefix_any l w)
  rw [hneg, hrr] at C1
  have hrl : r.length ≤ 1000 := by
    rw [← hrr]; unfold Lib.trimPrefix; split
    · rw [List.length_drop]; omega
    · exact hl
  have C2 := Lib.hid (fun w h => cut_any r 47 w hrl h)
  rw [h47] at C2
  have HE := Lib.hid hE
  have C3 := Lib.hid (fun w h => cut_any r 46 w hrl h)
  rw [h46] at C3
  clear hl hE hneg hrr h47 h46
  go_enter Tryd.func21, Tryd.ntmps21
  go_upto_region 1 with fail
  have BR := box_alloc w 0 0 24
  have HB := below_alloc (Below.refl w.heap.size w) (Nat.le_refl _) (Obj.cells #[.int .i64 0, .int .i64 0] 24)
  replace HE := Lib.hid (HE.out.keep HB)
  generalize (w.alloc (Obj.cells #[.int .i64 0, .int .i64 0] 24)) = W0 at *
  obtain ⟨f1, f2, f3, f4, f5⟩ := id BR
  go_wp2_with fail
  refine (C1.out _).mono ?_
  rintro e W1 ⟨rfl, hb⟩
  replace BR := BR.keep hb
  replace HB := HB.trans (hb.mono HB.size)
  replace HE := Lib.hid (HE.out.keep hb)
  clear hb f1 f2 f3 f4 f5
  obtain ⟨f1, f2, f3, f4, f5⟩ := id BR
  go_wp2_with fail
  refine (C2.out _ HE.out).mono ?_
  rintro e W2 ⟨rfl, hb⟩
  replace BR := BR.keep hb
  replace HB := HB.trans (hb.mono HB.size)
  replace HE := Lib.hid (HE.out.keep hb)
  clear hb f1 f2 f3 f4 f5
  obtain ⟨f1, f2, f3, f4, f5⟩ := id BR
  go_wp2_with fail
  refine (C3.out _ HE.out).mono ?_
  rintro e W3 ⟨rfl, hb⟩
  replace BR := BR.keep hb
  replace HB := HB.trans (hb.mono HB.size)
  replace HE := Lib.hid (HE.out.keep hb)
  clear hb f1 f2 f3 f4 f5
  obtain ⟨f1, f2, f3, f4, f5⟩ := id BR
  go_wp2_with fail
  refine (D15.out _).mono ?_
  rintro e W4 ⟨rfl, hb⟩
  replace BR := BR.keep hb
  replace HB := HB.trans (hb.mono HB.size)
  replace HE := Lib.hid (HE.out.keep hb)
  clear hb f1 f2 f3 f4 f5
  obtain ⟨f1, f2, f3, f4, f5⟩ := id BR
  go_wp2_with fail
  rw [cat_mk]
  refine (T.out _).mono ?_
  rintro e W6 ⟨rfl, hb⟩
  replace BR := BR.keep hb
  replace HB := HB.trans (hb.mono HB.size)
  replace HE := Lib.hid (HE.out.keep hb)
  clear hb f1 f2 f3 f4 f5
  obtain ⟨f1, f2, f3, f4, f5⟩ := id BR
  go_wp2_with fail
  rw [cat_48]
  refine (PU.out _ HE.out).mono ?_
  rintro e W7 ⟨⟨u, v, rfl, hu⟩, hb⟩
  have HU := Lib.hid hu
  clear hu
  replace BR := BR.keep hb
  replace HB := HB.trans (hb.mono HB.size)
  replace HE := Lib.hid (HE.out.keep hb)
  clear hb f1 f2 f3 f4 f5
  obtain ⟨f1, f2, f3, f4, f5⟩ := id BR
  go_wp2_with fail
  go_loopw [15] (fun d wr => ∃ k : Nat, k ≤ y.length ∧ wr = W7.iter ⟨y.toArray⟩ k ∧ d = .int .i64 ((10 ^ k : Nat) : Int)) (fun _ wr => y.length - wr.iterPos W7.heap.size)
  case atStart => exact ⟨0, Nat.zero_le _, rfl, rfl⟩
  case round =>
    obtain ⟨k, hk, rfl, rfl⟩ := hrel
    have hys : (⟨y.toArray⟩ : ByteArray).size = y.length := by simp [ByteArray.size]
    by_cases hlt : k < y.length
    · have h1 : k < (⟨y.toArray⟩ : ByteArray).size := by omega
      have h2 : ((⟨y.toArray⟩ : ByteArray)[k]'h1).toNat < 128 := by
        have e : (⟨y.toArray⟩ : ByteArray)[k]'h1 = y[k]'hlt := rfl
        have := isD_iff.1 (List.all_eq_true.1 HY.out _ (List.getElem_mem hlt))
        rw [e]; omega
      have hn := fun ty => run_next_ascii (P := Tryd.prog) W7 ⟨y.toArray⟩ k ty h1 h2
      have hp := pow_5 hlt hy6
      have hp1 : 10 ^ (k + 1) = 10 ^ k * 10 := Nat.pow_succ ..
      have HP := Lib.hid hp1
      clear hp1 h2
      generalize 10 ^ k = P at *
      go_wp2
      refine ⟨⟨k + 1, by omega, rfl, ?_⟩, ?_⟩
      · rw [HP.out]; exact congrArg (Value.int IntKind.i64) (by omega)
      · simp; omega
    · obtain rfl : k = y.length := by omega
      have hn := fun ty => run_next_end (P := Tryd.prog) W7 ⟨y.toArray⟩ y.length ty (by omega)
      have hI : Below W7.heap.size W7 (W7.iter ⟨y.toArray⟩ y.length) := by unfold World.iter; exact below_alloc (Below.refl _ _) (Nat.le_refl _) _
      replace BR := BR.keep hI
      replace HB := HB.trans (hI.mono HB.size)
      clear f1 f2 f3 f4 f5
      obtain ⟨f1, f2, f3, f4, f5⟩ := id BR
      have hp := pow_6 hy6
      have hq := pow_1 y.length
      have hp0 : (((10 ^ y.length : Nat) : Int) == 0) = false := by rw [beq_eq_false_iff_ne]; omega
      rw [HPP.out] at hp hq hp0 ⊢
      have hu := HU.out (by rw [TN.out]; omega)
      rw [TN.out] at hu
      clear HU TN
      subst hu
      have BU := Lib.hid (fun w => build_any neg (numV 0 (x ++ y)) (P) w (by omega) (by omega) (by omega))
      go_wp2_with fail
      refine (BU.out _).mono ?_
      rintro e W9 ⟨rfl, hb⟩
      replace BR := BR.keep hb
      replace HB := HB.trans (hb.mono HB.size)
      clear hb f1 f2 f3 f4 f5
      obtain ⟨f1, f2, f3, f4, f5⟩ := id BR
      go_wp2_with fail
      exact bodyPost_ret (v := .tuple #[rat (buN neg (numV 0 (x ++ y)) (P)) (buD (numV 0 (x ++ y)) (P)), .int .i64 (buE (numV 0 (x ++ y)) (P))]) (by simp [*, results, Tryd.results21, go_sem]) rfl ⟨rfl, (by repeat (first | assumption | refine Below.setCell ?_ (by first | omega | (simp <;> omega)) _))⟩

end Go.Proofs.YtjcdjmjebbllkaaDoor
