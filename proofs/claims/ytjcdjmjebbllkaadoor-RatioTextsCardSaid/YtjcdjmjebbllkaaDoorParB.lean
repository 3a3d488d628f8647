/- Parse of the package, the ways that come through, with a slash. -/
import Derived.Test.YtjcdjmjebbllkaaDoorParA
import Derived.Deep.DrawnRows
import Derived.Deep.DeepCutAuto
namespace Go.Proofs.YtjcdjmjebbllkaaDoor
open Go.RowKit
attribute [local go_sem] le_add_one'

set_option maxHeartbeats 4000000 in
set_option maxRecDepth 100000 in
theorem parse_s3 (l : List UInt8) (w : World) (hl : l.length ≤ 1000) (hE : Env w) (neg : Bool) (r : List UInt8) (hneg : Lib.hasPrefix l [45] = neg) (hrr : Lib.trimPrefix l [45] = r) (a b : List UInt8) (h47 : Lib.cut r [47] = (a, b, true)) (d1 : digL a 15 = true) (d2 : digL b 7 = true) (hz : numV 0 b = 0) :
    Calls Tryd.prog 21 #[.string ⟨l.toArray⟩] w fun e w' => e = .returned (.tuple #[rat 0 0, .int .i64 1]) ∧ Below w.heap.size w w' := by
  have D15 := Lib.hid (fun w => dig_any a 15 w)
  rw [d1] at D15
  have D7 := Lib.hid (fun w => dig_any b 7 w)
  rw [d2] at D7
  have hda := digL_iff.1 d1
  have hdb := digL_iff.1 d2
  have hva := num_15 hda.2.2 hda.2.1
  have hvb := num_7 hdb.2.2 hdb.2.1
  have htl := trim_le a
  have T := Lib.hid (fun w => trim_any a w)
  have PU := Lib.hid (fun w h => puint_any (Lib.trimLeftB a 48) w (by omega) (trim_all a hda.2.2) h)
  have TN := Lib.hid (trim_num a)
  have AT := Lib.hid (fun w => atoi_any b w d2)
  have hsz : (⟨(Lib.trimLeftB a 48).toArray⟩ : ByteArray).size = (Lib.trimLeftB a 48).length := by simp [ByteArray.size]
  have hl19 : (Lib.trimLeftB a 48).length ≤ 15 := by omega
  have ha15 := hda.2.1
  have hb7 := hdb.2.1
  clear hda hdb d1 d2 htl
  generalize Lib.trimLeftB a 48 = t at *
  have C1 := Lib.hid (fun w => cutprefix_any l w)
  rw [hneg, hrr] at C1
  have hrl : r.length ≤ 1000 := by
    rw [← hrr]; unfold Lib.trimPrefix; split
    · rw [List.length_drop]; omega
    · exact hl
  have C2 := Lib.hid (fun w h => cut_any r 47 w hrl h)
  rw [h47] at C2
  have HE := Lib.hid hE
  clear hl hE hneg hrr h47
  go_enter Tryd.func21, Tryd.ntmps21
  go_upto_region 1 with fail
  have BR := box_alloc w 0 0 24
  have HB := below_alloc (Below.refl w.heap.size w) (Nat.le_refl _) (Obj.cells #[.int .i64 0, .int .i64 0] 24)
  replace HE := Lib.hid (HE.out.keep HB)
  generalize (w.alloc (Obj.cells #[.int .i64 0, .int .i64 0] 24)) = W0 at *
  obtain ⟨f1, f2, f3, f4, f5⟩ := id BR
  go_wp2_with fail
  refine (C1.out _).mono ?_
  rintro e W1 ⟨rfl, hb⟩
  replace BR := BR.keep hb
  replace HB := HB.trans (hb.mono HB.size)
  replace HE := Lib.hid (HE.out.keep hb)
  clear hb f1 f2 f3 f4 f5
  obtain ⟨f1, f2, f3, f4, f5⟩ := id BR
  go_wp2_with fail
  refine (C2.out _ HE.out).mono ?_
  rintro e W2 ⟨rfl, hb⟩
  replace BR := BR.keep hb
  replace HB := HB.trans (hb.mono HB.size)
  replace HE := Lib.hid (HE.out.keep hb)
  clear hb f1 f2 f3 f4 f5
  obtain ⟨f1, f2, f3, f4, f5⟩ := id BR
  go_wp2_with fail
  refine (D15.out _).mono ?_
  rintro e W3 ⟨rfl, hb⟩
  replace BR := BR.keep hb
  replace HB := HB.trans (hb.mono HB.size)
  replace HE := Lib.hid (HE.out.keep hb)
  clear hb f1 f2 f3 f4 f5
  obtain ⟨f1, f2, f3, f4, f5⟩ := id BR
  go_wp2_with fail
  refine (D7.out _).mono ?_
  rintro e W4 ⟨rfl, hb⟩
  replace BR := BR.keep hb
  replace HB := HB.trans (hb.mono HB.size)
  replace HE := Lib.hid (HE.out.keep hb)
  clear hb f1 f2 f3 f4 f5
  obtain ⟨f1, f2, f3, f4, f5⟩ := id BR
  go_wp2_with fail
  rw [cat_nil]
  refine (T.out _).mono ?_
  rintro e W5 ⟨rfl, hb⟩
  replace BR := BR.keep hb
  replace HB := HB.trans (hb.mono HB.size)
  replace HE := Lib.hid (HE.out.keep hb)
  clear hb f1 f2 f3 f4 f5
  obtain ⟨f1, f2, f3, f4, f5⟩ := id BR
  go_wp2_with fail
  rw [cat_48]
  refine (PU.out _ HE.out).mono ?_
  rintro e W6 ⟨⟨u, v, rfl, hu⟩, hb⟩
  have HU := Lib.hid hu
  clear hu
  replace BR := BR.keep hb
  replace HB := HB.trans (hb.mono HB.size)
  replace HE := Lib.hid (HE.out.keep hb)
  clear hb f1 f2 f3 f4 f5
  obtain ⟨f1, f2, f3, f4, f5⟩ := id BR
  go_wp2_with fail
  refine (AT.out _).mono ?_
  rintro e W7 ⟨rfl, hb⟩
  replace BR := BR.keep hb
  replace HB := HB.trans (hb.mono HB.size)
  replace HE := Lib.hid (HE.out.keep hb)
  clear hb f1 f2 f3 f4 f5
  obtain ⟨f1, f2, f3, f4, f5⟩ := id BR
  go_wp2_with fail
  go_loopw [15] (fun d wr => wr = W7.iter ⟨#[]⟩ 0 ∧ d = .int .i64 0) (fun _ wr => 0)
  case atStart => exact ⟨rfl, rfl⟩
  case round =>
    obtain ⟨rfl, rfl⟩ := hrel
    have hn := fun ty => run_next_end (P := Tryd.prog) W7 ⟨#[]⟩ 0 ty (by decide)
    have hI : Below W7.heap.size W7 (W7.iter ⟨#[]⟩ 0) := by unfold World.iter; exact below_alloc (Below.refl _ _) (Nat.le_refl _) _
    replace BR := BR.keep hI
    replace HB := HB.trans (hI.mono HB.size)
    clear f1 f2 f3 f4 f5
    obtain ⟨f1, f2, f3, f4, f5⟩ := id BR
    go_wp2_with fail
    exact bodyPost_ret (v := .tuple #[rat 0 0, .int .i64 1]) (by simp [*, results, Tryd.results21, go_sem]) rfl ⟨rfl, (by repeat (first | assumption | refine Below.setCell ?_ (by first | omega | (simp <;> omega)) _))⟩

set_option maxHeartbeats 4000000 in
set_option maxRecDepth 100000 in
theorem parse_s4 (l : List UInt8) (w : World) (hl : l.length ≤ 1000) (hE : Env w) (neg : Bool) (r : List UInt8) (hneg : Lib.hasPrefix l [45] = neg) (hrr : Lib.trimPrefix l [45] = r) (a b : List UInt8) (h47 : Lib.cut r [47] = (a, b, true)) (d1 : digL a 15 = true) (d2 : digL b 7 = true) (hz : numV 0 b ≠ 0) :
    Calls Tryd.prog 21 #[.string ⟨l.toArray⟩] w fun e w' => e = .returned (.tuple #[rat (buN neg (numV 0 a) (numV 0 b)) (buD (numV 0 a) (numV 0 b)), .int .i64 (buE (numV 0 a) (numV 0 b))]) ∧ Below w.heap.size w w' := by
  have D15 := Lib.hid (fun w => dig_any a 15 w)
  rw [d1] at D15
  have D7 := Lib.hid (fun w => dig_any b 7 w)
  rw [d2] at D7
  have hda := digL_iff.1 d1
  have hdb := digL_iff.1 d2
  have hva := num_15 hda.2.2 hda.2.1
  have hvb := num_7 hdb.2.2 hdb.2.1
  have htl := trim_le a
  have T := Lib.hid (fun w => trim_any a w)
  have PU := Lib.hid (fun w h => puint_any (Lib.trimLeftB a 48) w (by omega) (trim_all a hda.2.2) h)
  have TN := Lib.hid (trim_num a)
  have AT := Lib.hid (fun w => atoi_any b w d2)
  have hsz : (⟨(Lib.trimLeftB a 48).toArray⟩ : ByteArray).size = (Lib.trimLeftB a 48).length := by simp [ByteArray.size]
  have hl19 : (Lib.trimLeftB a 48).length ≤ 15 := by omega
  have ha15 := hda.2.1
  have hb7 := hdb.2.1
  have hz' : ((numV 0 b : Int) == 0) = false := by rw [beq_eq_false_iff_ne]; omega
  have hz2 : 0 < numV 0 b := by omega
  clear hz
  clear hda hdb d1 d2 htl
  generalize Lib.trimLeftB a 48 = t at *
  have C1 := Lib.hid (fun w => cutprefix_any l w)
  rw [hneg, hrr] at C1
  have hrl : r.length ≤ 1000 := by
    rw [← hrr]; unfold Lib.trimPrefix; split
    · rw [List.length_drop]; omega
    · exact hl
  have C2 := Lib.hid (fun w h => cut_any r 47 w hrl h)
  rw [h47] at C2
  have HE := Lib.hid hE
  clear hl hE hneg hrr h47
  go_enter Tryd.func21, Tryd.ntmps21
  go_upto_region 1 with fail
  have BR := box_alloc w 0 0 24
  have HB := below_alloc (Below.refl w.heap.size w) (Nat.le_refl _) (Obj.cells #[.int .i64 0, .int .i64 0] 24)
  replace HE := Lib.hid (HE.out.keep HB)
  generalize (w.alloc (Obj.cells #[.int .i64 0, .int .i64 0] 24)) = W0 at *
  obtain ⟨f1, f2, f3, f4, f5⟩ := id BR
  go_wp2_with fail
  refine (C1.out _).mono ?_
  rintro e W1 ⟨rfl, hb⟩
  replace BR := BR.keep hb
  replace HB := HB.trans (hb.mono HB.size)
  replace HE := Lib.hid (HE.out.keep hb)
  clear hb f1 f2 f3 f4 f5
  obtain ⟨f1, f2, f3, f4, f5⟩ := id BR
  go_wp2_with fail
  refine (C2.out _ HE.out).mono ?_
  rintro e W2 ⟨rfl, hb⟩
  replace BR := BR.keep hb
  replace HB := HB.trans (hb.mono HB.size)
  replace HE := Lib.hid (HE.out.keep hb)
  clear hb f1 f2 f3 f4 f5
  obtain ⟨f1, f2, f3, f4, f5⟩ := id BR
  go_wp2_with fail
  refine (D15.out _).mono ?_
  rintro e W3 ⟨rfl, hb⟩
  replace BR := BR.keep hb
  replace HB := HB.trans (hb.mono HB.size)
  replace HE := Lib.hid (HE.out.keep hb)
  clear hb f1 f2 f3 f4 f5
  obtain ⟨f1, f2, f3, f4, f5⟩ := id BR
  go_wp2_with fail
  refine (D7.out _).mono ?_
  rintro e W4 ⟨rfl, hb⟩
  replace BR := BR.keep hb
  replace HB := HB.trans (hb.mono HB.size)
  replace HE := Lib.hid (HE.out.keep hb)
  clear hb f1 f2 f3 f4 f5
  obtain ⟨f1, f2, f3, f4, f5⟩ := id BR
  go_wp2_with fail
  rw [cat_nil]
  refine (T.out _).mono ?_
  rintro e W5 ⟨rfl, hb⟩
  replace BR := BR.keep hb
  replace HB := HB.trans (hb.mono HB.size)
  replace HE := Lib.hid (HE.out.keep hb)
  clear hb f1 f2 f3 f4 f5
  obtain ⟨f1, f2, f3, f4, f5⟩ := id BR
  go_wp2_with fail
  rw [cat_48]
  refine (PU.out _ HE.out).mono ?_
  rintro e W6 ⟨⟨u, v, rfl, hu⟩, hb⟩
  have HU := Lib.hid hu
  clear hu
  replace BR := BR.keep hb
  replace HB := HB.trans (hb.mono HB.size)
  replace HE := Lib.hid (HE.out.keep hb)
  clear hb f1 f2 f3 f4 f5
  obtain ⟨f1, f2, f3, f4, f5⟩ := id BR
  go_wp2_with fail
  refine (AT.out _).mono ?_
  rintro e W7 ⟨rfl, hb⟩
  replace BR := BR.keep hb
  replace HB := HB.trans (hb.mono HB.size)
  replace HE := Lib.hid (HE.out.keep hb)
  clear hb f1 f2 f3 f4 f5
  obtain ⟨f1, f2, f3, f4, f5⟩ := id BR
  go_wp2_with fail
  go_loopw [15] (fun d wr => wr = W7.iter ⟨#[]⟩ 0 ∧ d = .int .i64 (numV 0 b : Int)) (fun _ wr => 0)
  case atStart => exact ⟨rfl, rfl⟩
  case round =>
    obtain ⟨rfl, rfl⟩ := hrel
    have hn := fun ty => run_next_end (P := Tryd.prog) W7 ⟨#[]⟩ 0 ty (by decide)
    have hI : Below W7.heap.size W7 (W7.iter ⟨#[]⟩ 0) := by unfold World.iter; exact below_alloc (Below.refl _ _) (Nat.le_refl _) _
    replace BR := BR.keep hI
    replace HB := HB.trans (hI.mono HB.size)
    clear f1 f2 f3 f4 f5
    obtain ⟨f1, f2, f3, f4, f5⟩ := id BR
    have hu := HU.out (by rw [TN.out]; omega)
    rw [TN.out] at hu
    clear HU TN
    subst hu
    have BU := Lib.hid (fun w => build_any neg (numV 0 a) (numV 0 b) w (by omega) (by omega) (by omega))
    go_wp2_with fail
    refine (BU.out _).mono ?_
    rintro e W9 ⟨rfl, hb⟩
    replace BR := BR.keep hb
    replace HB := HB.trans (hb.mono HB.size)
    clear hb f1 f2 f3 f4 f5
    obtain ⟨f1, f2, f3, f4, f5⟩ := id BR
    go_wp2_with fail
    exact bodyPost_ret (v := .tuple #[rat (buN neg (numV 0 a) (numV 0 b)) (buD (numV 0 a) (numV 0 b)), .int .i64 (buE (numV 0 a) (numV 0 b))]) (by simp [*, results, Tryd.results21, go_sem]) rfl ⟨rfl, (by repeat (first | assumption | refine Below.setCell ?_ (by first | omega | (simp <;> omega)) _))⟩

end Go.Proofs.YtjcdjmjebbllkaaDoor
