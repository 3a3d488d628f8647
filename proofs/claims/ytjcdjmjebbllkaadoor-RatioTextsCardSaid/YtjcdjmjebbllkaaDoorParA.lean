/- Parse of the package. -/
import Derived.Test.YtjcdjmjebbllkaaDoorTxtS
import Derived.Deep.DrawnRows
import Derived.Deep.DeepCutAuto
namespace Go.Proofs.YtjcdjmjebbllkaaDoor
open Go.RowKit
attribute [local go_sem] le_add_one'

theorem cat_mk (a b : List UInt8) : (⟨a.toArray⟩ ++ ⟨b.toArray⟩ : ByteArray) = ⟨(a ++ b).toArray⟩ := ByteArray.mk_append_mk ..
theorem cat_nil (a : List UInt8) : (⟨a.toArray⟩ ++ ⟨#[]⟩ : ByteArray) = ⟨a.toArray⟩ := by
  rw [show (⟨#[]⟩ : ByteArray) = ⟨([] : List UInt8).toArray⟩ from rfl, ByteArray.mk_append_mk, List.append_nil]
theorem cat_48 (a : List UInt8) : (⟨#[48]⟩ ++ ⟨a.toArray⟩ : ByteArray) = ⟨(48 :: a).toArray⟩ := by
  rw [show (⟨#[48]⟩ : ByteArray) = ⟨[48].toArray⟩ from rfl, ByteArray.mk_append_mk]; rfl

/-- What a triple stands for. -/
def rat3 (R : Int × Int × Int) : Value := .tuple #[rat R.1 R.2.1, .int .i64 R.2.2]
set_option maxHeartbeats 4000000 in
set_option maxRecDepth 100000 in
theorem parse_s1 (l : List UInt8) (w : World) (hl : l.length ≤ 1000) (hE : Env w) (neg : Bool) (r : List UInt8) (hneg : Lib.hasPrefix l [45] = neg) (hrr : Lib.trimPrefix l [45] = r) (a b : List UInt8) (h47 : Lib.cut r [47] = (a, b, true)) (d1 : digL a 15 = false) :
    Calls Tryd.prog 21 #[.string ⟨l.toArray⟩] w fun e w' => e = .returned (.tuple #[rat 0 0, .int .i64 2]) ∧ Below w.heap.size w w' := by
  have D15 := Lib.hid (fun w => dig_any a 15 w)
  rw [d1] at D15
  have C1 := Lib.hid (fun w => cutprefix_any l w)
  rw [hneg, hrr] at C1
  have hrl : r.length ≤ 1000 := by
    rw [← hrr]; unfold Lib.trimPrefix; split
    · rw [List.length_drop]; omega
    · exact hl
  have C2 := Lib.hid (fun w h => cut_any r 47 w hrl h)
  rw [h47] at C2
  have HE := Lib.hid hE
  clear hl hE hneg hrr h47
  go_enter Tryd.func21, Tryd.ntmps21
  go_upto_region 1 with fail
  have BR := box_alloc w 0 0 24
  have HB := below_alloc (Below.refl w.heap.size w) (Nat.le_refl _) (Obj.cells #[.int .i64 0, .int .i64 0] 24)
  replace HE := Lib.hid (HE.out.keep HB)
  generalize (w.alloc (Obj.cells #[.int .i64 0, .int .i64 0] 24)) = W0 at *
  obtain ⟨f1, f2, f3, f4, f5⟩ := id BR
  go_wp2_with fail
  refine (C1.out _).mono ?_
  rintro e W1 ⟨rfl, hb⟩
  replace BR := BR.keep hb
  replace HB := HB.trans (hb.mono HB.size)
  replace HE := Lib.hid (HE.out.keep hb)
  clear hb f1 f2 f3 f4 f5
  obtain ⟨f1, f2, f3, f4, f5⟩ := id BR
  go_wp2_with fail
  refine (C2.out _ HE.out).mono ?_
  rintro e W2 ⟨rfl, hb⟩
  replace BR := BR.keep hb
  replace HB := HB.trans (hb.mono HB.size)
  replace HE := Lib.hid (HE.out.keep hb)
  clear hb f1 f2 f3 f4 f5
  obtain ⟨f1, f2, f3, f4, f5⟩ := id BR
  go_wp2_with fail
  refine (D15.out _).mono ?_
  rintro e W3 ⟨rfl, hb⟩
  replace BR := BR.keep hb
  replace HB := HB.trans (hb.mono HB.size)
  replace HE := Lib.hid (HE.out.keep hb)
  clear hb f1 f2 f3 f4 f5
  obtain ⟨f1, f2, f3, f4, f5⟩ := id BR
  go_wp2_with fail
  exact bodyPost_ret (v := .tuple #[rat 0 0, .int .i64 2]) (by simp [*, results, Tryd.results21, go_sem]) rfl ⟨rfl, (by repeat (first | assumption | refine Below.setCell ?_ (by first | omega | (simp <;> omega)) _))⟩

set_option maxHeartbeats 4000000 in
set_option maxRecDepth 100000 in
theorem parse_s2 (l : List UInt8) (w : World) (hl : l.length ≤ 1000) (hE : Env w) (neg : Bool) (r : List UInt8) (hneg : Lib.hasPrefix l [45] = neg) (hrr : Lib.trimPrefix l [45] = r) (a b : List UInt8) (h47 : Lib.cut r [47] = (a, b, true)) (d1 : digL a 15 = true) (d2 : digL b 7 = false) :
    Calls Tryd.prog 21 #[.string ⟨l.toArray⟩] w fun e w' => e = .returned (.tuple #[rat 0 0, .int .i64 2]) ∧ Below w.heap.size w w' := by
  have D15 := Lib.hid (fun w => dig_any a 15 w)
  rw [d1] at D15
  have D7 := Lib.hid (fun w => dig_any b 7 w)
  rw [d2] at D7
  have C1 := Lib.hid (fun w => cutprefix_any l w)
  rw [hneg, hrr] at C1
  have hrl : r.length ≤ 1000 := by
    rw [← hrr]; unfold Lib.trimPrefix; split
    · rw [List.length_drop]; omega
    · exact hl
  have C2 := Lib.hid (fun w h => cut_any r 47 w hrl h)
  rw [h47] at C2
  have HE := Lib.hid hE
  clear hl hE hneg hrr h47
  go_enter Tryd.func21, Tryd.ntmps21
  go_upto_region 1 with fail
  have BR := box_alloc w 0 0 24
  have HB := below_alloc (Below.refl w.heap.size w) (Nat.le_refl _) (Obj.cells #[.int .i64 0, .int .i64 0] 24)
  replace HE := Lib.hid (HE.out.keep HB)
  generalize (w.alloc (Obj.cells #[.int .i64 0, .int .i64 0] 24)) = W0 at *
  obtain ⟨f1, f2, f3, f4, f5⟩ := id BR
  go_wp2_with fail
  refine (C1.out _).mono ?_
  rintro e W1 ⟨rfl, hb⟩
  replace BR := BR.keep hb
  replace HB := HB.trans (hb.mono HB.size)
  replace HE := Lib.hid (HE.out.keep hb)
  clear hb f1 f2 f3 f4 f5
  obtain ⟨f1, f2, f3, f4, f5⟩ := id BR
  go_wp2_with fail
  refine (C2.out _ HE.out).mono ?_
  rintro e W2 ⟨rfl, hb⟩
  replace BR := BR.keep hb
  replace HB := HB.trans (hb.mono HB.size)
  replace HE := Lib.hid (HE.out.keep hb)
  clear hb f1 f2 f3 f4 f5
  obtain ⟨f1, f2, f3, f4, f5⟩ := id BR
  go_wp2_with fail
  refine (D15.out _).mono ?_
  rintro e W3 ⟨rfl, hb⟩
  replace BR := BR.keep hb
  replace HB := HB.trans (hb.mono HB.size)
  replace HE := Lib.hid (HE.out.keep hb)
  clear hb f1 f2 f3 f4 f5
  obtain ⟨f1, f2, f3, f4, f5⟩ := id BR
  go_wp2_with fail
  refine (D7.out _).mono ?_
  rintro e W4 ⟨rfl, hb⟩
  replace BR := BR.keep hb
  replace HB := HB.trans (hb.mono HB.size)
  replace HE := Lib.hid (HE.out.keep hb)
  clear hb f1 f2 f3 f4 f5
  obtain ⟨f1, f2, f3, f4, f5⟩ := id BR
  go_wp2_with fail
  exact bodyPost_ret (v := .tuple #[rat 0 0, .int .i64 2]) (by simp [*, results, Tryd.results21, go_sem]) rfl ⟨rfl, (by repeat (first | assumption | refine Below.setCell ?_ (by first | omega | (simp <;> omega)) _))⟩

set_option maxHeartbeats 4000000 in
set_option maxRecDepth 100000 in
theorem parse_p1 (l : List UInt8) (w : World) (hl : l.length ≤ 1000) (hE : Env w) (neg : Bool) (r : List UInt8) (hneg : Lib.hasPrefix l [45] = neg) (hrr : Lib.trimPrefix l [45] = r) (x y : List UInt8) (pt : Bool) (h47 : Lib.cut r [47] = (r, [], false)) (h46 : Lib.cut r [46] = (x, y, pt)) (d1 : digL x 15 = false) :
    Calls Tryd.prog 21 #[.string ⟨l.toArray⟩] w fun e w' => e = .returned (.tuple #[rat 0 0, .int .i64 2]) ∧ Below w.heap.size w w' := by
  have D15 := Lib.hid (fun w => dig_any x 15 w)
  rw [d1] at D15
  have C1 := Lib.hid (fun w => cutprefix_any l w)
  rw [hneg, hrr] at C1
  have hrl : r.length ≤ 1000 := by
    rw [← hrr]; unfold Lib.trimPrefix; split
    · rw [List.length_drop]; omega
    · exact hl
  have C2 := Lib.hid (fun w h => cut_any r 47 w hrl h)
  rw [h47] at C2
  have HE := Lib.hid hE
  have C3 := Lib.hid (fun w h => cut_any r 46 w hrl h)
  rw [h46] at C3
  clear hl hE hneg hrr h47 h46
  go_enter Tryd.func21, Tryd.ntmps21
  go_upto_region 1 with fail
  have BR := box_alloc w 0 0 24
  have HB := below_alloc (Below.refl w.heap.size w) (Nat.le_refl _) (Obj.cells #[.int .i64 0, .int .i64 0] 24)
  replace HE := Lib.hid (HE.out.keep HB)
  generalize (w.alloc (Obj.cells #[.int .i64 0, .int .i64 0] 24)) = W0 at *
  obtain ⟨f1, f2, f3, f4, f5⟩ := id BR
  go_wp2_with fail
  refine (C1.out _).mono ?_
  rintro e W1 ⟨rfl, hb⟩
  replace BR := BR.keep hb
  replace HB := HB.trans (hb.mono HB.size)
  replace HE := Lib.hid (HE.out.keep hb)
  clear hb f1 f2 f3 f4 f5
  obtain ⟨f1, f2, f3, f4, f5⟩ := id BR
  go_wp2_with fail
  refine (C2.out _ HE.out).mono ?_
  rintro e W2 ⟨rfl, hb⟩
  replace BR := BR.keep hb
  replace HB := HB.trans (hb.mono HB.size)
  replace HE := Lib.hid (HE.out.keep hb)
  clear hb f1 f2 f3 f4 f5
  obtain ⟨f1, f2, f3, f4, f5⟩ := id BR
  go_wp2_with fail
  refine (C3.out _ HE.out).mono ?_
  rintro e W3 ⟨rfl, hb⟩
  replace BR := BR.keep hb
  replace HB := HB.trans (hb.mono HB.size)
  replace HE := Lib.hid (HE.out.keep hb)
  clear hb f1 f2 f3 f4 f5
  obtain ⟨f1, f2, f3, f4, f5⟩ := id BR
  go_wp2_with fail
  refine (D15.out _).mono ?_
  rintro e W4 ⟨rfl, hb⟩
  replace BR := BR.keep hb
  replace HB := HB.trans (hb.mono HB.size)
  replace HE := Lib.hid (HE.out.keep hb)
  clear hb f1 f2 f3 f4 f5
  obtain ⟨f1, f2, f3, f4, f5⟩ := id BR
  go_wp2_with fail
  exact bodyPost_ret (v := .tuple #[rat 0 0, .int .i64 2]) (by simp [*, results, Tryd.results21, go_sem]) rfl ⟨rfl, (by repeat (first | assumption | refine Below.setCell ?_ (by first | omega | (simp <;> omega)) _))⟩

set_option maxHeartbeats 4000000 in
set_option maxRecDepth 100000 in
theorem parse_p2 (l : List UInt8) (w : World) (hl : l.length ≤ 1000) (hE : Env w) (neg : Bool) (r : List UInt8) (hneg : Lib.hasPrefix l [45] = neg) (hrr : Lib.trimPrefix l [45] = r) (x y : List UInt8) (h47 : Lib.cut r [47] = (r, [], false)) (h46 : Lib.cut r [46] = (x, y, true)) (d1 : digL x 15 = true) (d2 : digL y 6 = false) :
    Calls Tryd.prog 21 #[.string ⟨l.toArray⟩] w fun e w' => e = .returned (.tuple #[rat 0 0, .int .i64 2]) ∧ Below w.heap.size w w' := by
  have D15 := Lib.hid (fun w => dig_any x 15 w)
  rw [d1] at D15
  have D6 := Lib.hid (fun w => dig_any y 6 w)
  rw [d2] at D6
  have C1 := Lib.hid (fun w => cutprefix_any l w)
  rw [hneg, hrr] at C1
  have hrl : r.length ≤ 1000 := by
    rw [← hrr]; unfold Lib.trimPrefix; split
    · rw [List.length_drop]; omega
    · exact hl
  have C2 := Lib.hid (fun w h => cut_any r 47 w hrl h)
  rw [h47] at C2
  have HE := Lib.hid hE
  have C3 := Lib.hid (fun w h => cut_any r 46 w hrl h)
  rw [h46] at C3
  clear hl hE hneg hrr h47 h46
  go_enter Tryd.func21, Tryd.ntmps21
  go_upto_region 1 with fail
  have BR := box_alloc w 0 0 24
  have HB := below_alloc (Below.refl w.heap.size w) (Nat.le_refl _) (Obj.cells #[.int .i64 0, .int .i64 0] 24)
  replace HE := Lib.hid (HE.out.keep HB)
  generalize (w.alloc (Obj.cells #[.int .i64 0, .int .i64 0] 24)) = W0 at *
  obtain ⟨f1, f2, f3, f4, f5⟩ := id BR
  go_wp2_with fail
  refine (C1.out _).mono ?_
  rintro e W1 ⟨rfl, hb⟩
  replace BR := BR.keep hb
  replace HB := HB.trans (hb.mono HB.size)
  replace HE := Lib.hid (HE.out.keep hb)
  clear hb f1 f2 f3 f4 f5
  obtain ⟨f1, f2, f3, f4, f5⟩ := id BR
  go_wp2_with fail
  refine (C2.out _ HE.out).mono ?_
  rintro e W2 ⟨rfl, hb⟩
  replace BR := BR.keep hb
  replace HB := HB.trans (hb.mono HB.size)
  replace HE := Lib.hid (HE.out.keep hb)
  clear hb f1 f2 f3 f4 f5
  obtain ⟨f1, f2, f3, f4, f5⟩ := id BR
  go_wp2_with fail
  refine (C3.out _ HE.out).mono ?_
  rintro e W3 ⟨rfl, hb⟩
  replace BR := BR.keep hb
  replace HB := HB.trans (hb.mono HB.size)
  replace HE := Lib.hid (HE.out.keep hb)
  clear hb f1 f2 f3 f4 f5
  obtain ⟨f1, f2, f3, f4, f5⟩ := id BR
  go_wp2_with fail
  refine (D15.out _).mono ?_
  rintro e W4 ⟨rfl, hb⟩
  replace BR := BR.keep hb
  replace HB := HB.trans (hb.mono HB.size)
  replace HE := Lib.hid (HE.out.keep hb)
  clear hb f1 f2 f3 f4 f5
  obtain ⟨f1, f2, f3, f4, f5⟩ := id BR
  go_wp2_with fail
  refine (D6.out _).mono ?_
  rintro e W5 ⟨rfl, hb⟩
  replace BR := BR.keep hb
  replace HB := HB.trans (hb.mono HB.size)
  replace HE := Lib.hid (HE.out.keep hb)
  clear hb f1 f2 f3 f4 f5
  obtain ⟨f1, f2, f3, f4, f5⟩ := id BR
  go_wp2_with fail
  exact bodyPost_ret (v := .tuple #[rat 0 0, .int .i64 2]) (by simp [*, results, Tryd.results21, go_sem]) rfl ⟨rfl, (by repeat (first | assumption | refine Below.setCell ?_ (by first | omega | (simp <;> omega)) _))⟩

end Go.Proofs.YtjcdjmjebbllkaaDoor
