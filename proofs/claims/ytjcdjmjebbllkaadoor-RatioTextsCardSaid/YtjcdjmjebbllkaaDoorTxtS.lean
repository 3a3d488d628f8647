/- The library's functions that Parse calls, in the form in which its walk takes them. -/
import Derived.Test.YtjcdjmjebbllkaaDoorTxtW
import Derived.Test.YtjcdjmjebbllkaaDoorBoxes
import Derived.Laws.RangeString
import Derived.Lib.OthersKept
import Derived.Lib.AtoiErrMem
namespace Go.Proofs.YtjcdjmjebbllkaaDoor
open Go.RowKit
attribute [local go_sem] le_add_one'

/-- What Parse leans on: the library's two variables. -/
def Env (w : World) : Prop := (∃ m, w.cell? ⟨0, 0, none⟩ = some (.int .i64 m)) ∧ ∃ ev, w.cell? ⟨2, 0, none⟩ = some ev ∧ (ev = .nilIface ∨ ∃ te pe, ev = .iface te pe)
theorem Env.keep {w w' : World} (h : Env w) (hb : Below w.heap.size w w') : Env w' := by
  obtain ⟨⟨m, h1⟩, ev, h2, h3⟩ := h
  exact ⟨⟨m, keep_cell hb h1⟩, ev, keep_cell hb h2, h3⟩
theorem below_words {w w' : World} {t : TypeId} {s : ByteArray} (h : w' = w ∨ w' = Lib.bytesWorld w t s) : Below w.heap.size w w' := by
  rcases h with rfl | rfl
  · exact Below.refl _ _
  · exact Lib.bytesWorld_below _ _ _

theorem cutprefix_any (l : List UInt8) (w : World) :
    Calls Tryd.prog 51 #[.string ⟨l.toArray⟩, .string ⟨#[45]⟩] w fun e w' => e = .returned (.tuple #[.string ⟨(Lib.trimPrefix l [45]).toArray⟩, .bool (Lib.hasPrefix l [45])]) ∧ Below w.heap.size w w' := by
  refine (Tryd.strings_CutPrefix ⟨l.toArray⟩ ⟨#[45]⟩ w).mono ?_
  rintro e w' ⟨rfl, rfl⟩
  exact ⟨rfl, Below.refl _ _⟩
theorem cut_any (l : List UInt8) (c : UInt8) (w : World) (hl : l.length ≤ 1000) (hE : Env w) :
    Calls Tryd.prog 52 #[.string ⟨l.toArray⟩, .string ⟨#[c]⟩] w fun e w' => e = .returned (.tuple #[.string ⟨(Lib.cut l [c]).1.toArray⟩, .string ⟨(Lib.cut l [c]).2.1.toArray⟩, .bool (Lib.cut l [c]).2.2]) ∧ Below w.heap.size w w' := by
  obtain ⟨⟨m, hm⟩, -⟩ := hE
  have hz : (⟨l.toArray⟩ : ByteArray).size = l.length := by simp [ByteArray.size]
  refine (Tryd.strings_Cut ⟨l.toArray⟩ ⟨#[c]⟩ m w (by omega) hm).mono ?_
  rintro e w' ⟨rfl, n, rfl⟩
  exact ⟨rfl, below_drewN (Below.refl _ _) _⟩
theorem dig_any (l : List UInt8) (m : Nat) (w : World) :
    Calls Tryd.prog 48 #[.string ⟨l.toArray⟩, .int .i64 (m : Int)] w fun e w' => e = .returned (.bool (digL l m)) ∧ Below w.heap.size w w' := by
  have h := digits_any ⟨l.toArray⟩ m w
  rw [digB_eq] at h
  exact h
theorem trim_any (l : List UInt8) (w : World) :
    Calls Tryd.prog 53 #[.string ⟨l.toArray⟩, .string ⟨#[48]⟩] w fun e w' => e = .returned (.string ⟨(Lib.trimLeftB l 48).toArray⟩) ∧ Below w.heap.size w w' := by
  refine (Tryd.strings_TrimLeft_one ⟨l.toArray⟩ 48 (by decide) w).mono ?_
  rintro e w' ⟨rfl, rfl⟩
  exact ⟨rfl, Below.refl _ _⟩
/-- What ParseUint returns beside an error that is not looked at. -/
def PuIs (l : List UInt8) (e : Ending) : Prop := ∃ u v, e = .returned (.tuple #[.int .u64 u, v]) ∧ (numV 0 l < 18446744073709551616 → u = (numV 0 l : Int))
theorem puint_any (l : List UInt8) (w : World) (hl : l.length ≤ 1000) (hd : l.all isD = true) (hE : Env w) :
    Calls Tryd.prog 54 #[.string ⟨(48 :: l).toArray⟩, .int .i64 10, .int .i64 64] w fun e w' => PuIs l e ∧ Below w.heap.size w w' := by
  have hz : (⟨(48 :: l).toArray⟩ : ByteArray).size = l.length + 1 := by simp [ByteArray.size]
  by_cases hv : numV 0 l < 18446744073709551616
  · refine (Tryd.strconv_ParseUint_10_at64_ok ⟨(48 :: l).toArray⟩ (by omega) _ (parseB_ok hd hv) w).mono ?_
    rintro e w' ⟨rfl, hw⟩
    exact ⟨⟨_, _, rfl, fun _ => rfl⟩, below_words hw⟩
  · obtain ⟨-, ev, h2, h3⟩ := hE
    refine (Any.strconv_ParseUint_10_at64_range Tryd.laysPu14 ⟨(48 :: l).toArray⟩ (by omega) (parseB_range hd hv) ev w h2 h3).mono ?_
    rintro e w' ⟨N, rfl, -, -, hb⟩
    exact ⟨⟨_, _, rfl, fun h => absurd h hv⟩, hb⟩
theorem atoi_any (l : List UInt8) (w : World) (hl : digL l 7 = true) :
    Calls Tryd.prog 55 #[.string ⟨l.toArray⟩] w fun e w' => e = .returned (.tuple #[.int .i64 (numV 0 l : Int), .nilIface]) ∧ Below w.heap.size w w' := by
  obtain ⟨h1, h2, h3⟩ := digL_iff.1 hl
  have hz : (⟨l.toArray⟩ : ByteArray).size = l.length := by simp [ByteArray.size]
  refine (Tryd.strconv_Atoi_ok ⟨l.toArray⟩ (by omega) _ (atoi_digits (l := l) h1 h3 (by have := num_7 h3 h2; omega)) w).mono ?_
  rintro e w' ⟨rfl, hw⟩
  refine ⟨rfl, ?_⟩
  rcases hw with rfl | ⟨t, rfl⟩
  · exact Below.refl _ _
  · exact Lib.bytesWorld_below _ _ _
end Go.Proofs.YtjcdjmjebbllkaaDoor
