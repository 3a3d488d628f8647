/- Small laws on memory that the walks of the statements share. -/
import Derived.Test.YtjcdjmjebbllkaaDoorNew
namespace Go.Proofs.YtjcdjmjebbllkaaDoor
open Go.RowKit

theorem keep_cell {W w1 : World} {a : Addr} {v : Value} (hb : Below W.heap.size W w1) (h : W.cell? a = some v) : w1.cell? a = some v := (hb.cell (World.block_lt_of_cell? W a h)).trans h
theorem keep_alloc {W : World} {a : Addr} {v : Value} (h : W.cell? a = some v) (o : Obj) : (W.alloc o).cell? a = some v := (World.cell?_alloc_some W a o (by rw [h]; rfl)).trans h
theorem keep_drew {W : World} {a : Addr} {v : Value} (h : W.cell? a = some v) : W.drew.cell? a = some v := h
theorem keep_drewN {W : World} {a : Addr} {v : Value} {n : Nat} (h : W.cell? a = some v) : (W.drewN n).cell? a = some v := h

theorem undrew {B : Nat} {W w1 : World} (h : Below B W.drew w1) : Below B W w1 := ⟨h.os, h.tape, h.output, h.size, h.block⟩
theorem undrewN {B n : Nat} {W w1 : World} (h : Below B (W.drewN n) w1) : Below B W w1 := ⟨h.os, h.tape, h.output, h.size, h.block⟩

/-- A new ratio lies in block g of wx, which has more than wr. -/
def Fresh (wr wx : World) (g : Nat) (n d : Int) : Prop := wr.heap.size ≤ g ∧ g < wx.heap.size ∧ wx.cell? ⟨g, 0, none⟩ = some (.int .i64 n) ∧ wx.cell? ⟨g, 1, none⟩ = some (.int .i64 d) ∧ Below wr.heap.size wr wx
theorem freshA {wr w1 : World} {n d : Int} (t : TypeId) (hb : Below wr.heap.size wr w1) : Fresh wr (w1.alloc (.cells #[.int .i64 n, .int .i64 d] t)) w1.heap.size n d :=
  ⟨hb.size, by simp, by simp, by simp, hb.alloc hb.size _⟩
theorem freshB {wr w1 : World} {n d a b : Int} {t : TypeId} (hb : Below (wr.heap.size + 1) (wr.alloc (.cells #[.int .i64 a, .int .i64 b] t)) w1) :
    Fresh wr ((w1.setCell ⟨wr.heap.size, 0, none⟩ (.int .i64 n)).setCell ⟨wr.heap.size, 1, none⟩ (.int .i64 d)) wr.heap.size n d := by
  have h0 : w1.cell? ⟨wr.heap.size, 0, none⟩ = some (.int .i64 a) := (hb.cell (p := ⟨wr.heap.size, 0, none⟩) (by simp)).trans (by simp)
  have h1 : w1.cell? ⟨wr.heap.size, 1, none⟩ = some (.int .i64 b) := (hb.cell (p := ⟨wr.heap.size, 1, none⟩) (by simp)).trans (by simp)
  have hz := hb.size
  simp only [World.size_alloc] at hz
  have hB : Below wr.heap.size wr w1 := ((Below.refl _ _).alloc (Nat.le_refl _) _).trans (hb.mono (by omega))
  have k0 : (w1.setCell ⟨wr.heap.size, 0, none⟩ (.int .i64 n)).cell? ⟨wr.heap.size, 1, none⟩ = some (.int .i64 b) := (World.cell?_setCell_other _ _ _ _ (by simp)).trans h1
  refine ⟨Nat.le_refl _, by simp; omega, ?_, World.cell?_setCell_same _ _ _ k0, (hB.setCell (Nat.le_refl _) _).setCell (Nat.le_refl _) _⟩
  exact (World.cell?_setCell_other _ _ _ _ (by simp)).trans (World.cell?_setCell_same _ _ _ h0)

/-- Pairs of numbers laid side by side in one block. -/
def PairsAt (w : World) (B : Nat) (ps : List (Int × Int)) : Prop := ∀ (j : Nat) (x y : Int), ps[j]? = some (x, y) → w.cell? ⟨B, j * 2, none⟩ = some (.int .i64 x) ∧ w.cell? ⟨B, j * 2 + 1, none⟩ = some (.int .i64 y)
theorem PairsAt.keep {w W : World} {B : Nat} {ps : List (Int × Int)} (h : PairsAt w B ps) (hB : B < w.heap.size) (hb : Below w.heap.size w W) : PairsAt W B ps := fun j x y hj => by
  obtain ⟨h1, h2⟩ := h j x y hj
  exact ⟨(hb.cell (p := ⟨B, j * 2, none⟩) hB).trans h1, (hb.cell (p := ⟨B, j * 2 + 1, none⟩) hB).trans h2⟩
theorem wrap64_bd (x : Int) : -9223372036854775808 ≤ wrap64 x ∧ wrap64 x ≤ 9223372036854775807 := by
  unfold wrap64; omega
/-- Numbers that an int holds. -/
def Fit (ps : List (Int × Int)) : Prop := ∀ (j : Nat) (x y : Int), ps[j]? = some (x, y) → (-9223372036854775808 ≤ x ∧ x ≤ 9223372036854775807) ∧ (-9223372036854775808 ≤ y ∧ y ≤ 9223372036854775807)
end Go.Proofs.YtjcdjmjebbllkaaDoor
