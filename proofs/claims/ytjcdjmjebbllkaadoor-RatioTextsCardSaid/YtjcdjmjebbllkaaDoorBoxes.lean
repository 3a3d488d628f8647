/- Boxes of ratios in memory: what the long laws keep of them. -/
import Derived.Test.YtjcdjmjebbllkaaDoorFresh
namespace Go.Proofs.YtjcdjmjebbllkaaDoor
open Go.RowKit

/-- The box g of the world W holds a ratio, and can be written. -/
def Box (W : World) (g : Nat) (n d : Int) : Prop := W.cell? ⟨g, 0, none⟩ = some (.int .i64 n) ∧ W.cell? ⟨g, 1, none⟩ = some (.int .i64 d) ∧ g < W.heap.size ∧ W.frozen? ⟨g, 0, none⟩ = false ∧ W.frozen? ⟨g, 1, none⟩ = false
theorem Box.keep {W W' : World} {g : Nat} {n d : Int} (h : Box W g n d) (hb : Below W.heap.size W W') : Box W' g n d := by
  obtain ⟨h1, h2, h3, h4, h5⟩ := h
  exact ⟨keep_cell hb h1, keep_cell hb h2, Nat.lt_of_lt_of_le h3 hb.size, (hb.frozen (p := ⟨g, 0, none⟩) h3).trans h4, (hb.frozen (p := ⟨g, 1, none⟩) h3).trans h5⟩
theorem box_alloc (W : World) (n d : Int) (t : TypeId) : Box (W.alloc (.cells #[.int .i64 n, .int .i64 d] t)) W.heap.size n d :=
  ⟨by simp, by simp, by simp, by simp [go_sem], by simp [go_sem]⟩
theorem below_alloc {B : Nat} {W W' : World} (hb : Below B W W') (hB : B ≤ W.heap.size) (o : Obj) : Below B W (W'.alloc o) := hb.alloc (Nat.le_trans hB hb.size) o

/-- What a law holds while it goes on: the start's memory, the pairs in block B, the boxes of the two ratios. -/
def Held (w W : World) (B : Nat) (ps : List (Int × Int)) : Prop := Below w.heap.size w W ∧ B < W.heap.size ∧ PairsAt W B ps
theorem Held.keep {w W W' : World} {B : Nat} {ps : List (Int × Int)} (h : Held w W B ps) (hb : Below W.heap.size W W') : Held w W' B ps :=
  ⟨h.1.trans (hb.mono h.1.size), Nat.lt_of_lt_of_le h.2.1 hb.size, h.2.2.keep h.2.1 hb⟩
theorem Held.set {w W : World} {B : Nat} {ps : List (Int × Int)} (h : Held w W B ps) {g : Nat} (hg : w.heap.size ≤ g) (hB : B < g) (o : Nat) (v : Value) : Held w (W.setCell ⟨g, o, none⟩ v) B ps :=
  ⟨h.1.setCell hg _, by simpa using h.2.1, fun j x y hj => by
    obtain ⟨h1, h2⟩ := h.2.2 j x y hj
    exact ⟨(World.cell?_setCell_other _ _ _ _ (by first | (simp; done) | (simp; omega) | omega)).trans h1, (World.cell?_setCell_other _ _ _ _ (by first | (simp; done) | (simp; omega) | omega)).trans h2⟩⟩
theorem Held.drew {w W : World} {B : Nat} {ps : List (Int × Int)} (h : Held w W B ps) : Held w W.drew B ps := ⟨h.1.drew, h.2.1, h.2.2⟩
theorem Box.set {W : World} {g : Nat} {n d : Int} (h : Box W g n d) {g' : Nat} (hg : g < g' ∨ g' < g) (o : Nat) (v : Value) : Box (W.setCell ⟨g', o, none⟩ v) g n d := by
  obtain ⟨h1, h2, h3, h4, h5⟩ := h
  exact ⟨(World.cell?_setCell_other _ _ _ _ (by first | (simp; done) | (simp; omega) | omega)).trans h1, (World.cell?_setCell_other _ _ _ _ (by first | (simp; done) | (simp; omega) | omega)).trans h2, by simpa using h3, by simpa using h4, by simpa using h5⟩
end Go.Proofs.YtjcdjmjebbllkaaDoor
