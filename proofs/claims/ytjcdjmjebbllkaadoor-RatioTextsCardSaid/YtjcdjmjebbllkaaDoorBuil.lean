/- A slice of seven strings is made: one operation of the law RatioTexts, by itself. -/
import Derived.Test.YtjcdjmjebbllkaaDoorBoxes
import Derived.Deep.DrawnRows
namespace Go.Proofs.YtjcdjmjebbllkaaDoor
open Go.RowKit
attribute [local go_sem] le_add_one'

set_option maxHeartbeats 400000 in
theorem exec7 (ty : TypeId) (pos : String) (after : Array Edge) (g : Option (Nat × Bool)) (r : Operand → Value) (w : World) (s0 s1 s2 s3 s4 s5 s6 : ByteArray)
    (h0 : r (.tmp 78) = .string s0) (h1 : r (.tmp 80) = .string s1) (h2 : r (.tmp 84) = .string s2) (h3 : r (.tmp 89) = .string s3) (h4 : r (.tmp 91) = .string s4) (h5 : r (.tmp 94) = .string s5) (h6 : r (.tmp 96) = .string s6) :
    (execOp r ⟨some 97, .buildSlice 44 7 #[(0, .tmp 78), (1, .tmp 80), (2, .tmp 84), (3, .tmp 89), (4, .tmp 91), (5, .tmp 94), (6, .tmp 96)], ty, pos, after, g⟩).run Tryd.prog w = .ok (.value (.slice (some ⟨w.heap.size, 0, none⟩) 7 7)) (w.alloc (.cells #[.string s0, .string s1, .string s2, .string s3, .string s4, .string s5, .string s6] 9)) := by
  simp only [execOp]
  go_simp
theorem build7 (ty : TypeId) (pos : String) (after : Array Edge) (g : Option (Nat × Bool)) (a : Act) (w : World) (K : Act → World → Prop) (Q : Exit → Act → World → Prop) (s0 s1 s2 s3 s4 s5 s6 : ByteArray)
    (h0 : a.eval (.tmp 78) = .string s0) (h1 : a.eval (.tmp 80) = .string s1) (h2 : a.eval (.tmp 84) = .string s2) (h3 : a.eval (.tmp 89) = .string s3) (h4 : a.eval (.tmp 91) = .string s4) (h5 : a.eval (.tmp 94) = .string s5) (h6 : a.eval (.tmp 96) = .string s6)
    (h : K (a.put (some 97) (.slice (some ⟨w.heap.size, 0, none⟩) 7 7)) (w.alloc (.cells #[.string s0, .string s1, .string s2, .string s3, .string s4, .string s5, .string s6] 9))) :
    Oper.wp Tryd.prog ⟨some 97, .buildSlice 44 7 #[(0, .tmp 78), (1, .tmp 80), (2, .tmp 84), (3, .tmp 89), (4, .tmp 91), (5, .tmp 94), (6, .tmp 96)], ty, pos, after, g⟩ a w K Q := by
  unfold Oper.wp
  rw [exec7 ty pos after g a.eval w s0 s1 s2 s3 s4 s5 s6 h0 h1 h2 h3 h4 h5 h6, Oper.upon_value]
  exact h
end Go.Proofs.YtjcdjmjebbllkaaDoor
