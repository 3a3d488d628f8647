/- The walk of RatioTexts. -/
import Derived.Test.YtjcdjmjebbllkaaDoorTxtB
import Derived.Test.YtjcdjmjebbllkaaDoorRpaZ
import Derived.Test.YtjcdjmjebbllkaaDoorGen
import Derived.Test.YtjcdjmjebbllkaaDoorLives
import Derived.Laws.IdiomStrings
import Derived.Deep.DrawnRows
import Derived.Deep.DeepCutAuto
import Derived.Deep.RegionHeld3
import Derived.Laws.AppendOwn
import Derived.Test.YtjcdjmjebbllkaaDoorBuil
namespace Go.Proofs.YtjcdjmjebbllkaaDoor
open Go.RowKit
attribute [local go_sem] le_add_one'
attribute [local go_sem ↓] Go.wp_at_zero Go.wp_at_succ

/-- The bytes l lie in block g, and can be written. -/
def Byt (W : World) (g : Nat) (l : List UInt8) : Prop := (∀ j (hj : j < l.length), W.cell? ⟨g, j, none⟩ = some (.int .u8 ((l[j]'hj).toNat : Int))) ∧ ∀ j, j < l.length → W.frozen? ⟨g, j, none⟩ = false
theorem Byt.keep {W W' : World} {g : Nat} {l : List UInt8} (h : Byt W g l) (hg : g < W.heap.size) (hb : Below W.heap.size W W') : Byt W' g l :=
  ⟨fun j hj => keep_cell hb (h.1 j hj), fun j hj => (hb.frozen (p := ⟨g, j, none⟩) hg).trans (h.2 j hj)⟩
theorem Byt.drew {W : World} {g : Nat} {l : List UInt8} (h : Byt W g l) : Byt W.drew g l := ⟨fun j hj => keep_drew (h.1 j hj), fun j hj => h.2 j hj⟩
theorem Byt.set {W : World} {g : Nat} {l : List UInt8} (h : Byt W g l) (k : Nat) (c : UInt8) : Byt (W.setCell ⟨g, k, none⟩ (.int .u8 (c.toNat : Int))) g (l.set k c) := by
  refine ⟨fun j hj => ?_, fun j hj => ?_⟩
  · rw [List.length_set] at hj
    rw [List.getElem_set]
    by_cases e : k = j
    · subst e
      rw [if_pos rfl]
      exact World.cell?_setCell_same _ _ _ (h.1 k hj)
    · rw [if_neg e]
      exact (World.cell?_setCell_other _ _ _ _ (by first | (simp; done) | (simp; omega))).trans (h.1 j hj)
  · rw [List.length_set] at hj
    have := h.2 j hj
    simpa using this
theorem byt_new {W : World} {l : List UInt8} {cap : Nat} {t : TypeId} (hc : l.length ≤ cap) :
    Byt (W.drew.alloc (.cells (bytesRow ⟨l.toArray⟩ cap) t ((bytesRow ⟨l.toArray⟩ cap).size, (bytesRow ⟨l.toArray⟩ cap).size + 1))) W.heap.size l := by
  have hs : (bytesRow ⟨l.toArray⟩ cap).size = cap := by
    simp [bytesRow, ByteArray.size, Nat.add_sub_cancel' hc]
  refine ⟨fun j hj => ?_, fun j hj => ?_⟩
  · rw [show W.heap.size = W.drew.heap.size from rfl, World.cell?_alloc_mark, bytesRow_at _ _ _ (by simpa using hj)]
    simp
  · rw [show W.heap.size = W.drew.heap.size from rfl, World.frozen?_alloc_mark, hs]
    simp; omega
theorem addr_add (g j : Nat) : (⟨g, 0, none⟩ : Addr).add j = ⟨g, j, none⟩ := by
  by_cases h : j = 0 <;> simp [Addr.add, h]
/-- Strings side by side in one block. -/
def StrsAt (W : World) (B : Nat) (ss : List ByteArray) : Prop := ∀ (j : Nat) (s : ByteArray), ss[j]? = some s → W.cell? ⟨B, j, none⟩ = some (.string s)
theorem StrsAt.keep {W W' : World} {B : Nat} {ss : List ByteArray} (h : StrsAt W B ss) (hb : Below W.heap.size W W') : StrsAt W' B ss := fun j s hj => keep_cell hb (h j s hj)
theorem ba_size (l : List UInt8) : (⟨l.toArray⟩ : ByteArray).size = l.length := by simp [ByteArray.size]
theorem ba_list (s : ByteArray) : (⟨s.data.toList.toArray⟩ : ByteArray) = s := rfl
theorem parse_ba (s : ByteArray) {x y z : Int} (h : parL s.data.toList = (x, y, z)) (hs : s.size ≤ 1000) (w : World) (hE : Env w) :
    Calls Tryd.prog 21 #[.string s] w fun e w' => e = .returned (.tuple #[rat x y, .int .i64 z]) ∧ Below w.heap.size w w' := by
  have := parse_any s.data.toList w (by rw [← Lib.size_eq]; exact hs) hE
  rw [h] at this
  exact this
theorem refparse_ba (s : ByteArray) {x y z : Int} (h : parL s.data.toList = (x, y, z)) (hs : s.size ≤ 1000) (w : World) :
    Calls Tryd.prog 25 #[.string s] w fun e w' => e = .returned (.tuple #[rat x y, .int .i64 z]) ∧ Below w.heap.size w w' := by
  have := refparse_any s.data.toList w (by rw [← Lib.size_eq]; exact hs)
  rw [h] at this
  exact this

set_option maxHeartbeats 16000000 in
set_option maxRecDepth 100000 in
theorem texts_walk (n m num den : Int) (s : ByteArray) (at' c : Int) (w : World) (hE : Env w) (hP : Pows w.heap.size w) (hw : 2 < w.heap.size)
    (hn0 : -9223372036854775808 ≤ n) (hn1 : n ≤ 9223372036854775807) (hm0 : -9223372036854775808 ≤ m) (hm1 : m ≤ 9223372036854775807) (hnum0 : -9223372036854775808 ≤ num) (hnum1 : num ≤ 9223372036854775807) (hden0 : -9223372036854775808 ≤ den) (hden1 : den ≤ 9223372036854775807) (hat'0 : -9223372036854775808 ≤ at') (hat'1 : at' ≤ 9223372036854775807) (hc0 : 0 ≤ c) (hc1 : c ≤ 255) :
    Calls Tryd.prog 5 #[.int .i64 n, .int .i64 m, .int .i64 num, .int .i64 den, .string s, .int .i64 at', .int .u8 c] w fun e w' => e = .returned (.bool true) ∧ Below w.heap.size w w' := by
  have G1 := Lib.hid (fun w => gen_any n m w hn0 hn1 hm0 hm1)
  have v0 := gen_val n m
  unfold genN genD at G1 v0
  generalize newN (genA n m) (genB n m) = A1 at *
  generalize newD (genA n m) (genB n m) = A2 at *
  obtain ⟨a1, a2, a3, a4, -⟩ := valE_ok v0
  have hback := back_any v0
  have hl1 := text_len A1 A2 (by omega) (by omega) (by omega) (by omega)
  have hl0 := text_pos A1 A2
  have TX := Lib.hid (fun w h => text_any A1 A2 w h (by omega) (by omega) (by omega) (by omega))
  have RX := Lib.hid (fun w => reftext_any A1 A2 w (by omega) (by omega) (by omega) (by omega))
  have TR := Lib.hid (fun w h => text_any num den w h hnum0 hnum1 hden0 hden1)
  have RR := Lib.hid (fun w => reftext_any num den w hnum0 hnum1 hden0 hden1)
  have hl2 := text_len num den hnum0 hnum1 hden0 hden1
  generalize textL A1 A2 = T at *
  generalize textL num den = TR0 at *
  have hTs : (⟨T.toArray⟩ : ByteArray).size = T.length := by simp [ByteArray.size]
  have PX := Lib.hid (fun w h => parse_ba ⟨T.toArray⟩ (x := A1) (y := A2) (z := 0) hback (by omega) w h)
  have HE := Lib.hid hE
  have HP := Lib.hid hP
  clear v0 hback hE hP hTs
  go_enter Tryd.func5, Tryd.ntmps5
  go_wp2_with fail
  refine (G1.out _).mono ?_
  rintro e w1 ⟨rfl, hb1⟩
  go_upto_region 2 with fail
  have HB := below_alloc hb1 (Nat.le_refl _) (Obj.cells #[.int .i64 A1, .int .i64 A2] 24)
  have bx := box_alloc w1 A1 A2 24
  clear hb1 G1
  generalize (w1.alloc (Obj.cells #[.int .i64 A1, .int .i64 A2] 24)) = W1 at *
  generalize w1.heap.size = g1 at *
  obtain ⟨x1, x2, x3, x4, x5⟩ := id bx
  go_wp2_with fail
  refine (TX.out _ ((HP.out.on HB).up HB.size)).mono ?_
  rintro e w2 ⟨rfl, hb⟩
  replace bx := bx.keep hb
  replace HB := HB.trans (hb.mono HB.size)
  clear x1 x2 x3 x4 x5 hb TX
  obtain ⟨x1, x2, x3, x4, x5⟩ := id bx
  go_wp2_with fail
  refine (PX.out _ (HE.out.keep HB)).mono ?_
  rintro e w3 ⟨rfl, hb⟩
  go_upto_region 4 with fail
  have hk := below_alloc hb (Nat.le_refl _) (Obj.cells #[.int .i64 A1, .int .i64 A2] 24)
  replace bx := bx.keep hk
  replace HB := HB.trans (hk.mono HB.size)
  have by' := box_alloc w3 A1 A2 24
  clear x1 x2 x3 x4 x5 hb hk PX
  generalize (w3.alloc (Obj.cells #[.int .i64 A1, .int .i64 A2] 24)) = W3 at *
  generalize w3.heap.size = g3 at *
  go_upto_region 5 with fail
  have hk := below_alloc (Below.refl W3.heap.size W3) (Nat.le_refl _) (Obj.cells #[.int .i64 num, .int .i64 den] 24)
  replace bx := bx.keep hk
  replace by' := by'.keep hk
  have bz := box_alloc W3 num den 24
  have hg19 : w.heap.size ≤ W3.heap.size := HB.size
  replace HB := HB.trans (hk.mono HB.size)
  clear hk
  generalize (W3.alloc (Obj.cells #[.int .i64 num, .int .i64 den] 24)) = W4 at *
  generalize W3.heap.size = g4 at *
  obtain ⟨x1, x2, x3, x4, x5⟩ := id bx
  obtain ⟨y1, y2, y3, y4, y5⟩ := id by'
  obtain ⟨z1, z2, z3, z4, z5⟩ := id bz
  go_cut [61] (fun u wx => u = .bool false ∧ Below w.heap.size w wx ∧ Box wx g4 num den)
  case first => as_aux_lemma =>
    refine wp_region_held_drew (S := (fun w' => w'.cell? ⟨g1, 0, none⟩ = some (.int .i64 A1) ∧ w'.cell? ⟨g1, 1, none⟩ = some (.int .i64 A2) ∧ w'.cell? ⟨g3, 0, none⟩ = some (.int .i64 A1) ∧ w'.cell? ⟨g3, 1, none⟩ = some (.int .i64 A2) ∧ w'.cell? ⟨g4, 0, none⟩ = some (.int .i64 num) ∧ w'.cell? ⟨g4, 1, none⟩ = some (.int .i64 den))) (by kernel_rfl) ?_ (fun hHeld => ?_)
    · (try dsimp only); exact ⟨x1, x2, y1, y2, z1, z2⟩
    refine wpAnyH_take (i := 0) (oi := ⟨some 42, _, _, _, _, _⟩) (v := ?_) rfl (by kernel_rfl) (by kernel_rfl) (by kernel_rfl) (fun _ _ _ h => h) (Or.inl ⟨by rfl, ?_⟩) (by assumption) ?_
    rotate_left
    · (intro w hSw; (try dsimp only at hSw); go_simp; try (with_reducible rfl))
    (try simp only [Act.put, List.setIfInBounds_toArray, List.set_cons_zero, List.set_cons_succ])
    refine wpAnyH_take (i := 1) (oi := ⟨some 43, _, _, _, _, _⟩) (v := ?_) rfl (by kernel_rfl) (by kernel_rfl) (by kernel_rfl) (fun _ _ _ h => h) (Or.inl ⟨by rfl, ?_⟩) (by assumption) ?_
    rotate_left
    · (intro w hSw; (try dsimp only at hSw); go_simp; try (with_reducible rfl))
    (try simp only [Act.put, List.setIfInBounds_toArray, List.set_cons_zero, List.set_cons_succ])
    refine wpAnyH_ready (rs := [2]) (by kernel_rfl) (by simp) (AllReadyH.cons (o := ⟨some 44, _, _, _, _, _⟩) rfl (fun K hK => ?_) AllReadyH.nil)
    go_simp
    refine (RX.out _).mono ?_
    rintro e u1 ⟨rfl, hb⟩
    replace hb := undrew hb
    have X1 := bx.keep hb
    have Y1 := by'.keep hb
    have Z1 := bz.keep hb
    have Q1 := HB.trans (hb.mono HB.size)
    clear hb
    go_wp2_with fail
    refine hK.out _ _ ?_ (fun hHeld => ?_)
    · (try dsimp only); exact ⟨X1.1, X1.2.1, Y1.1, Y1.2.1, Z1.1, Z1.2.1⟩
    clear hK K
    (try simp only [Act.put, List.setIfInBounds_toArray, List.set_cons_zero, List.set_cons_succ])
    refine wpAnyH_take (i := 3) (oi := ⟨some 45, _, _, _, _, _⟩) (v := ?_) rfl (by kernel_rfl) (by kernel_rfl) (by kernel_rfl) (fun _ _ _ h => h) (Or.inl ⟨by rfl, ?_⟩) (by assumption) ?_
    rotate_left
    · (intro w hSw; (try dsimp only at hSw); go_simp; try (with_reducible rfl))
    (try simp only [Act.put, List.setIfInBounds_toArray, List.set_cons_zero, List.set_cons_succ])
    refine wpAnyH_take (i := 4) (oi := ⟨some 46, _, _, _, _, _⟩) (v := ?_) rfl (by kernel_rfl) (by kernel_rfl) (by kernel_rfl) (fun _ _ _ h => h) (Or.inl ⟨by rfl, ?_⟩) (by assumption) ?_
    rotate_left
    · (intro w hSw; (try dsimp only at hSw); go_simp; try (with_reducible rfl))
    (try simp only [Act.put, List.setIfInBounds_toArray, List.set_cons_zero, List.set_cons_succ])
    refine wpAnyH_take (i := 5) (oi := ⟨some 47, _, _, _, _, _⟩) (v := ?_) rfl (by kernel_rfl) (by kernel_rfl) (by kernel_rfl) (fun _ _ _ h => h) (Or.inl ⟨by rfl, ?_⟩) (by assumption) ?_
    rotate_left
    · (intro w hSw; (try dsimp only at hSw); go_simp; try (with_reducible rfl))
    (try simp only [Act.put, List.setIfInBounds_toArray, List.set_cons_zero, List.set_cons_succ])
    refine wpAnyH_take (i := 6) (oi := ⟨some 48, _, _, _, _, _⟩) (v := ?_) rfl (by kernel_rfl) (by kernel_rfl) (by kernel_rfl) (fun _ _ _ h => h) (Or.inl ⟨by rfl, ?_⟩) (by assumption) ?_
    rotate_left
    · (intro w hSw; (try dsimp only at hSw); go_simp; try (with_reducible rfl))
    (try simp only [Act.put, List.setIfInBounds_toArray, List.set_cons_zero, List.set_cons_succ])
    refine wpAnyH_take (i := 7) (oi := ⟨some 49, _, _, _, _, _⟩) (v := ?_) rfl (by kernel_rfl) (by kernel_rfl) (by kernel_rfl) (fun _ _ _ h => h) (Or.inl ⟨by rfl, ?_⟩) (by assumption) ?_
    rotate_left
    · (intro w hSw; (try dsimp only at hSw); go_simp; try (with_reducible rfl))
    (try simp only [Act.put, List.setIfInBounds_toArray, List.set_cons_zero, List.set_cons_succ])
    refine wpAnyH_take (i := 8) (oi := ⟨some 50, _, _, _, _, _⟩) (v := ?_) rfl (by kernel_rfl) (by kernel_rfl) (by kernel_rfl) (fun _ _ _ h => h) (Or.inl ⟨by rfl, ?_⟩) (by assumption) ?_
    rotate_left
    · (intro w hSw; (try dsimp only at hSw); go_simp; try (with_reducible rfl))
    (try simp only [Act.put, List.setIfInBounds_toArray, List.set_cons_zero, List.set_cons_succ])
    refine wpAnyH_take (i := 9) (oi := ⟨some 51, _, _, _, _, _⟩) (v := ?_) rfl (by kernel_rfl) (by kernel_rfl) (by kernel_rfl) (fun _ _ _ h => h) (Or.inl ⟨by rfl, ?_⟩) (by assumption) ?_
    rotate_left
    · (intro w hSw; (try dsimp only at hSw); go_simp; try (with_reducible rfl))
    (try simp only [Act.put, List.setIfInBounds_toArray, List.set_cons_zero, List.set_cons_succ])
    refine wpAnyH_take (i := 10) (oi := ⟨some 52, _, _, _, _, _⟩) (v := ?_) rfl (by kernel_rfl) (by kernel_rfl) (by kernel_rfl) (fun _ _ _ h => h) (Or.inl ⟨by rfl, ?_⟩) (by assumption) ?_
    rotate_left
    · (intro w hSw; (try dsimp only at hSw); go_simp; try (with_reducible rfl))
    (try simp only [Act.put, List.setIfInBounds_toArray, List.set_cons_zero, List.set_cons_succ])
    refine wpAnyH_take (i := 11) (oi := ⟨some 53, _, _, _, _, _⟩) (v := ?_) rfl (by kernel_rfl) (by kernel_rfl) (by kernel_rfl) (fun _ _ _ h => h) (Or.inl ⟨by rfl, ?_⟩) (by assumption) ?_
    rotate_left
    · (intro w hSw; (try dsimp only at hSw); go_simp; try (with_reducible rfl))
    (try simp only [Act.put, List.setIfInBounds_toArray, List.set_cons_zero, List.set_cons_succ])
    refine wpAnyH_take (i := 12) (oi := ⟨some 54, _, _, _, _, _⟩) (v := ?_) rfl (by kernel_rfl) (by kernel_rfl) (by kernel_rfl) (fun _ _ _ h => h) (Or.inl ⟨by rfl, ?_⟩) (by assumption) ?_
    rotate_left
    · (intro w hSw; (try dsimp only at hSw); go_simp; try (with_reducible rfl))
    (try simp only [Act.put, List.setIfInBounds_toArray, List.set_cons_zero, List.set_cons_succ])
    refine wpAnyH_take (i := 13) (oi := ⟨some 55, _, _, _, _, _⟩) (v := ?_) rfl (by kernel_rfl) (by kernel_rfl) (by kernel_rfl) (fun _ _ _ h => h) (Or.inl ⟨by rfl, ?_⟩) (by assumption) ?_
    rotate_left
    · (intro w hSw; (try dsimp only at hSw); go_simp; try (with_reducible rfl))
    (try simp only [Act.put, List.setIfInBounds_toArray, List.set_cons_zero, List.set_cons_succ])
    refine wpAnyH_take (i := 14) (oi := ⟨some 56, _, _, _, _, _⟩) (v := ?_) rfl (by kernel_rfl) (by kernel_rfl) (by kernel_rfl) (fun _ _ _ h => h) (Or.inl ⟨by rfl, ?_⟩) (by assumption) ?_
    rotate_left
    · (intro w hSw; (try dsimp only at hSw); go_simp; try (with_reducible rfl))
    (try simp only [Act.put, List.setIfInBounds_toArray, List.set_cons_zero, List.set_cons_succ])
    refine wpAnyH_take (i := 16) (oi := ⟨some 58, _, _, _, _, _⟩) (v := ?_) rfl (by kernel_rfl) (by kernel_rfl) (by kernel_rfl) (fun _ _ _ h => h) (Or.inl ⟨by rfl, ?_⟩) (by assumption) ?_
    rotate_left
    · (intro w hSw; (try dsimp only at hSw); go_simp; try (with_reducible rfl))
    (try simp only [Act.put, List.setIfInBounds_toArray, List.set_cons_zero, List.set_cons_succ])
    refine wpAnyH_ready (rs := [15]) (by kernel_rfl) (by simp) (AllReadyH.cons (o := ⟨some 57, _, _, _, _, _⟩) rfl (fun K hK => ?_) AllReadyH.nil)
    go_simp
    refine (TR.out _ ((HP.out.on Q1).up Q1.size)).mono ?_
    rintro e u2 ⟨rfl, hb⟩
    have X2 := X1.keep hb
    have Y2 := Y1.keep hb
    have Z2 := Z1.keep hb
    have Q2 := Q1.trans (hb.mono Q1.size)
    clear hb
    go_wp2_with fail
    refine hK.out _ _ ?_ (fun hHeld => ?_)
    · (try dsimp only); exact ⟨X2.1, X2.2.1, Y2.1, Y2.2.1, Z2.1, Z2.2.1⟩
    clear hK K
    (try simp only [Act.put, List.setIfInBounds_toArray, List.set_cons_zero, List.set_cons_succ])
    refine wpAnyH_ready (rs := [17]) (by kernel_rfl) (by simp) (AllReadyH.cons (o := ⟨some 59, _, _, _, _, _⟩) rfl (fun K hK => ?_) AllReadyH.nil)
    go_simp
    refine (RR.out _).mono ?_
    rintro e u3 ⟨rfl, hb⟩
    have X3 := X2.keep hb
    have Y3 := Y2.keep hb
    have Z3 := Z2.keep hb
    have Q3 := Q2.trans (hb.mono Q2.size)
    clear hb
    go_wp2_with fail
    refine hK.out _ _ ?_ (fun hHeld => ?_)
    · (try dsimp only); exact ⟨X3.1, X3.2.1, Y3.1, Y3.2.1, Z3.1, Z3.2.1⟩
    clear hK K
    (try simp only [Act.put, List.setIfInBounds_toArray, List.set_cons_zero, List.set_cons_succ])
    refine wpAnyH_take (i := 18) (oi := ⟨some 60, _, _, _, _, _⟩) (v := ?_) rfl (by kernel_rfl) (by kernel_rfl) (by kernel_rfl) (fun _ _ _ h => h) (Or.inl ⟨by rfl, ?_⟩) (by assumption) ?_
    rotate_left
    · (intro w hSw; (try dsimp only at hSw); go_simp; try (with_reducible rfl))
    (try simp only [Act.put, List.setIfInBounds_toArray, List.set_cons_zero, List.set_cons_succ])
    refine wpAnyH_take (i := 19) (oi := ⟨some 61, _, _, _, _, _⟩) (v := ?_) rfl (by kernel_rfl) (by kernel_rfl) (by kernel_rfl) (fun _ _ _ h => h) (Or.inl ⟨by rfl, ?_⟩) (by assumption) ?_
    rotate_left
    · (intro w hSw; (try dsimp only at hSw); go_simp; try (with_reducible rfl))
    (try simp only [Act.put, List.setIfInBounds_toArray, List.set_cons_zero, List.set_cons_succ])
    refine wpAnyH_done (by kernel_rfl) ?_ _
    go_wp2_with fail
    go_meet
    exact ⟨rfl, Q3, Z3⟩
  case rest => as_aux_lemma =>
    obtain ⟨rfl, HB, bz⟩ := hcut
    obtain ⟨W5, rfl⟩ : ∃ z : World, z = wc := ⟨_, rfl⟩
    clear bx by' x1 x2 x3 x4 x5 y1 y2 y3 y4 y5 z1 z2 z3 z4 z5 RX TR
    go_upto_region 7 with fail
    have hTs : (⟨T.toArray⟩ : ByteArray).size = T.length := by simp [ByteArray.size]
    have hconv := fun w => run_bytes_of_string (P := Tryd.prog) w 9 41 5 ⟨T.toArray⟩ Tryd.underlying9 Tryd.underlying41 Tryd.underlying5
    rw [hTs] at hconv
    clear hTs
    go_cut [20] (fun u wx => ∃ g cap : Nat, u = .slice (some ⟨g, 0, none⟩) T.length cap ∧ T.length ≤ cap ∧ Byt wx g T ∧ w.heap.size ≤ g ∧ g4 < g ∧ g < wx.heap.size ∧ Below w.heap.size w wx ∧ Box wx g4 num den)
    case first => as_aux_lemma =>
      go_wp2_with fail
      go_meet
      have hcap : T.length ≤ grownCap W5 T.length 0 5 := grownCap_ge _ _ _ _
      have hB : Below W5.heap.size W5 (W5.drew.alloc (Obj.cells (bytesRow ⟨T.toArray⟩ (grownCap W5 T.length 0 5)) 5 ((bytesRow ⟨T.toArray⟩ (grownCap W5 T.length 0 5)).size, (bytesRow ⟨T.toArray⟩ (grownCap W5 T.length 0 5)).size + 1))) := below_alloc (Below.refl _ _).drew (Nat.le_refl _) _
      exact ⟨_, _, rfl, hcap, byt_new hcap, HB.size, bz.2.2.1, by simp, HB.trans (hB.mono HB.size), bz.keep hB⟩
    case rest => as_aux_lemma =>
      obtain ⟨g, cap, rfl, hcap, hby, hwg, hgg, hgl, HB, bz⟩ := hcut
      obtain ⟨W6, rfl⟩ : ∃ z : World, z = wc := ⟨_, rfl⟩
      clear hconv
      have r1 := arN_nonneg at' T.length (by omega)
      have r2 := arN_lt at' T.length (by omega)
      have AR := Lib.hid (fun w => around_any at' T.length w hat'0 hat'1 (by omega) (by omega))
      obtain ⟨K, hK⟩ : ∃ K : Nat, arN at' T.length = (K : Int) := ⟨(arN at' T.length).toNat, by omega⟩
      rw [hK] at AR r1 r2
      clear hK
      have hKl : K < T.length := by omega
      obtain ⟨c8, hc8⟩ : ∃ c8 : UInt8, c = (c8.toNat : Int) := ⟨UInt8.ofNat c.toNat, by rw [UInt8.toNat_ofNat']; omega⟩
      subst hc8
      have hby2 := hby.set K c8
      have k1 := hby.1 K hKl
      have k2 := hby.2 K hKl
      have HB2 := HB.setCell (p := ⟨g, K, none⟩) hwg (.int .u8 (c8.toNat : Int))
      have bz2 := bz.set (g' := g) (.inl hgg) K (.int .u8 (c8.toNat : Int))
      have hgl2 : g < (W6.setCell ⟨g, K, none⟩ (.int .u8 (c8.toNat : Int))).heap.size := by simpa using hgl
      have hTl : (T.set K c8).length = T.length := List.length_set ..
      clear hby HB bz
      go_wp2_with fail
      refine (AR.out _).mono ?_
      rintro e w' ⟨rfl, rfl⟩
      go_upto_region 9 with fail
      clear k1 k2 hgl AR r1 r2 hKl
      generalize (W6.setCell ⟨g, K, none⟩ (.int .u8 (c8.toNat : Int))) = W7 at *
      generalize T.set K c8 = TB at *
      obtain ⟨z1, z2, z3, z4, z5⟩ := id bz2
      have AR1 := Lib.hid (fun w => around_any num 1125899906842624 w hnum0 hnum1 (by omega) (by omega))
      have AR2 := Lib.hid (fun w => around_any den 2000000 w hden0 hden1 (by omega) (by omega))
      have q1 := arN_nonneg num 1125899906842624 (by omega)
      have q2 := arN_lt num 1125899906842624 (by omega)
      have q3 := arN_nonneg den 2000000 (by omega)
      have q4 := arN_lt den 2000000 (by omega)
      generalize arN num 1125899906842624 = V1 at *
      generalize arN den 2000000 = V2 at *
      have D1 := Lib.hid (fun w => decimal_any V1 w (by omega) (by omega))
      have D2 := Lib.hid (fun w => decimal_any V2 w (by omega) (by omega))
      have hd1 := itoa_len V1 (by omega) (by omega)
      have hd2 := itoa_len V2 (by omega) (by omega)
      generalize Lib.itoa V1 = D at *
      generalize Lib.itoa V2 = F at *
      have SH := Lib.hid (fun w => short_any s 30 w)
      have hs30 : (if 30 < s.size then s.extract 0 30 else s).size ≤ 30 := by
        split
        · rw [ByteArray.size_extract]; omega
        · omega
      generalize (if 30 < s.size then s.extract 0 30 else s) = S30 at *
      go_wp2_with fail
      refine (AR1.out _).mono ?_
      rintro e w' ⟨rfl, rfl⟩
      go_wp2_with fail
      refine (D1.out _).mono ?_
      rintro e w' ⟨rfl, rfl⟩
      go_wp2_with fail
      refine (AR2.out _).mono ?_
      rintro e w' ⟨rfl, rfl⟩
      go_wp2_with fail
      refine (D2.out _).mono ?_
      rintro e w' ⟨rfl, rfl⟩
      go_upto_region 11 with fail
      have hdz : (⟨D.toArray⟩ : ByteArray).size = D.length := by simp [ByteArray.size]
      have hfz : (⟨F.toArray⟩ : ByteArray).size = F.length := by simp [ByteArray.size]
      have t0 : ¬ 9223372036854775807 < D.length + 1 := by omega
      have t1 : ¬ 9223372036854775807 < D.length + 1 + F.length := by omega
      have t2 : ¬ 9223372036854775807 < 1 + D.length := by omega
      have t3 : ¬ 9223372036854775807 < 1 + D.length + 1 := by omega
      have t4 : ¬ 9223372036854775807 < 1 + D.length + 1 + F.length := by omega
      have t5 : ¬ 9223372036854775807 < D.length + 2 := by omega
      have t6 : ¬ 9223372036854775807 < 1 + D.length + 4 := by omega
      go_cut [23] (fun u wx => ∃ (g : Nat) (ss : List ByteArray), u = .slice (some ⟨g, 0, none⟩) 7 7 ∧ ss.length = 7 ∧ (∀ x ∈ ss, x.size ≤ 1000) ∧ StrsAt wx g ss ∧ g < wx.heap.size ∧ Below w.heap.size w wx)
      case first => as_aux_lemma =>
        refine wp_region_held_drew (S := (fun w' => w'.cell? ⟨g4, 0, none⟩ = some (.int .i64 num) ∧ w'.cell? ⟨g4, 1, none⟩ = some (.int .i64 den) ∧ Byt w' g TB)) (by kernel_rfl) ?_ (fun hHeld => ?_)
        · (try dsimp only); exact ⟨keep_drew z1, keep_drew z2, hby2.drew⟩
        refine wpAnyH_take (i := 0) (oi := ⟨some 77, _, _, _, _, _⟩) (v := ?_) rfl (by kernel_rfl) (by kernel_rfl) (by kernel_rfl) (fun _ _ _ h => h) (Or.inl ⟨by rfl, ?_⟩) (by assumption) ?_
        rotate_left
        · (intro w hSw; (try dsimp only at hSw); go_simp; try (with_reducible rfl))
        (try simp only [Act.put, List.setIfInBounds_toArray, List.set_cons_zero, List.set_cons_succ])
        refine wpAnyH_take (i := 2) (oi := ⟨some 79, _, _, _, _, _⟩) (v := ?_) rfl (by kernel_rfl) (by kernel_rfl) (by kernel_rfl) (fun _ _ _ h => h) (Or.inl ⟨by rfl, ?_⟩) (by assumption) ?_
        rotate_left
        · (intro w hSw; (try dsimp only at hSw); go_simp; try (with_reducible rfl))
        (try simp only [Act.put, List.setIfInBounds_toArray, List.set_cons_zero, List.set_cons_succ])
        refine wpAnyH_take (i := 3) (oi := ⟨some 80, _, _, _, _, _⟩) (v := ?_) rfl (by kernel_rfl) (by kernel_rfl) (by kernel_rfl) (fun _ _ _ h => h) (Or.inl ⟨by rfl, ?_⟩) (by assumption) ?_
        rotate_left
        · (intro w hSw; (try dsimp only at hSw); (have hq := run_convert_bytes_back (P := Tryd.prog) w 41 9 5 ⟨g, 0, none⟩ cap TB Tryd.underlying41 Tryd.underlying5 Tryd.underlying9 (fun j hj => by rw [addr_add]; exact hSw.2.2.1 j hj)); (rw [hTl] at hq); go_simp; try (with_reducible rfl))
        (try simp only [Act.put, List.setIfInBounds_toArray, List.set_cons_zero, List.set_cons_succ])
        refine wpAnyH_take (i := 4) (oi := ⟨some 81, _, _, _, _, _⟩) (v := ?_) rfl (by kernel_rfl) (by kernel_rfl) (by kernel_rfl) (fun _ _ _ h => h) (Or.inl ⟨by rfl, ?_⟩) (by assumption) ?_
        rotate_left
        · (intro w hSw; (try dsimp only at hSw); go_simp; try (with_reducible rfl))
        (try simp only [Act.put, List.setIfInBounds_toArray, List.set_cons_zero, List.set_cons_succ])
        refine wpAnyH_take (i := 5) (oi := ⟨some 82, _, _, _, _, _⟩) (v := ?_) rfl (by kernel_rfl) (by kernel_rfl) (by kernel_rfl) (fun _ _ _ h => h) (Or.inl ⟨by rfl, ?_⟩) (by assumption) ?_
        rotate_left
        · (intro w hSw; (try dsimp only at hSw); go_simp; try (with_reducible rfl))
        (try simp only [Act.put, List.setIfInBounds_toArray, List.set_cons_zero, List.set_cons_succ])
        refine wpAnyH_take (i := 6) (oi := ⟨some 83, _, _, _, _, _⟩) (v := ?_) rfl (by kernel_rfl) (by kernel_rfl) (by kernel_rfl) (fun _ _ _ h => h) (Or.inl ⟨by rfl, ?_⟩) (by assumption) ?_
        rotate_left
        · (intro w hSw; (try dsimp only at hSw); go_simp; try (with_reducible rfl))
        (try simp only [Act.put, List.setIfInBounds_toArray, List.set_cons_zero, List.set_cons_succ])
        refine wpAnyH_take (i := 7) (oi := ⟨some 84, _, _, _, _, _⟩) (v := ?_) rfl (by kernel_rfl) (by kernel_rfl) (by kernel_rfl) (fun _ _ _ h => h) (Or.inl ⟨by rfl, ?_⟩) (by assumption) ?_
        rotate_left
        · (intro w hSw; (try dsimp only at hSw); go_simp; try (with_reducible rfl))
        (try simp only [Act.put, List.setIfInBounds_toArray, List.set_cons_zero, List.set_cons_succ])
        refine wpAnyH_take (i := 8) (oi := ⟨some 85, _, _, _, _, _⟩) (v := ?_) rfl (by kernel_rfl) (by kernel_rfl) (by kernel_rfl) (fun _ _ _ h => h) (Or.inl ⟨by rfl, ?_⟩) (by assumption) ?_
        rotate_left
        · (intro w hSw; (try dsimp only at hSw); go_simp; try (with_reducible rfl))
        (try simp only [Act.put, List.setIfInBounds_toArray, List.set_cons_zero, List.set_cons_succ])
        refine wpAnyH_take (i := 9) (oi := ⟨some 86, _, _, _, _, _⟩) (v := ?_) rfl (by kernel_rfl) (by kernel_rfl) (by kernel_rfl) (fun _ _ _ h => h) (Or.inl ⟨by rfl, ?_⟩) (by assumption) ?_
        rotate_left
        · (intro w hSw; (try dsimp only at hSw); go_simp; try (with_reducible rfl))
        (try simp only [Act.put, List.setIfInBounds_toArray, List.set_cons_zero, List.set_cons_succ])
        refine wpAnyH_take (i := 10) (oi := ⟨some 87, _, _, _, _, _⟩) (v := ?_) rfl (by kernel_rfl) (by kernel_rfl) (by kernel_rfl) (fun _ _ _ h => h) (Or.inl ⟨by rfl, ?_⟩) (by assumption) ?_
        rotate_left
        · (intro w hSw; (try dsimp only at hSw); go_simp; try (with_reducible rfl))
        (try simp only [Act.put, List.setIfInBounds_toArray, List.set_cons_zero, List.set_cons_succ])
        refine wpAnyH_take (i := 11) (oi := ⟨some 88, _, _, _, _, _⟩) (v := ?_) rfl (by kernel_rfl) (by kernel_rfl) (by kernel_rfl) (fun _ _ _ h => h) (Or.inl ⟨by rfl, ?_⟩) (by assumption) ?_
        rotate_left
        · (intro w hSw; (try dsimp only at hSw); go_simp; try (with_reducible rfl))
        (try simp only [Act.put, List.setIfInBounds_toArray, List.set_cons_zero, List.set_cons_succ])
        refine wpAnyH_take (i := 12) (oi := ⟨some 89, _, _, _, _, _⟩) (v := ?_) rfl (by kernel_rfl) (by kernel_rfl) (by kernel_rfl) (fun _ _ _ h => h) (Or.inl ⟨by rfl, ?_⟩) (by assumption) ?_
        rotate_left
        · (intro w hSw; (try dsimp only at hSw); go_simp; try (with_reducible rfl))
        (try simp only [Act.put, List.setIfInBounds_toArray, List.set_cons_zero, List.set_cons_succ])
        refine wpAnyH_take (i := 13) (oi := ⟨some 90, _, _, _, _, _⟩) (v := ?_) rfl (by kernel_rfl) (by kernel_rfl) (by kernel_rfl) (fun _ _ _ h => h) (Or.inl ⟨by rfl, ?_⟩) (by assumption) ?_
        rotate_left
        · (intro w hSw; (try dsimp only at hSw); go_simp; try (with_reducible rfl))
        (try simp only [Act.put, List.setIfInBounds_toArray, List.set_cons_zero, List.set_cons_succ])
        refine wpAnyH_take (i := 14) (oi := ⟨some 91, _, _, _, _, _⟩) (v := ?_) rfl (by kernel_rfl) (by kernel_rfl) (by kernel_rfl) (fun _ _ _ h => h) (Or.inl ⟨by rfl, ?_⟩) (by assumption) ?_
        rotate_left
        · (intro w hSw; (try dsimp only at hSw); go_simp; try (with_reducible rfl))
        (try simp only [Act.put, List.setIfInBounds_toArray, List.set_cons_zero, List.set_cons_succ])
        refine wpAnyH_take (i := 15) (oi := ⟨some 92, _, _, _, _, _⟩) (v := ?_) rfl (by kernel_rfl) (by kernel_rfl) (by kernel_rfl) (fun _ _ _ h => h) (Or.inl ⟨by rfl, ?_⟩) (by assumption) ?_
        rotate_left
        · (intro w hSw; (try dsimp only at hSw); go_simp; try (with_reducible rfl))
        (try simp only [Act.put, List.setIfInBounds_toArray, List.set_cons_zero, List.set_cons_succ])
        refine wpAnyH_take (i := 16) (oi := ⟨some 93, _, _, _, _, _⟩) (v := ?_) rfl (by kernel_rfl) (by kernel_rfl) (by kernel_rfl) (fun _ _ _ h => h) (Or.inl ⟨by rfl, ?_⟩) (by assumption) ?_
        rotate_left
        · (intro w hSw; (try dsimp only at hSw); go_simp; try (with_reducible rfl))
        (try simp only [Act.put, List.setIfInBounds_toArray, List.set_cons_zero, List.set_cons_succ])
        refine wpAnyH_take (i := 17) (oi := ⟨some 94, _, _, _, _, _⟩) (v := ?_) rfl (by kernel_rfl) (by kernel_rfl) (by kernel_rfl) (fun _ _ _ h => h) (Or.inl ⟨by rfl, ?_⟩) (by assumption) ?_
        rotate_left
        · (intro w hSw; (try dsimp only at hSw); go_simp; try (with_reducible rfl))
        (try simp only [Act.put, List.setIfInBounds_toArray, List.set_cons_zero, List.set_cons_succ])
        refine wpAnyH_take (i := 18) (oi := ⟨some 95, _, _, _, _, _⟩) (v := ?_) rfl (by kernel_rfl) (by kernel_rfl) (by kernel_rfl) (fun _ _ _ h => h) (Or.inl ⟨by rfl, ?_⟩) (by assumption) ?_
        rotate_left
        · (intro w hSw; (try dsimp only at hSw); go_simp; try (with_reducible rfl))
        (try simp only [Act.put, List.setIfInBounds_toArray, List.set_cons_zero, List.set_cons_succ])
        refine wpAnyH_ready (rs := [1]) (by kernel_rfl) (by simp) (AllReadyH.cons (o := ⟨some 78, _, _, _, _, _⟩) rfl (fun K hK => ?_) AllReadyH.nil)
        go_simp
        refine (SH.out _).mono ?_
        rintro e u1 ⟨rfl, rfl⟩
        go_wp2_with fail
        refine hK.out _ _ ?_ (fun hHeld => ?_)
        · (try dsimp only); exact ⟨keep_drew z1, keep_drew z2, hby2.drew⟩
        clear hK K
        (try simp only [Act.put, List.setIfInBounds_toArray, List.set_cons_zero, List.set_cons_succ])
        refine wpAnyH_ready (rs := [19]) (by kernel_rfl) (by simp) (AllReadyH.cons (o := ⟨some 96, _, _, _, _, _⟩) rfl (fun K hK => ?_) AllReadyH.nil)
        go_simp
        refine (RR.out _).mono ?_
        rintro e u2 ⟨rfl, hb⟩
        replace hb := undrew hb
        have Z2 := bz2.keep hb
        have B2 := hby2.keep hgl2 hb
        have Q2 := HB2.trans (hb.mono HB2.size)
        have HS2 := hb.size
        clear hb
        go_wp2_with fail
        refine hK.out _ _ ?_ (fun hHeld => ?_)
        · (try dsimp only); exact ⟨Z2.1, Z2.2.1, B2⟩
        clear hK K
        (try simp only [Act.put, List.setIfInBounds_toArray, List.set_cons_zero, List.set_cons_succ])
        clear t0 t1 t2 t3 t4 t5 t6
        have yy0 : (⟨TB.toArray⟩ : ByteArray).size ≤ 1000 := by rw [ba_size]; omega
        have yy1 : ((⟨D.toArray⟩ : ByteArray) ++ (⟨#[46]⟩ : ByteArray) ++ (⟨F.toArray⟩ : ByteArray)).size ≤ 1000 := by rw [ByteArray.size_append, ByteArray.size_append, hdz, hfz]; show D.length + 1 + F.length ≤ 1000; omega
        have yy2 : ((⟨#[45]⟩ : ByteArray) ++ (⟨D.toArray⟩ : ByteArray) ++ (⟨#[47]⟩ : ByteArray) ++ (⟨F.toArray⟩ : ByteArray)).size ≤ 1000 := by rw [ByteArray.size_append, ByteArray.size_append, ByteArray.size_append, hdz, hfz]; show 1 + D.length + 1 + F.length ≤ 1000; omega
        have yy3 : ((⟨D.toArray⟩ : ByteArray) ++ (⟨#[47, 48]⟩ : ByteArray)).size ≤ 1000 := by rw [ByteArray.size_append, hdz]; show D.length + 2 ≤ 1000; omega
        have yy4 : ((⟨#[48]⟩ : ByteArray) ++ (⟨D.toArray⟩ : ByteArray) ++ (⟨#[46, 48, 48, 48]⟩ : ByteArray)).size ≤ 1000 := by rw [ByteArray.size_append, ByteArray.size_append, hdz]; show 1 + D.length + 4 ≤ 1000; omega
        have yy5 : (⟨TR0.toArray⟩ : ByteArray).size ≤ 1000 := by rw [ba_size]; omega
        clear hdz hfz
        generalize (⟨TB.toArray⟩ : ByteArray) = Y0 at *
        generalize ((⟨D.toArray⟩ : ByteArray) ++ (⟨#[46]⟩ : ByteArray) ++ (⟨F.toArray⟩ : ByteArray)) = Y1 at *
        generalize ((⟨#[45]⟩ : ByteArray) ++ (⟨D.toArray⟩ : ByteArray) ++ (⟨#[47]⟩ : ByteArray) ++ (⟨F.toArray⟩ : ByteArray)) = Y2 at *
        generalize ((⟨D.toArray⟩ : ByteArray) ++ (⟨#[47, 48]⟩ : ByteArray)) = Y3 at *
        generalize ((⟨#[48]⟩ : ByteArray) ++ (⟨D.toArray⟩ : ByteArray) ++ (⟨#[46, 48, 48, 48]⟩ : ByteArray)) = Y4 at *
        generalize (⟨TR0.toArray⟩ : ByteArray) = Y5 at *
        refine wpAnyH_ready (rs := [20]) (by kernel_rfl) (by simp) (AllReadyH.cons (o := ⟨some 97, _, _, _, _, _⟩) rfl (fun K hK => ?_) AllReadyH.nil)
        rw [if_pos (by rfl)]
        refine build7 _ _ _ _ _ _ _ _ S30 Y0 Y1 Y2 Y3 Y4 Y5 (by rfl) (by rfl) (by rfl) (by rfl) (by rfl) (by rfl) (by rfl) ?_
        (try simp only [Act.put, List.setIfInBounds_toArray, List.set_cons_zero, List.set_cons_succ])
        refine hK.out _ _ ?_ (fun hHeld => ?_)
        · (try dsimp only); exact ⟨keep_alloc Z2.1 _, keep_alloc Z2.2.1 _, B2.keep (Nat.lt_of_lt_of_le hgl2 HS2) (below_alloc (Below.refl _ _) (Nat.le_refl _) _)⟩
        clear hK K
        refine wpAnyH_take (i := 21) (oi := ⟨some 23, _, _, _, _, _⟩) (v := ?_) rfl (by kernel_rfl) (by kernel_rfl) (by kernel_rfl) (fun _ _ _ h => h) (Or.inl ⟨by rfl, ?_⟩) (by assumption) ?_
        rotate_left
        · (intro w hSw; (try dsimp only at hSw); go_simp; try (with_reducible rfl))
        (try simp only [Act.put, List.setIfInBounds_toArray, List.set_cons_zero, List.set_cons_succ])
        refine wpAnyH_done (by kernel_rfl) ?_ _
        go_wp2_with fail
        go_meet
        refine ⟨u2.heap.size, [S30, Y0, Y1, Y2, Y3, Y4, Y5], rfl, rfl, ?_, ?_, by simp, below_alloc Q2 (Nat.le_refl _) _⟩
        · intro x hx
          simp only [List.mem_cons, List.not_mem_nil, or_false] at hx
          rcases hx with rfl | rfl | rfl | rfl | rfl | rfl | rfl <;> omega
        · intro j x hj
          match j, hj with
          | 0, hj => simp at hj; subst hj; simp
          | 1, hj => simp at hj; subst hj; simp
          | 2, hj => simp at hj; subst hj; simp
          | 3, hj => simp at hj; subst hj; simp
          | 4, hj => simp at hj; subst hj; simp
          | 5, hj => simp at hj; subst hj; simp
          | 6, hj => simp at hj; subst hj; simp
          | j + 7, hj => simp at hj
      case rest => as_aux_lemma =>
        obtain ⟨g2, ss, rfl, hlen, hsz, hst, hg2, HB⟩ := hcut
        obtain ⟨W8, rfl⟩ : ∃ z : World, z = wc := ⟨_, rfl⟩
        have HLn := Lib.hid hlen
        have HSz := Lib.hid hsz
        clear hlen hsz HB2 bz2 z1 z2 z3 z4 z5 hby2 AR1 AR2 D1 D2 SH RR hdz hfz t0 t1 t2 t3 t4 t5 t6
        go_upto_region 13 with fail
        go_loopw [24] (fun i wr => ∃ j : Nat, j ≤ 7 ∧ i = .int .i64 j ∧ Below w.heap.size w wr ∧ g2 < wr.heap.size ∧ StrsAt wr g2 ss) (fun i _ => 7 - (intOf i).toNat)
        case atStart => exact ⟨0, by omega, rfl, HB, hg2, hst⟩
        case round =>
          clear HB hg2 hst
          obtain ⟨j, hj, rfl, HB, hg2, hst⟩ := hrel
          by_cases hlt : j < 7
          · have hjl : j < ss.length := by rw [HLn.out]; exact hlt
            have hx := List.getElem?_eq_getElem hjl
            have hsx := HSz.out _ (List.getElem_mem hjl)
            generalize ss[j]'hjl = sj at *
            have c1 := hst j sj hx
            obtain ⟨y1, y2, y3, hy⟩ : ∃ y1 y2 y3 : Int, parL sj.data.toList = (y1, y2, y3) := ⟨_, _, _, rfl⟩
            have PA := Lib.hid (fun w h => parse_ba sj hy hsx w h)
            have PB := Lib.hid (fun w => refparse_ba sj hy hsx w)
            have HX := Lib.hid hx
            have hj1 : (0 : Int) ≤ (j : Int) := by omega
            have hj2 : (j : Int) < 7 := by omega
            clear hx hy hsx hjl
            go_wp2_with fail
            refine (PA.out _ (HE.out.keep HB)).mono ?_
            rintro e w1 ⟨rfl, hb⟩
            go_upto_region 16 with fail
            have hk := below_alloc hb (Nat.le_refl _) (Obj.cells #[.int .i64 y1, .int .i64 y2] 24)
            replace HB := HB.trans (hk.mono HB.size)
            replace hst := hst.keep hk
            replace hg2 := Nat.lt_of_lt_of_le hg2 hk.size
            have bx := box_alloc w1 y1 y2 24
            clear hk hb PA c1
            have c1 := hst j sj HX.out
            generalize (w1.alloc (Obj.cells #[.int .i64 y1, .int .i64 y2] 24)) = V at *
            generalize w1.heap.size = gx at *
            obtain ⟨x1, x2, x3, x4, x5⟩ := id bx
            go_wp2_with fail
            refine (PB.out _).mono ?_
            rintro e w2 ⟨rfl, hb⟩
            go_upto_region 17 with fail
            have hk := below_alloc hb (Nat.le_refl _) (Obj.cells #[.int .i64 y1, .int .i64 y2] 24)
            replace HB := HB.trans (hk.mono HB.size)
            replace hst := hst.keep hk
            replace hg2 := Nat.lt_of_lt_of_le hg2 hk.size
            replace bx := bx.keep hk
            have by' := box_alloc w2 y1 y2 24
            clear hk hb PB c1 x1 x2 x3 x4 x5
            generalize (w2.alloc (Obj.cells #[.int .i64 y1, .int .i64 y2] 24)) = V' at *
            generalize w2.heap.size = gy at *
            obtain ⟨x1, x2, x3, x4, x5⟩ := id bx
            obtain ⟨y1', y2', y3', y4', y5'⟩ := id by'
            go_wp2_with fail
            refine ⟨⟨j + 1, by omega, by simp, HB, hg2, hst⟩, ?_⟩
            simp [intOf]
            try omega
          · obtain rfl : j = 7 := by omega
            obtain ⟨mm, hmm⟩ := HE.out.1
            go_wp2_with fail
            refine (lives_any mm wr (keep_cell HB hmm) (Nat.lt_of_lt_of_le (by omega) HB.size)).mono ?_
            rintro e w5 ⟨rfl, hb5⟩
            go_wp2
            go_ret
            exact ⟨rfl, HB.trans (hb5.mono HB.size)⟩
end Go.Proofs.YtjcdjmjebbllkaaDoor
