/- A path of one's own, of which one element is changed. -/
import Derived.Test.YtbeaijjaecaidaaGreatDoorG22
import Derived.Test.YtbeaijjaecaidaaGreatDoorE01
namespace Go.Proofs.YtbeaijjaecaidaaGreatDoor
open Go.RowKit Go.Shelf
theorem us_get {ps : List Nat} {k : Nat} (hk : k < ps.length) : (us ps)[k]? = some (.int .u64 (ps[k] : Int)) := by simp [us, hk]
theorem own_blk {W : World} {base : Nat} {A : Option Addr} {c : Nat} {ps : List Nat} (h : W.ownsRow base 27 1 (.slice A ps.length c) ps.length (us ps)) (h0 : 0 < ps.length) : ∃ g cur, A = some ⟨g, 0, none⟩ ∧ base ≤ g ∧ W.heap[g]? = some (.cells cur 27) ∧ ps.length ≤ c := by
 rcases h.2 with ⟨_, e⟩ | ⟨g, cap, cur, e, hg, hb, hnc, _⟩
 ·omega
 ·injection e with e1 _ e3
  subst e1 e3
  exact ⟨g, cur, rfl, hg, hb, hnc⟩
theorem path_set {W : World} {base g c : Nat} {ps : List Nat} (h : W.ownsRow base 27 1 (.slice (some ⟨g, 0, none⟩) ps.length c) ps.length (us ps)) {cur : Array Value} (hb : W.heap[g]? = some (.cells cur 27)) (hc : ps.length ≤ c) {k : Nat} (hk : k < ps.length) (z : Nat) :
  PathAt (W.setCell ⟨g, k, none⟩ (.int .u64 (z : Int))) [] (some ⟨g, 0, none⟩) c (ps.set k z) := by
 have hlt : g < W.heap.size := (Array.getElem?_eq_some_iff.1 hb).1
 have hl : (ps.set k z).length = ps.length := List.length_set
 have hcell : ∀ j, j < ps.length → W.cell? ⟨g, j, none⟩ = (us ps)[j]? := fun j hj => by
  have := h.cellAt j (by omega)
  exact this
 have hb2 : Blk W g 27 cur := hb
 refine Rep.mk (cs := us (ps.set k z)) (by rw [valD_length, us_length, Nat.mul_one]) (by rw [hl]; exact hc) (by simp [World.setCell]; exact hlt) (RepL.of_plain _ _ _) (fun j u hu => ?_)
 rw [Nat.zero_add]
 have hj : j < ps.length := by have := lt_of_some hu; rw [us_length, hl] at this; exact this
 refine maskM_cell.2 ⟨?_, fun ⟨c2, t2, f2, e5, ht⟩ => ?_, fun h => by cases h⟩
 ·rw [us_get (by rw [hl]; exact hj)] at hu
  by_cases e : j = k
  ·subst e
   rw [World.cell?_setCell_same _ _ _ ((hcell j hj).trans (us_get hj))]
   rw [List.getElem_set_self] at hu
   exact hu
  ·rw [List.getElem_set_ne (fun e2 => e e2.symm)] at hu
   rw [World.cell?_setCell_other _ _ _ _ (by intro h; simp only [Addr.mk.injEq] at h; omega), hcell j hj, us_get hj]
   exact hu
 ·have e6 := hb2.set k (.int .u64 (z : Int))
  unfold Blk at e6
  have e7 : (W.setCell ⟨g, k, none⟩ (.int .u64 (z : Int))).heap[g]? = some (.cells c2 t2 f2) := e5
  rw [e6] at e7
  injection e7 with e7
  injection e7 with _ e8
  subst e8
  exact absurd ht (by decide)
theorem diffN_le : ∀ (l m : List Nat), diffN l m ≤ l.length
 | [], _ => Nat.zero_le _
 | _ :: _, [] => Nat.zero_le _
 | a :: l, b :: m => by
  have := diffN_le l m
  rw [diffN, List.length_cons]
  split <;> omega
theorem row_range {W : World} {v : Value} {A : Option Addr} {es : List El} (h : ∀ (j : Nat) (u : Value), (es.flatMap fun e => e.C.toList)[j]? = some u → ∃ b, A = some ⟨b, 0, none⟩ ∧ v.ownBlock = some b ∧ W.cell? ⟨b, j, none⟩ = some u) (hs : ∀ e ∈ es, e.C.size = 30) {k : Nat} (hk : k < es.length) : ∃ b, A = some ⟨b, 0, none⟩ ∧ W.rangeAt b (k * 30) es[k].C.toList := by
 have hp := flat_part (l := es) (f := fun e : El => e.C.toList) (k := 30) (i := k) (a := es[k]) (fun e he => by rw [Array.length_toList]; exact hs e he) (List.getElem?_eq_getElem hk)
 have hget : ∀ (j : Nat) (u : Value), es[k].C.toList[j]? = some u → (es.flatMap fun e => e.C.toList)[k * 30 + j]? = some u := fun j u hu => by
  have hj : j < 30 := by have := lt_of_some hu; rw [Array.length_toList, hs _ (List.getElem_mem hk)] at this; exact this
  have h1 : (((es.flatMap fun e => e.C.toList).drop (k * 30)).take 30)[j]? = some u := by rw [hp]; exact hu
  rw [List.getElem?_take, if_pos hj, List.getElem?_drop] at h1
  exact h1
 have hsz := hs _ (List.getElem_mem hk)
 have h30 : 0 < es[k].C.toList.length := by rw [Array.length_toList, hsz]; omega
 obtain ⟨u0, h0⟩ : ∃ u, es[k].C.toList[0]? = some u := ⟨_, List.getElem?_eq_getElem h30⟩
 obtain ⟨b, rfl, _, _⟩ := h _ u0 (hget 0 u0 h0)
 refine ⟨b, rfl, fun j u hu => ?_⟩
 obtain ⟨b2, e, _, hc⟩ := h _ u (hget j u hu)
 injection e with e
 injection e with e
 subst e
 exact hc
end Go.Proofs.YtbeaijjaecaidaaGreatDoor
