/- Copies in memory: what a copy's conditions return. Copies: logged, Check. Copies: made of their parts, in the program and out of the reference's. ref37.Salt and ref37.Log of filings. -/
import Derived.Test.YtbeaijjaecaidaaGreatDoorG20
import Derived.Test.YtbeaijjaecaidaaGreatDoorG14
import Derived.Test.YtbeaijjaecaidaaGreatDoorG17
import Derived.Test.YtbeaijjaecaidaaGreatDoorG01
namespace Go.Proofs.YtbeaijjaecaidaaGreatDoor
open Go.RowKit Go.Shelf
attribute [local go_sem] Oper.semAt_some
/-- The cells of a copy: a head, an index, a filing, a salt and a path. -/
def cop (h : Hd) (i : Int) (f : Fil) (dv cv ev : Value) (salt : Nat) (p : Value) : Array Value :=
 #[.int .i64 h.office, .int .i64 h.tick, .int .i64 h.day, .int .i64 h.size, .int .u64 (h.log : Int), .int .u64 (h.map : Int), .int .i64 h.sld, .int .u64 (h.sign : Int), .int .i64 i,
  .int .i64 0, .int .i64 f.day, .int .i64 f.known, .int .i64 f.file, .int .i64 f.office, .int .i64 f.party, .int .i64 f.other, .int .i64 0, .int .i64 0, .int .i64 0, .int .i64 0, dv, cv, .slice none 0 0, ev, .int .i64 0, .int .i64 0, .slice none 0 0, .slice none 0 0,
  .int .u64 (salt : Int), p]
/-- The act in a copy. -/
def ActIn (C : Array Value) (f : Fil) (dv cv ev : Value) : Prop := ∀ (j : Nat) (v : Value), (f.vals dv cv ev).toList[j]? = some v → C[9 + j]? = some v
/-- The head in a copy. -/
def HdIn (C : Array Value) (h : Hd) : Prop := ∀ (j : Nat) (v : Value), h.vals.toList[j]? = some v → C[j]? = some v
/-- A copy is made of these. -/
structure IsCop (C : Array Value) (h : Hd) (i : Int) (f : Fil) (dv cv ev : Value) (salt : Nat) (p : Value) : Prop where
 size : C.size = 30
 act : ActIn C f dv cv ev
 hd : HdIn C h
 idx : C[8]? = some (.int .i64 i)
 salt : C[28]? = some (.int .u64 (salt : Int))
 path : C[29]? = some p
theorem lt_of_some {α : Type} {l : List α} {j : Nat} {v : α} (h : l[j]? = some v) : j < l.length := by
 rcases Nat.lt_or_ge j l.length with h1 | h1
 ·exact h1
 ·rw [List.getElem?_eq_none h1] at h; cases h
theorem cop_is (h : Hd) (i : Int) (f : Fil) (dv cv ev : Value) (salt : Nat) (p : Value) : IsCop (cop h i f dv cv ev salt p) h i f dv cv ev salt p := by
 refine ⟨rfl, fun j v hj => ?_, fun j v hj => ?_, rfl, rfl, rfl⟩
 ·have hlt : j < 19 := lt_of_some hj
  have e : j = 0 ∨ j = 1 ∨ j = 2 ∨ j = 3 ∨ j = 4 ∨ j = 5 ∨ j = 6 ∨ j = 7 ∨ j = 8 ∨ j = 9 ∨ j = 10 ∨ j = 11 ∨ j = 12 ∨ j = 13 ∨ j = 14 ∨ j = 15 ∨ j = 16 ∨ j = 17 ∨ j = 18 := by omega
  rcases e with rfl | rfl | rfl | rfl | rfl | rfl | rfl | rfl | rfl | rfl | rfl | rfl | rfl | rfl | rfl | rfl | rfl | rfl | rfl <;> exact hj
 ·have hlt : j < 8 := lt_of_some hj
  have e : j = 0 ∨ j = 1 ∨ j = 2 ∨ j = 3 ∨ j = 4 ∨ j = 5 ∨ j = 6 ∨ j = 7 := by omega
  rcases e with rfl | rfl | rfl | rfl | rfl | rfl | rfl | rfl <;> exact hj
section
variable {T : TypeId} {C : Array Value} {h : Hd} {i : Int} {f : Fil} {dv cv ev : Value} {salt : Nat} {p : Value}
theorem IsCop.range {W : World} {g : Nat} (hc : IsCop C h i f dv cv ev salt p) (hb : Blk W g T C) : W.rangeAt g 9 (f.vals dv cv ev).toList := fun j v hj => hb.cellAt _ _ (hc.act j v hj)
theorem IsCop.hrange {W : World} {g : Nat} (hc : IsCop C h i f dv cv ev salt p) (hb : Blk W g T C) : W.rangeAt g 0 h.vals.toList := fun j v hj => by rw [Nat.zero_add]; exact hb.cellAt _ _ (hc.hd j v hj)
/-- The cells that a walk reads. -/
theorem IsCop.cells {W : World} {g : Nat} (hc : IsCop C h i f dv cv ev salt p) (hb : Blk W g T C) :
  W.cell? ⟨g, 0, none⟩ = some (.int .i64 h.office) ∧ W.cell? ⟨g, 1, none⟩ = some (.int .i64 h.tick) ∧ W.cell? ⟨g, 3, none⟩ = some (.int .i64 h.size) ∧ W.cell? ⟨g, 4, none⟩ = some (.int .u64 (h.log : Int)) ∧
   W.cell? ⟨g, 8, none⟩ = some (.int .i64 i) ∧ W.cell? ⟨g, 9, none⟩ = some (.int .i64 0) ∧ W.cell? ⟨g, 11, none⟩ = some (.int .i64 f.known) ∧ W.cell? ⟨g, 13, none⟩ = some (.int .i64 f.office) ∧ W.cell? ⟨g, 28, none⟩ = some (.int .u64 (salt : Int)) ∧ W.cell? ⟨g, 29, none⟩ = some p :=
 ⟨hb.cellAt _ _ (hc.hd 0 _ rfl), hb.cellAt _ _ (hc.hd 1 _ rfl), hb.cellAt _ _ (hc.hd 3 _ rfl), hb.cellAt _ _ (hc.hd 4 _ rfl), hb.cellAt _ _ hc.idx, hb.cellAt _ _ (hc.act 0 _ rfl), hb.cellAt _ _ (hc.act 2 _ rfl), hb.cellAt _ _ (hc.act 4 _ rfl), hb.cellAt _ _ hc.salt, hb.cellAt _ _ hc.path⟩
/-- The act of a copy, loaded. -/
theorem wp_loadCA (hc : IsCop C h i f dv cv ev salt p) {w : World} {g : Nat} (hb : Blk w g T C) {o : Oper} {a : Act} {K : Act → World → Prop} {Q : Exit → Act → World → Prop} (x : Operand) (ho : o.op = .load 41 x)
  (hx : a.eval x = .pointer (some ⟨g, 9, none⟩)) (hK : K (a.put o.dst (.agg (f.vals dv cv ev))) w) : o.wp Tryz.prog a w K Q := by
 refine wp_load_mid 41 x ho g 9 hx (f.vals dv cv ev).toList _ (hc.range hb) Tryz.underlying41 rfl (by kernel_rfl) ?_
 rw [Array.toArray_toList]
 exact hK
theorem wpList_loadCA (hc : IsCop C h i f dv cv ev salt p) {w : World} {g : Nat} (hb : Blk w g T C) {ops : Array Oper} {rest : List Oper} {o : Oper} {a : Act} {Q : Exit → Act → World → Prop} (x : Operand) (ho : o.op = .load 41 x) (hw : Region.wanted o (yielded ops a.tmps) = true)
  (hx : a.eval x = .pointer (some ⟨g, 9, none⟩)) (hK : wpList Tryz.prog ops Q rest (a.put o.dst (.agg (f.vals dv cv ev))) w) : wpList Tryz.prog ops Q (o :: rest) a w :=
 wpList_step fun _ h2 => by
  rw [if_pos hw]
  exact wp_loadCA hc hb x ho hx (h2 _ _ hK)
/-- The head of a copy, loaded. -/
theorem wpList_loadCH (hc : IsCop C h i f dv cv ev salt p) {w : World} {g : Nat} (hb : Blk w g T C) {ops : Array Oper} {rest : List Oper} {o : Oper} {a : Act} {Q : Exit → Act → World → Prop} (x : Operand) (ho : o.op = .load 49 x) (hw : Region.wanted o (yielded ops a.tmps) = true)
  (hx : a.eval x = .pointer (some ⟨g, 0, none⟩)) (hK : wpList Tryz.prog ops Q rest (a.put o.dst (.agg h.vals)) w) : wpList Tryz.prog ops Q (o :: rest) a w :=
 wpList_step fun _ h2 => by
  rw [if_pos hw]
  refine wp_load_mid 49 x ho g 0 hx h.vals.toList _ (hc.hrange hb) Tryz.underlying49 rfl (by kernel_rfl) ?_
  rw [Array.toArray_toList]
  exact h2 _ _ hK
end
/-- A whole copy, loaded. -/
theorem wp_loadC {w : World} {g : Nat} {cs : Array Value} (h : Blk w g 51 cs) (hs : cs.size = 30) {o : Oper} {a : Act} {K : Act → World → Prop} {Q : Exit → Act → World → Prop} (x : Operand) (ho : o.op = .load 51 x)
  (hx : a.eval x = .pointer (some ⟨g, 0, none⟩)) (hK : K (a.put o.dst (.agg cs)) w) : o.wp Tryz.prog a w K Q := by
 refine wp_load_mid 51 x ho g 0 hx cs.toList _ (fun j v hv => by rw [Nat.zero_add, h.cell j, ← Array.getElem?_toList]; exact hv) Tryz.underlying51 rfl (by rw [Array.length_toList, hs]; kernel_rfl) ?_
 rw [Array.toArray_toList]
 exact hK
theorem wpList_loadC {w : World} {g : Nat} {cs : Array Value} (h : Blk w g 51 cs) (hs : cs.size = 30) {ops : Array Oper} {rest : List Oper} {o : Oper} {a : Act} {Q : Exit → Act → World → Prop} (x : Operand) (ho : o.op = .load 51 x) (hw : Region.wanted o (yielded ops a.tmps) = true)
  (hx : a.eval x = .pointer (some ⟨g, 0, none⟩)) (hK : wpList Tryz.prog ops Q rest (a.put o.dst (.agg cs)) w) : wpList Tryz.prog ops Q (o :: rest) a w :=
 wpList_step fun _ h2 => by
  rw [if_pos hw]
  exact wp_loadC h hs x ho hx (h2 _ _ hK)
theorem wpList_storeC {w : World} {g : Nat} {old : Array Value} (h : Blk w g 51 old) (hs : old.size = 30) {ops : Array Oper} {rest : List Oper} {o : Oper} {a : Act} {Q : Exit → Act → World → Prop} (p v : Operand) (ho : o.op = .store 51 p v) (hg : o.guard = none)
  (hp : a.eval p = .pointer (some ⟨g, 0, none⟩)) (vs : Array Value) (hv : a.eval v = .agg vs) (hvs : vs.size = 30) (h1 : vs.all (·.oneCell') = true)
  (hK : ∀ w', Blk w' g 51 vs → w.grownBy w' (some g) → wpList Tryz.prog ops Q rest (a.put o.dst undef) w') : wpList Tryz.prog ops Q (o :: rest) a w :=
 wpList_store_row hg 51 p v ho g vs hp hv 51 old h (by rw [hvs]; kernel_rfl) (by rw [hs, hvs]) h1 (hK _ (h.setRow vs) (grown_setRow w g vs))
/-- A whole copy of the reference, loaded. -/
theorem wp_loadK {w : World} {g : Nat} {cs : Array Value} (h : Blk w g 44 cs) (hs : cs.size = 30) {o : Oper} {a : Act} {K : Act → World → Prop} {Q : Exit → Act → World → Prop} (x : Operand) (ho : o.op = .load 44 x)
  (hx : a.eval x = .pointer (some ⟨g, 0, none⟩)) (hK : K (a.put o.dst (.agg cs)) w) : o.wp Tryz.prog a w K Q := by
 refine wp_load_mid 44 x ho g 0 hx cs.toList _ (fun j v hv => by rw [Nat.zero_add, h.cell j, ← Array.getElem?_toList]; exact hv) Tryz.underlying44 rfl (by rw [Array.length_toList, hs]; kernel_rfl) ?_
 rw [Array.toArray_toList]
 exact hK
theorem wpList_loadK {w : World} {g : Nat} {cs : Array Value} (h : Blk w g 44 cs) (hs : cs.size = 30) {ops : Array Oper} {rest : List Oper} {o : Oper} {a : Act} {Q : Exit → Act → World → Prop} (x : Operand) (ho : o.op = .load 44 x) (hw : Region.wanted o (yielded ops a.tmps) = true)
  (hx : a.eval x = .pointer (some ⟨g, 0, none⟩)) (hK : wpList Tryz.prog ops Q rest (a.put o.dst (.agg cs)) w) : wpList Tryz.prog ops Q (o :: rest) a w :=
 wpList_step fun _ h2 => by
  rw [if_pos hw]
  exact wp_loadK h hs x ho hx (h2 _ _ hK)
theorem wpList_storeK {w : World} {g : Nat} {old : Array Value} (h : Blk w g 44 old) (hs : old.size = 30) {ops : Array Oper} {rest : List Oper} {o : Oper} {a : Act} {Q : Exit → Act → World → Prop} (p v : Operand) (ho : o.op = .store 44 p v) (hg : o.guard = none)
  (hp : a.eval p = .pointer (some ⟨g, 0, none⟩)) (vs : Array Value) (hv : a.eval v = .agg vs) (hvs : vs.size = 30) (h1 : vs.all (·.oneCell') = true)
  (hK : ∀ w', Blk w' g 44 vs → w.grownBy w' (some g) → wpList Tryz.prog ops Q rest (a.put o.dst undef) w') : wpList Tryz.prog ops Q (o :: rest) a w :=
 wpList_store_row hg 44 p v ho g vs hp hv 44 old h (by rw [hvs]; kernel_rfl) (by rw [hs, hvs]) h1 (hK _ (h.setRow vs) (grown_setRow w g vs))
/-- The error of an act that should be a filing of an office. -/
def filE (f : Fil) (o : Int) : Int := if f.office = o then 0 else 22
set_option maxRecDepth 100000 in
set_option maxHeartbeats 2000000 in
theorem cfiling_any {C : Array Value} {h : Hd} {i : Int} {f : Fil} {dv cv ev : Value} {salt : Nat} {p : Value} (hC : IsCop C h i f dv cv ev salt p) (hok : OkFil f) (w : World) (hG : w.cell? ⟨0, 0, none⟩ = some (.int .i64 655)) (h0 : 0 < w.heap.size) (B : Nat) (hBw : B ≤ w.heap.size) (hf : FilAt w B f dv cv ev) :
  Calls Tryz.prog 45 #[.agg C] w fun e w' => e = .returned (.int .i64 (filE f h.office)) ∧ Below w.heap.size w w' := by
 have HV := Lib.hid (fun (W : World) (hW : Below w.heap.size w W) => avalid_any f hok dv cv ev W ((hW.cell (p := ⟨0, 0, none⟩) h0).trans hG) (Nat.lt_of_lt_of_le h0 hW.size) B (Nat.le_trans hBw hW.size) (hf.keep (fun p hp => hW.cell (Nat.lt_of_lt_of_le hp hBw)) (Nat.le_refl _)))
 have X0 := Blk.new w 51 C
 have P0 := below_new w (.cells C 51)
 have hcc := hC.size
 clear hok hf hG
 go_enter Tryz.func45, Tryz.ntmps45
 go_wp2_with (refine wpList_loadCA hC X0 _ rfl rfl rfl ?_)
 refine (HV.out _ P0).mono ?_
 rintro e w1 ⟨rfl, hb1⟩
 have hc := hC.cells (X0.keep hb1)
 have P1 := below_up P0 hb1 P0.size
 by_cases he : f.office = h.office
 ·have e1 : (f.office != h.office) = false := by simp [he]
  go_wp2_with fail
  go_ret
  exact ⟨by unfold filE; rw [if_pos he]; rfl, P1⟩
 ·have e1 : (f.office != h.office) = true := by simp [he]
  go_wp2_with fail
  go_ret
  exact ⟨by unfold filE; rw [if_neg he]; rfl, P1⟩
end Go.Proofs.YtbeaijjaecaidaaGreatDoor
namespace Go.Proofs.YtbeaijjaecaidaaGreatDoor
open Go.RowKit Go.Shelf
attribute [local go_sem] Oper.semAt_some
/-- The error of the log of a copy of one entry. -/
def logE (h : Hd) (f : Fil) (salt : Nat) : Int := if h.log = leafN (commitN (encA f) salt) then 0 else 10
theorem logcheck_any (root h : Nat) (hh : h < 18446744073709551616) (A : Option Addr) (c : Nat) (w : World) :
  Calls Tryz.prog 98 #[.int .u64 (root : Int), .int .i64 0, .int .i64 1, .int .u64 (h : Int), .slice A 0 c] w fun e w' => e = .returned (.int .i64 (if root = leafN h then 0 else 10)) ∧ Below w.heap.size w w' := by
 by_cases hr : root = leafN h
 ·rw [if_pos hr]; exact logcheck_ok root h hh hr A c w
 ·rw [if_neg hr]; exact logcheck_bad root h hh hr A c w
set_option maxRecDepth 100000 in
set_option maxHeartbeats 2000000 in
theorem clogged_any {C : Array Value} {h : Hd} {f : Fil} {dv cv ev : Value} {salt : Nat} {A : Option Addr} {cp : Nat} (hC : IsCop C h 0 f dv cv ev salt (.slice A 0 cp)) (hok : OkFil f) (hs1 : h.size = 1) (hkt : f.known ≤ h.tick) (hsalt : salt < 18446744073709551616) (w : World) (hG : w.cell? ⟨0, 0, none⟩ = some (.int .i64 655)) (h0 : 0 < w.heap.size) (B : Nat) (hBw : B ≤ w.heap.size) (hf : FilAt w B f dv cv ev) :
  Calls Tryz.prog 48 #[.agg C] w fun e w' => e = .returned (.int .i64 (logE h f salt)) ∧ Below w.heap.size w w' := by
 have HE := Lib.hid (fun (W : World) (hW : Below w.heap.size w W) => aenc_own f hok dv cv ev W ((hW.cell (p := ⟨0, 0, none⟩) h0).trans hG) (Nat.lt_of_lt_of_le h0 hW.size) B (Nat.le_trans hBw hW.size) (hf.keep (fun p hp => hW.cell (Nat.lt_of_lt_of_le hp hBw)) (Nat.le_refl _)))
 have X0 := Blk.new w 51 C
 have P0 := below_new w (.cells C 51)
 have hcc := hC.size
 have hk : decide (h.tick < f.known) = false := decide_eq_false (by omega)
 have hlen := encA_len hok
 have hbb := Lib.hid (encA_bytes f)
 have hLE : logE h f salt = if h.log = leafN (commitN (encA f) salt) then 0 else 10 := rfl
 have HLE := Lib.hid hLE
 clear hLE
 generalize logE h f salt = le at *
 clear hok hf hG
 generalize encA f = bs at *
 have hc := hC.cells X0
 rw [hs1] at hc
 go_enter Tryz.func48, Tryz.ntmps48
 go_wp2_with (refine wpList_loadCA hC X0 _ rfl rfl rfl ?_)
 refine (HE.out _ P0).mono ?_
 rintro e w1 ⟨u, rfl, o1, hb1⟩
 have X1 := X0.keep hb1
 have P1 := below_up P0 hb1 P0.size
 have R1 := o1.rep
 have hclt : commitN bs salt < 18446744073709551616 := lab_lt _ _
 clear hc P0 hb1 o1
 go_upto_region 6 with fail
 refine wp_region_held_drew (S := (fun W => Below w1.heap.size w1 W)) (by kernel_rfl) ?_ (fun hHeld => ?_)
 ·first | done | ((try dsimp only); exact (Below.refl _ _).drew)
 generalize w1.drew = wb at *
 refine tk 0 21 ?_ rfl (by kernel_rfl) (fun _ _ _ h => h) (by rfl) (by assumption) ?_ ?_
 rotate_left
 ·(intro w' hSw; (try dsimp only at hSw); go_simp; try (with_reducible rfl))
 (try simp only [pS, pB, pZ, pC])
 refine tk 1 22 ?_ rfl (by kernel_rfl) (fun _ _ _ h => h) (by rfl) (by assumption) ?_ ?_
 rotate_left
 ·(intro w' hSw; (try dsimp only at hSw); go_simp; try (with_reducible rfl))
 (try simp only [pS, pB, pZ, pC])
 refine tk 2 23 ?_ rfl (by kernel_rfl) (fun _ _ _ h => h) (by rfl) (by assumption) ?_ ?_
 rotate_left
 ·(intro w' hSw; (try dsimp only at hSw); (have hc := hC.cells (X1.keep hSw); rw [hs1] at hc; go_simp); try (with_reducible rfl))
 (try simp only [pS, pB, pZ, pC])
 refine tk 3 24 ?_ rfl (by kernel_rfl) (fun _ _ _ h => h) (by rfl) (by assumption) ?_ ?_
 rotate_left
 ·(intro w' hSw; (try dsimp only at hSw); go_simp; try (with_reducible rfl))
 (try simp only [pS, pB, pZ, pC])
 refine tk 4 25 ?_ rfl (by kernel_rfl) (fun _ _ _ h => h) (by rfl) (by assumption) ?_ ?_
 rotate_left
 ·(intro w' hSw; (try dsimp only at hSw); (have hc := hC.cells (X1.keep hSw); rw [hs1] at hc; go_simp); try (with_reducible rfl))
 (try simp only [pS, pB, pZ, pC])
 refine tk 5 26 ?_ rfl (by kernel_rfl) (fun _ _ _ h => h) (by rfl) (by assumption) ?_ ?_
 rotate_left
 ·(intro w' hSw; (try dsimp only at hSw); go_simp; try (with_reducible rfl))
 (try simp only [pS, pB, pZ, pC])
 refine tk 6 27 ?_ rfl (by kernel_rfl) (fun _ _ _ h => h) (by rfl) (by assumption) ?_ ?_
 rotate_left
 ·(intro w' hSw; (try dsimp only at hSw); go_simp; try (with_reducible rfl))
 (try simp only [pS, pB, pZ, pC])
 refine tk 7 28 ?_ rfl (by kernel_rfl) (fun _ _ _ h => h) (by rfl) (by assumption) ?_ ?_
 rotate_left
 ·(intro w' hSw; (try dsimp only at hSw); (have hc := hC.cells (X1.keep hSw); rw [hs1] at hc; go_simp); try (with_reducible rfl))
 (try simp only [pS, pB, pZ, pC])
 refine tk 8 29 ?_ rfl (by kernel_rfl) (fun _ _ _ h => h) (by rfl) (by assumption) ?_ ?_
 rotate_left
 ·(intro w' hSw; (try dsimp only at hSw); go_simp; try (with_reducible rfl))
 (try simp only [pS, pB, pZ, pC])
 refine tk 9 30 ?_ rfl (by kernel_rfl) (fun _ _ _ h => h) (by rfl) (by assumption) ?_ ?_
 rotate_left
 ·(intro w' hSw; (try dsimp only at hSw); go_simp; try (with_reducible rfl))
 (try simp only [pS, pB, pZ, pC])
 refine tk 10 31 ?_ rfl (by kernel_rfl) (fun _ _ _ h => h) (by rfl) (by assumption) ?_ ?_
 rotate_left
 ·(intro w' hSw; (try dsimp only at hSw); (have hc := hC.cells (X1.keep hSw); rw [hs1] at hc; go_simp); try (with_reducible rfl))
 (try simp only [pS, pB, pZ, pC])
 refine tk 12 33 ?_ rfl (by kernel_rfl) (fun _ _ _ h => h) (by rfl) (by assumption) ?_ ?_
 rotate_left
 ·(intro w' hSw; (try dsimp only at hSw); go_simp; try (with_reducible rfl))
 (try simp only [pS, pB, pZ, pC])
 refine tk 13 34 ?_ rfl (by kernel_rfl) (fun _ _ _ h => h) (by rfl) (by assumption) ?_ ?_
 rotate_left
 ·(intro w' hSw; (try dsimp only at hSw); (have hc := hC.cells (X1.keep hSw); rw [hs1] at hc; go_simp); try (with_reducible rfl))
 (try simp only [pS, pB, pZ, pC])
 refine wpAnyH_ready (rs := [11]) (by kernel_rfl) (by simp) (AllReadyH.cons (o := ⟨some 32, _, _, _, _, _⟩) rfl (fun K hK => ?_) AllReadyH.nil)
 go_simp
 (refine (commit_any u bs hbb.out (by omega) salt hsalt _ (R1.keep (fun p hp => hHeld.cell hp) hHeld.size)).mono ?_; rintro e w2 ⟨rfl, hb2⟩)
 refine hK.out _ _ ?_ (fun hHeld => ?_)
 ·first | done | ((try dsimp only); exact hHeld.trans (hb2.mono hHeld.size))
 clear hK K
 (try simp only [pS, pB, pZ, pC])
 refine wpAnyH_ready (rs := [14]) (by kernel_rfl) (by simp) (AllReadyH.cons (o := ⟨some 35, _, _, _, _, _⟩) rfl (fun K hK => ?_) AllReadyH.nil)
 go_simp
 (refine (logcheck_any h.log _ hclt A cp _).mono ?_; rintro e w2 ⟨rfl, hb2⟩; rw [← HLE.out])
 refine hK.out _ _ ?_ (fun hHeld => ?_)
 ·first | done | ((try dsimp only); exact hHeld.trans (hb2.mono hHeld.size))
 clear hK K
 (try simp only [pS, pB, pZ, pC])
 refine tk 15 2 ?_ rfl (by kernel_rfl) (fun _ _ _ h => h) (by rfl) (by assumption) ?_ ?_
 rotate_left
 ·(intro w' hSw; (try dsimp only at hSw); go_simp; try (with_reducible rfl))
 (try simp only [pS, pB, pZ, pC])
 refine wpAnyH_done (by kernel_rfl) ?_ _
 have HB := Lib.hid (below_up P1 hHeld P1.size)
 clear hHeld
 go_wp2_with fail
 go_ret
 exact ⟨rfl, HB.out⟩
/-- The error of a head with a key. -/
def hdE (key : Nat) (h : Hd) : Int := if h.sign = sigN key h then 0 else 23
theorem hdcheck_any (key : Nat) (hk : key < 18446744073709551616) (h : Hd) (hl : h.log < 18446744073709551616) (hm : h.map < 18446744073709551616) (hok : OkHd h.office h.tick h.day h.size h.sld) (w : World) :
  Calls Tryz.prog 47 #[.int .u64 (key : Int), .agg h.vals] w fun e w' => e = .returned (.int .i64 (hdE key h)) ∧ Below w.heap.size w w' := by
 obtain ⟨o, t, d, s, l, m, sl, sg⟩ := h
 unfold hdE Hd.vals
 by_cases hs : sg = sigN key ⟨o, t, d, s, l, m, sl, sg⟩
 ·rw [if_pos hs]; exact hdcheck_ok key hk o t d s l m hl hm sl sg hok hs w
 ·rw [if_neg hs]; exact hdcheck_bad key hk o t d s l m hl hm sl sg hok hs w
set_option maxRecDepth 100000 in
set_option maxHeartbeats 2000000 in
theorem ccheck1_any {C : Array Value} {h : Hd} {i : Int} {f : Fil} {dv cv ev : Value} {salt : Nat} {p : Value} (hC : IsCop C h i f dv cv ev salt p) (key : Nat) (hk : key < 18446744073709551616) (hl : h.log < 18446744073709551616) (hm : h.map < 18446744073709551616) (hok : OkHd h.office h.tick h.day h.size h.sld) (kb cb : Nat) (w : World)
  (hb : Blk w kb 27 #[.int .u64 (key : Int)]) (hx : Blk w cb 51 C) :
  Calls Tryz.prog 46 #[.pointer (some ⟨kb, 0, none⟩), .pointer (some ⟨cb, 0, none⟩)] w fun e w' => e = .returned (.int .i64 (hdE key h)) ∧ Below w.heap.size w w' := by
 have HK := Lib.hid (fun W => hdcheck_any key hk h hl hm hok W)
 have hc := hb.c1
 clear hk hl hm hok hb
 go_enter Tryz.func46, Tryz.ntmps46
 go_wp2_with (refine wpList_loadCH hC hx _ rfl rfl rfl ?_)
 refine (HK.out _).mono ?_
 rintro e w1 ⟨rfl, hb1⟩
 go_wp2_with fail
 go_ret
 exact ⟨rfl, hb1⟩
set_option maxRecDepth 100000 in
set_option maxHeartbeats 2000000 in
/-- copies.Check of a copy of a log of one entry. -/
theorem ccheck_any {C : Array Value} {h : Hd} {f : Fil} {dv cv ev : Value} {salt : Nat} {A : Option Addr} {cp : Nat} (hC : IsCop C h 0 f dv cv ev salt (.slice A 0 cp)) (hok : OkFil f) (key : Nat) (hk : key < 18446744073709551616) (hs1 : h.size = 1) (hkt : f.known ≤ h.tick) (hsalt : salt < 18446744073709551616) (hlog : h.log < 18446744073709551616) (hm : h.map < 18446744073709551616) (hhd : OkHd h.office h.tick h.day h.size h.sld)
  (w : World) (hG : w.cell? ⟨0, 0, none⟩ = some (.int .i64 655)) (h0 : 0 < w.heap.size) (B : Nat) (hBw : B ≤ w.heap.size) (hf : FilAt w B f dv cv ev) :
  Calls Tryz.prog 13 #[.int .u64 (key : Int), .agg C] w fun e w' => e = .returned (.int .i64 (first3 (filE f h.office) (hdE key h) (logE h f salt))) ∧ Below w.heap.size w w' := by
 have HK : ∀ W, Below w.heap.size w W → W.cell? ⟨0, 0, none⟩ = some (.int .i64 655) ∧ 0 < W.heap.size ∧ B ≤ W.heap.size ∧ FilAt W B f dv cv ev := fun W hW => ⟨(hW.cell (p := ⟨0, 0, none⟩) h0).trans hG, Nat.lt_of_lt_of_le h0 hW.size, Nat.le_trans hBw hW.size, hf.keep (fun p hp => hW.cell (Nat.lt_of_lt_of_le hp hBw)) (Nat.le_refl _)⟩
 have H1 := Lib.hid (fun (W : World) (hW : Below w.heap.size w W) => cfiling_any hC hok W (HK W hW).1 (HK W hW).2.1 B (HK W hW).2.2.1 (HK W hW).2.2.2)
 have H3 := Lib.hid (fun (W : World) (hW : Below w.heap.size w W) => clogged_any hC hok hs1 hkt hsalt W (HK W hW).1 (HK W hW).2.1 B (HK W hW).2.2.1 (HK W hW).2.2.2)
 have H2 := Lib.hid (fun (W : World) (kb cb : Nat) hb hx => ccheck1_any hC key hk hlog hm hhd kb cb W hb hx)
 have X0 := (Blk.new (w.alloc (.cells #[.int .u64 (key : Int)] 27)) 51 C)
 rw [World.size_alloc] at X0
 have K0 := (Blk.new w 27 #[.int .u64 (key : Int)]).alloc (.cells C 51)
 have P0 := (below_new w (.cells #[.int .u64 (key : Int)] 27)).alloc (by simp) (.cells C 51)
 have hcs := hC.size
 clear HK hC hok hk hs1 hkt hsalt hlog hm hhd hG hf
 generalize filE f h.office = e1 at *
 generalize hdE key h = e2 at *
 generalize logE h f salt = e3 at *
 go_enter Tryz.func13, Tryz.ntmps13
 go_wp2_with (refine wpList_loadC X0 hcs _ rfl rfl rfl ?_)
 have hF := Blk.new ((w.alloc (.cells #[.int .u64 (key : Int)] 27)).alloc (.cells C 51)) 97 #[.func (.func 45) #[.agg C] #[], .func (.func 46) #[] #[.pointer (some ⟨w.heap.size, 0, none⟩), .pointer (some ⟨w.heap.size + 1, 0, none⟩)], .func (.func 48) #[.agg C] #[]]
 have PF := P0.alloc (by simp; omega) (.cells #[.func (.func 45) #[.agg C] #[], .func (.func 46) #[] #[.pointer (some ⟨w.heap.size, 0, none⟩), .pointer (some ⟨w.heap.size + 1, 0, none⟩)], .func (.func 48) #[.agg C] #[]] 97)
 have XF := X0.alloc (.cells #[.func (.func 45) #[.agg C] #[], .func (.func 46) #[] #[.pointer (some ⟨w.heap.size, 0, none⟩), .pointer (some ⟨w.heap.size + 1, 0, none⟩)], .func (.func 48) #[.agg C] #[]] 97)
 have KF := K0.alloc (.cells #[.func (.func 45) #[.agg C] #[], .func (.func 46) #[] #[.pointer (some ⟨w.heap.size, 0, none⟩), .pointer (some ⟨w.heap.size + 1, 0, none⟩)], .func (.func 48) #[.agg C] #[]] 97)
 rw [World.size_alloc, World.size_alloc] at hF
 refine (first3_any C _ _ e1 e2 e3 _ _ hF (fun W hW => H1.out W (PF.trans (hW.mono (PF.size)))) (fun _ W hW => H2.out W _ _ (KF.keep hW) (XF.keep hW)) (fun _ _ W hW => H3.out W (PF.trans (hW.mono (PF.size))))).mono ?_
 rintro e w2 ⟨rfl, hb2⟩
 have P2 := PF.trans (hb2.mono PF.size)
 clear hF PF XF KF hb2 H1 H2 H3 X0 K0 P0
 go_wp2_with fail
 go_ret
 exact ⟨rfl, P2⟩
/-- The first error of two. -/
def first2 (a c : Int) : Int := if a = 0 then c else a
set_option maxRecDepth 100000 in
set_option maxHeartbeats 4000000 in
theorem first2_any (C : Array Value) (c1 c3 : Int) (w : World) (b : Nat)
  (hb : Blk w b 97 #[.func (.func 45) #[.agg C] #[], .func (.func 48) #[.agg C] #[]])
  (H1 : ∀ W, Below w.heap.size w W → Calls Tryz.prog 45 #[.agg C] W fun e w' => e = .returned (.int .i64 c1) ∧ Below W.heap.size W w')
  (H3 : c1 = 0 → ∀ W, Below w.heap.size w W → Calls Tryz.prog 48 #[.agg C] W fun e w' => e = .returned (.int .i64 c3) ∧ Below W.heap.size W w') :
  Calls Tryz.prog 44 #[.slice (some ⟨b, 0, none⟩) 2 2] w fun e w' => e = .returned (.int .i64 (first2 c1 c3)) ∧ Below w.heap.size w w' := by
 have K1 := Lib.hid H1
 have K3 := Lib.hid H3
 clear H1 H3
 go_enter Tryz.func44, Tryz.ntmps44
 go_wp2_with fail
 go_loopw [8] (fun j wr => ∃ k : Nat, j = .int .i64 (k : Int) ∧ k ≤ 2 ∧ (1 ≤ k → c1 = 0) ∧ (2 ≤ k → c3 = 0) ∧ Below w.heap.size w wr) (fun j _ => 2 - (intOf j).toNat)
 case atStart => exact ⟨0, rfl, by omega, by omega, by omega, Below.refl _ _⟩
 case round =>
  obtain ⟨k, rfl, hk, a1, a2, hB⟩ := hrel
  have hb' := hb.under hB hb.lt
  have HA1 := Lib.hid a1
  have HA2 := Lib.hid a2
  clear a1 a2
  have hcase : k = 0 ∨ k = 1 ∨ k = 2 := by omega
  rcases hcase with rfl | rfl | rfl
  ·have hc := hb'.cell 0
   by_cases h0 : c1 = 0
   ·have e0 : (c1 != 0) = false := by simp [h0]
    go_wp2_with (refine (K1.out wr hB).mono ?_; rintro e w2 ⟨rfl, hb2⟩)
    go_roundw
    case rel => exact ⟨1, by go_num, by omega, fun _ => h0, by omega, below_up hB hb2 hB.size⟩
    case measure => simp [intOf]
   ·have e0 : (c1 != 0) = true := by simp [h0]
    go_wp2_with (refine (K1.out wr hB).mono ?_; rintro e w2 ⟨rfl, hb2⟩)
    go_ret
    exact ⟨by unfold first2; rw [if_neg h0]; rfl, below_up hB hb2 hB.size⟩
  ·have hc := hb'.cell 1
   have z1 := HA1.out (by omega)
   by_cases h0 : c3 = 0
   ·have e0 : (c3 != 0) = false := by simp [h0]
    go_wp2_with (refine (K3.out z1 wr hB).mono ?_; rintro e w2 ⟨rfl, hb2⟩)
    go_roundw
    case rel => exact ⟨2, by go_num, by omega, fun _ => z1, fun _ => h0, below_up hB hb2 hB.size⟩
    case measure => simp [intOf]
   ·have e0 : (c3 != 0) = true := by simp [h0]
    go_wp2_with (refine (K3.out z1 wr hB).mono ?_; rintro e w2 ⟨rfl, hb2⟩)
    go_ret
    exact ⟨by unfold first2; rw [if_pos z1]; rfl, below_up hB hb2 hB.size⟩
  ·have z1 := HA1.out (by omega)
   have z3 := HA2.out (by omega)
   go_wp2_with fail
   go_ret
   exact ⟨by unfold first2; rw [if_pos z1, z3]; rfl, hB⟩
end Go.Proofs.YtbeaijjaecaidaaGreatDoor
namespace Go.Proofs.YtbeaijjaecaidaaGreatDoor
open Go.RowKit Go.Shelf
attribute [local go_sem] Oper.semAt_some
/-- A whole struct, stored; and handed back. -/
theorem wpList_storeW {T : TypeId} {n : Nat} (hi : (Tryz.prog.info? T).map (·.size) = some n) {w : World} {g : Nat} {old : Array Value} (h : Blk w g T old) (hs : old.size = n) {ops : Array Oper} {rest : List Oper} {o : Oper} {a : Act} {Q : Exit → Act → World → Prop} (p v : Operand) (ho : o.op = .store T p v) (hg : o.guard = none)
  (hp : a.eval p = .pointer (some ⟨g, 0, none⟩)) (vs : Array Value) (hv : a.eval v = .agg vs) (hvs : vs.size = n) (h1 : vs.all (·.oneCell') = true)
  (hK : ∀ w', Blk w' g T vs → w.grownBy w' (some g) → wpList Tryz.prog ops Q rest (a.put o.dst undef) w') : wpList Tryz.prog ops Q (o :: rest) a w :=
 wpList_store_row hg T p v ho g vs hp hv T old h (by rw [hvs]; exact hi) (by rw [hs, hvs]) h1 (hK _ (h.setRow vs) (grown_setRow w g vs))
theorem wp_storeW {T : TypeId} {n : Nat} (hi : (Tryz.prog.info? T).map (·.size) = some n) {w : World} {g : Nat} {old : Array Value} (h : Blk w g T old) (hs : old.size = n) {o : Oper} {a : Act} {K : Act → World → Prop} {Q : Exit → Act → World → Prop} (p v : Operand) (ho : o.op = .store T p v)
  (hp : a.eval p = .pointer (some ⟨g, 0, none⟩)) (vs : Array Value) (hv : a.eval v = .agg vs) (hvs : vs.size = n) (h1 : vs.all (·.oneCell') = true)
  (hK : ∀ w', Blk w' g T vs → w.grownBy w' (some g) → K (a.put o.dst undef) w') : o.wp Tryz.prog a w K Q :=
 wp_store_row T p v ho g vs hp hv T old h (by rw [hvs]; exact hi) (by rw [hs, hvs]) h1 (hK _ (h.setRow vs) (grown_setRow w g vs))
theorem results_H {fn : Func} {p : Tmp} (h : fn.results = #[.cell p 49]) (tmps : Array Value) {w : World} {g : Nat} {cs : Array Value} (hp : tmps.getD p undef = .pointer (some ⟨g, 0, none⟩)) (hb : Blk w g 49 cs) (hs : cs.size = 8) :
  (results fn tmps).run Tryz.prog w = .ok (.agg cs) w :=
 results_cell_row h tmps w g 49 cs _ _ hp hb Tryz.underlying49 rfl (by rw [hs]; kernel_rfl)
theorem results_RH {fn : Func} {p : Tmp} (h : fn.results = #[.cell p 29]) (tmps : Array Value) {w : World} {g : Nat} {cs : Array Value} (hp : tmps.getD p undef = .pointer (some ⟨g, 0, none⟩)) (hb : Blk w g 29 cs) (hs : cs.size = 8) :
  (results fn tmps).run Tryz.prog w = .ok (.agg cs) w :=
 results_cell_row h tmps w g 29 cs _ _ hp hb Tryz.underlying29 rfl (by rw [hs]; kernel_rfl)
theorem results_C {fn : Func} {p : Tmp} (h : fn.results = #[.cell p 51]) (tmps : Array Value) {w : World} {g : Nat} {cs : Array Value} (hp : tmps.getD p undef = .pointer (some ⟨g, 0, none⟩)) (hb : Blk w g 51 cs) (hs : cs.size = 30) :
  (results fn tmps).run Tryz.prog w = .ok (.agg cs) w :=
 results_cell_row h tmps w g 51 cs _ _ hp hb Tryz.underlying51 rfl (by rw [hs]; kernel_rfl)
theorem results_K {fn : Func} {p : Tmp} (h : fn.results = #[.cell p 44]) (tmps : Array Value) {w : World} {g : Nat} {cs : Array Value} (hp : tmps.getD p undef = .pointer (some ⟨g, 0, none⟩)) (hb : Blk w g 44 cs) (hs : cs.size = 30) :
  (results fn tmps).run Tryz.prog w = .ok (.agg cs) w :=
 results_cell_row h tmps w g 44 cs _ _ hp hb Tryz.underlying44 rfl (by rw [hs]; kernel_rfl)
set_option maxRecDepth 100000 in
set_option maxHeartbeats 2000000 in
/-- A copy is built. -/
theorem exec_buildC (d : Option Tmp) (ty : TypeId) (pos : String) (after : Array Edge) (gd : Option (Nat × Bool)) (r : Operand → Value) (x0 x1 x2 x3 x4 : Operand) (h : Hd) (i : Int) (f : Fil) (dv cv ev : Value) (salt : Nat) (A : Option Addr) (n c : Nat)
  (h0 : r x0 = .agg h.vals) (h1 : r x1 = .int .i64 i) (h2 : r x2 = .agg (f.vals dv cv ev)) (h3 : r x3 = .int .u64 (salt : Int)) (h4 : r x4 = .slice A n c) (w : World) :
  (execOp r ⟨d, .build 51 #[(0, x0), (1, x1), (2, x2), (3, x3), (4, x4)], ty, pos, after, gd⟩).run Tryz.prog w = .ok (.value (.agg (cop h i f dv cv ev salt (.slice A n c)))) w := by
 unfold Hd.vals at h0
 unfold Fil.vals at h2
 unfold cop
 simp only [execOp]
 go_simp
set_option maxRecDepth 100000 in
set_option maxHeartbeats 2000000 in
theorem exec_buildK (d : Option Tmp) (ty : TypeId) (pos : String) (after : Array Edge) (gd : Option (Nat × Bool)) (r : Operand → Value) (x0 x1 x2 x3 x4 : Operand) (h : Hd) (i : Int) (f : Fil) (dv cv ev : Value) (salt : Nat) (A : Option Addr) (n c : Nat)
  (h0 : r x0 = .agg h.vals) (h1 : r x1 = .int .i64 i) (h2 : r x2 = .agg (f.vals dv cv ev)) (h3 : r x3 = .int .u64 (salt : Int)) (h4 : r x4 = .slice A n c) (w : World) :
  (execOp r ⟨d, .build 44 #[(0, x0), (1, x1), (2, x2), (3, x3), (4, x4)], ty, pos, after, gd⟩).run Tryz.prog w = .ok (.value (.agg (cop h i f dv cv ev salt (.slice A n c)))) w := by
 unfold Hd.vals at h0
 unfold Fil.vals at h2
 unfold cop
 simp only [execOp]
 go_simp
set_option maxRecDepth 100000 in
set_option maxHeartbeats 2000000 in
/-- A head of the reference, as one of the program. -/
theorem own_any (h : Hd) (w : World) : Calls Tryz.prog 18 #[.agg h.vals] w fun e w' => e = .returned (.agg h.vals) ∧ Below w.heap.size w w' := by
 obtain ⟨o, t, d, s, l, m, sl, sg⟩ := h
 unfold Hd.vals
 dsimp only
 have X0 := (Blk.new w 29 #[.int .i64 o, .int .i64 t, .int .i64 d, .int .i64 s, .int .u64 (l : Int), .int .u64 (m : Int), .int .i64 sl, .int .u64 (sg : Int)]).alloc (.cells #[.int .i64 0, .int .i64 0, .int .i64 0, .int .i64 0, .int .u64 0, .int .u64 0, .int .i64 0, .int .u64 0] 49)
 have Y0 := Blk.new (w.alloc (.cells #[.int .i64 o, .int .i64 t, .int .i64 d, .int .i64 s, .int .u64 (l : Int), .int .u64 (m : Int), .int .i64 sl, .int .u64 (sg : Int)] 29)) 49 #[.int .i64 0, .int .i64 0, .int .i64 0, .int .i64 0, .int .u64 0, .int .u64 0, .int .i64 0, .int .u64 0]
 rw [World.size_alloc] at Y0
 have P0 := (below_new w (.cells #[.int .i64 o, .int .i64 t, .int .i64 d, .int .i64 s, .int .u64 (l : Int), .int .u64 (m : Int), .int .i64 sl, .int .u64 (sg : Int)] 29)).alloc (by simp) (.cells #[.int .i64 0, .int .i64 0, .int .i64 0, .int .i64 0, .int .u64 0, .int .u64 0, .int .i64 0, .int .u64 0] 49)
 go_enter Tryz.func18, Tryz.ntmps18
 go_upto_region 1 with fail
 generalize (w.alloc (.cells #[.int .i64 o, .int .i64 t, .int .i64 d, .int .i64 s, .int .u64 (l : Int), .int .u64 (m : Int), .int .i64 sl, .int .u64 (sg : Int)] 29)).alloc (.cells #[.int .i64 0, .int .i64 0, .int .i64 0, .int .i64 0, .int .u64 0, .int .u64 0, .int .i64 0, .int .u64 0] 49) = w1 at *
 have hc := X0.c8
 go_wp2_with (refine wpList_storeW (T := 49) (n := 8) (by kernel_rfl) Y0 rfl _ _ rfl rfl rfl _ rfl rfl (by kernel_rfl) ?_; intro w2 Y2 g2)
 exact bodyPost_ret (results_H rfl _ rfl Y2 rfl) rfl ⟨rfl, P0.grown g2 P0.size (fun k e => by injection e with e; omega)⟩
/-- A filing's slices are slices. -/
def OneV (dv cv ev : Value) : Prop := (∃ A n c, dv = .slice A n c) ∧ (∃ A n c, cv = .slice A n c) ∧ (∃ A n c, ev = .slice A n c)
theorem Rep.one {W : World} {B sz : Nat} {v : Value} {ds : List D} (h : Rep W B v (.s sz ds)) : ∃ A n c, v = .slice A n c := by
 obtain ⟨A, n, c, rfl, _⟩ := h.slice
 exact ⟨A, n, c, rfl⟩
theorem FilAt.one {W : World} {B : Nat} {f : Fil} {dv cv ev : Value} (h : FilAt W B f dv cv ev) : OneV dv cv ev := ⟨Rep.one h.1, Rep.one h.2.1, Rep.one h.2.2⟩
theorem cop_one (h : Hd) (i : Int) (f : Fil) {dv cv ev : Value} (salt : Nat) (A : Option Addr) (n c : Nat) (hv : OneV dv cv ev) : (cop h i f dv cv ev salt (.slice A n c)).all (·.oneCell') = true := by
 obtain ⟨⟨_, _, _, rfl⟩, ⟨_, _, _, rfl⟩, _, _, _, rfl⟩ := hv
 simp [cop, Value.oneCell']
def zeroC : Array Value := #[.int .i64 0, .int .i64 0, .int .i64 0, .int .i64 0, .int .u64 0, .int .u64 0, .int .i64 0, .int .u64 0, .int .i64 0, .int .i64 0, .int .i64 0, .int .i64 0, .int .i64 0, .int .i64 0, .int .i64 0, .int .i64 0, .int .i64 0, .int .i64 0, .int .i64 0, .int .i64 0, .slice none 0 0, .slice none 0 0, .slice none 0 0, .slice none 0 0, .int .i64 0, .int .i64 0, .slice none 0 0, .slice none 0 0, .int .u64 0, .slice none 0 0]
/-- What of a copy a region may read first. -/
theorem yieldsCH {T : TypeId} {C : Array Value} {h : Hd} {i : Int} {f : Fil} {dv cv ev : Value} {salt : Nat} {p : Value} (hC : IsCop C h i f dv cv ev salt p) {HT : TypeId} {S : World → Prop} {ops : Array Oper} {g : Nat} {o : Oper} {a : Act} {d : TypeDesc} (x : Operand) (ho : o.op = .load HT x) (hx : a.eval x = .pointer (some ⟨g, 0, none⟩)) (hS : ∀ W, S W → Blk W g T C) (hu : Tryz.prog.underlying HT = some d) (hd : d.isRow = true) (hi : (Tryz.prog.info? HT).map (·.size) = some 8) (hw : Region.wanted o (yielded ops a.tmps) = true) : YieldsIf Tryz.prog ops S o (.agg h.vals) a := by
 have h := yieldsIf_load_mid (P := Tryz.prog) (ops := ops) (S := S) hw HT x ho g 0 hx h.vals.toList d (fun w h => hC.hrange (hS w h)) hu hd hi
 rwa [Array.toArray_toList] at h
theorem yieldsCA {T : TypeId} {C : Array Value} {h : Hd} {i : Int} {f : Fil} {dv cv ev : Value} {salt : Nat} {p : Value} (hC : IsCop C h i f dv cv ev salt p) {S : World → Prop} {ops : Array Oper} {g : Nat} {o : Oper} {a : Act} (x : Operand) (ho : o.op = .load 41 x) (hx : a.eval x = .pointer (some ⟨g, 9, none⟩)) (hS : ∀ W, S W → Blk W g T C) (hw : Region.wanted o (yielded ops a.tmps) = true) : YieldsIf Tryz.prog ops S o (.agg (f.vals dv cv ev)) a := by
 have h := yieldsIf_load_mid (P := Tryz.prog) (ops := ops) (S := S) hw 41 x ho g 9 hx (f.vals dv cv ev).toList _ (fun w h => hC.range (hS w h)) Tryz.underlying41 rfl (by kernel_rfl)
 rwa [Array.toArray_toList] at h
set_option maxRecDepth 100000 in
set_option maxHeartbeats 4000000 in
/-- A copy of the reference, as one of the program. -/
theorem real_any {C : Array Value} {h : Hd} {i : Int} {f : Fil} {dv cv ev : Value} {salt : Nat} {A : Option Addr} {n c : Nat} (hC : IsCop C h i f dv cv ev salt (.slice A n c)) (hv : OneV dv cv ev) (w : World) :
  Calls Tryz.prog 14 #[.agg C] w fun e w' => e = .returned (.agg (cop h i f dv cv ev salt (.slice A n c))) ∧ Below w.heap.size w w' := by
 have HO := Lib.hid (fun W => own_any h W)
 have X0 := (Blk.new w 44 C).alloc (.cells zeroC 51)
 have Y0 := Blk.new (w.alloc (.cells C 44)) 51 zeroC
 rw [World.size_alloc] at Y0
 have P0 := (below_new w (.cells C 44)).alloc (by simp) (.cells zeroC 51)
 unfold zeroC at X0 Y0 P0
 have hcs := hC.size
 go_enter Tryz.func14, Tryz.ntmps14
 go_upto_region 1 with fail
 generalize (w.alloc (.cells C 44)).alloc (.cells #[.int .i64 0, .int .i64 0, .int .i64 0, .int .i64 0, .int .u64 0, .int .u64 0, .int .i64 0, .int .u64 0, .int .i64 0, .int .i64 0, .int .i64 0, .int .i64 0, .int .i64 0, .int .i64 0, .int .i64 0, .int .i64 0, .int .i64 0, .int .i64 0, .int .i64 0, .int .i64 0, .slice none 0 0, .slice none 0 0, .slice none 0 0, .slice none 0 0, .int .i64 0, .int .i64 0, .slice none 0 0, .slice none 0 0, .int .u64 0, .slice none 0 0] 51) = w1 at *
 refine wp_region_held_drew (S := (fun W => Blk W w.heap.size 44 C ∧ (∃ cs, Blk W (w.heap.size + 1) 51 cs ∧ cs.size = 30) ∧ Below w.heap.size w W)) (by kernel_rfl) ?_ (fun hHeld => ?_)
 ·first | done | ((try dsimp only); exact ⟨X0, ⟨_, Y0, rfl⟩, P0.drew⟩)
 clear X0 Y0 P0
 generalize w1.drew = wb at *
 refine tk 0 3 ?_ rfl (by kernel_rfl) (fun _ _ _ h => h) (by rfl) (by assumption) ?_ ?_
 rotate_left
 ·(intro w' hSw; (try dsimp only at hSw); go_simp; try (with_reducible rfl))
 (try simp only [pS, pB, pZ, pC])
 refine wpAnyH_take (i := 1) (oi := ⟨some 4, _, _, _, _, _⟩) (v := _) rfl (by kernel_rfl) (by kernel_rfl) (by kernel_rfl) (fun _ _ _ h => h) (yieldsCH hC _ rfl rfl (fun _ h => h.1) Tryz.underlying29 rfl (by kernel_rfl) rfl) (by assumption) ?_
 (try simp only [pS, pB, pZ, pC])
 refine tk 3 6 ?_ rfl (by kernel_rfl) (fun _ _ _ h => h) (by rfl) (by assumption) ?_ ?_
 rotate_left
 ·(intro w' hSw; (try dsimp only at hSw); go_simp; try (with_reducible rfl))
 (try simp only [pS, pB, pZ, pC])
 refine tk 4 7 ?_ rfl (by kernel_rfl) (fun _ _ _ h => h) (by rfl) (by assumption) ?_ ?_
 rotate_left
 ·(intro w' hSw; (try dsimp only at hSw); (have hc := hC.cells hSw.1; go_simp); try (with_reducible rfl))
 (try simp only [pS, pB, pZ, pC])
 refine tk 5 8 ?_ rfl (by kernel_rfl) (fun _ _ _ h => h) (by rfl) (by assumption) ?_ ?_
 rotate_left
 ·(intro w' hSw; (try dsimp only at hSw); go_simp; try (with_reducible rfl))
 (try simp only [pS, pB, pZ, pC])
 refine wpAnyH_take (i := 6) (oi := ⟨some 9, _, _, _, _, _⟩) (v := _) rfl (by kernel_rfl) (by kernel_rfl) (by kernel_rfl) (fun _ _ _ h => h) (yieldsCA hC _ rfl rfl (fun _ h => h.1) rfl) (by assumption) ?_
 (try simp only [pS, pB, pZ, pC])
 refine tk 7 10 ?_ rfl (by kernel_rfl) (fun _ _ _ h => h) (by rfl) (by assumption) ?_ ?_
 rotate_left
 ·(intro w' hSw; (try dsimp only at hSw); go_simp; try (with_reducible rfl))
 (try simp only [pS, pB, pZ, pC])
 refine tk 8 11 ?_ rfl (by kernel_rfl) (fun _ _ _ h => h) (by rfl) (by assumption) ?_ ?_
 rotate_left
 ·(intro w' hSw; (try dsimp only at hSw); (have hc := hC.cells hSw.1; go_simp); try (with_reducible rfl))
 (try simp only [pS, pB, pZ, pC])
 refine tk 9 12 ?_ rfl (by kernel_rfl) (fun _ _ _ h => h) (by rfl) (by assumption) ?_ ?_
 rotate_left
 ·(intro w' hSw; (try dsimp only at hSw); go_simp; try (with_reducible rfl))
 (try simp only [pS, pB, pZ, pC])
 refine tk 10 13 ?_ rfl (by kernel_rfl) (fun _ _ _ h => h) (by rfl) (by assumption) ?_ ?_
 rotate_left
 ·(intro w' hSw; (try dsimp only at hSw); (have hc := hC.cells hSw.1; go_simp); try (with_reducible rfl))
 (try simp only [pS, pB, pZ, pC])
 refine wpAnyH_ready (rs := [2]) (by kernel_rfl) (by simp) (AllReadyH.cons (o := ⟨some 5, _, _, _, _, _⟩) rfl (fun K hK => ?_) AllReadyH.nil)
 go_simp
 (refine (HO.out _).mono ?_; rintro e w2 ⟨rfl, hb2⟩)
 refine hK.out _ _ ?_ (fun hHeld => ?_)
 ·first | done | ((try dsimp only); exact ⟨hHeld.1.keep hb2, (by obtain ⟨cs, k1, k2⟩ := hHeld.2.1; exact ⟨cs, k1.keep hb2, k2⟩), below_up hHeld.2.2 hb2 hHeld.2.2.size⟩)
 clear hK K
 (try simp only [pS, pB, pZ, pC])
 refine tk 11 14 ?_ rfl (by kernel_rfl) (fun _ _ _ h => h) (by rfl) (by assumption) ?_ ?_
 rotate_left
 ·(intro w' hSw; (try dsimp only at hSw); (refine exec_buildC _ _ _ _ _ _ (.tmp 5) (.tmp 7) (.tmp 9) (.tmp 11) (.tmp 13) h i f dv cv ev salt A n c ?_ ?_ ?_ ?_ ?_ _ <;> rfl); try (with_reducible rfl))
 (try simp only [pS, pB, pZ, pC])
 have ⟨K1, ⟨zs, K2, K3⟩, K4⟩ := hHeld
 refine wpAnyH_ready (rs := [12]) (by kernel_rfl) (by simp) (AllReadyH.cons (o := ⟨none, _, _, _, _, _⟩) rfl (fun K hK => ?_) AllReadyH.nil)
 rw [if_pos (by rfl)]
 refine wp_storeW (T := 51) (n := 30) (by kernel_rfl) K2 K3 _ _ rfl rfl _ rfl rfl (cop_one h i f salt A n c hv) (fun w3 K5 gs => ?_)
 have K6 : Below w.heap.size w w3 := K4.grown gs K4.size (fun k e => by injection e with e; omega)
 refine hK.out _ _ ?_ (fun hHeld => ?_)
 ·exact ⟨K1.grown gs (fun e => by injection e with e; omega), ⟨_, K5, rfl⟩, K6⟩
 clear hK K
 refine wpAnyH_done (by kernel_rfl) ?_ _
 go_wp2_with fail
 exact bodyPost_ret (results_C rfl _ rfl K5 rfl) rfl ⟨rfl, K6⟩
end Go.Proofs.YtbeaijjaecaidaaGreatDoor
namespace Go.Proofs.YtbeaijjaecaidaaGreatDoor
open Go.RowKit Go.Shelf
attribute [local go_sem] Oper.semAt_some
def sSalt : ByteArray := { data := #[115, 97, 108, 116] }
/-- The salt of an act of a log. -/
def saltN (i : Nat) : Nat := labN sSalt [i]
/-- The entry of a filing of a log. -/
def entN (i : Nat) (f : Fil) : Nat := commitN (encA f) (saltN i)
/-- The entries of a log. -/
def logN (fl : List Fil) : List Nat := fl.mapIdx entN
theorem logN_step {fl : List Fil} {k : Nat} (hk : k < fl.length) : logN (fl.take (k + 1)) = logN (fl.take k) ++ [entN k fl[k]] := by
 unfold logN
 rw [List.take_add_one, List.getElem?_eq_getElem hk]
 simp only [Option.toList, List.mapIdx_append, List.mapIdx_cons, List.mapIdx_nil, List.length_take]
 rw [Nat.min_eq_left (by omega), Nat.zero_add]
theorem logN_length (fl : List Fil) : (logN fl).length = fl.length := List.length_mapIdx
/-- Numbers as values. -/
def us (l : List Nat) : List Value := l.map fun (n : Nat) => .int .u64 (n : Int)
theorem us_length (l : List Nat) : (us l).length = l.length := List.length_map ..
/-- A slice of numbers that a function owns. -/
def OwnU (w : World) (base : Nat) (v : Value) (l : List Nat) : Prop := OwnM [] [] w base 27 1 v (valD (us l))
theorem OwnU.nil (w : World) (base : Nat) : OwnU w base (.slice none 0 0) [] := OwnM.nil _ _ _ _ _ _
theorem OwnU.rep {w : World} {base : Nat} {v : Value} {l : List Nat} (h : OwnU w base v l) : Rep w w.heap.size v (.s 1 (valD (us l))) := RepM.out (ts := []) (H := []) (OwnM.rep h (fun _ h => h) (by simp) (fun _ h => by cases h))
theorem OwnU.below {w w' : World} {base : Nat} {v : Value} {l : List Nat} (h : OwnU w base v l) (hb : Below w.heap.size w w') : OwnU w' base v l :=
 OwnM.step h (grown_of_below (row := none) hb) (fun _ e => by cases e) (fun _ hi => .inl hi)
theorem salt_any (i : Nat) (hi : i ≤ 1000) (w : World) :
  Calls Tryz.prog 41 #[.int .i64 (i : Int)] w fun e w' => e = .returned (.int .u64 (saltN i : Int)) ∧ Below w.heap.size w w' := by
 have hu : u64 (i : Int) = i := by unfold u64; omega
 go_enter Tryz.func41, Tryz.ntmps41
 go_wp2_with (go_at_call 67; refine (refsum_fresh sSalt (by decide) [(i : Int)] [i] 1 _ w _ rfl rfl rfl (by unfold u64L; rw [List.map_cons, List.map_nil, hu]) (Nat.le_of_ble_eq_true rfl)).mono ?_; rintro e w' ⟨rfl, hb⟩)
 go_ret
 exact ⟨rfl, hb⟩
/-- A row of filings in memory. -/
def FilRow (W : World) (B : Nat) (A : Option Addr) (fl : List Fil) : Prop :=
 ∀ (k : Nat) (hk : k < fl.length), ∃ b o dv cv ev, A = some ⟨b, o, none⟩ ∧ b < B ∧ W.rangeAt b (o + k * 19) (fl[k].vals dv cv ev).toList ∧ FilAt W B fl[k] dv cv ev
theorem FilRow.keep {W W' : World} {B B' : Nat} {A : Option Addr} {fl : List Fil} (h : FilRow W B A fl) (hk : ∀ p : Addr, p.block < B → W'.cell? p = W.cell? p) (hB : B ≤ B') : FilRow W' B' A fl := fun k hlt => by
 obtain ⟨b, o, dv, cv, ev, rfl, hb, hr, hf⟩ := h k hlt
 exact ⟨b, o, dv, cv, ev, rfl, by omega, fun j u hu => (hk _ hb).trans (hr j u hu), hf.keep hk hB⟩
theorem FilRow.take {W : World} {B : Nat} {A : Option Addr} {fl : List Fil} (h : FilRow W B A fl) (m : Nat) : FilRow W B A (fl.take m) := fun k hlt => by
 have hlt2 : k < fl.length := by rw [List.length_take] at hlt; omega
 obtain ⟨b, o, dv, cv, ev, e, hb, hr, hf⟩ := h k hlt2
 refine ⟨b, o, dv, cv, ev, e, hb, ?_, ?_⟩
 ·rw [List.getElem_take]; exact hr
 ·rw [List.getElem_take]; exact hf
theorem Rep.filRow {W : World} {B : Nat} {v : Value} {fl : List Fil} (h : Rep W B v (.s 19 (fl.flatMap Fil.cells))) : ∃ (A : Option Addr) (c : Nat), v = .slice A fl.length c ∧ fl.length ≤ c ∧ FilRow W B A fl := by
 obtain ⟨A, n, c, rfl, hn, hl, hc⟩ := h.slice
 have hfl := flat_length (l := fl) (f := Fil.cells) (k := 19) (fun x _ => x.cells_length)
 have hnl : n = fl.length := by omega
 subst hnl
 refine ⟨A, c, rfl, hn, fun k hk => ?_⟩
 obtain ⟨b, o, cs, rfl, hb, hr, hcell⟩ := hc (by omega)
 have hp := flat_part (l := fl) (f := Fil.cells) (k := 19) (i := k) (a := fl[k]) (fun x _ => x.cells_length) (List.getElem?_eq_getElem hk)
 have hr2 := (hr.drop (k * 19)).take 19
 rw [hp] at hr2
 obtain ⟨dv, cv, ev, e, r1, r2, r3⟩ := FilM.inv hr2
 refine ⟨b, o, dv, cv, ev, rfl, hb, fun j u hu => ?_, r1, r2, r3⟩
 rw [← e, List.getElem?_take] at hu
 by_cases hj : j < 19
 ·rw [if_pos hj, List.getElem?_drop] at hu
  rw [Nat.add_assoc]
  exact hcell _ _ hu
 ·rw [if_neg hj] at hu
  cases hu
/-- A whole act of a row in a region that draws its order. -/
theorem yieldsAt {S : World → Prop} {ops : Array Oper} {b off : Nat} {cs : Array Value} (hs : cs.size = 19) {o : Oper} {a : Act} (x : Operand) (ho : o.op = .load 41 x) (hx : a.eval x = .pointer (some ⟨b, off, none⟩)) (hS : ∀ W, S W → W.rangeAt b off cs.toList) (hw : Region.wanted o (yielded ops a.tmps) = true) : YieldsIf Tryz.prog ops S o (.agg cs) a := by
 have h := yieldsIf_load_mid (P := Tryz.prog) (ops := ops) (S := S) hw 41 x ho b off hx cs.toList _ hS Tryz.underlying41 rfl (by rw [Array.length_toList, hs]; kernel_rfl)
 rwa [Array.toArray_toList] at h
set_option maxRecDepth 100000 in
set_option maxHeartbeats 4000000 in
theorem reflog_any (fl : List Fil) (hl : fl.length ≤ 100) (hok : ∀ f ∈ fl, OkFil f) (A : Option Addr) (c : Nat) (w : World) (B : Nat) (hBw : B ≤ w.heap.size) (hrow : FilRow w B A fl) :
  Calls Tryz.prog 39 #[.slice A fl.length c] w fun e w' => ∃ u, e = .returned u ∧ OwnU w' w.heap.size u (logN fl) ∧ Below w.heap.size w w' := by
 have HR := Lib.hid (fun (W : World) (hW : Below w.heap.size w W) => hrow.keep (W' := W) (fun p hp => hW.cell (Nat.lt_of_lt_of_le hp hBw)) (Nat.le_refl _))
 clear hrow
 go_enter Tryz.func39, Tryz.ntmps39
 go_wp2_with fail
 go_loopw [3, 4] (fun u j W => ∃ k : Nat, j = .int .i64 (k : Int) ∧ k ≤ fl.length ∧ OwnU W w.heap.size u (logN (fl.take k)) ∧ Below w.heap.size w W) (fun _ j _ => fl.length - (intOf j).toNat)
 case atStart => exact ⟨0, rfl, Nat.zero_le _, OwnU.nil _ _, Below.refl _ _⟩
 case round =>
  obtain ⟨k, rfl, hk, hO, hB⟩ := hrel
  obtain ⟨W, rfl⟩ : ∃ z : World, z = wr := ⟨_, rfl⟩
  by_cases hlt : k < fl.length
  ·obtain ⟨b, o, dv, cv, ev, rfl, hb, hr, hf⟩ := HR.out w (Below.refl _ _) k hlt
   have hd : decide ((k : Int) < (fl.length : Int)) = true := decide_eq_true (by omega)
   have hok1 := hok _ (List.getElem_mem hlt)
   have HE := Lib.hid (fun (V : World) (hV : Below w.heap.size w V) => entry_any fl[k] hok1 dv cv ev (saltN k) (lab_lt _ _) V B (Nat.le_trans hBw hV.size) (hf.keep (fun p hp => hV.cell (Nat.lt_of_lt_of_le hp hBw)) (Nat.le_refl _)))
   have HRr := Lib.hid (fun (V : World) (hV : Below w.heap.size w V) => (fun j u hu => (hV.cell (p := ⟨b, o + k * 19 + j, none⟩) (Nat.lt_of_lt_of_le hb hBw)).trans (hr j u hu) : V.rangeAt b (o + k * 19) (fl[k].vals dv cv ev).toList))
   have HS := Lib.hid (fun V => salt_any k (by omega) V)
   obtain ⟨Au, nu, cu, rfl, hnu, _⟩ := OwnM.slice hO
   have hlg : (logN (fl.take k)).length ≤ 100 := by rw [logN_length, List.length_take]; omega
   have hus := us_length (logN (fl.take k))
   have hvd := valD_length (us (logN (fl.take k)))
   have HO := Lib.hid hO
   have HSt := Lib.hid (logN_step hlt)
   have HB := Lib.hid hB
   have hBs := hB.size
   clear hnu hO hB hf hok1 hr
   have hen : (entN k fl[k] : Int) = (commitN (encA fl[k]) (saltN k) : Int) := rfl
   go_upto_region 5 with fail
   refine wp_region_held_drew (S := (fun V => Below w.heap.size w V)) (by kernel_rfl) ?_ (fun hHeld => ?_)
   ·first | done | ((try dsimp only); exact HB.out.drew)
   have PW := (Below.refl W.heap.size W).drew
   generalize W.drew = Wb at *
   refine tk 0 11 ?_ rfl (by kernel_rfl) (fun _ _ _ h => h) (by rfl) (by assumption) ?_ ?_
   rotate_left
   ·(intro w' hSw; (try dsimp only at hSw); go_simp; try (with_reducible rfl))
   (try simp only [pS, pB, pZ, pC])
   refine tk 1 12 ?_ rfl (by kernel_rfl) (fun _ _ _ h => h) (by rfl) (by assumption) ?_ ?_
   rotate_left
   ·(intro w' hSw; (try dsimp only at hSw); go_simp; try (with_reducible rfl))
   (try simp only [pS, pB, pZ, pC])
   refine tk 2 13 ?_ rfl (by kernel_rfl) (fun _ _ _ h => h) (by rfl) (by assumption) ?_ ?_
   rotate_left
   ·(intro w' hSw; (try dsimp only at hSw); go_simp; try (with_reducible rfl))
   (try simp only [pS, pB, pZ, pC])
   refine tk 3 14 ?_ rfl (by kernel_rfl) (fun _ _ _ h => h) (by rfl) (by assumption) ?_ ?_
   rotate_left
   ·(intro w' hSw; (try dsimp only at hSw); go_simp; try (with_reducible rfl))
   (try simp only [pS, pB, pZ, pC])
   refine wpAnyH_take (i := 4) (oi := ⟨some 15, _, _, _, _, _⟩) (v := _) rfl (by kernel_rfl) (by kernel_rfl) (by kernel_rfl) (fun _ _ _ h => h) (yieldsAt (cs := fl[k].vals dv cv ev) rfl _ rfl rfl HRr.out rfl) (by assumption) ?_
   (try simp only [pS, pB, pZ, pC])
   refine tk 5 16 ?_ rfl (by kernel_rfl) (fun _ _ _ h => h) (by rfl) (by assumption) ?_ ?_
   rotate_left
   ·(intro w' hSw; (try dsimp only at hSw); go_simp; try (with_reducible rfl))
   (try simp only [pS, pB, pZ, pC])
   refine wpAnyH_ready (rs := [6]) (by kernel_rfl) (by simp) (AllReadyH.cons (o := ⟨some 17, _, _, _, _, _⟩) rfl (fun K hK => ?_) AllReadyH.nil)
   go_simp
   (refine (HS.out _).mono ?_; rintro e w6 ⟨rfl, hb6⟩)
   refine hK.out _ _ ?_ (fun hHeld => ?_)
   ·first | done | ((try dsimp only); exact hHeld.trans (hb6.mono hHeld.size))
   clear hK K
   (try simp only [pS, pB, pZ, pC])
   have P6 := PW.trans (hb6.mono PW.size)
   refine wpAnyH_ready (rs := [7]) (by kernel_rfl) (by simp) (AllReadyH.cons (o := ⟨some 18, _, _, _, _, _⟩) rfl (fun K hK => ?_) AllReadyH.nil)
   go_simp
   (refine (HE.out _ hHeld).mono ?_; rintro e w7 ⟨rfl, hb7⟩; rw [← hen])
   refine hK.out _ _ ?_ (fun hHeld => ?_)
   ·first | done | ((try dsimp only); exact hHeld.trans (hb7.mono hHeld.size))
   clear hK K
   (try simp only [pS, pB, pZ, pC])
   have P7 := P6.trans (hb7.mono P6.size)
   clear PW P6 hb6 hb7 hen
   generalize entN k fl[k] = en at *
   refine wpAnyH_ready (rs := [8]) (by kernel_rfl) (by simp) (AllReadyH.cons (o := ⟨some 19, _, _, _, _, _⟩) rfl (fun K hK => ?_) AllReadyH.nil)
   go_simp
   skip
   refine hK.out _ _ ?_ (fun hHeld => ?_)
   ·first | done | ((try dsimp only); exact hHeld.alloc hHeld.size _)
   clear hK K
   (try simp only [pS, pB, pZ, pC])
   have P8 := P7.alloc P7.size (.cells #[.int .u64 (en : Int)] 27)
   have RA := Blk.new w7 27 #[.int .u64 (en : Int)]
   have OA := OwnM.step HO.out (grown_of_below (row := none) P8) (fun _ e => by cases e) (H' := []) (fun _ hi => .inl hi)
   have NA : RepML [] ((Value.slice Au nu cu).ownBlock.toList ++ []) (w7.alloc (.cells #[.int .u64 (en : Int)] 27)) #[Value.int .u64 (en : Int)].toList (valD [Value.int .u64 (en : Int)]) := RepL.of_plain _ _ _
   have hsz := hHeld.size
   refine wpAnyH_ready (rs := [9]) (by kernel_rfl) (by simp) (AllReadyH.cons (o := ⟨some 20, _, _, _, _, _⟩) rfl (fun K hK => ?_) AllReadyH.nil)
   rw [if_pos (by rfl)]
   refine wp_appM Tryz.underlying42 Tryz.info27 rfl (by omega) (by omega) OA RA rfl (by kernel_rfl) NA (by omega) (by omega) hsz _ _ rfl rfl rfl (fun v9 w9 o9 g9 l9 => ?_)
   have B9 := hHeld.grown g9 hHeld.size (fun k e => (OA.lt k e).1)
   refine hK.out _ _ ?_ (fun hHeld => ?_)
   ·exact B9
   clear hK K
   (try simp only [pS, pB, pZ, pC])
   refine tk 10 3 ?_ rfl (by kernel_rfl) (fun _ _ _ h => h) (by rfl) (by assumption) ?_ ?_
   rotate_left
   ·(intro w' hSw; (try dsimp only at hSw); go_simp; try (with_reducible rfl))
   (try simp only [pS, pB, pZ, pC])
   refine wpAnyH_done (by kernel_rfl) ?_ _
   have O9 : OwnU w9 w.heap.size v9 (logN (fl.take (k + 1))) := by
    rw [HSt.out]
    unfold OwnU us valD
    rw [List.map_append, List.map_append]
    exact o9
   clear o9 OA NA RA P8 P7 g9 l9 hHeld
   have HO9 := Lib.hid O9
   clear O9
   go_wp2_with fail
   go_roundw
   case rel => exact ⟨k + 1, by go_num, by omega, HO9.out, B9⟩
   case measure => simp [intOf]; omega
  ·have hd : decide ((k : Int) < (fl.length : Int)) = false := decide_eq_false (by omega)
   obtain rfl : k = fl.length := by omega
   rw [List.take_length] at hO
   have HO := Lib.hid hO
   clear hO
   go_wp2_with fail
   go_ret
   exact ⟨_, rfl, HO.out, hB⟩
end Go.Proofs.YtbeaijjaecaidaaGreatDoor
