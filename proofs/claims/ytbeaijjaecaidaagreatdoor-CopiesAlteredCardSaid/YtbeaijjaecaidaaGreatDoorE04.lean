/- Sets of at most one interval, as generated formulas have them, in the program: they are valid. The iterator over the nodes of a formula. The number of nodes and the depth of a formula, in the program. The nodes that generated formulas have are as they should be. Formulas as they should be are valid, in the program. The iterator over the tops of a formula. -/
import Derived.Test.YtbeaijjaecaidaaGreatDoorE03
import Derived.Test.YtbeaijjaecaidaaGreatDoorE02
import Derived.Test.YtbeaijjaecaidaaGreatDoorE01
import Derived.Laws.EntriesVeiled
import Derived.RangeFuncNested
namespace Go.Proofs.YtbeaijjaecaidaaGreatDoor
open Go.RowKit Go.Shelf
set_option maxRecDepth 100000 in
set_option maxHeartbeats 1000000 in
theorem less_inf (ln ld : Int) (lo : Bool) (w : World) :
  Calls Tryz.prog 197 #[.agg #[.int .i64 0, .int .i64 ln, .int .i64 ld, .bool lo], .agg #[.int .i64 1, .int .i64 0, .int .i64 0, .bool false]] w fun e w' => e = .returned (.bool true) ∧ Below w.heap.size w w' := by
 go_enter Tryz.func197, Tryz.ntmps197
 go_wp2
 go_ret
 exact ⟨rfl, (below_new _ _).alloc (by simp) _⟩
set_option maxRecDepth 100000 in
set_option maxHeartbeats 1000000 in
theorem less_fin (ln ld hn hd : Int) (lo ho : Bool) (P Q : Int) (hP : IntKind.i64.wrap (ln * hd) = P) (hQ : IntKind.i64.wrap (hn * ld) = Q) (h : P < Q) (w : World) :
  Calls Tryz.prog 197 #[.agg #[.int .i64 0, .int .i64 ln, .int .i64 ld, .bool lo], .agg #[.int .i64 0, .int .i64 hn, .int .i64 hd, .bool ho]] w fun e w' => e = .returned (.bool true) ∧ Below w.heap.size w w' := by
 have h1 : (P != Q) = true := by simp; omega
 have h2 : (P == Q) = false := by simp; omega
 go_enter Tryz.func197, Tryz.ntmps197
 go_upto_region 5 with fail
 go_quiet (fail)
 go_wp2
 go_ret
 exact ⟨rfl, below_drewN ((below_new _ _).alloc (by simp) _) _⟩
def SmallR (n d : Int) : Prop := valE n d = 0 ∧ -1073741824 ≤ n ∧ n ≤ 1073741824 ∧ d ≤ 32768
theorem SmallR.bd {n d : Int} (h : SmallR n d) : 1 ≤ d ∧ d ≤ 32768 ∧ -1073741824 ≤ n ∧ n ≤ 1073741824 := ⟨(valE_ok h.1).1, h.2.2.2, h.2.1, h.2.2.1⟩
set_option maxRecDepth 100000 in
set_option maxHeartbeats 1000000 in
theorem small_any (n d : Int) (h : SmallR n d) (w : World) :
  Calls Tryz.prog 208 #[.agg #[.int .i64 n, .int .i64 d]] w fun e w' => e = .returned (.bool true) ∧ Below w.heap.size w w' := by
 obtain ⟨b1, b2, b3, b4⟩ := h.bd
 have HV := Lib.hid (fun w => ratvalid_any n d w (by omega) (by omega) (by omega) (by omega))
 rw [h.1] at HV
 clear h
 have B0 := Blk.new w 31 #[.int .i64 n, .int .i64 d]
 go_enter Tryz.func208, Tryz.ntmps208
 go_wp2_with (go_at_call 192; refine (HV.out _).mono ?_; rintro e w1 ⟨rfl, hb1⟩; have hc := (B0.keep hb1).c2)
 go_ret
 exact ⟨rfl, below_up (below_new _ _) hb1 (by simp)⟩
set_option maxRecDepth 100000 in
set_option maxHeartbeats 1000000 in
theorem limit_inf (w : World) :
  Calls Tryz.prog 207 #[.agg #[.int .i64 0, .int .i64 0], .bool false, .bool true] w fun e w' => e = .returned (.bool true) ∧ Below w.heap.size w w' := by
 go_enter Tryz.func207, Tryz.ntmps207
 go_wp2
 go_ret
 exact ⟨rfl, below_new _ _⟩
set_option maxRecDepth 100000 in
set_option maxHeartbeats 1000000 in
theorem limit_fin (n d : Int) (o : Bool) (h : SmallR n d) (w : World) :
  Calls Tryz.prog 207 #[.agg #[.int .i64 n, .int .i64 d], .bool o, .bool false] w fun e w' => e = .returned (.bool true) ∧ Below w.heap.size w w' := by
 have HS := Lib.hid (fun w => small_any n d h w)
 go_enter Tryz.func207, Tryz.ntmps207
 go_wp2_with (go_at_call 208; refine (HS.out _).mono ?_; rintro e w1 ⟨rfl, hb1⟩)
 go_ret
 exact ⟨rfl, below_up (below_new _ _) hb1 (by simp)⟩
def OkIv (x : Iv) : Prop := x.li = false ∧ SmallR x.ln x.ld ∧ ((x.hi = true ∧ x.hn = 0 ∧ x.hd = 0 ∧ x.ho = false) ∨ (x.hi = false ∧ SmallR x.hn x.hd ∧ x.ln * x.hd < x.hn * x.ld))
theorem prod_in {a b : Int} (h1 : -1073741824 ≤ a) (h2 : a ≤ 1073741824) (h3 : 1 ≤ b) (h4 : b ≤ 32768) : IntKind.i64.wrap (a * b) = a * b := by
 have h5 : a * b ≤ 1073741824 * 32768 := by
  rcases Int.le_total 0 a with h | h
  ·exact Int.mul_le_mul h2 h4 (by omega) (by omega)
  ·exact Int.le_trans (Int.mul_nonpos_of_nonpos_of_nonneg h (by omega)) (by decide)
 have h6 : -(1073741824 * 32768) ≤ a * b := by
  rcases Int.le_total 0 a with h | h
  ·exact Int.le_trans (by decide) (Int.mul_nonneg h (by omega))
  ·have : (-a) * b ≤ 1073741824 * 32768 := Int.mul_le_mul (by omega) h4 (by omega) (by omega)
   rw [Int.neg_mul] at this
   omega
 exact IntWalk.i64_in _ (by omega)
def Iv.vals (x : Iv) : Array Value := #[.int .i64 x.ln, .int .i64 x.ld, .int .i64 x.hn, .int .i64 x.hd, .bool x.lo, .bool x.ho, .bool x.li, .bool x.hi]
set_option maxRecDepth 100000 in
set_option maxHeartbeats 1000000 in
theorem good_any (x : Iv) (h : OkIv x) (w : World) :
  Calls Tryz.prog 195 #[.agg #[.int .i64 x.ln, .int .i64 x.ld, .int .i64 x.hn, .int .i64 x.hd, .bool x.lo, .bool x.ho, .bool x.li, .bool x.hi]] w fun e w' => e = .returned (.bool true) ∧ Below w.heap.size w w' := by
 obtain ⟨ln, ld, hn, hd, lo, ho, li, hi⟩ := x
 obtain ⟨h1, h2, h3⟩ := h
 dsimp only at h1 h2 h3 ⊢
 subst h1
 rcases h3 with ⟨h4, h5, h6, h7⟩ | ⟨h4, h5, h6⟩
 ·subst h4 h5 h6 h7
  have HL := Lib.hid (fun w => limit_fin ln ld lo h2 w)
  clear h2
  have B0 := Blk.new w 164 #[.int .i64 ln, .int .i64 ld, .int .i64 0, .int .i64 0, .bool lo, .bool false, .bool false, .bool true]
  go_enter Tryz.func195, Tryz.ntmps195
  go_wp2_with (first
   | (go_at_call_of 207 (Value.agg #[Value.int IntKind.i64 ln, Value.int IntKind.i64 ld]); (with_reducible refine (HL.out _).mono ?_); rintro e w1 ⟨rfl, hb1⟩; have B1 := B0.keep hb1; have hc1 := B1.c8)
   | (go_at_call 207; (with_reducible refine (limit_inf _).mono ?_); rintro e w2 ⟨rfl, hb2⟩; have B2 := B1.keep hb2; have hc2 := B2.c8)
   | (go_at_call 196; refine (ends_inf ln ld 0 0 lo false _).mono ?_; rintro e w3 ⟨rfl, hb3⟩)
   | (go_at_call 197; refine (less_inf ln ld lo _).mono ?_; rintro e w4 ⟨rfl, hb4⟩))
  have Q1 := below_up (below_new _ _) hb1 (by simp)
  have Q2 := below_up Q1 hb2 Q1.size
  have Q3 := below_up Q2 hb3 Q2.size
  go_ret
  exact ⟨rfl, below_up Q3 hb4 Q3.size⟩
 ·subst h4
  have HL := Lib.hid (fun w => limit_fin ln ld lo h2 w)
  have HR := Lib.hid (fun w => limit_fin hn hd ho h5 w)
  obtain ⟨b1, b2, b3, b4⟩ := h2.bd
  obtain ⟨b5, b6, b7, b8⟩ := h5.bd
  have HP := Lib.hid (fun w => less_fin ln ld hn hd lo (!ho) _ _ (prod_in (a := ln) (b := hd) b3 b4 b5 b6) (prod_in (a := hn) (b := ld) b7 b8 b1 b2) h6 w)
  clear h2 h5 h6 b1 b2 b3 b4 b5 b6 b7 b8
  have B0 := Blk.new w 164 #[.int .i64 ln, .int .i64 ld, .int .i64 hn, .int .i64 hd, .bool lo, .bool ho, .bool false, .bool false]
  go_enter Tryz.func195, Tryz.ntmps195
  go_wp2_with (first
   | (go_at_call_of 207 (Value.agg #[Value.int IntKind.i64 ln, Value.int IntKind.i64 ld]); (with_reducible refine (HL.out _).mono ?_); rintro e w1 ⟨rfl, hb1⟩; have B1 := B0.keep hb1; have hc1 := B1.c8)
   | (go_at_call_of 207 (Value.agg #[Value.int IntKind.i64 hn, Value.int IntKind.i64 hd]); (with_reducible refine (HR.out _).mono ?_); rintro e w2 ⟨rfl, hb2⟩; have B2 := B1.keep hb2; have hc2 := B2.c8)
   | (go_at_call 196; refine (ends_fin ln ld hn hd lo ho _).mono ?_; rintro e w3 ⟨rfl, hb3⟩)
   | (go_at_call 197; refine (HP.out _).mono ?_; rintro e w4 ⟨rfl, hb4⟩))
  have Q1 := below_up (below_new _ _) hb1 (by simp)
  have Q2 := below_up Q1 hb2 Q1.size
  have Q3 := below_up Q2 hb3 Q2.size
  go_ret
  exact ⟨rfl, below_up Q3 hb4 Q3.size⟩
theorem Rep.ivs {w : World} {B : Nat} {v : Value} {l : List Iv} (h : Rep w B v (.s 8 (l.flatMap Iv.cells))) : ∃ (A : Option Addr) (c : Nat), v = .slice A l.length c ∧ l.length ≤ c ∧
  ∀ (k : Nat) (hk : k < l.length), ∃ b o, A = some ⟨b, o, none⟩ ∧ b < B ∧ w.cell? ⟨b, o + k * 8, none⟩ = some (.int .i64 l[k].ln) ∧ w.cell? ⟨b, o + k * 8 + 1, none⟩ = some (.int .i64 l[k].ld) ∧ w.cell? ⟨b, o + k * 8 + 2, none⟩ = some (.int .i64 l[k].hn) ∧ w.cell? ⟨b, o + k * 8 + 3, none⟩ = some (.int .i64 l[k].hd) ∧
   w.cell? ⟨b, o + k * 8 + 4, none⟩ = some (.bool l[k].lo) ∧ w.cell? ⟨b, o + k * 8 + 5, none⟩ = some (.bool l[k].ho) ∧ w.cell? ⟨b, o + k * 8 + 6, none⟩ = some (.bool l[k].li) ∧ w.cell? ⟨b, o + k * 8 + 7, none⟩ = some (.bool l[k].hi) := by
 obtain ⟨A, n, c, rfl, hn, hl, hc⟩ := h.slice
 have hfl := flat_length (l := l) (f := Iv.cells) (k := 8) (fun x _ => x.cells_length)
 have hnl : n = l.length := by omega
 subst hnl
 refine ⟨A, c, rfl, hn, fun k hk => ?_⟩
 obtain ⟨b, o, cs, rfl, hb, hr, hcell⟩ := hc (by omega)
 have hp := flat_part (l := l) (f := Iv.cells) (k := 8) (i := k) (a := l[k]) (fun x _ => x.cells_length) (List.getElem?_eq_getElem hk)
 have hr2 := (hr.drop (k * 8)).take 8
 rw [hp] at hr2
 have hlen : cs.length = l.length * 8 := hr.1.trans hfl
 have key : ∀ j (d : Value), j < 8 → (l[k].cells)[j]? = some (.v d) → w.cell? ⟨b, o + k * 8 + j, none⟩ = some d := fun j d hj hd => by
  have h1 : k * 8 + j < cs.length := by omega
  have h2 : ((cs.drop (k * 8)).take 8)[j]? = some cs[k * 8 + j] := by
   rw [List.getElem?_take, if_pos hj, List.getElem?_drop, List.getElem?_eq_getElem h1]
  have h3 := hr2.2 j _ _ h2 hd
  have h4 := hcell (k * 8 + j) _ (List.getElem?_eq_getElem h1)
  rw [h3.plain, ← Nat.add_assoc] at h4
  exact h4
 exact ⟨b, o, rfl, hb, key 0 _ (by omega) rfl, key 1 _ (by omega) rfl, key 2 _ (by omega) rfl, key 3 _ (by omega) rfl, key 4 _ (by omega) rfl, key 5 _ (by omega) rfl, key 6 _ (by omega) rfl, key 7 _ (by omega) rfl⟩
def OkIvs (l : List Iv) : Prop := l.length ≤ 1 ∧ ∀ x ∈ l, OkIv x
set_option maxHeartbeats 1000000 in
theorem few_any (A : Option Addr) (n c : Nat) (h : n ≤ 32) (w : World) :
  Calls Tryz.prog 198 #[.slice A n c] w fun e w' => e = .returned (.int .i64 0) ∧ w = w' := by
 go_enter Tryz.func198, Tryz.ntmps198
 go_wp2
 go_ret
 exact ⟨rfl, rfl⟩
set_option maxRecDepth 100000 in
set_option maxHeartbeats 1000000 in
theorem spanvalid_any (l : List Iv) (hl : OkIvs l) (v : Value) (w : World) (B : Nat) (hBw : B ≤ w.heap.size) (hr : Rep w B v (.s 8 (l.flatMap Iv.cells))) :
  Calls Tryz.prog 178 #[v] w fun e w' => e = .returned (.int .i64 0) ∧ Below w.heap.size w w' := by
 obtain ⟨A, c, rfl, hc, hcell⟩ := hr.ivs
 clear hr
 obtain ⟨hl1, hok⟩ := hl
 have HO := Lib.hid hok
 clear hok
 go_enter Tryz.func178, Tryz.ntmps178
 go_wp2
 go_loopw [11] (fun i wr => ∃ k : Nat, i = .int .i64 (k : Int) ∧ k ≤ l.length ∧ Below w.heap.size w wr) (fun i _ => l.length - (intOf i).toNat)
 case atStart => exact ⟨0, rfl, Nat.zero_le _, Below.refl _ _⟩
 case round =>
  obtain ⟨k, rfl, hk, hB⟩ := hrel
  by_cases hlt : k < l.length
  ·obtain rfl : k = 0 := by omega
   obtain ⟨b, o, rfl, hb, c0, c1, c2, c3, c4, c5, c6, c7⟩ := hcell 0 hlt
   have HX := Lib.hid (HO.out _ (List.getElem_mem hlt))
   simp only [Nat.zero_mul, Nat.add_zero] at c0 c1 c2 c3 c4 c5 c6 c7
   have hb' : b < w.heap.size := by omega
   have d0 := (hB.cell (p := ⟨b, o, none⟩) hb').trans c0
   have d1 := (hB.cell (p := ⟨b, o + 1, none⟩) hb').trans c1
   have d2 := (hB.cell (p := ⟨b, o + 2, none⟩) hb').trans c2
   have d3 := (hB.cell (p := ⟨b, o + 3, none⟩) hb').trans c3
   have d4 := (hB.cell (p := ⟨b, o + 4, none⟩) hb').trans c4
   have d5 := (hB.cell (p := ⟨b, o + 5, none⟩) hb').trans c5
   have d6 := (hB.cell (p := ⟨b, o + 6, none⟩) hb').trans c6
   have d7 := (hB.cell (p := ⟨b, o + 7, none⟩) hb').trans c7
   clear c0 c1 c2 c3 c4 c5 c6 c7 hcell
   generalize l[0] = x at *
   go_wp2_with (go_at_call 195; refine (good_any x HX.out _).mono ?_; rintro e w1 ⟨rfl, hb1⟩)
   have Q := below_up (hB.alloc hB.size _) hb1 (Nat.le_trans hB.size (by simp))
   go_roundw
   case rel => exact ⟨1, by go_num, by omega, Q⟩
   case measure => simp [intOf]; omega
  ·obtain rfl : k = l.length := by omega
   go_wp2_with (go_at_call 198; refine (few_any _ _ _ (by omega) _).mono ?_; rintro e w1 ⟨rfl, rfl⟩)
   go_ret
   exact ⟨rfl, hB⟩
end Go.Proofs.YtbeaijjaecaidaaGreatDoor
namespace Go.Proofs.YtbeaijjaecaidaaGreatDoor
open Go.RowKit Go.Shelf
attribute [local go_sem] Oper.semAt_some
def KeepT (p : TypeId → Prop) (n₀ : Nat) (W W' : World) : Prop := Below n₀ W W' ∧ ∀ i t cs, p t → Blk W i t cs → Blk W' i t cs
theorem KeepT.refl (p : TypeId → Prop) (n₀ : Nat) (W : World) : KeepT p n₀ W W := ⟨Below.refl _ _, fun _ _ _ _ h => h⟩
theorem KeepT.trans {p : TypeId → Prop} {n₀ : Nat} {A B C : World} (h : KeepT p n₀ A B) (k : KeepT p n₀ B C) : KeepT p n₀ A C := ⟨h.1.trans k.1, fun i t cs ht hv => k.2 i t cs ht (h.2 i t cs ht hv)⟩
theorem KeepT.put {p : TypeId → Prop} {n₀ : Nat} {w : World} (hn : n₀ ≤ w.heap.size) (W : World) (l : Nat) (o o' : Obj) (hl : w.heap.size ≤ l) (h : W.heap[l]? = some o) (hc : o.isCells = false) (hw : o.isWalk = false) : KeepT p n₀ W (W.putObj l o') :=
 ⟨belowK_b hn W l o o' hl h hc hw, fun i t cs _ hv => hv.grown (grownBy_putObj' W l o') (fun e => by
  cases e
  unfold Blk at hv
  rw [hv] at h
  cases h
  cases hc)⟩
theorem KeepT.alloc {p : TypeId → Prop} {n₀ : Nat} (W : World) (h : n₀ ≤ W.heap.size) (o : Obj) : KeepT p n₀ W (W.alloc o) := ⟨(Below.refl _ _).alloc h o, fun _ _ _ _ hb => hb.alloc o⟩
theorem KeepT.below {p : TypeId → Prop} {n₀ : Nat} {W W' : World} (h : Below W.heap.size W W') (hn : n₀ ≤ W.heap.size) : KeepT p n₀ W W' := ⟨h.mono hn, fun _ _ _ _ hb => hb.keep h⟩
set_option maxRecDepth 100000 in
set_option maxHeartbeats 2000000 in
theorem index_any (w : World) (n₀ : Nat) (l : List F) (v : Value) (hr : Rep w n₀ v (.s 4 (l.flatMap F.cells))) (hl : l.length ≤ 1000000) (K : World → World → Prop) (hKb : ∀ A B, K A B → Below n₀ A B) (hKr : ∀ A, K A A) (hKt : ∀ A B C, K A B → K B C → K A C) (g : FuncId) (hg : ∀ args w, (callFunc g args).run Tryz.prog w = .ok (.enter g args) w) (cp : Value) (J : Nat → World → Prop) (Jx : Nat → World → Prop)
  (hcall : ∀ (k : Nat) (hk : k < l.length) (y : FNode w n₀) (W : World), y.t = l[k] → J k W → K w W → Calls Tryz.prog g #[.agg #[y.a, y.b, y.c, y.d], cp] W fun e W' =>
   (e = .returned (.bool false) ∧ J (k + 1) W' ∧ K W W') ∨ (e = .returned (.bool true) ∧ Jx k W'))
  (W : World) (h0 : J 0 W) (hW : K w W) :
  Calls Tryz.prog 179 #[v, .func (.func g) #[] #[cp]] W fun e W' =>
   (e = .returned (.int .i64 (-1)) ∧ J l.length W' ∧ K W W') ∨ (∃ k : Nat, k < l.length ∧ e = .returned (.int .i64 (k : Int)) ∧ Jx k W') := by
 obtain ⟨A, c, rfl, hc, hcell⟩ := hr.formulas
 clear hr
 go_enter Tryz.func179, Tryz.ntmps179
 go_wp2
 go_loopw [8] (fun i wr => ∃ k : Nat, i = .int .i64 (k : Int) ∧ k ≤ l.length ∧ J k wr ∧ K W wr) (fun i _ => l.length - (intOf i).toNat)
 case atStart => exact ⟨0, rfl, Nat.zero_le _, h0, hKr _⟩
 case round =>
  obtain ⟨k, rfl, hk, hJ, hK⟩ := hrel
  by_cases hlt : k < l.length
  ·obtain ⟨b, o, y, rfl, hb, hy, c0, c1, c2, c3⟩ := hcell k hlt
   have hWr := hKt _ _ _ hW hK
   have d0 := ((hKb _ _ hWr).cell (p := ⟨b, o + k * 4, none⟩) hb).trans c0
   have d1 := ((hKb _ _ hWr).cell (p := ⟨b, o + k * 4 + 1, none⟩) hb).trans c1
   have d2 := ((hKb _ _ hWr).cell (p := ⟨b, o + k * 4 + 2, none⟩) hb).trans c2
   have d3 := ((hKb _ _ hWr).cell (p := ⟨b, o + k * 4 + 3, none⟩) hb).trans c3
   have HC := Lib.hid (hcall k hlt y wr hy hJ hWr)
   clear hcall hcell c0 c1 c2 c3 hy hJ h0 hW
   go_wp2_with (refine HC.out.mono ?_; rintro e w2 (⟨rfl, hJ2, hk2⟩ | ⟨rfl, hx⟩))
   ·go_roundw
    case rel => exact ⟨k + 1, by go_num, by omega, hJ2, hKt _ _ _ hK hk2⟩
    case measure => simp [intOf]; omega
   ·go_ret
    exact .inr ⟨k, hlt, rfl, hx⟩
  ·obtain rfl : k = l.length := by omega
   go_wp2_with fail
   go_ret
   exact .inl ⟨rfl, hJ, hK⟩
set_option maxRecDepth 100000 in
set_option maxHeartbeats 2000000 in
theorem contains_any (w : World) (n₀ : Nat) (l : List F) (v : Value) (hr : Rep w n₀ v (.s 4 (l.flatMap F.cells))) (hl : l.length ≤ 1000000) (K : World → World → Prop) (hKb : ∀ A B, K A B → Below n₀ A B) (hKr : ∀ A, K A A) (hKt : ∀ A B C, K A B → K B C → K A C) (g : FuncId) (hg : ∀ args w, (callFunc g args).run Tryz.prog w = .ok (.enter g args) w) (cp : Value) (J : Nat → World → Prop) (Jx : Nat → World → Prop)
  (hcall : ∀ (k : Nat) (hk : k < l.length) (y : FNode w n₀) (W : World), y.t = l[k] → J k W → K w W → Calls Tryz.prog g #[.agg #[y.a, y.b, y.c, y.d], cp] W fun e W' =>
   (e = .returned (.bool false) ∧ J (k + 1) W' ∧ K W W') ∨ (e = .returned (.bool true) ∧ Jx k W'))
  (W : World) (h0 : J 0 W) (hW : K w W) :
  Calls Tryz.prog 155 #[v, .func (.func g) #[] #[cp]] W fun e W' =>
   (e = .returned (.bool false) ∧ J l.length W' ∧ K W W') ∨ (∃ k : Nat, k < l.length ∧ e = .returned (.bool true) ∧ Jx k W') := by
 have HI := Lib.hid (index_any w n₀ l v hr hl K hKb hKr hKt g hg cp J Jx hcall W h0 hW)
 obtain ⟨A, c, rfl, hc, hcell⟩ := hr.formulas
 clear hr hcell hcall h0 hW hc
 go_enter Tryz.func155, Tryz.ntmps155
 go_wp2_with (go_at_call 179; refine HI.out.mono ?_; rintro e w2 (⟨rfl, hJ2, hk2⟩ | ⟨k, hlt, rfl, hx⟩))
 ·go_ret
  exact .inl ⟨rfl, hJ2, hk2⟩
 ·have hk0 : (0 : Int) ≤ (k : Int) := by omega
  go_wp2_with fail
  go_ret
  exact .inr ⟨k, hlt, rfl, hx⟩
def nodeT (t : TypeId) : Prop := t = 202 ∨ t = 39
section
variable (l By Bd : Nat) (w0 : World) (n₀ N : Nat) (J Jx : List (FNode w0 n₀) → World → Prop)
def Boxes (W : World) : Prop := KeepT nodeT n₀ w0 W ∧ n₀ ≤ W.heap.size ∧ Blk W By 202 #[.func (.yield l) #[] #[]] ∧ Blk W Bd 202 #[.func (.func 154) #[] #[.pointer (some ⟨By, 0, none⟩), .pointer (some ⟨Bd, 0, none⟩)]]
def Downs (x : FNode w0 n₀) : Prop := ∀ (pre : List (FNode w0 n₀)) (W : World), J pre W → pre.length + x.t.size ≤ N → Boxes l By Bd w0 n₀ W →
 Calls Tryz.prog 154 #[.agg #[x.a, x.b, x.c, x.d], .pointer (some ⟨By, 0, none⟩), .pointer (some ⟨Bd, 0, none⟩)] W fun e W' =>
  (e = .returned (.bool true) ∧ ∃ ys : List (FNode w0 n₀), ys.map FNode.t = x.t.nodes ∧ J (pre ++ ys) W' ∧ KeepT nodeT n₀ W W') ∨ (e = .returned (.bool false) ∧ ∃ q : List (FNode w0 n₀), q.map FNode.t <+: x.t.nodes ∧ Jx (pre ++ q) W')
end
theorem Boxes.keep {l By Bd : Nat} {w0 : World} {n₀ : Nat} {W W' : World} (h : Boxes l By Bd w0 n₀ W) (k : KeepT nodeT n₀ W W') : Boxes l By Bd w0 n₀ W' :=
 ⟨h.1.trans k, Nat.le_trans h.2.1 k.1.size, k.2 _ _ _ (.inl rfl) h.2.2.1, k.2 _ _ _ (.inl rfl) h.2.2.2⟩
set_option maxRecDepth 100000 in
set_option maxHeartbeats 1000000 in
theorem kid_any (l By Bd : Nat) (w0 : World) (n₀ N : Nat) (J Jx : List (FNode w0 n₀) → World → Prop) (hJ : ∀ pre W o, J pre W → J pre (W.alloc o)) (x : FNode w0 n₀) (hx : Downs l By Bd w0 n₀ N J Jx x)
  (pre : List (FNode w0 n₀)) (W : World) (h0 : J pre W) (hN : pre.length + x.t.size ≤ N) (hB : Boxes l By Bd w0 n₀ W) :
  Calls Tryz.prog 156 #[.agg #[x.a, x.b, x.c, x.d], .pointer (some ⟨Bd, 0, none⟩)] W fun e W' =>
   (e = .returned (.bool false) ∧ ∃ ys : List (FNode w0 n₀), ys.map FNode.t = x.t.nodes ∧ J (pre ++ ys) W' ∧ KeepT nodeT n₀ W W') ∨ (e = .returned (.bool true) ∧ ∃ q : List (FNode w0 n₀), q.map FNode.t <+: x.t.nodes ∧ Jx (pre ++ q) W') := by
 have hK : KeepT nodeT n₀ W (W.alloc (.cells #[x.a, x.b, x.c, x.d] 39)) := KeepT.alloc W hB.2.1 _
 have HD := Lib.hid (hx pre _ (hJ _ _ _ h0) hN (hB.keep hK))
 have hc := (hB.keep hK).2.2.2.c1
 have HK := Lib.hid hK
 clear h0 hB hx hJ hK
 go_enter Tryz.func156, Tryz.ntmps156
 go_wp2_with (refine HD.out.mono ?_; rintro e w2 (⟨rfl, ys, hy, hJ2, hk2⟩ | ⟨rfl, q, hq, hx2⟩))
 ·go_ret
  exact .inl ⟨rfl, ys, hy, hJ2, HK.out.trans hk2⟩
 ·go_ret
  exact .inr ⟨rfl, q, hq, hx2⟩
theorem nodes_take (l : List F) (k : Nat) (h : k < l.length) : (l.take (k + 1)).flatMap F.nodes = (l.take k).flatMap F.nodes ++ l[k].nodes := by
 rw [List.take_add_one, List.getElem?_eq_getElem h, List.flatMap_append]
 simp
theorem nodes_flat_length (l : List F) : (l.flatMap F.nodes).length = sizeL l := by rw [← nodesL_eq, nodesL_length]
theorem kids_le : ∀ l : List F, l.length ≤ sizeL l
 | [] => by simp
 | a :: l => by
  have h1 := a.size_pos
  have h2 := kids_le l
  rw [List.length_cons, sizeL]
  omega
set_option maxRecDepth 100000 in
set_option maxHeartbeats 1000000 in
theorem down_any (P : F → Prop) (hP : ∀ t, P t → ∀ k ∈ t.kids, P k) (l By Bd : Nat) (w0 : World) (n₀ N : Nat) (J Jx : List (FNode w0 n₀) → World → Prop) (hN6 : N ≤ 1000000) (hJ : ∀ pre W o, J pre W → J pre (W.alloc o))
  (hY : ∀ m pre (x : FNode w0 n₀) W, P x.t → J pre W → pre.length < N → YieldAt Fence.wide m Tryz.prog l #[.agg #[x.a, x.b, x.c, x.d]] W fun e W' =>
   (e = .returned (.bool true) ∧ J (pre ++ [x]) W' ∧ KeepT nodeT n₀ W W') ∨ (e = .returned (.bool false) ∧ Jx (pre ++ [x]) W')) :
  ∀ (n : Nat) (x : FNode w0 n₀), P x.t → x.t.size ≤ n → Downs l By Bd w0 n₀ N J Jx x := by
 intro n
 induction n with
 | zero => intro x _ h; have := x.t.size_pos; omega
 | succ n ih =>
  intro x hPx hxn pre W h0 hN hB
  have hK : KeepT nodeT n₀ W (W.alloc (.cells #[x.a, x.b, x.c, x.d] 39)) := KeepT.alloc W hB.2.1 _
  have hB1 := hB.keep hK
  have hbox := Blk.new W 39 #[x.a, x.b, x.c, x.d]
  have hc := hB1.2.2.1.c1
  have hnl := x.t.nodes_eq
  have hsz := x.t.nodes_length
  rw [hnl, List.length_cons, nodes_flat_length] at hsz
  -- the round at this node, with what the walk wants behind it
  have hy := YieldAt.mono (hY 4 pre x _ hPx (hJ _ _ _ h0) (by omega)) (R' := fun e W2 =>
   (e = .returned (.bool true) ∧ (W2.cell? ⟨W.heap.size, 0, none⟩ = some x.a ∧ W2.cell? ⟨W.heap.size, 1, none⟩ = some x.b ∧ W2.cell? ⟨W.heap.size, 2, none⟩ = some x.c ∧ W2.cell? ⟨W.heap.size, 3, none⟩ = some x.d) ∧
    Calls Tryz.prog 155 #[x.d, .func (.func 156) #[] #[.pointer (some ⟨Bd, 0, none⟩)]] W2 fun e W' =>
     (e = .returned (.bool false) ∧ (∃ ys : List (FNode w0 n₀), ys.map FNode.t = x.t.nodes ∧ J (pre ++ ys) W') ∧ KeepT nodeT n₀ W W') ∨ (e = .returned (.bool true) ∧ ∃ q : List (FNode w0 n₀), q.map FNode.t <+: x.t.nodes ∧ Jx (pre ++ q) W')) ∨
   (e = .returned (.bool false) ∧ Jx (pre ++ [x]) W2)) (fun e W2 h => by
    rcases h with ⟨he, hj, hk⟩ | h
    ·have hB2 := hB1.keep hk
     refine .inl ⟨he, (hk.2 _ _ _ (.inr rfl) hbox).c4, ?_⟩
     have hl6 : x.t.kids.length ≤ 1000000 := by
      have h1 := kids_le x.t.kids
      omega
     refine (contains_any w0 n₀ x.t.kids x.d x.parts.2.2.2 hl6 (KeepT nodeT n₀) (fun _ _ h => h.1) (fun _ => KeepT.refl _ _ _) (fun _ _ _ h k => h.trans k)
      156 (enters_of Tryz.func156 (by kernel_rfl) rfl) (.pointer (some ⟨Bd, 0, none⟩))
      (fun k W' => (∃ ys : List (FNode w0 n₀), ys.map FNode.t = (x.t.kids.take k).flatMap F.nodes ∧ J (pre ++ [x] ++ ys) W') ∧ KeepT nodeT n₀ W2 W')
      (fun _ W' => ∃ q : List (FNode w0 n₀), q.map FNode.t <+: x.t.kids.flatMap F.nodes ∧ Jx (pre ++ [x] ++ q) W')
      ?_ W2 ⟨⟨[], by simp, by simpa using hj⟩, KeepT.refl _ _ _⟩ hB2.1).mono ?_
     ·intro k hk y W3 hy hJk hkw
      obtain ⟨⟨ys, hys, hJ3⟩, hk3⟩ := hJk
      have hmem : y.t ∈ x.t.kids := by rw [hy]; exact List.getElem_mem _
      have hsk := F.kid_size hmem
      have hst := sizeL_take x.t.kids k hk
      have hsl := sizeL_take_le x.t.kids (k + 1)
      have hyl : ys.length = sizeL (x.t.kids.take k) := by rw [← nodes_flat_length, ← hys, List.length_map]
      refine (kid_any l By Bd w0 n₀ N J Jx hJ y (ih y (hP _ hPx _ hmem) (by omega)) (pre ++ [x] ++ ys) W3 hJ3 ?_ (hB2.keep hk3)).mono ?_
      ·rw [hy, List.length_append, List.length_append, List.length_singleton]
       omega
      ·rintro e W4 (⟨he, zs, hz, hJ4, hk4⟩ | ⟨he, q, hq, hx4⟩)
       ·refine .inl ⟨he, ⟨⟨ys ++ zs, ?_, by rw [← List.append_assoc]; exact hJ4⟩, hk3.trans hk4⟩, hk4⟩
        rw [nodes_take _ _ hk, List.map_append, hys, hz, hy]
       ·refine .inr ⟨he, ys ++ q, ?_, by rw [← List.append_assoc]; exact hx4⟩
        rw [List.map_append, hys]
        refine List.IsPrefix.trans (l₂ := (x.t.kids.take (k + 1)).flatMap F.nodes) ?_ ?_
        ·rw [nodes_take _ _ hk, ← hy]
         exact (List.prefix_append_right_inj _).2 hq
        ·conv => rhs; rw [← List.take_append_drop (k + 1) x.t.kids]
         rw [List.flatMap_append]
         exact List.prefix_append _ _
     ·rintro e W3 (⟨he, ⟨⟨ys, hys, hJ3⟩, hk3⟩, _⟩ | ⟨k, _, he, q, hq, hx3⟩)
      ·rw [List.take_length] at hys
       refine .inl ⟨he, ⟨x :: ys, by rw [List.map_cons, hys, hnl], by simpa using hJ3⟩, hK.trans (hk.trans hk3)⟩
      ·exact .inr ⟨he, x :: q, by rw [List.map_cons, hnl]; exact List.prefix_cons_inj _ |>.2 hq, by simpa using hx3⟩
    ·exact .inr h)
  obtain ⟨fn, tmps, assign, body, hyr, hR⟩ := hy
  have HR := Lib.hid hR
  have hpx : [x].map FNode.t <+: x.t.nodes := by
   rw [hnl]
   exact ⟨x.t.kids.flatMap F.nodes, rfl⟩
  have HP := Lib.hid hpx
  clear hY hJ ih h0 hB hB1 hR hnl hsz hN hxn hbox hpx hK
  refine (callsIn_wide (n := 5)).1 ?_
  refine callsIn_of_wp Tryz.func154 rfl trivial ?_ rfl
  simp only [Tryz.ntmps154, List.size_toArray, List.length_cons, List.length_nil, Nat.reduceAdd, Nat.reduceSub, Array.replicate_succ, Array.replicate_zero, List.push_toArray, List.append_toArray, List.nil_append, List.cons_append]
  gi_wp2_with fail
  refine HR.out.mono ?_
  rintro e W2 (⟨rfl, hd, hC⟩ | ⟨rfl, hx⟩)
  ·have HC := Lib.hid hC
   clear hC HR hc
   gi_wp2_with (refine ⟨trivial, ?_⟩; gi_at_call 155; refine (callsIn_wide.2 HC.out).mono ?_; rintro e w3 (⟨rfl, ⟨ys, hys, hJ3⟩, hk3⟩ | ⟨rfl, q, hq, hx3⟩))
   ·go_ret
    exact .inl ⟨rfl, ys, hys, hJ3, hk3⟩
   ·go_ret
    exact .inr ⟨rfl, q, hq, hx3⟩
  ·clear HR hc
   gi_wp2_with fail
   refine ⟨trivial, ?_⟩
   gi_wp2_with fail
   go_ret
   exact .inr ⟨rfl, [x], HP.out, hx⟩
set_option maxRecDepth 100000 in
set_option maxHeartbeats 1000000 in
theorem nodes1_in (P : F → Prop) (hP : ∀ t, P t → ∀ k ∈ t.kids, P k) (l : Nat) (w0 : World) (n₀ : Nat) (hn0 : n₀ ≤ w0.heap.size) (x : FNode w0 n₀) (hPx : P x.t) (hN6 : x.t.size ≤ 1000000) (J Jx : List (FNode w0 n₀) → World → Prop) (hJ : ∀ pre W o, J pre W → J pre (W.alloc o))
  (hY : ∀ m pre (y : FNode w0 n₀) W, P y.t → J pre W → pre.length < x.t.size → YieldAt Fence.wide m Tryz.prog l #[.agg #[y.a, y.b, y.c, y.d]] W fun e W' =>
   (e = .returned (.bool true) ∧ J (pre ++ [y]) W' ∧ KeepT nodeT n₀ W W') ∨ (e = .returned (.bool false) ∧ Jx (pre ++ [y]) W'))
  (Bf : Nat) (W : World) (hbf : Blk W Bf 39 #[x.a, x.b, x.c, x.d]) (hk : KeepT nodeT n₀ w0 W) (h0 : J [] W) :
  Calls Tryz.prog 153 #[.func (.yield l) #[] #[], .pointer (some ⟨Bf, 0, none⟩)] W fun e W' => (∃ v, e = .returned v) ∧
   ((∃ ys : List (FNode w0 n₀), ys.map FNode.t = x.t.nodes ∧ J ys W') ∨ (∃ pre : List (FNode w0 n₀), pre.map FNode.t <+: x.t.nodes ∧ Jx pre W')) := by
 have W1 : ∃ z, W.alloc (.cells #[.func (.yield l) #[] #[]] 202) = z := ⟨_, rfl⟩
 obtain ⟨W1, hW1⟩ := W1
 have b1 := Blk.new W 202 #[.func (.yield l) #[] #[]]
 have k1 : KeepT nodeT n₀ W (W.alloc (.cells #[.func (.yield l) #[] #[]] 202)) := KeepT.alloc W (Nat.le_trans hn0 hk.1.size) _
 have b2 := Blk.new (W.alloc (.cells #[.func (.yield l) #[] #[]] 202)) 202 #[.func (.func 154) #[] #[.pointer (some ⟨W.heap.size, 0, none⟩), .pointer (some ⟨W.heap.size + 1, 0, none⟩)]]
 rw [World.size_alloc] at b2
 have k2 := k1.trans (KeepT.alloc _ (by rw [World.size_alloc]; exact Nat.le_succ_of_le (Nat.le_trans hn0 hk.1.size)) (.cells #[.func (.func 154) #[] #[.pointer (some ⟨W.heap.size, 0, none⟩), .pointer (some ⟨W.heap.size + 1, 0, none⟩)]] 202))
 have HD := Lib.hid (down_any P hP l W.heap.size (W.heap.size + 1) w0 n₀ x.t.size J Jx hN6 hJ hY x.t.size x hPx (Nat.le_refl _) [] _ (hJ _ _ _ (hJ _ _ _ h0)) (by simp)
  ⟨hk.trans k2, Nat.le_trans (Nat.le_trans hn0 hk.1.size) k2.1.size, b1.alloc _, b2⟩)
 have hc := (k2.2 _ _ _ (.inr rfl) hbf).c4
 clear b1 b2 k1 k2 hY hJ h0 hk hbf W1 hW1
 go_enter Tryz.func153, Tryz.ntmps153
 go_wp2_with (refine HD.out.mono ?_; rintro e w3 (⟨rfl, ys, hys, hJ3, _⟩ | ⟨rfl, q, hq, hx3⟩))
 ·go_end0
  exact ⟨⟨_, rfl⟩, .inl ⟨ys, hys, by simpa using hJ3⟩⟩
 ·go_end0
  exact ⟨⟨_, rfl⟩, .inr ⟨q, hq, by simpa using hx3⟩⟩
set_option maxHeartbeats 1000000 in
theorem nodes_any (a b c d : Value) (w : World) :
  Calls Tryz.prog 107 #[.agg #[a, b, c, d]] w fun e w' => e = .returned (.func (.func 153) #[] #[.pointer (some ⟨w.heap.size, 0, none⟩)]) ∧ w' = w.alloc (.cells #[a, b, c, d] 39) := by
 go_enter Tryz.func107, Tryz.ntmps107
 go_wp2
 go_ret
 exact ⟨rfl, rfl⟩
theorem room_of_none {F : Fence} (hd : F.depth = none) (k : Nat) : F.room k := fun d h => by rw [hd] at h; cases h
theorem YieldAt.anyDepth {F : Fence} (hd : F.depth = none) {m : Nat} (m' : Nat) {P : Program} {l : Nat} {args : Array Value} {W : World} {R : Ending → World → Prop} (h : YieldAt F m P l args W R) : YieldAt F m' P l args W R := by
 obtain ⟨fn, tmps, assign, body, hy, hR⟩ := h
 exact ⟨fn, tmps, assign, body, hy, hR.1, fun c cs _ => hR.2 c cs (room_of_none hd _)⟩
abbrev PNode (P : F → Prop) (w : World) (B : Nat) := { y : FNode w B // P y.t }
theorem nodes_stops (P : F → Prop) (hP : ∀ t, P t → ∀ k ∈ t.kids, P k) (n : Nat) (w0 : World) (n₀ : Nat) (hn0 : n₀ ≤ w0.heap.size) (x : FNode w0 n₀) (hPx : P x.t) (hN6 : x.t.size ≤ 1000000) (Bf : Nat) (w : World) (hbf : Blk w Bf 39 #[x.a, x.b, x.c, x.d]) (hk : KeepT nodeT n₀ w0 w) :
  SeqStopsK Fence.wide n Tryz.prog 153 #[.pointer (some ⟨Bf, 0, none⟩)] (fun y : PNode P w0 n₀ => #[.agg #[y.1.a, y.1.b, y.1.c, y.1.d]]) (KeepT nodeT n₀) (fun ys => ys.map (fun y => y.1.t) = x.t.nodes) (fun pre => pre.map (fun y => y.1.t) <+: x.t.nodes) x.t.size w := fun l J Jx W hW hJ _ hY h0 => by
 have hm : ∀ ys : List (PNode P w0 n₀), (ys.map Subtype.val).map FNode.t = ys.map (fun y => y.1.t) := fun ys => List.map_map ..
 refine callsIn_wide.2 ((nodes1_in P hP l w0 n₀ hn0 x hPx hN6 (fun pre W => ∃ q : List (PNode P w0 n₀), q.map Subtype.val = pre ∧ J q W) (fun pre W => ∃ q : List (PNode P w0 n₀), q.map Subtype.val = pre ∧ Jx q W)
  (fun pre W o ⟨q, hq, h⟩ => ⟨q, hq, hJ _ _ _ _ h (World.grownBy_alloc W o none) (fun r e => by cases e)⟩)
  (fun m pre y W hPy ⟨q, hq, h⟩ hl => (YieldAt.anyDepth rfl m (hY q ⟨y, hPy⟩ W h (by rw [← hq, List.length_map] at hl; exact hl))).mono fun e W' hh => ?_) Bf W (hbf.keep hW) (hk.trans (KeepT.below hW (Nat.le_trans hn0 hk.1.size))) ⟨[], rfl, h0⟩).mono fun e W' hh => ?_)
 ·rcases hh with ⟨he, hj, hkk⟩ | ⟨he, hj⟩
  ·exact .inl ⟨he, ⟨q ++ [⟨y, hPy⟩], by rw [List.map_append, hq]; rfl, hj⟩, hkk⟩
  ·exact .inr ⟨he, ⟨q ++ [⟨y, hPy⟩], by rw [List.map_append, hq]; rfl, hj⟩⟩
 ·obtain ⟨he, hh⟩ := hh
  refine ⟨he, ?_⟩
  rcases hh with ⟨ys, hy, q, hq, hj⟩ | ⟨pre, hp, q, hq, hj⟩
  ·exact .inl ⟨q, by dsimp only; rw [← hm, hq, hy], hj⟩
  ·exact .inr ⟨q, by dsimp only; rw [← hm, hq]; exact hp, hj⟩
end Go.Proofs.YtbeaijjaecaidaaGreatDoor
namespace Go.Proofs.YtbeaijjaecaidaaGreatDoor
open Go.RowKit Go.Shelf
attribute [local go_sem] Oper.semAt_some
theorem KeepT.setCell {p : TypeId → Prop} {n₀ g : Nat} {W : World} {t : TypeId} {cs : Array Value} (hb : Blk W g t cs) (hp : ¬ p t) (hn : n₀ ≤ g) (i : Nat) (u : Value) : KeepT p n₀ W (W.setCell ⟨g, i, none⟩ u) :=
 ⟨(Below.refl _ _).setCell (p := ⟨g, i, none⟩) hn u, fun j t' cs' hp' hj => hj.far (fun e => by
  dsimp only at e
  subst e
  unfold Blk at hb hj
  rw [hb] at hj
  injection hj with hj
  injection hj with _ ht
  subst ht
  exact hp hp') u⟩
theorem FNode.mono {w : World} {B B' : Nat} (x : FNode w B) (h : B ≤ B') : RepL w B' [x.a, x.b, x.c, x.d] x.t.cells := x.h.keep (fun _ _ => rfl) h
theorem blk_own {β : Type} (B : Nat) (t : TypeId) (f : β → Array Value) : Own (fun s W => Blk W B t (f s)) := fun s X Y row hs hg hrow =>
 hs.grown hg (fun e' => by obtain ⟨o, ho, hc⟩ := hrow B e'.symm; rw [show X.heap[B]? = _ from hs] at ho; cases ho; cases hc)
set_option maxRecDepth 100000 in
set_option maxHeartbeats 2000000 in
theorem size_any (w : World) (x : FNode w w.heap.size) (hN6 : x.t.size ≤ 1000000) :
  Calls Tryz.prog 150 #[.agg #[x.a, x.b, x.c, x.d]] w fun e w' => e = .returned (.int .i64 (x.t.size : Int)) ∧ Below w.heap.size w w' := by
 refine (callsIn_wide (n := 5)).1 ?_
 refine callsIn_of_wp_marks Tryz.func150 rfl trivial ?_ rfl
 simp only [Tryz.ntmps150, List.size_toArray, List.length_cons, List.length_nil, Nat.reduceAdd, Nat.reduceSub, Array.replicate_succ, Array.replicate_zero, List.push_toArray, List.append_toArray, List.nil_append, List.cons_append]
 gi_wp2_with (refine ⟨trivial, ?_⟩; gi_at_call 107; refine (callsIn_wide.2 (nodes_any _ _ _ _ _)).mono ?_; rintro e w' ⟨rfl, rfl⟩)
 have b1 := (Blk.new (w.alloc (.cells #[x.a, x.b, x.c, x.d] 39)) 3 #[.int .i64 0]).alloc (.cells #[x.a, x.b, x.c, x.d] 39)
 rw [World.size_alloc] at b1
 have b2 := Blk.new ((w.alloc (.cells #[x.a, x.b, x.c, x.d] 39)).alloc (.cells #[.int .i64 0] 3)) 39 #[x.a, x.b, x.c, x.d]
 rw [World.size_alloc, World.size_alloc] at b2
 have hB0 : Below w.heap.size w (((w.alloc (.cells #[x.a, x.b, x.c, x.d] 39)).alloc (.cells #[.int .i64 0] 3)).alloc (.cells #[x.a, x.b, x.c, x.d] 39)) := ((below_new w _).alloc (by simp) _).alloc (by simp; omega) _
 refine wpIn_rangeFunc_ownF rfl (by omega) (gf := 153) (lb := #[.pointer (some ⟨w.heap.size + 1 + 1, 0, none⟩)]) rfl trivial (enters_of Tryz.func153 (by kernel_rfl) rfl)
  (nodes_stops (fun _ => True) (fun _ _ _ _ => trivial) (5 - 1) w w.heap.size (Nat.le_refl _) x trivial hN6 (w.heap.size + 1 + 1) _ b2 (KeepT.below hB0 (Nat.le_refl _))) KeepT.trans (KeepT.put (by simp; omega)) (Below.refl _ _) (fun _ => rfl)
  (fun pre W => Blk W (w.heap.size + 1) 3 #[.int .i64 (pre.length : Int)] ∧ Below w.heap.size w W)
  (fun _ _ _ => False)
  (OwnFrom.and (Own.from (blk_own _ _ _) _) (ownFrom_below (Nat.le_refl _) (by simp; omega)))
  (fun _ _ _ _ _ hs _ _ => hs)
  ⟨b1, hB0⟩ ?aa ?assign ?body ?done ?stop
 case assign =>
  intro l y W K hK
  gi_wp2
  exact hK
 case body =>
  rintro k pre y W ⟨hv, hB⟩ hlt
  have hc := hv.c1
  have hpl : (pre.length : Int) ≤ 1000000 := by omega
  clear b1 b2 hB0
  gi_wp2
  refine ⟨KeepsOthers.setCell _ _ _, KeepT.setCell hv (by unfold nodeT; decide) (by omega) _ _, ?_, hB.setCell (p := ⟨w.heap.size + 1, 0, none⟩) (by simp) _⟩
  have := hv.set 0 (.int .i64 ((pre.length : Int) + 1))
  rw [List.length_append, List.length_singleton]
  exact this
 case done =>
  rintro D ys W hD hys ⟨hv, hB⟩ hK
  simp at hD
  have hl := congrArg List.length hys
  rw [List.length_map, F.nodes_length] at hl
  rw [hl] at hv
  clear hl hys b1 b2 hB0
  have hc := hv.c1
  gi_wp2
  refine ⟨by simp, .inl ⟨_, _, rfl, run_takeDeferred hK, ?_⟩⟩
  exact ⟨_, results_tmp rfl _ _ _, rfl, hB.trans (belowK_b (w := w) (Nat.le_refl _) W D _ _ (by omega) hK rfl rfl)⟩
 case stop =>
  rintro D c pre W _ _ h _
  exact h.elim
theorem F.deep_eq (t : F) : t.deep = deepL t.kids + 1 := by
 cases t
 rw [F.deep]
 rfl
theorem deepL_take : ∀ (l : List F) (k : Nat) (h : k < l.length), deepL (l.take (k + 1)) = max (deepL (l.take k)) l[k].deep
 | a :: l, 0, _ => by simp [deepL]
 | a :: l, k + 1, h => by
  have := deepL_take l k (by simpa using h)
  simp only [List.take_succ_cons, deepL, List.getElem_cons_succ, this, Nat.max_assoc]
mutual
theorem F.deep_le : ∀ t : F, t.deep ≤ t.size
 | .mk op n ins kids => by
  have := deepL_le kids
  rw [F.deep, F.size]
  omega
theorem deepL_le : ∀ l : List F, deepL l ≤ sizeL l
 | [] => by rw [deepL, sizeL]; exact Nat.le_refl _
 | k :: ks => by
  have h1 := F.deep_le k
  have h2 := deepL_le ks
  rw [deepL, sizeL]
  omega
end
set_option maxRecDepth 100000 in
set_option maxHeartbeats 1000000 in
theorem deep_any : ∀ (n : Nat) (w : World) (B : Nat) (x : FNode w B), B ≤ w.heap.size → x.t.size ≤ n → n ≤ 1000000 →
  Calls Tryz.prog 151 #[.agg #[x.a, x.b, x.c, x.d]] w fun e w' => e = .returned (.int .i64 (x.t.deep : Int)) ∧ Below w.heap.size w w' := by
 intro n
 induction n with
 | zero => intro w B x _ h; have := x.t.size_pos; omega
 | succ n ih =>
  intro w B x hBw hx hn
  obtain ⟨A, c, hd, hc, hcell⟩ := x.parts.2.2.2.formulas
  have hdp := x.t.deep_eq
  have HK := Lib.hid (fun (k : F) (h : k ∈ x.t.kids) => F.kid_size h)
  have hlen : x.t.kids.length ≤ 1000000 := by
   have h1 := kids_le x.t.kids
   have h2 := x.t.nodes_length
   rw [x.t.nodes_eq, List.length_cons, nodes_flat_length] at h2
   omega
  have HD := Lib.hid hdp
  have HS : sizeL x.t.kids ≤ 1000000 := by
   have h2 := x.t.nodes_length
   rw [x.t.nodes_eq, List.length_cons, nodes_flat_length] at h2
   omega
  have HS := Lib.hid HS
  rw [hd]
  generalize x.t.deep = dp at *
  generalize x.t.kids = kids at *
  generalize x.a = xa
  generalize x.b = xb
  generalize x.c = xc
  clear hdp hd
  go_enter Tryz.func151, Tryz.ntmps151
  go_wp2
  go_loopw [3, 9] (fun n i wr => ∃ k : Nat, n = .int .i64 (deepL (kids.take k) : Int) ∧ i = .int .i64 (k : Int) ∧ k ≤ kids.length ∧ Below w.heap.size w wr) (fun _ i _ => kids.length - (intOf i).toNat)
  case atStart => exact ⟨0, rfl, rfl, Nat.zero_le _, below_new _ _⟩
  case round =>
   obtain ⟨k, rfl, rfl, hk, hB⟩ := hrel
   by_cases hlt : k < kids.length
   ·obtain ⟨b, o, y, rfl, hb, hy, c0, c1, c2, c3⟩ := hcell k hlt
    have hb' : b < w.heap.size := by omega
    have d0 := (hB.cell (p := ⟨b, o + k * 4, none⟩) hb').trans c0
    have d1 := (hB.cell (p := ⟨b, o + k * 4 + 1, none⟩) hb').trans c1
    have d2 := (hB.cell (p := ⟨b, o + k * 4 + 2, none⟩) hb').trans c2
    have d3 := (hB.cell (p := ⟨b, o + k * 4 + 3, none⟩) hb').trans c3
    have hmem : kids[k] ∈ kids := List.getElem_mem _
    have hks := HK.out _ hmem
    have HT := Lib.hid (deepL_take kids k hlt)
    rw [← hy] at hks HT
    have hB2 := hB.alloc hB.size (.cells #[y.a, y.b, y.c, y.d] 39)
    have HI := Lib.hid (ih _ B ⟨y.a, y.b, y.c, y.d, y.t, y.h.keep (fun p hp => hB2.cell (Nat.lt_of_lt_of_le hp hBw)) (Nat.le_refl _)⟩ (Nat.le_trans hBw hB2.size) (by dsimp only; omega) (by omega))
    have g1 : (y.t.deep : Int) ≤ 1000000 := by have := F.deep_le y.t; omega
    clear c0 c1 c2 c3 hcell ih hmem hy
    dsimp only at HI
    obtain ⟨ya, yb, yc, yd, yt, yh⟩ := y
    obtain ⟨A1, n1, q1, A2, n2, q2, e1, e2, e3, e4⟩ := node_form yh
    dsimp only at *
    subst e1 e2 e3 e4
    clear yh
    go_wp2_with (go_at_call 151; refine HI.out.mono ?_; rintro e w2 ⟨rfl, hb2⟩)
    have HM := hB2.trans (hb2.mono hB2.size)
    go_roundw
    case rel =>
     refine ⟨k + 1, ?_, by go_num, by omega, HM⟩
     rw [HT.out]
     congr 1
     rw [Nat.max_def]
     by_cases h1 : deepL (kids.take k) < yt.deep
     ·rw [if_pos h1, if_pos (by omega)]
     ·rw [if_neg h1]
      by_cases h2 : deepL (kids.take k) ≤ yt.deep
      ·rw [if_pos h2]; omega
      ·rw [if_neg h2]
    case measure => simp [intOf]; omega
   ·obtain rfl : k = kids.length := by omega
    have g1 : ((deepL kids : Nat) : Int) ≤ 1000000 := by
     have h1 := deepL_le kids
     have h2 := HS.out
     omega
    have HD2 : ((deepL kids : Nat) : Int) + 1 = (dp : Int) := by
     rw [HD.out]
     rfl
    have HD2 := Lib.hid HD2
    go_wp2_with fail
    go_ret
    exact ⟨rfl, hB⟩
end Go.Proofs.YtbeaijjaecaidaaGreatDoor
namespace Go.Proofs.YtbeaijjaecaidaaGreatDoor
open Go.RowKit Go.Shelf
attribute [local go_sem] Oper.semAt_some
def OkNode (t : F) : Prop :=
 (t.op = 0 ∧ t.n = 0 ∧ t.ins = [] ∧ t.kids = []) ∨ (t.op = 1 ∧ (0 ≤ t.n ∧ t.n < 64) ∧ t.ins = [] ∧ t.kids = []) ∨ (t.op = 2 ∧ (0 ≤ t.n ∧ t.n < 32) ∧ OkIvs t.ins ∧ t.kids = []) ∨
 ((t.op = 3 ∨ t.op = 6) ∧ t.n = 0 ∧ t.ins = [] ∧ t.kids.length = 1) ∨ ((t.op = 4 ∨ t.op = 5) ∧ t.n = 0 ∧ t.ins = [])
section
variable (A1 A2 : Option Addr) (c1 c2 : Nat) (w : World)
set_option maxRecDepth 100000 in
set_option maxHeartbeats 1000000 in
theorem formed0 : Calls Tryz.prog 152 #[.agg #[.int .i64 0, .int .i64 0, .slice A1 0 c1, .slice A2 0 c2]] w fun e w' => e = .returned (.bool true) ∧ Below w.heap.size w w' := by
 go_enter Tryz.func152, Tryz.ntmps152
 go_wp2
 go_ret
 exact ⟨rfl, below_new _ _⟩
set_option maxRecDepth 100000 in
set_option maxHeartbeats 1000000 in
theorem formed1 (n : Int) (h0 : 0 ≤ n) (h1 : n < 64) : Calls Tryz.prog 152 #[.agg #[.int .i64 1, .int .i64 n, .slice A1 0 c1, .slice A2 0 c2]] w fun e w' => e = .returned (.bool true) ∧ Below w.heap.size w w' := by
 go_enter Tryz.func152, Tryz.ntmps152
 go_wp2
 go_ret
 exact ⟨rfl, below_new _ _⟩
set_option maxRecDepth 100000 in
set_option maxHeartbeats 1000000 in
theorem formed2 (n : Int) (h0 : 0 ≤ n) (h1 : n < 32) (m : Nat) (HV : ∀ W, Below w.heap.size w W → Calls Tryz.prog 178 #[.slice A1 m c1] W fun e w' => e = .returned (.int .i64 0) ∧ Below W.heap.size W w') :
  Calls Tryz.prog 152 #[.agg #[.int .i64 2, .int .i64 n, .slice A1 m c1, .slice A2 0 c2]] w fun e w' => e = .returned (.bool true) ∧ Below w.heap.size w w' := by
 have HH := Lib.hid HV
 clear HV
 go_enter Tryz.func152, Tryz.ntmps152
 go_wp2_with (go_at_call 178; refine (HH.out _ (below_new _ _)).mono ?_; rintro e w1 ⟨rfl, hb1⟩)
 go_ret
 exact ⟨rfl, below_up (below_new _ _) hb1 (by simp)⟩
set_option maxRecDepth 100000 in
set_option maxHeartbeats 1000000 in
theorem formed3 : Calls Tryz.prog 152 #[.agg #[.int .i64 3, .int .i64 0, .slice A1 0 c1, .slice A2 1 c2]] w fun e w' => e = .returned (.bool true) ∧ Below w.heap.size w w' := by
 go_enter Tryz.func152, Tryz.ntmps152
 go_wp2
 go_ret
 exact ⟨rfl, below_new _ _⟩
set_option maxRecDepth 100000 in
set_option maxHeartbeats 1000000 in
theorem formed6 : Calls Tryz.prog 152 #[.agg #[.int .i64 6, .int .i64 0, .slice A1 0 c1, .slice A2 1 c2]] w fun e w' => e = .returned (.bool true) ∧ Below w.heap.size w w' := by
 go_enter Tryz.func152, Tryz.ntmps152
 go_wp2
 go_ret
 exact ⟨rfl, below_new _ _⟩
set_option maxRecDepth 100000 in
set_option maxHeartbeats 1000000 in
theorem formed4 (m : Nat) : Calls Tryz.prog 152 #[.agg #[.int .i64 4, .int .i64 0, .slice A1 0 c1, .slice A2 m c2]] w fun e w' => e = .returned (.bool true) ∧ Below w.heap.size w w' := by
 go_enter Tryz.func152, Tryz.ntmps152
 go_wp2
 go_ret
 exact ⟨rfl, below_new _ _⟩
set_option maxRecDepth 100000 in
set_option maxHeartbeats 1000000 in
theorem formed5 (m : Nat) : Calls Tryz.prog 152 #[.agg #[.int .i64 5, .int .i64 0, .slice A1 0 c1, .slice A2 m c2]] w fun e w' => e = .returned (.bool true) ∧ Below w.heap.size w w' := by
 go_enter Tryz.func152, Tryz.ntmps152
 go_wp2
 go_ret
 exact ⟨rfl, below_new _ _⟩
end
theorem formed_any (w : World) (B : Nat) (hBw : B ≤ w.heap.size) (x : FNode w B) (h : OkNode x.t) :
  Calls Tryz.prog 152 #[.agg #[x.a, x.b, x.c, x.d]] w fun e w' => e = .returned (.bool true) ∧ Below w.heap.size w w' := by
 obtain ⟨e1, e2, r3, r4⟩ := x.parts
 obtain ⟨A1, c1, e3, _, _⟩ := r3.ivs
 obtain ⟨A2, c2, e4, _, _⟩ := r4.formulas
 rw [e1, e2, e3, e4]
 rcases h with ⟨h1, h2, h3, h4⟩ | ⟨h1, h2, h3, h4⟩ | ⟨h1, h2, h3, h4⟩ | ⟨h1, h2, h3, h4⟩ | ⟨h1, h2, h3⟩
 ·rw [h1, h2, h3, h4]; exact formed0 A1 A2 c1 c2 w
 ·rw [h1, h3, h4]; exact formed1 A1 A2 c1 c2 w _ h2.1 h2.2
 ·rw [h1, h4]
  refine formed2 A1 A2 c1 c2 w _ h2.1 h2.2 _ (fun W hW => ?_)
  rw [← e3]
  exact spanvalid_any _ h3 _ W B (Nat.le_trans hBw hW.size) (r3.keep (fun p hp => hW.cell (Nat.lt_of_lt_of_le hp hBw)) (Nat.le_refl _))
 ·rw [h2, h3, h4]
  rcases h1 with h1 | h1
  ·rw [h1]; exact formed3 A1 A2 c1 c2 w
  ·rw [h1]; exact formed6 A1 A2 c1 c2 w
 ·rw [h2, h3]
  rcases h1 with h1 | h1
  ·rw [h1]; exact formed4 A1 A2 c1 c2 w _
  ·rw [h1]; exact formed5 A1 A2 c1 c2 w _
end Go.Proofs.YtbeaijjaecaidaaGreatDoor
namespace Go.Proofs.YtbeaijjaecaidaaGreatDoor
open Go.RowKit Go.Shelf
attribute [local go_sem] Oper.semAt_some
def OkF (t : F) : Prop := t.size ≤ 96 ∧ t.deep ≤ 8 ∧ ∀ y ∈ t.nodes, OkNode y
def OkN (t : F) : Prop := t.size ≤ 96 ∧ ∀ y ∈ t.nodes, OkNode y
theorem okN_kids (t : F) (h : OkN t) (k : F) (hk : k ∈ t.kids) : OkN k := ⟨by have := F.kid_size hk; have := h.1; omega, fun y hy => h.2 y (by
 rw [F.nodes_eq]
 exact List.mem_cons_of_mem _ (List.mem_flatMap.2 ⟨k, hk, hy⟩))⟩
def FNode.up {w w' : World} {B B' : Nat} (x : FNode w B) (hk : ∀ p : Addr, p.block < B → w'.cell? p = w.cell? p) (hB : B ≤ B') : FNode w' B' := ⟨x.a, x.b, x.c, x.d, x.t, x.h.keep hk hB⟩
theorem size_at {w0 : World} {B : Nat} (x : FNode w0 B) (W : World) (hk : ∀ p : Addr, p.block < B → W.cell? p = w0.cell? p) (hB : B ≤ W.heap.size) (hN6 : x.t.size ≤ 1000000) :
  Calls Tryz.prog 150 #[.agg #[x.a, x.b, x.c, x.d]] W fun e w' => e = .returned (.int .i64 (x.t.size : Int)) ∧ Below W.heap.size W w' := size_any W (x.up hk hB) hN6
theorem deep_at {w0 : World} {B : Nat} (x : FNode w0 B) (W : World) (hk : ∀ p : Addr, p.block < B → W.cell? p = w0.cell? p) (hB : B ≤ W.heap.size) (hN6 : x.t.size ≤ 1000000) :
  Calls Tryz.prog 151 #[.agg #[x.a, x.b, x.c, x.d]] W fun e w' => e = .returned (.int .i64 (x.t.deep : Int)) ∧ Below W.heap.size W w' := deep_any x.t.size W W.heap.size (x.up hk hB) (Nat.le_refl _) (Nat.le_refl _) hN6
theorem formed_at {w0 : World} {B : Nat} (x : FNode w0 B) (W : World) (hk : ∀ p : Addr, p.block < B → W.cell? p = w0.cell? p) (hB : B ≤ W.heap.size) (h : OkNode x.t) :
  Calls Tryz.prog 152 #[.agg #[x.a, x.b, x.c, x.d]] W fun e w' => e = .returned (.bool true) ∧ Below W.heap.size W w' := formed_any W W.heap.size (Nat.le_refl _) (x.up hk hB) h
set_option maxRecDepth 100000 in
set_option maxHeartbeats 2000000 in
theorem valid_any (w : World) (B : Nat) (hBw : B ≤ w.heap.size) (x : FNode w B) (h : OkF x.t) :
  Calls Tryz.prog 106 #[.agg #[x.a, x.b, x.c, x.d]] w fun e w' => e = .returned (.int .i64 0) ∧ Below w.heap.size w w' := by
 obtain ⟨hs, hd, hok⟩ := h
 have HO := Lib.hid (show OkN x.t from ⟨hs, hok⟩)
 have hs' : (x.t.size : Int) ≤ 96 := by omega
 have hd' : (x.t.deep : Int) ≤ 8 := by omega
 have hs6 : x.t.size ≤ 1000000 := by omega
 have g1 : decide ((96 : Int) < (x.t.size : Int)) = false := by simp; omega
 have g2 : decide ((8 : Int) < (x.t.deep : Int)) = false := by simp; omega
 clear hok hs hd
 refine (callsIn_wide (n := 5)).1 ?_
 refine callsIn_of_wp_marks Tryz.func106 rfl trivial ?_ rfl
 simp only [Tryz.ntmps106, List.size_toArray, List.length_cons, List.length_nil, Nat.reduceAdd, Nat.reduceSub, Array.replicate_succ, Array.replicate_zero, List.push_toArray, List.append_toArray, List.nil_append, List.cons_append]
 have B0 := (Blk.new w 39 #[x.a, x.b, x.c, x.d]).alloc (.cells #[.int .i64 0] 47)
 have R0 := Blk.new (w.alloc (.cells #[x.a, x.b, x.c, x.d] 39)) 47 #[.int .i64 0]
 rw [World.size_alloc] at R0
 have HB0 := (below_new w (.cells #[x.a, x.b, x.c, x.d] 39)).alloc (by simp) (.cells #[.int .i64 0] 47)
 gi_wp2_with fail
 generalize (w.alloc (.cells #[x.a, x.b, x.c, x.d] 39)).alloc (.cells #[.int .i64 0] 47) = W0 at *
 have HK : ∀ W, Below w.heap.size w W → ∀ p : Addr, p.block < B → W.cell? p = w.cell? p := fun W hW p hp => hW.cell (Nat.lt_of_lt_of_le hp hBw)
 have HKH := Lib.hid HK
 clear HK
 refine ⟨trivial, ?_⟩
 refine (callsIn_wide.2 (size_at x W0 (HKH.out _ HB0) (Nat.le_trans hBw HB0.size) hs6)).mono ?_
 rintro e w1 ⟨rfl, hb1⟩
 have HB1 := HB0.trans (hb1.mono HB0.size)
 have B1 := B0.keep hb1
 have R1 := R0.keep hb1
 have c1 := B1.c4
 clear B0 R0 HB0 hb1
 gi_wp2_with fail
 refine ⟨trivial, ?_⟩
 refine (callsIn_wide.2 (deep_at x w1 (HKH.out _ HB1) (Nat.le_trans hBw HB1.size) hs6)).mono ?_
 rintro e w2 ⟨rfl, hb2⟩
 have HB2 := HB1.trans (hb2.mono HB1.size)
 have B2 := B1.keep hb2
 have R2 := R1.keep hb2
 have c2 := B2.c4
 clear B1 R1 HB1 hb2 c1
 gi_wp2_with (refine ⟨trivial, ?_⟩; gi_at_call 107; refine (callsIn_wide.2 (nodes_any _ _ _ _ _)).mono ?_; rintro e w' ⟨rfl, rfl⟩)
 have R3 := R2.alloc (.cells #[x.a, x.b, x.c, x.d] 39)
 have B3 := Blk.new w2 39 #[x.a, x.b, x.c, x.d]
 have HB3 := HB2.alloc HB2.size (.cells #[x.a, x.b, x.c, x.d] 39)
 have hz := World.size_alloc w2 (.cells #[x.a, x.b, x.c, x.d] 39)
 generalize w2.alloc (.cells #[x.a, x.b, x.c, x.d] 39) = w3 at *
 clear R2 B2 c2
 have hz2 := HB2.size
 generalize w2.heap.size = H2 at *
 refine wpIn_rangeFunc_ownH rfl (by omega) (gf := 153) (lb := #[.pointer (some ⟨H2, 0, none⟩)]) rfl trivial (enters_of Tryz.func153 (by kernel_rfl) rfl)
  (nodes_stops OkN okN_kids (5 - 1) w B hBw x HO.out hs6 H2 w3 B3 (KeepT.below HB3 hBw)) KeepT.trans (KeepT.put (Nat.le_trans hBw HB3.size)) (Below.refl _ _) (fun _ => rfl)
  (fun _ W => Blk W (w.heap.size + 1) 47 #[.int .i64 0] ∧ Below w.heap.size w W)
  (fun _ _ _ => False)
  (OwnFrom.and (Own.from (blk_own _ _ (fun _ => #[.int .i64 0])) _) (ownFrom_below (Nat.le_refl _) HB3.size))
  (fun _ _ _ _ _ hs _ _ => hs)
  ⟨R3, HB3⟩
  (fun y a' W => ∃ Bx, Blk W Bx 39 #[y.1.a, y.1.b, y.1.c, y.1.d] ∧ a' = { tmps := #[.agg #[x.a, x.b, x.c, x.d], .pointer (some ⟨w.heap.size, 0, none⟩), .pointer (some ⟨w.heap.size + 1, 0, none⟩), .pointer (some ⟨Bx, 0, none⟩), .agg #[x.a, x.b, x.c, x.d], .int .i64 (x.t.size : Int), .bool false, .bool false, .agg #[x.a, x.b, x.c, x.d], .int .i64 (x.t.deep : Int), .bool false, .bool false, .agg #[x.a, x.b, x.c, x.d], .func (.func 153) #[] #[.pointer (some ⟨H2, 0, none⟩)], .agg #[y.1.a, y.1.b, y.1.c, y.1.d], undef, undef, undef], defers := [] })
  (fun y a' _ X Y row hs hg hr => by obtain ⟨Bx, h2, h3⟩ := hs; exact ⟨Bx, blk_own Bx 39 (fun (_ : Unit) => #[y.1.a, y.1.b, y.1.c, y.1.d]) () X Y row h2 hg (fun r e => (hr r e).2), h3⟩)
  ?assign ?body ?done ?stop
 case assign =>
  rintro l pre y W K ⟨hv, hB⟩ hK
  obtain ⟨A1, n1, q1, A2, n2, q2, e1, e2, e3, e4⟩ := node_form y.1.h
  gi_wp2_with fail
  rw [← e1, ← e2, ← e3, ← e4]
  exact hK _ _ ((KeepsOthers.alloc _ _).from _) (KeepT.alloc W (Nat.le_trans hBw hB.size) _) ⟨hv.alloc _, hB.alloc hB.size _⟩ ⟨W.heap.size, Blk.new W _ _, rfl⟩
 case body =>
  rintro l pre y a' W hl ⟨r, hr⟩ ⟨hv, hB⟩ ⟨Bx, bX, rfl⟩ hlt
  have hc := bX.c4
  have HF := Lib.hid (formed_at y.1 W (HKH.out _ hB) (Nat.le_trans hBw hB.size) (y.2.2 _ (by rw [F.nodes_eq]; exact List.mem_cons_self)))
  gi_wp2_with (refine ⟨trivial, ?_⟩; gi_at_call 152; refine (CallsIn.inRound l (callsIn_wide.2 HF.out)).mono ?_; rintro e w' ⟨rfl, hb'⟩)
  exact ⟨(KeepsW.others (KeepsW.below hb' (Nat.le_refl _) hB.size)).from _, KeepT.below hb' (Nat.le_trans hBw hB.size), hv.keep hb', hB.trans (hb'.mono hB.size)⟩
 case done =>
  rintro D ys W hD hys ⟨hv, hB⟩ hK
  have hc := hv.c1
  gi_wp2_with fail
  have hK' := (KeepsOthers.setCell W ⟨w.heap.size + 1, 0, none⟩ (.int .i64 0)).same D _ hK rfl
  have hv' := hv.set1 (.int .i64 0)
  have hB' := hB.setCell (p := ⟨w.heap.size + 1, 0, none⟩) (by simp) (.int .i64 0)
  have hv2 := hv'.grown (grownBy_putObj' _ D (.deferred none)) (fun e => by
   cases e
   unfold Blk at hv'
   rw [hv'] at hK'
   cases hK')
  refine ⟨by simp, .inl ⟨_, _, rfl, run_takeDeferred hK', ?_⟩⟩
  refine ⟨.int .i64 0, ?_, rfl, hB'.trans (belowK_b (w := w) (Nat.le_refl _) _ D _ _ (Nat.le_trans HB3.size hD) hK' rfl rfl)⟩
  have hc5 := hv2.c1
  simp [results, Tryz.f106, go_sem, hc5.1]
 case stop =>
  rintro D c pre W _ _ h _
  exact h.elim
end Go.Proofs.YtbeaijjaecaidaaGreatDoor
namespace Go.Proofs.YtbeaijjaecaidaaGreatDoor
open Go.RowKit Go.Shelf
attribute [local go_sem] Oper.semAt_some
mutual
def F.tops : F → List F
 | .mk op n ins kids => if op = 5 then topsL kids else [.mk op n ins kids]
def topsL : List F → List F
 | [] => []
 | k :: ks => k.tops ++ topsL ks
end
theorem topsL_eq : ∀ l : List F, topsL l = l.flatMap F.tops
 | [] => by rw [topsL]; rfl
 | a :: l => by rw [topsL, topsL_eq l]; rfl
theorem F.tops_or {t : F} (h : t.op = 5) : t.tops = t.kids.flatMap F.tops := by
 cases t with
 | mk op n ins kids =>
  rw [F.tops, if_pos (show op = 5 from h), topsL_eq]
  rfl
theorem F.tops_no {t : F} (h : ¬ t.op = 5) : t.tops = [t] := by
 cases t with
 | mk op n ins kids =>
  rw [F.tops, if_neg (show ¬ op = 5 from h)]
mutual
theorem F.tops_le : ∀ t : F, t.tops.length ≤ t.size
 | .mk op n ins kids => by
  rw [F.tops, F.size]
  have := topsL_le kids
  split
  ·omega
  ·rw [List.length_singleton]; omega
theorem topsL_le : ∀ l : List F, (topsL l).length ≤ sizeL l
 | [] => by rw [topsL, sizeL]; exact Nat.le_refl _
 | k :: ks => by
  have h1 := F.tops_le k
  have h2 := topsL_le ks
  rw [topsL, sizeL, List.length_append]
  omega
end
theorem tops_take (l : List F) (k : Nat) (h : k < l.length) : (l.take (k + 1)).flatMap F.tops = (l.take k).flatMap F.tops ++ l[k].tops := by
 rw [List.take_add_one, List.getElem?_eq_getElem h, List.flatMap_append]
 simp
theorem tops_take_le (l : List F) (k : Nat) (h : k < l.length) : ((l.take k).flatMap F.tops).length + l[k].tops.length ≤ (l.flatMap F.tops).length := by
 conv => rhs; rw [← List.take_append_drop (k + 1) l]
 rw [List.flatMap_append, tops_take l k h, List.length_append, List.length_append]
 omega
def topT (t : TypeId) : Prop := t = 202
section
variable (l By Bd : Nat) (w0 : World) (n₀ N : Nat) (J Jx : List (FNode w0 n₀) → World → Prop)
def TBoxes (W : World) : Prop := KeepT topT n₀ w0 W ∧ n₀ ≤ W.heap.size ∧ Blk W By 202 #[.func (.yield l) #[] #[]] ∧ Blk W Bd 202 #[.func (.func 215) #[] #[.pointer (some ⟨By, 0, none⟩), .pointer (some ⟨Bd, 0, none⟩)]]
def TDowns (x : FNode w0 n₀) : Prop := ∀ (pre : List (FNode w0 n₀)) (W : World), J pre W → pre.length + x.t.tops.length ≤ N → TBoxes l By Bd w0 n₀ W →
 Calls Tryz.prog 215 #[.agg #[x.a, x.b, x.c, x.d], .pointer (some ⟨By, 0, none⟩), .pointer (some ⟨Bd, 0, none⟩)] W fun e W' =>
  (e = .returned (.bool true) ∧ ∃ ys : List (FNode w0 n₀), ys.map FNode.t = x.t.tops ∧ J (pre ++ ys) W' ∧ KeepT topT n₀ W W') ∨ (e = .returned (.bool false) ∧ ∃ q : List (FNode w0 n₀), q.map FNode.t <+: x.t.tops ∧ Jx (pre ++ q) W')
end
theorem TBoxes.keep {l By Bd : Nat} {w0 : World} {n₀ : Nat} {W W' : World} (h : TBoxes l By Bd w0 n₀ W) (k : KeepT topT n₀ W W') : TBoxes l By Bd w0 n₀ W' :=
 ⟨h.1.trans k, Nat.le_trans h.2.1 k.1.size, k.2 _ _ _ rfl h.2.2.1, k.2 _ _ _ rfl h.2.2.2⟩
set_option maxRecDepth 100000 in
set_option maxHeartbeats 1000000 in
theorem tkid_any (l By Bd : Nat) (w0 : World) (n₀ N : Nat) (J Jx : List (FNode w0 n₀) → World → Prop) (hJ : ∀ pre W o, J pre W → J pre (W.alloc o)) (x : FNode w0 n₀) (hx : TDowns l By Bd w0 n₀ N J Jx x)
  (pre : List (FNode w0 n₀)) (W : World) (h0 : J pre W) (hN : pre.length + x.t.tops.length ≤ N) (hB : TBoxes l By Bd w0 n₀ W) :
  Calls Tryz.prog 216 #[.agg #[x.a, x.b, x.c, x.d], .pointer (some ⟨Bd, 0, none⟩)] W fun e W' =>
   (e = .returned (.bool false) ∧ ∃ ys : List (FNode w0 n₀), ys.map FNode.t = x.t.tops ∧ J (pre ++ ys) W' ∧ KeepT topT n₀ W W') ∨ (e = .returned (.bool true) ∧ ∃ q : List (FNode w0 n₀), q.map FNode.t <+: x.t.tops ∧ Jx (pre ++ q) W') := by
 have hK : KeepT topT n₀ W (W.alloc (.cells #[x.a, x.b, x.c, x.d] 39)) := KeepT.alloc W hB.2.1 _
 have HD := Lib.hid (hx pre _ (hJ _ _ _ h0) hN (hB.keep hK))
 have hc := (hB.keep hK).2.2.2.c1
 have HK := Lib.hid hK
 clear h0 hB hx hJ hK
 go_enter Tryz.func216, Tryz.ntmps216
 go_wp2_with (refine HD.out.mono ?_; rintro e w2 (⟨rfl, ys, hy, hJ2, hk2⟩ | ⟨rfl, q, hq, hx2⟩))
 ·go_ret
  exact .inl ⟨rfl, ys, hy, hJ2, HK.out.trans hk2⟩
 ·go_ret
  exact .inr ⟨rfl, q, hq, hx2⟩
set_option maxRecDepth 100000 in
set_option maxHeartbeats 1000000 in
theorem tdown_any (P : F → Prop) (hP : ∀ t, P t → ∀ k ∈ t.kids, P k) (l By Bd : Nat) (w0 : World) (n₀ N : Nat) (J Jx : List (FNode w0 n₀) → World → Prop) (hJ : ∀ pre W o, J pre W → J pre (W.alloc o))
  (hY : ∀ m pre (x : FNode w0 n₀) W, P x.t → J pre W → pre.length < N → YieldAt Fence.wide m Tryz.prog l #[.agg #[x.a, x.b, x.c, x.d]] W fun e W' =>
   (e = .returned (.bool true) ∧ J (pre ++ [x]) W' ∧ KeepT topT n₀ W W') ∨ (e = .returned (.bool false) ∧ Jx (pre ++ [x]) W')) :
  ∀ (n : Nat) (x : FNode w0 n₀), P x.t → x.t.size ≤ n → n ≤ 1000000 → TDowns l By Bd w0 n₀ N J Jx x := by
 intro n
 induction n with
 | zero => intro x _ h; have := x.t.size_pos; omega
 | succ n ih =>
  intro x hPx hxn hn6 pre W h0 hN hB
  have hK : KeepT topT n₀ W (W.alloc (.cells #[x.a, x.b, x.c, x.d] 39)) := KeepT.alloc W hB.2.1 _
  have hB1 := hB.keep hK
  have e1 := x.parts.1
  by_cases h5 : x.t.op = 5
  ·rw [F.tops_or h5] at hN ⊢
   have hl6 : x.t.kids.length ≤ 1000000 := by
    have := kids_le x.t.kids
    have h2 := x.t.nodes_length
    rw [x.t.nodes_eq, List.length_cons, nodes_flat_length] at h2
    omega
   have HC := Lib.hid ((contains_any w0 n₀ x.t.kids x.d x.parts.2.2.2 hl6 (KeepT topT n₀) (fun _ _ h => h.1) (fun _ => KeepT.refl _ _ _) (fun _ _ _ h k => h.trans k)
    216 (enters_of Tryz.func216 (by kernel_rfl) rfl) (.pointer (some ⟨Bd, 0, none⟩))
    (fun k W' => (∃ ys : List (FNode w0 n₀), ys.map FNode.t = (x.t.kids.take k).flatMap F.tops ∧ J (pre ++ ys) W') ∧ KeepT topT n₀ (W.alloc (.cells #[x.a, x.b, x.c, x.d] 39)) W')
    (fun _ W' => ∃ q : List (FNode w0 n₀), q.map FNode.t <+: x.t.kids.flatMap F.tops ∧ Jx (pre ++ q) W')
    (by
     intro k hk y W3 hy hJk hkw
     obtain ⟨⟨ys, hys, hJ3⟩, hk3⟩ := hJk
     have hmem : y.t ∈ x.t.kids := by rw [hy]; exact List.getElem_mem _
     have hsk := F.kid_size hmem
     have htl := tops_take_le x.t.kids k hk
     have hyl : ys.length = ((x.t.kids.take k).flatMap F.tops).length := by rw [← hys, List.length_map]
     refine (tkid_any l By Bd w0 n₀ N J Jx hJ y (ih y (hP _ hPx _ hmem) (by omega) (by omega)) (pre ++ ys) W3 hJ3 ?_ (hB1.keep hk3)).mono ?_
     ·rw [hy, List.length_append]
      omega
     ·rintro e W4 (⟨he, zs, hz, hJ4, hk4⟩ | ⟨he, q, hq, hx4⟩)
      ·refine .inl ⟨he, ⟨⟨ys ++ zs, ?_, by rw [← List.append_assoc]; exact hJ4⟩, hk3.trans hk4⟩, hk4⟩
       rw [tops_take _ _ hk, List.map_append, hys, hz, hy]
      ·refine .inr ⟨he, ys ++ q, ?_, by rw [← List.append_assoc]; exact hx4⟩
       rw [List.map_append, hys]
       refine List.IsPrefix.trans (l₂ := (x.t.kids.take (k + 1)).flatMap F.tops) ?_ ?_
       ·rw [tops_take _ _ hk, ← hy]
        exact (List.prefix_append_right_inj _).2 hq
       ·conv => rhs; rw [← List.take_append_drop (k + 1) x.t.kids]
        rw [List.flatMap_append]
        exact List.prefix_append _ _)
    (W.alloc (.cells #[x.a, x.b, x.c, x.d] 39)) ⟨⟨[], by simp, by rw [List.append_nil]; exact hJ _ _ _ h0⟩, KeepT.refl _ _ _⟩ hB1.1))
   have HK := Lib.hid hK
   rw [h5] at e1
   rw [e1] at HC HK ⊢
   have hkl : (x.t.kids.take x.t.kids.length) = x.t.kids := List.take_length
   rw [hkl] at HC
   clear hY hJ ih h0 hB hB1 hN hxn hK e1 hkl
   go_enter Tryz.func215, Tryz.ntmps215
   go_wp2_with (go_at_call 155; refine HC.out.mono ?_; rintro e w3 (⟨rfl, ⟨⟨ys, hys, hJ3⟩, hk3⟩, _⟩ | ⟨k, _, rfl, q, hq, hx3⟩))
   ·go_ret
    exact .inl ⟨rfl, ys, hys, hJ3, HK.out.trans hk3⟩
   ·go_ret
    exact .inr ⟨rfl, q, hq, hx3⟩
  ·rw [F.tops_no h5] at hN ⊢
   have hc := hB1.2.2.1.c1
   have hy := YieldAt.mono (hY 4 pre x _ hPx (hJ _ _ _ h0) (by rw [List.length_singleton] at hN; omega)) (R' := fun e W2 =>
    (e = .returned (.bool true) ∧ J (pre ++ [x]) W2 ∧ KeepT topT n₀ W W2) ∨ (e = .returned (.bool false) ∧ Jx (pre ++ [x]) W2)) (fun e W2 h => by
     rcases h with ⟨he, hj, hk⟩ | h
     ·exact .inl ⟨he, hj, hK.trans hk⟩
     ·exact .inr h)
   obtain ⟨fn, tmps, assign, body, hyr, hR⟩ := hy
   have HR := Lib.hid hR
   have h5' : (x.t.op != 5) = true := by simpa using h5
   have HX : ∃ x' : FNode w0 n₀, x' = x := ⟨_, rfl⟩
   rw [e1] at HR hc hyr ⊢
   clear hY hJ ih h0 hB hB1 hR hN hxn hK e1
   refine (callsIn_wide (n := 5)).1 ?_
   refine callsIn_of_wp Tryz.func215 rfl trivial ?_ rfl
   simp only [Tryz.ntmps215, List.size_toArray, List.length_cons, List.length_nil, Nat.reduceAdd, Nat.reduceSub, Array.replicate_succ, Array.replicate_zero, List.push_toArray, List.append_toArray, List.nil_append, List.cons_append]
   gi_wp2_with fail
   refine HR.out.mono ?_
   rintro e W2 (⟨rfl, hj, hk⟩ | ⟨rfl, hx⟩)
   ·gi_wp2_with fail
    go_ret
    exact .inl ⟨rfl, [x], rfl, hj, hk⟩
   ·gi_wp2_with fail
    go_ret
    exact .inr ⟨rfl, [x], List.prefix_refl _, hx⟩
set_option maxRecDepth 100000 in
set_option maxHeartbeats 1000000 in
theorem tops1_in (P : F → Prop) (hP : ∀ t, P t → ∀ k ∈ t.kids, P k) (l : Nat) (w0 : World) (n₀ : Nat) (hn0 : n₀ ≤ w0.heap.size) (x : FNode w0 n₀) (hPx : P x.t) (hN6 : x.t.size ≤ 1000000) (J Jx : List (FNode w0 n₀) → World → Prop) (hJ : ∀ pre W o, J pre W → J pre (W.alloc o))
  (hY : ∀ m pre (y : FNode w0 n₀) W, P y.t → J pre W → pre.length < x.t.tops.length → YieldAt Fence.wide m Tryz.prog l #[.agg #[y.a, y.b, y.c, y.d]] W fun e W' =>
   (e = .returned (.bool true) ∧ J (pre ++ [y]) W' ∧ KeepT topT n₀ W W') ∨ (e = .returned (.bool false) ∧ Jx (pre ++ [y]) W'))
  (Bf : Nat) (W : World) (hbf : Blk W Bf 39 #[x.a, x.b, x.c, x.d]) (hk : KeepT topT n₀ w0 W) (h0 : J [] W) :
  Calls Tryz.prog 214 #[.func (.yield l) #[] #[], .pointer (some ⟨Bf, 0, none⟩)] W fun e W' => (∃ v, e = .returned v) ∧
   ((∃ ys : List (FNode w0 n₀), ys.map FNode.t = x.t.tops ∧ J ys W') ∨ (∃ pre : List (FNode w0 n₀), pre.map FNode.t <+: x.t.tops ∧ Jx pre W')) := by
 have W1 : ∃ z, W.alloc (.cells #[.func (.yield l) #[] #[]] 202) = z := ⟨_, rfl⟩
 obtain ⟨W1, hW1⟩ := W1
 have b1 := Blk.new W 202 #[.func (.yield l) #[] #[]]
 have k1 : KeepT topT n₀ W (W.alloc (.cells #[.func (.yield l) #[] #[]] 202)) := KeepT.alloc W (Nat.le_trans hn0 hk.1.size) _
 have b2 := Blk.new (W.alloc (.cells #[.func (.yield l) #[] #[]] 202)) 202 #[.func (.func 215) #[] #[.pointer (some ⟨W.heap.size, 0, none⟩), .pointer (some ⟨W.heap.size + 1, 0, none⟩)]]
 rw [World.size_alloc] at b2
 have k2 := k1.trans (KeepT.alloc _ (by rw [World.size_alloc]; exact Nat.le_succ_of_le (Nat.le_trans hn0 hk.1.size)) (.cells #[.func (.func 215) #[] #[.pointer (some ⟨W.heap.size, 0, none⟩), .pointer (some ⟨W.heap.size + 1, 0, none⟩)]] 202))
 have HD := Lib.hid (tdown_any P hP l W.heap.size (W.heap.size + 1) w0 n₀ x.t.tops.length J Jx hJ hY x.t.size x hPx (Nat.le_refl _) hN6 [] _ (hJ _ _ _ (hJ _ _ _ h0)) (by simp)
  ⟨hk.trans k2, Nat.le_trans (Nat.le_trans hn0 hk.1.size) k2.1.size, b1.alloc _, b2⟩)
 have hc := ((hbf.alloc (.cells #[.func (.yield l) #[] #[]] 202)).alloc (.cells #[.func (.func 215) #[] #[.pointer (some ⟨W.heap.size, 0, none⟩), .pointer (some ⟨W.heap.size + 1, 0, none⟩)]] 202)).c4
 clear b1 b2 k1 k2 hY hJ h0 hk hbf W1 hW1
 go_enter Tryz.func214, Tryz.ntmps214
 go_wp2_with (refine HD.out.mono ?_; rintro e w3 (⟨rfl, ys, hys, hJ3, _⟩ | ⟨rfl, q, hq, hx3⟩))
 ·go_end0
  exact ⟨⟨_, rfl⟩, .inl ⟨ys, hys, by simpa using hJ3⟩⟩
 ·go_end0
  exact ⟨⟨_, rfl⟩, .inr ⟨q, hq, by simpa using hx3⟩⟩
set_option maxHeartbeats 1000000 in
theorem tops_any (a b c d : Value) (w : World) :
  Calls Tryz.prog 204 #[.agg #[a, b, c, d]] w fun e w' => e = .returned (.func (.func 214) #[] #[.pointer (some ⟨w.heap.size, 0, none⟩)]) ∧ w' = w.alloc (.cells #[a, b, c, d] 39) := by
 go_enter Tryz.func204, Tryz.ntmps204
 go_wp2
 go_ret
 exact ⟨rfl, rfl⟩
theorem tops_stops (P : F → Prop) (hP : ∀ t, P t → ∀ k ∈ t.kids, P k) (n : Nat) (w0 : World) (n₀ : Nat) (hn0 : n₀ ≤ w0.heap.size) (x : FNode w0 n₀) (hPx : P x.t) (hN6 : x.t.size ≤ 1000000) (Bf : Nat) (w : World) (hbf : Blk w Bf 39 #[x.a, x.b, x.c, x.d]) (hk : KeepT topT n₀ w0 w) :
  SeqStopsK Fence.wide n Tryz.prog 214 #[.pointer (some ⟨Bf, 0, none⟩)] (fun y : PNode P w0 n₀ => #[.agg #[y.1.a, y.1.b, y.1.c, y.1.d]]) (KeepT topT n₀) (fun ys => ys.map (fun y => y.1.t) = x.t.tops) (fun pre => pre.map (fun y => y.1.t) <+: x.t.tops) x.t.tops.length w := fun l J Jx W hW hJ _ hY h0 => by
 have hm : ∀ ys : List (PNode P w0 n₀), (ys.map Subtype.val).map FNode.t = ys.map (fun y => y.1.t) := fun ys => List.map_map ..
 refine callsIn_wide.2 ((tops1_in P hP l w0 n₀ hn0 x hPx hN6 (fun pre W => ∃ q : List (PNode P w0 n₀), q.map Subtype.val = pre ∧ J q W) (fun pre W => ∃ q : List (PNode P w0 n₀), q.map Subtype.val = pre ∧ Jx q W)
  (fun pre W o ⟨q, hq, h⟩ => ⟨q, hq, hJ _ _ _ _ h (World.grownBy_alloc W o none) (fun r e => by cases e)⟩)
  (fun m pre y W hPy ⟨q, hq, h⟩ hl => (YieldAt.anyDepth rfl m (hY q ⟨y, hPy⟩ W h (by rw [← hq, List.length_map] at hl; exact hl))).mono fun e W' hh => ?_) Bf W (hbf.keep hW) (hk.trans (KeepT.below hW (Nat.le_trans hn0 hk.1.size))) ⟨[], rfl, h0⟩).mono fun e W' hh => ?_)
 ·rcases hh with ⟨he, hj, hkk⟩ | ⟨he, hj⟩
  ·exact .inl ⟨he, ⟨q ++ [⟨y, hPy⟩], by rw [List.map_append, hq]; rfl, hj⟩, hkk⟩
  ·exact .inr ⟨he, ⟨q ++ [⟨y, hPy⟩], by rw [List.map_append, hq]; rfl, hj⟩⟩
 ·obtain ⟨he, hh⟩ := hh
  refine ⟨he, ?_⟩
  rcases hh with ⟨ys, hy, q, hq, hj⟩ | ⟨pre, hp, q, hq, hj⟩
  ·exact .inl ⟨q, by dsimp only; rw [← hm, hq, hy], hj⟩
  ·exact .inr ⟨q, by dsimp only; rw [← hm, hq]; exact hp, hj⟩
end Go.Proofs.YtbeaijjaecaidaaGreatDoor
