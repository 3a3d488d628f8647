/- acts.bare of a filing: it has no field that filings do not have. Filings: what is said of them, and acts.filing. acts.filing, acts.formed and acts.Valid of filings. acts.formed and acts.Valid of filings. acts.Encode of filings. Whole acts loaded, stored and handed back: each in one step. -/
import Derived.Test.YtbeaijjaecaidaaGreatDoorG12
import Derived.Test.YtbeaijjaecaidaaGreatDoorE11
import Derived.Test.YtbeaijjaecaidaaGreatDoorE01
import Derived.Maps.RangeWalk
import Derived.Deep.MidRow
import Derived.Laws.Tables
namespace Go.Proofs.YtbeaijjaecaidaaGreatDoor
open Go.RowKit Go.Shelf
attribute [local go_sem] Oper.semAt_some
def boolR : Value → Option (DataW Unit × List MemPlace)
 | .bool b => some (.lit (.bool b), [])
 | _ => none
def bitsD : List (Int × Bool) → DataW Unit
 | [] => .map []
 | p :: l => (bitsD l).put (.int .i64 p.1) (.lit (.bool p.2))
theorem bitsD_map : ∀ l : List (Int × Bool), Maps.IsMap (bitsD l)
 | [] => ⟨[], rfl⟩
 | _ :: l => (bitsD_map l).put _ _
theorem bitsD_at (x : Int) : ∀ (l : List (Int × Bool)), (∀ zd : DataW Unit, (bitsD l).atKey (.int .i64 x) zd = .lit (.bool true)) → ∃ p ∈ l, p.1 = x ∧ p.2 = true
 | [], h => by
  have := h .nil
  unfold bitsD at this
  simp [DataW.atKey] at this
 | p :: l, h => by
  by_cases hx : p.1 = x
  ·have := h .nil
   rw [bitsD, hx, Maps.atKey_put_same (bitsD_map l) (by trivial)] at this
   injection this with this
   injection this with this
   exact ⟨p, by simp, hx, this⟩
  ·obtain ⟨q, hq, h3⟩ := bitsD_at x l (fun zd => by
    have := h zd
    rw [bitsD, Maps.atKey_put_other (fun e => hx (by injection e with _ e; exact e.symm))] at this
    exact this)
   exact ⟨q, by simp [hq], h3⟩
theorem wpOp_ins {ops : Array Oper} {o : Oper} {i : Nat} {a : Act} {w : World} {Q : Exit → Act → World → Prop} {K : Act → World → Prop} (ho : ops[i]? = some o) (hg : o.guard = none) (hd : o.dst = none) (m x v : Operand) (hop : o.op = Op.insert 197 m x v)
  (mb n : Nat) (l : List (Int × Bool)) (hm : a.eval m = .map (some mb)) (hown : w.ownsMap Tryz.prog 3 boolR mb n (bitsD l)) (hn : n < 1000) (k : Int) (b : Bool) (hx : a.eval x = .int .i64 k) (hk0 : 0 ≤ k) (hk1 : k ≤ 1000000) (hv : a.eval v = .bool b)
  (hK : ∀ w', w'.ownsMap Tryz.prog 3 boolR mb (n + 1) (bitsD ((k, b) :: l)) → w.grownBy w' (some mb) → K a w') : wpOp Tryz.prog ops Q i K a w := by
 refine wpOp_step ho fun K' hK' => ?_
 rw [if_pos (by simp only [Region.wanted, hg])]
 obtain ⟨w', hrun, r1, r2⟩ := hown.store (Maps.int_keyed Tryz.underlying3) Tryz.underlying197 (by unfold maxLen; omega) (key := .int .i64 k) (val := .bool b) (Maps.keyOf_int_mk Tryz.underlying3 (WalkArith.wf_i64 ⟨by omega, by omega⟩)) (d := .lit (.bool b)) (ps := []) rfl
 unfold Oper.wp
 simp [execOp, hop, hm, hx, hv, hrun, Result.andThen]
 simp only [Oper.upon, hg, hd] at *
 exact hK' _ _ (hK w' r1 r2.grown)
def BagI (mb m : Nat) (w : World) : Prop := ∃ l : List (Int × Bool), l.length + m = 11 ∧ w.ownsMap Tryz.prog 3 boolR mb l.length (bitsD l) ∧ ∀ p ∈ l, p.2 = true → p.1 = 1 ∨ p.1 = 2 ∨ p.1 = 4 ∨ p.1 = 8 ∨ p.1 = 128 ∨ p.1 = 512
theorem bareS {w W W' : World} {mb : Nat} {cA cF : Array Value} (h : Blk W w.heap.size 41 cA ∧ Blk W (w.heap.size + 1) 39 cF ∧ Below w.heap.size w W) {row : Option Nat} (hg : W.grownBy W' row) (hr : ∀ q, row = some q → q = mb) (hmb : w.heap.size + 1 < mb) :
  Blk W' w.heap.size 41 cA ∧ Blk W' (w.heap.size + 1) 39 cF ∧ Below w.heap.size w W' :=
 ⟨h.1.grown hg (fun e => by have := hr _ e.symm; omega), h.2.1.grown hg (fun e => by have := hr _ e.symm; omega), h.2.2.grown hg h.2.2.size (fun q e => by have := hr _ e; omega)⟩
def OkM (m : Int) : Prop := ∃ b : BitVec 64, b ||| 655#64 = 655#64 ∧ m = (b.toNat : Int)
theorem OkM.zero : OkM 0 := ⟨0#64, by decide, rfl⟩
theorem OkM.bound {m : Int} (h : OkM m) : 0 ≤ m ∧ m ≤ 655 := by
 obtain ⟨b, hb, rfl⟩ := h
 refine ⟨by omega, ?_⟩
 have h1 : (b ||| 655#64).toNat = 655 := by rw [hb]; rfl
 rw [BitVec.toNat_or] at h1
 have h2 : b.toNat ≤ b.toNat ||| (655#64).toNat := Nat.left_le_or
 omega
theorem ofInt_toNat (b : BitVec 64) : BitVec.ofInt 64 (b.toNat : Int) = b := by
 rw [BitVec.ofInt_natCast, BitVec.ofNat_toNat]
 simp
theorem OkM.or {m k : Int} (h : OkM m) (hk : k = 1 ∨ k = 2 ∨ k = 4 ∨ k = 8 ∨ k = 128 ∨ k = 512) : OkM (IntKind.i64.wrap (((BitVec.ofInt 64 m ||| BitVec.ofInt 64 k).toNat : Nat) : Int)) := by
 obtain ⟨b, hb, rfl⟩ := h
 rw [ofInt_toNat]
 have hkk : BitVec.ofInt 64 k ||| 655#64 = 655#64 := by rcases hk with rfl | rfl | rfl | rfl | rfl | rfl <;> decide
 have h1 : (b ||| BitVec.ofInt 64 k) ||| 655#64 = 655#64 := by rw [BitVec.or_assoc, hkk, hb]
 have h2 := OkM.bound ⟨_, h1, rfl⟩
 rw [show IntKind.i64.wrap (((b ||| BitVec.ofInt 64 k).toNat : Nat) : Int) = (((b ||| BitVec.ofInt 64 k).toNat : Nat) : Int) from by rw [IntKind.wrap_i64]; omega]
 exact ⟨_, h1, rfl⟩
theorem OkM.clear {m : Int} (h : OkM m) : (BitVec.ofInt 64 m &&& ~~~(BitVec.ofInt 64 655)).toNat = 0 := by
 obtain ⟨b, hb, rfl⟩ := h
 rw [ofInt_toNat]
 have : b &&& ~~~(655#64) = 0#64 := by
  rw [← hb]
  apply BitVec.eq_of_getLsbD_eq
  intro i hi
  simp only [BitVec.getLsbD_and, BitVec.getLsbD_not, BitVec.getLsbD_or, BitVec.getLsbD_zero]
  cases b.getLsbD i <;> simp
 show (b &&& ~~~(655#64)).toNat = 0
 rw [this]
 rfl
theorem wpList_next_bits {w : World} {ops : Array Oper} {rest : List Oper} {o : Oper} {a : Act} {Q : Exit → Act → World → Prop} (hg : o.guard = none) (it : Operand) (hop : o.op = Op.next it false) (l : List (Int × Bool)) (hk : ∀ p ∈ l, p.2 = true → p.1 = 1 ∨ p.1 = 2 ∨ p.1 = 4 ∨ p.1 = 8 ∨ p.1 = 128 ∨ p.1 = 512)
  (b r n : Nat) (left : Lit → Bool) (cnt : Nat) (hit : a.eval it = .pointer (some ⟨r, 0, none⟩)) (h : w.ranges Tryz.prog 3 boolR b r n (bitsD l) left cnt)
  (hDone : wpList Tryz.prog ops Q rest (a.put o.dst (.tuple #[.bool false])) w)
  (hF : ∀ (x : Int) (w' : World) (left' : Lit → Bool) (cnt' : Nat), Hid (w'.ranges Tryz.prog 3 boolR b r n (bitsD l) left' cnt') → cnt' < cnt → w.grownBy w' (some r) → (Instr.entry (.pointer (some ⟨r, 0, none⟩))).run Tryz.prog w' = .ok (.tuple #[.int .i64 x, .bool false]) w' →
   wpList Tryz.prog ops Q rest (a.put o.dst (.tuple #[.bool true, .int .i64 x, .bool false])) w')
  (hT : ∀ (x : Int) (w' : World) (left' : Lit → Bool) (cnt' : Nat), Hid (x = 1 ∨ x = 2 ∨ x = 4 ∨ x = 8 ∨ x = 128 ∨ x = 512) → Hid (w'.ranges Tryz.prog 3 boolR b r n (bitsD l) left' cnt') → cnt' < cnt → w.grownBy w' (some r) → (Instr.entry (.pointer (some ⟨r, 0, none⟩))).run Tryz.prog w' = .ok (.tuple #[.int .i64 x, .bool true]) w' →
   wpList Tryz.prog ops Q rest (a.put o.dst (.tuple #[.bool true, .int .i64 x, .bool true])) w') :
  wpList Tryz.prog ops Q (o :: rest) a w := by
 refine wpList_next_ranges w hg it hop 3 (Maps.int_keyed Tryz.underlying3) boolR (Value.int .i64) Value.bool (fun key kl hkey => by obtain ⟨x, rfl, _⟩ := Maps.keyOf_int_inv Tryz.underlying3 hkey; exact ⟨x, rfl⟩) (fun u y hu => by cases u <;> simp [boolR] at hu; exact ⟨_, rfl⟩) b r n _ left cnt hit h (fun _ _ => hDone) ?_
 intro x c kl y w' cnt' hkey hlk hv hat hrg hlt hgr hsz hen
 cases c with
 | false => exact hF x w' _ cnt' hrg hlt hgr hen
 | true =>
  refine hT x w' _ cnt' ?_ hrg hlt hgr hen
  obtain ⟨x', ex, rfl, _⟩ := Maps.keyOf_int_inv Tryz.underlying3 hkey
  cases ex
  cases hv
  obtain ⟨p, hp, rfl, hp2⟩ := bitsD_at x l hat
  exact hk p hp hp2
set_option maxRecDepth 100000 in
set_option maxHeartbeats 4000000 in
theorem bare_any (w : World) (hG : w.cell? ⟨0, 0, none⟩ = some (.int .i64 655)) (h0 : 0 < w.heap.size) (day known file office party other : Int) (Ad Ac Al Ae Ai Ak : Option Addr) (nd cd nc cc cl ne ce ci ck : Nat) (hnd : nd ≤ 1000000) (hnc : nc ≤ 1000000) :
  Calls Tryz.prog 100 #[.agg #[.int .i64 0, .int .i64 day, .int .i64 known, .int .i64 file, .int .i64 office, .int .i64 party, .int .i64 other, .int .i64 0, .int .i64 0, .int .i64 0, .int .i64 0, .slice Ad nd cd, .slice Ac nc cc, .slice Al 0 cl, .slice Ae ne ce, .int .i64 0, .int .i64 0, .slice Ai 0 ci, .slice Ak 0 ck]] w
   fun e w' => e = .returned (.bool true) ∧ Below w.heap.size w w' := by
 have X0 := (Blk.new w 41 #[.int .i64 0, .int .i64 day, .int .i64 known, .int .i64 file, .int .i64 office, .int .i64 party, .int .i64 other, .int .i64 0, .int .i64 0, .int .i64 0, .int .i64 0, .slice Ad nd cd, .slice Ac nc cc, .slice Al 0 cl, .slice Ae ne ce, .int .i64 0, .int .i64 0, .slice Ai 0 ci, .slice Ak 0 ck])
 have P0 := below_new w (.cells #[.int .i64 0, .int .i64 day, .int .i64 known, .int .i64 file, .int .i64 office, .int .i64 party, .int .i64 other, .int .i64 0, .int .i64 0, .int .i64 0, .int .i64 0, .slice Ad nd cd, .slice Ac nc cc, .slice Al 0 cl, .slice Ae ne ce, .int .i64 0, .int .i64 0, .slice Ai 0 ci, .slice Ak 0 ck] 41)
 have hc := X0.c19
 go_enter Tryz.func100, Tryz.ntmps100
 have X1 := X0.alloc (.cells #[.int .i64 0, .int .i64 0, .slice Ai 0 ci, .slice Ak 0 ck] 39)
 have Y1 := Blk.new (w.alloc (.cells #[.int .i64 0, .int .i64 day, .int .i64 known, .int .i64 file, .int .i64 office, .int .i64 party, .int .i64 other, .int .i64 0, .int .i64 0, .int .i64 0, .int .i64 0, .slice Ad nd cd, .slice Ac nc cc, .slice Al 0 cl, .slice Ae ne ce, .int .i64 0, .int .i64 0, .slice Ai 0 ci, .slice Ak 0 ck] 41)) 39 #[.int .i64 0, .int .i64 0, .slice Ai 0 ci, .slice Ak 0 ck]
 rw [World.size_alloc] at Y1
 have P1 := P0.alloc P0.size (.cells #[.int .i64 0, .int .i64 0, .slice Ai 0 ci, .slice Ak 0 ck] 39)
 go_upto_region 3 with fail
 clear hc X0 P0
 generalize ((w.alloc (.cells #[.int .i64 0, .int .i64 day, .int .i64 known, .int .i64 file, .int .i64 office, .int .i64 party, .int .i64 other, .int .i64 0, .int .i64 0, .int .i64 0, .int .i64 0, .slice Ad nd cd, .slice Ac nc cc, .slice Al 0 cl, .slice Ae ne ce, .int .i64 0, .int .i64 0, .slice Ai 0 ci, .slice Ak 0 ck] 41)).alloc (.cells #[.int .i64 0, .int .i64 0, .slice Ai 0 ci, .slice Ak 0 ck] 39)) = w2 at *
 refine wp_region_held_drew (S := (fun w' => Blk w' w.heap.size 41 #[.int .i64 0, .int .i64 day, .int .i64 known, .int .i64 file, .int .i64 office, .int .i64 party, .int .i64 other, .int .i64 0, .int .i64 0, .int .i64 0, .int .i64 0, .slice Ad nd cd, .slice Ac nc cc, .slice Al 0 cl, .slice Ae ne ce, .int .i64 0, .int .i64 0, .slice Ai 0 ci, .slice Ak 0 ck] ∧ Blk w' (w.heap.size + 1) 39 #[.int .i64 0, .int .i64 0, .slice Ai 0 ci, .slice Ak 0 ck] ∧ Below w.heap.size w w')) (by kernel_rfl) ?_ (fun hHeld => ?_)
 ·first | done | ((try dsimp only); exact ⟨X1.drew, Y1.drew, P1.drew⟩)
 clear X1 Y1 P1
 refine tk 1 10 ?_ rfl ?_ ?_
 rotate_left
 ·(intro w' hSw; (try dsimp only at hSw); go_simp; try (with_reducible rfl))
 (try simp only [pS, pB, pZ, pC])
 refine tk 2 11 ?_ rfl ?_ ?_
 rotate_left
 ·(intro w' hSw; (try dsimp only at hSw); (have hc := hSw.1.cell 3; go_simp); try (with_reducible rfl))
 (try simp only [pS, pB, pZ, pC])
 refine tk 3 12 ?_ rfl ?_ ?_
 rotate_left
 ·(intro w' hSw; (try dsimp only at hSw); go_simp; try (with_reducible rfl))
 (try simp only [pS, pB, pZ, pC])
 refine tk 5 13 ?_ rfl ?_ ?_
 rotate_left
 ·(intro w' hSw; (try dsimp only at hSw); go_simp; try (with_reducible rfl))
 (try simp only [pS, pB, pZ, pC])
 refine tk 6 14 ?_ rfl ?_ ?_
 rotate_left
 ·(intro w' hSw; (try dsimp only at hSw); (have hc := hSw.1.cell 4; go_simp); try (with_reducible rfl))
 (try simp only [pS, pB, pZ, pC])
 refine tk 7 15 ?_ rfl ?_ ?_
 rotate_left
 ·(intro w' hSw; (try dsimp only at hSw); go_simp; try (with_reducible rfl))
 (try simp only [pS, pB, pZ, pC])
 refine tk 9 16 ?_ rfl ?_ ?_
 rotate_left
 ·(intro w' hSw; (try dsimp only at hSw); go_simp; try (with_reducible rfl))
 (try simp only [pS, pB, pZ, pC])
 refine tk 10 17 ?_ rfl ?_ ?_
 rotate_left
 ·(intro w' hSw; (try dsimp only at hSw); (have hc := hSw.1.cell 5; go_simp); try (with_reducible rfl))
 (try simp only [pS, pB, pZ, pC])
 refine tk 11 18 ?_ rfl ?_ ?_
 rotate_left
 ·(intro w' hSw; (try dsimp only at hSw); go_simp; try (with_reducible rfl))
 (try simp only [pS, pB, pZ, pC])
 refine tk 13 19 ?_ rfl ?_ ?_
 rotate_left
 ·(intro w' hSw; (try dsimp only at hSw); go_simp; try (with_reducible rfl))
 (try simp only [pS, pB, pZ, pC])
 refine tk 14 20 ?_ rfl ?_ ?_
 rotate_left
 ·(intro w' hSw; (try dsimp only at hSw); (have hc := hSw.1.cell 6; go_simp); try (with_reducible rfl))
 (try simp only [pS, pB, pZ, pC])
 refine tk 15 21 ?_ rfl ?_ ?_
 rotate_left
 ·(intro w' hSw; (try dsimp only at hSw); go_simp; try (with_reducible rfl))
 (try simp only [pS, pB, pZ, pC])
 refine tk 17 22 ?_ rfl ?_ ?_
 rotate_left
 ·(intro w' hSw; (try dsimp only at hSw); go_simp; try (with_reducible rfl))
 (try simp only [pS, pB, pZ, pC])
 refine tk 18 23 ?_ rfl ?_ ?_
 rotate_left
 ·(intro w' hSw; (try dsimp only at hSw); (have hc := hSw.1.cell 7; go_simp); try (with_reducible rfl))
 (try simp only [pS, pB, pZ, pC])
 refine tk 19 24 ?_ rfl ?_ ?_
 rotate_left
 ·(intro w' hSw; (try dsimp only at hSw); go_simp; try (with_reducible rfl))
 (try simp only [pS, pB, pZ, pC])
 refine tk 21 25 ?_ rfl ?_ ?_
 rotate_left
 ·(intro w' hSw; (try dsimp only at hSw); go_simp; try (with_reducible rfl))
 (try simp only [pS, pB, pZ, pC])
 refine tk 22 26 ?_ rfl ?_ ?_
 rotate_left
 ·(intro w' hSw; (try dsimp only at hSw); (have hc := hSw.1.cell 8; go_simp); try (with_reducible rfl))
 (try simp only [pS, pB, pZ, pC])
 refine tk 23 27 ?_ rfl ?_ ?_
 rotate_left
 ·(intro w' hSw; (try dsimp only at hSw); go_simp; try (with_reducible rfl))
 (try simp only [pS, pB, pZ, pC])
 refine tk 25 28 ?_ rfl ?_ ?_
 rotate_left
 ·(intro w' hSw; (try dsimp only at hSw); go_simp; try (with_reducible rfl))
 (try simp only [pS, pB, pZ, pC])
 refine tk 26 29 ?_ rfl ?_ ?_
 rotate_left
 ·(intro w' hSw; (try dsimp only at hSw); (have hc := hSw.1.cell 9; have hc2 := hSw.1.cell 10; go_simp); try (with_reducible rfl))
 (try simp only [pS, pB, pZ, pC])
 refine tk 27 30 ?_ rfl ?_ ?_
 rotate_left
 ·(intro w' hSw; (try dsimp only at hSw); go_simp; try (with_reducible rfl))
 (try simp only [pS, pB, pZ, pC])
 refine tk 28 31 ?_ rfl ?_ ?_
 rotate_left
 ·(intro w' hSw; (try dsimp only at hSw); go_simp; try (with_reducible rfl))
 (try simp only [pS, pB, pZ, pC])
 refine tk 30 32 ?_ rfl ?_ ?_
 rotate_left
 ·(intro w' hSw; (try dsimp only at hSw); go_simp; try (with_reducible rfl))
 (try simp only [pS, pB, pZ, pC])
 refine tk 31 33 ?_ rfl ?_ ?_
 rotate_left
 ·(intro w' hSw; (try dsimp only at hSw); go_simp; try (with_reducible rfl))
 (try simp only [pS, pB, pZ, pC])
 refine tk 32 34 ?_ rfl ?_ ?_
 rotate_left
 ·(intro w' hSw; (try dsimp only at hSw); (have hc := hSw.1.cell 11; go_simp); try (with_reducible rfl))
 (try simp only [pS, pB, pZ, pC])
 refine tk 33 35 ?_ rfl ?_ ?_
 rotate_left
 ·(intro w' hSw; (try dsimp only at hSw); go_simp; try (with_reducible rfl))
 (try simp only [pS, pB, pZ, pC])
 refine tk 34 36 ?_ rfl ?_ ?_
 rotate_left
 ·(intro w' hSw; (try dsimp only at hSw); go_simp; try (with_reducible rfl))
 (try simp only [pS, pB, pZ, pC])
 refine tk 35 37 ?_ rfl ?_ ?_
 rotate_left
 ·(intro w' hSw; (try dsimp only at hSw); go_simp; try (with_reducible rfl))
 (try simp only [pS, pB, pZ, pC])
 refine tk 36 38 ?_ rfl ?_ ?_
 rotate_left
 ·(intro w' hSw; (try dsimp only at hSw); (have hc := hSw.1.cell 12; go_simp); try (with_reducible rfl))
 (try simp only [pS, pB, pZ, pC])
 refine tk 37 39 ?_ rfl ?_ ?_
 rotate_left
 ·(intro w' hSw; (try dsimp only at hSw); go_simp; try (with_reducible rfl))
 (try simp only [pS, pB, pZ, pC])
 refine tk 38 40 ?_ rfl ?_ ?_
 rotate_left
 ·(intro w' hSw; (try dsimp only at hSw); go_simp; try (with_reducible rfl))
 (try simp only [pS, pB, pZ, pC])
 refine tk 39 41 ?_ rfl ?_ ?_
 rotate_left
 ·(intro w' hSw; (try dsimp only at hSw); go_simp; try (with_reducible rfl))
 (try simp only [pS, pB, pZ, pC])
 refine tk 41 42 ?_ rfl ?_ ?_
 rotate_left
 ·(intro w' hSw; (try dsimp only at hSw); go_simp; try (with_reducible rfl))
 (try simp only [pS, pB, pZ, pC])
 refine tk 42 43 ?_ rfl ?_ ?_
 rotate_left
 ·(intro w' hSw; (try dsimp only at hSw); (have hc := hSw.1.cell 13; go_simp); try (with_reducible rfl))
 (try simp only [pS, pB, pZ, pC])
 refine tk 43 44 ?_ rfl ?_ ?_
 rotate_left
 ·(intro w' hSw; (try dsimp only at hSw); go_simp; try (with_reducible rfl))
 (try simp only [pS, pB, pZ, pC])
 refine tk 44 45 ?_ rfl ?_ ?_
 rotate_left
 ·(intro w' hSw; (try dsimp only at hSw); go_simp; try (with_reducible rfl))
 (try simp only [pS, pB, pZ, pC])
 refine tk 46 46 ?_ rfl ?_ ?_
 rotate_left
 ·(intro w' hSw; (try dsimp only at hSw); go_simp; try (with_reducible rfl))
 (try simp only [pS, pB, pZ, pC])
 refine tk 47 47 ?_ rfl ?_ ?_
 rotate_left
 ·(intro w' hSw; (try dsimp only at hSw); (have hc := hSw.1.cell 14; go_simp); try (with_reducible rfl))
 (try simp only [pS, pB, pZ, pC])
 refine tk 48 48 ?_ rfl ?_ ?_
 rotate_left
 ·(intro w' hSw; (try dsimp only at hSw); go_simp; try (with_reducible rfl))
 (try simp only [pS, pB, pZ, pC])
 refine tk 49 49 ?_ rfl ?_ ?_
 rotate_left
 ·(intro w' hSw; (try dsimp only at hSw); go_simp; try (with_reducible rfl))
 (try simp only [pS, pB, pZ, pC])
 refine tk 51 50 ?_ rfl ?_ ?_
 rotate_left
 ·(intro w' hSw; (try dsimp only at hSw); go_simp; try (with_reducible rfl))
 (try simp only [pS, pB, pZ, pC])
 refine tk 52 51 ?_ rfl ?_ ?_
 rotate_left
 ·(intro w' hSw; (try dsimp only at hSw); (have hc := hSw.2.1.cell 0; go_simp); try (with_reducible rfl))
 (try simp only [pS, pB, pZ, pC])
 refine tk 53 52 ?_ rfl ?_ ?_
 rotate_left
 ·(intro w' hSw; (try dsimp only at hSw); go_simp; try (with_reducible rfl))
 (try simp only [pS, pB, pZ, pC])
 refine tk 54 53 ?_ rfl ?_ ?_
 rotate_left
 ·(intro w' hSw; (try dsimp only at hSw); go_simp; try (with_reducible rfl))
 (try simp only [pS, pB, pZ, pC])
 refine tk 55 54 ?_ rfl ?_ ?_
 rotate_left
 ·(intro w' hSw; (try dsimp only at hSw); go_simp; try (with_reducible rfl))
 (try simp only [pS, pB, pZ, pC])
 refine tk 56 55 ?_ rfl ?_ ?_
 rotate_left
 ·(intro w' hSw; (try dsimp only at hSw); (have hc := hSw.2.1.cell 1; go_simp); try (with_reducible rfl))
 (try simp only [pS, pB, pZ, pC])
 refine tk 57 56 ?_ rfl ?_ ?_
 rotate_left
 ·(intro w' hSw; (try dsimp only at hSw); go_simp; try (with_reducible rfl))
 (try simp only [pS, pB, pZ, pC])
 refine tk 58 57 ?_ rfl ?_ ?_
 rotate_left
 ·(intro w' hSw; (try dsimp only at hSw); go_simp; try (with_reducible rfl))
 (try simp only [pS, pB, pZ, pC])
 refine tk 59 58 ?_ rfl ?_ ?_
 rotate_left
 ·(intro w' hSw; (try dsimp only at hSw); go_simp; try (with_reducible rfl))
 (try simp only [pS, pB, pZ, pC])
 refine tk 60 59 ?_ rfl ?_ ?_
 rotate_left
 ·(intro w' hSw; (try dsimp only at hSw); go_simp; try (with_reducible rfl))
 (try simp only [pS, pB, pZ, pC])
 refine tk 61 60 ?_ rfl ?_ ?_
 rotate_left
 ·(intro w' hSw; (try dsimp only at hSw); (have hc := hSw.2.1.cell 2; go_simp); try (with_reducible rfl))
 (try simp only [pS, pB, pZ, pC])
 refine tk 62 61 ?_ rfl ?_ ?_
 rotate_left
 ·(intro w' hSw; (try dsimp only at hSw); go_simp; try (with_reducible rfl))
 (try simp only [pS, pB, pZ, pC])
 refine tk 63 62 ?_ rfl ?_ ?_
 rotate_left
 ·(intro w' hSw; (try dsimp only at hSw); go_simp; try (with_reducible rfl))
 (try simp only [pS, pB, pZ, pC])
 refine tk 64 63 ?_ rfl ?_ ?_
 rotate_left
 ·(intro w' hSw; (try dsimp only at hSw); (have hc := hSw.2.1.cell 3; go_simp); try (with_reducible rfl))
 (try simp only [pS, pB, pZ, pC])
 refine tk 65 64 ?_ rfl ?_ ?_
 rotate_left
 ·(intro w' hSw; (try dsimp only at hSw); go_simp; try (with_reducible rfl))
 (try simp only [pS, pB, pZ, pC])
 refine tk 66 65 ?_ rfl ?_ ?_
 rotate_left
 ·(intro w' hSw; (try dsimp only at hSw); go_simp; try (with_reducible rfl))
 (try simp only [pS, pB, pZ, pC])
 refine tk 67 66 ?_ rfl ?_ ?_
 rotate_left
 ·(intro w' hSw; (try dsimp only at hSw); go_simp; try (with_reducible rfl))
 (try simp only [pS, pB, pZ, pC])
 refine tk 68 67 ?_ rfl ?_ ?_
 rotate_left
 ·(intro w' hSw; (try dsimp only at hSw); go_simp; try (with_reducible rfl))
 (try simp only [pS, pB, pZ, pC])
 have hmk := run_makeMap (P := Tryz.prog) 197 w2.drew
 have hlt1 : w.heap.size + 1 < w2.drew.heap.size := hHeld.2.1.lt
 have M0 : (w2.drew.alloc (.map #[] 0)).ownsMap Tryz.prog 3 boolR w2.drew.heap.size 0 (bitsD []) := World.ownsMap_made w2.drew Tryz.prog 3 boolR
 refine rd 0 (some 9) (by kernel_rfl) rfl fun K hK => ?_
 go_simp
 skip
 refine hK.out _ _ ?_ (fun hHeld => ?_)
 ·first | done | ((try dsimp only); exact ⟨hHeld.1.alloc _, hHeld.2.1.alloc _, hHeld.2.2.alloc hHeld.2.2.size _⟩)
 clear hK K
 (try simp only [pS, pB, pZ, pC])
 clear hmk
 refine anyH_bag [4, 8, 12, 16, 20, 24, 29, 40, 45, 50, 69] (by decide) (by kernel_rfl) (BagI w2.drew.heap.size) _ 2 ?_ ?_ _ ⟨[], rfl, M0, by simp⟩ hHeld
 ·intro j hj m wj K ⟨l, hl, hown, hk⟩ hS hK
  simp only [List.mem_cons, List.not_mem_nil, or_false] at hj
  rcases hj with rfl | rfl | rfl | rfl | rfl | rfl | rfl | rfl | rfl | rfl | rfl
  ·refine wpOp_ins (o := ⟨none, _, _, _, _, _⟩) rfl rfl rfl _ _ _ rfl w2.drew.heap.size _ _ rfl hown (by omega) 1 _ rfl (by omega) (by omega) rfl (fun w' hown' hgr => hK w' ⟨_ :: l, by simp only [List.length_cons]; omega, hown', fun p hp hpb => ?_⟩ (bareS hS hgr (fun q e => by cases e; rfl) hlt1))
   rcases List.mem_cons.1 hp with rfl | hp
   ·exact by simp
   ·exact hk p hp hpb
  ·refine wpOp_ins (o := ⟨none, _, _, _, _, _⟩) rfl rfl rfl _ _ _ rfl w2.drew.heap.size _ _ rfl hown (by omega) 2 _ rfl (by omega) (by omega) rfl (fun w' hown' hgr => hK w' ⟨_ :: l, by simp only [List.length_cons]; omega, hown', fun p hp hpb => ?_⟩ (bareS hS hgr (fun q e => by cases e; rfl) hlt1))
   rcases List.mem_cons.1 hp with rfl | hp
   ·exact by simp
   ·exact hk p hp hpb
  ·refine wpOp_ins (o := ⟨none, _, _, _, _, _⟩) rfl rfl rfl _ _ _ rfl w2.drew.heap.size _ _ rfl hown (by omega) 4 _ rfl (by omega) (by omega) rfl (fun w' hown' hgr => hK w' ⟨_ :: l, by simp only [List.length_cons]; omega, hown', fun p hp hpb => ?_⟩ (bareS hS hgr (fun q e => by cases e; rfl) hlt1))
   rcases List.mem_cons.1 hp with rfl | hp
   ·exact by simp
   ·exact hk p hp hpb
  ·refine wpOp_ins (o := ⟨none, _, _, _, _, _⟩) rfl rfl rfl _ _ _ rfl w2.drew.heap.size _ _ rfl hown (by omega) 8 _ rfl (by omega) (by omega) rfl (fun w' hown' hgr => hK w' ⟨_ :: l, by simp only [List.length_cons]; omega, hown', fun p hp hpb => ?_⟩ (bareS hS hgr (fun q e => by cases e; rfl) hlt1))
   rcases List.mem_cons.1 hp with rfl | hp
   ·exact by simp
   ·exact hk p hp hpb
  ·refine wpOp_ins (o := ⟨none, _, _, _, _, _⟩) rfl rfl rfl _ _ _ rfl w2.drew.heap.size _ _ rfl hown (by omega) 16 _ rfl (by omega) (by omega) rfl (fun w' hown' hgr => hK w' ⟨_ :: l, by simp only [List.length_cons]; omega, hown', fun p hp hpb => ?_⟩ (bareS hS hgr (fun q e => by cases e; rfl) hlt1))
   rcases List.mem_cons.1 hp with rfl | hp
   ·exact by cases hpb
   ·exact hk p hp hpb
  ·refine wpOp_ins (o := ⟨none, _, _, _, _, _⟩) rfl rfl rfl _ _ _ rfl w2.drew.heap.size _ _ rfl hown (by omega) 32 _ rfl (by omega) (by omega) rfl (fun w' hown' hgr => hK w' ⟨_ :: l, by simp only [List.length_cons]; omega, hown', fun p hp hpb => ?_⟩ (bareS hS hgr (fun q e => by cases e; rfl) hlt1))
   rcases List.mem_cons.1 hp with rfl | hp
   ·exact by cases hpb
   ·exact hk p hp hpb
  ·refine wpOp_ins (o := ⟨none, _, _, _, _, _⟩) rfl rfl rfl _ _ _ rfl w2.drew.heap.size _ _ rfl hown (by omega) 64 _ rfl (by omega) (by omega) rfl (fun w' hown' hgr => hK w' ⟨_ :: l, by simp only [List.length_cons]; omega, hown', fun p hp hpb => ?_⟩ (bareS hS hgr (fun q e => by cases e; rfl) hlt1))
   rcases List.mem_cons.1 hp with rfl | hp
   ·exact by cases hpb
   ·exact hk p hp hpb
  ·refine wpOp_ins (o := ⟨none, _, _, _, _, _⟩) rfl rfl rfl _ _ _ rfl w2.drew.heap.size _ _ rfl hown (by omega) 128 _ rfl (by omega) (by omega) rfl (fun w' hown' hgr => hK w' ⟨_ :: l, by simp only [List.length_cons]; omega, hown', fun p hp hpb => ?_⟩ (bareS hS hgr (fun q e => by cases e; rfl) hlt1))
   rcases List.mem_cons.1 hp with rfl | hp
   ·exact by simp
   ·exact hk p hp hpb
  ·refine wpOp_ins (o := ⟨none, _, _, _, _, _⟩) rfl rfl rfl _ _ _ rfl w2.drew.heap.size _ _ rfl hown (by omega) 256 _ rfl (by omega) (by omega) rfl (fun w' hown' hgr => hK w' ⟨_ :: l, by simp only [List.length_cons]; omega, hown', fun p hp hpb => ?_⟩ (bareS hS hgr (fun q e => by cases e; rfl) hlt1))
   rcases List.mem_cons.1 hp with rfl | hp
   ·exact by cases hpb
   ·exact hk p hp hpb
  ·refine wpOp_ins (o := ⟨none, _, _, _, _, _⟩) rfl rfl rfl _ _ _ rfl w2.drew.heap.size _ _ rfl hown (by omega) 512 _ rfl (by omega) (by omega) rfl (fun w' hown' hgr => hK w' ⟨_ :: l, by simp only [List.length_cons]; omega, hown', fun p hp hpb => ?_⟩ (bareS hS hgr (fun q e => by cases e; rfl) hlt1))
   rcases List.mem_cons.1 hp with rfl | hp
   ·exact by simp
   ·exact hk p hp hpb
  ·refine wpOp_ins (o := ⟨none, _, _, _, _, _⟩) rfl rfl rfl _ _ _ rfl w2.drew.heap.size _ _ rfl hown (by omega) 1024 _ rfl (by omega) (by omega) rfl (fun w' hown' hgr => hK w' ⟨_ :: l, by simp only [List.length_cons]; omega, hown', fun p hp hpb => ?_⟩ (bareS hS hgr (fun q e => by cases e; rfl) hlt1))
   rcases List.mem_cons.1 hp with rfl | hp
   ·exact by cases hpb
   ·exact hk p hp hpb
 ·intro w4 ⟨l, hl, hown, hk⟩ hS
  obtain ⟨w5, hrun, r1, r2, r3⟩ := hown.range (Maps.int_keyed Tryz.underlying3) Tryz.underlying197
  have hrun : (Instr.range 197 (.map (some w2.heap.size))).run Tryz.prog w4 = .ok (.pointer (some ⟨w4.heap.size, 0, none⟩)) w5 := hrun
  refine tk 70 68 ?_ rfl ?_ ?_
  rotate_left
  ·(intro w' hSw; (try dsimp only at hSw); go_simp; try (with_reducible rfl))
  (try simp only [pS, pB, pZ, pC])
  have hS5 := bareS hS r2 (fun q e => by cases e) hlt1
  refine rd 71 (some 69) (by kernel_rfl) rfl fun K hK => ?_
  go_simp
  skip
  refine hK.out _ _ ?_ (fun hHeld => ?_)
  ·first | done | ((try dsimp only); exact hS5)
  clear hK K
  (try simp only [pS, pB, pZ, pC])
  refine wpAnyH_done (by kernel_rfl) ?_ _
  obtain ⟨X2, Y2, P2⟩ := hS5
  have hlt4 : w.heap.size < w4.heap.size := hS.1.lt
  have HKK := Lib.hid hk
  have r1 : w5.ranges Tryz.prog 3 boolR w2.heap.size w4.heap.size l.length (bitsD l) _ _ := r1
  have HR1 := Lib.hid r1
  clear hrun hk hHeld hS Y2 M0 hlt1 r1 hown r2 r3
  generalize w2.heap.size = mb at *
  have hwr : IntKind.i64.wrap ((nd : Int) + (nc : Int)) = (nd : Int) + nc := by rw [IntKind.wrap_i64]; omega
  simp only [hwr]
  clear hwr
  generalize (nd : Int) + (nc : Int) = nn at *
  go_wp2_with fail
  go_loopw [4] (fun m wr => ∃ (v : Int) (left : Lit → Bool) (cnt : Nat), m = .int .i64 v ∧ OkM v ∧ wr.ranges Tryz.prog 3 boolR mb w4.heap.size l.length (bitsD l) left cnt ∧ Below w.heap.size w wr ∧ Blk wr w.heap.size 41 #[.int .i64 0, .int .i64 day, .int .i64 known, .int .i64 file, .int .i64 office, .int .i64 party, .int .i64 other, .int .i64 0, .int .i64 0, .int .i64 0, .int .i64 0, .slice Ad nd cd, .slice Ac nc cc, .slice Al 0 cl, .slice Ae ne ce, .int .i64 0, .int .i64 0, .slice Ai 0 ci, .slice Ak 0 ck]) (fun _ wr => wr.rangeLeft mb w4.heap.size)
  case atStart => exact ⟨0, _, _, rfl, OkM.zero, HR1.out, P2, X2⟩
  case round =>
   obtain ⟨v, left, cnt, rfl, hv, hrg, hB, hX⟩ := hrel
   have HV := Lib.hid hv
   have HRG := Lib.hid hrg
   clear hv hrg
   have hc : wr.cell? ⟨w.heap.size, 0, none⟩ = some (.int .i64 0) := hX.cell 0
   have hG2 := (hB.cell (p := ⟨0, 0, none⟩) h0).trans hG
   go_wp2_with (at_next; refine wpList_next_bits rfl _ rfl l HKK.out mb w4.heap.size _ _ _ rfl HRG.out ?_ (fun x w6 left6 cnt6 hr6 hlt6 hg6 he6 => ?_) (fun x w6 left6 cnt6 hx6 hr6 hlt6 hg6 he6 => ?_))
   ·go_ret
    refine ⟨?_, hB⟩
    refine congrArg (fun b => Ending.returned (Value.bool b)) (a₂ := true) ?_
    have h7 := OkM.clear HV.out
    show (IntKind.i64.wrap (((BitVec.ofInt 64 v &&& ~~~(BitVec.ofInt 64 655)).toNat : Nat) : Int) == 0) = true
    rw [h7]
    rfl
   ·have X6 := hX.grown hg6 (fun e => by injection e with e; omega)
    have P6 := hB.grown hg6 hB.size (fun q e => by injection e with e; omega)
    have hm6 : w6.rangeLeft mb w4.heap.size < wr.rangeLeft mb w4.heap.size := by rw [hr6.out.left_eq, HRG.out.left_eq]; omega
    go_roundw
    case rel => exact ⟨_, _, _, _, _, _, _, _, _, _, _, _, ⟨v, left6, cnt6, rfl, HV.out, hr6.out, P6, X6⟩, rfl⟩
    case measure => exact hm6
   ·have X6 := hX.grown hg6 (fun e => by injection e with e; omega)
    have P6 := hB.grown hg6 hB.size (fun q e => by injection e with e; omega)
    have hm6 : w6.rangeLeft mb w4.heap.size < wr.rangeLeft mb w4.heap.size := by rw [hr6.out.left_eq, HRG.out.left_eq]; omega
    go_roundw
    case rel => exact ⟨_, _, _, _, _, _, _, _, _, _, _, _, ⟨_, left6, cnt6, rfl, OkM.or HV.out hx6.out, hr6.out, P6, X6⟩, rfl⟩
    case measure => exact hm6
end Go.Proofs.YtbeaijjaecaidaaGreatDoor
namespace Go.Proofs.YtbeaijjaecaidaaGreatDoor
open Go.RowKit Go.Shelf
attribute [local go_sem] Oper.semAt_some
def prD (e : List (Int × Int)) : List D := e.flatMap fun p => [.v (.int .i64 p.1), .v (.int .i64 p.2)]
theorem prD_length (e : List (Int × Int)) : (prD e).length = e.length * 2 := flat_length (fun _ _ => rfl)
theorem Rep.pairs {W : World} {B : Nat} {v : Value} {l : List (Int × Int)} (h : Rep W B v (.s 2 (prD l))) : ∃ (A : Option Addr) (c : Nat), v = .slice A l.length c ∧ l.length ≤ c ∧
  ∀ (k : Nat) (hk : k < l.length), ∃ b o, A = some ⟨b, o, none⟩ ∧ b < B ∧ W.cell? ⟨b, o + k * 2, none⟩ = some (.int .i64 l[k].1) ∧ W.cell? ⟨b, o + k * 2 + 1, none⟩ = some (.int .i64 l[k].2) := by
 obtain ⟨A, n, c, rfl, hn, hl, hc⟩ := h.slice
 rw [prD_length] at hl
 obtain rfl : n = l.length := by omega
 refine ⟨A, c, rfl, hn, fun k hk => ?_⟩
 obtain ⟨b, o, cs, rfl, hb, hr, hcell⟩ := hc (by omega)
 have hp := flat_part (l := l) (f := fun p => [D.v (.int .i64 p.1), D.v (.int .i64 p.2)]) (k := 2) (i := k) (a := l[k]) (fun _ _ => rfl) (List.getElem?_eq_getElem hk)
 have hr2 := (hr.drop (k * 2)).take 2
 unfold prD at hr2
 rw [hp] at hr2
 have hlen := hr.1
 rw [prD_length] at hlen
 have g0 : k * 2 < cs.length := by omega
 have g1 : k * 2 + 1 < cs.length := by omega
 have e : (cs.drop (k * 2)).take 2 = [cs[k * 2], cs[k * 2 + 1]] := by
  rw [List.drop_eq_getElem_cons g0, List.drop_eq_getElem_cons g1]
  rfl
 rw [e] at hr2
 have q0 := (hr2.2 0 _ _ rfl rfl).plain
 have q1 := (hr2.2 1 _ _ rfl rfl).plain
 refine ⟨b, o, rfl, hb, ?_, ?_⟩
 ·rw [← q0]; exact hcell _ _ (List.getElem?_eq_getElem g0)
 ·rw [← q1]; exact hcell _ _ (List.getElem?_eq_getElem g1)
structure Fil where
 day : Int
 known : Int
 file : Int
 office : Int
 party : Int
 other : Int
 d : List F
 c : List Cl
 e : List (Int × Int)
def Fil.vals (f : Fil) (dv cv ev : Value) : Array Value :=
 #[.int .i64 0, .int .i64 f.day, .int .i64 f.known, .int .i64 f.file, .int .i64 f.office, .int .i64 f.party, .int .i64 f.other, .int .i64 0, .int .i64 0, .int .i64 0, .int .i64 0, dv, cv, .slice none 0 0, ev, .int .i64 0, .int .i64 0, .slice none 0 0, .slice none 0 0]
def OkFil (f : Fil) : Prop := (0 ≤ f.day ∧ f.day ≤ 131072) ∧ (0 ≤ f.known ∧ f.known ≤ 1099511627776) ∧ (0 ≤ f.file ∧ f.file ≤ 4095) ∧ (0 ≤ f.office ∧ f.office ≤ 11) ∧ (1 ≤ f.party ∧ f.party ≤ 4095) ∧ (-1 ≤ f.other ∧ f.other ≤ 4095 ∧ f.other ≠ f.file) ∧
 OkTx f.d f.c ∧ f.e.length ≤ 8 ∧ (∀ p ∈ f.e, (0 ≤ p.1 ∧ p.1 ≤ 4095) ∧ (0 ≤ p.2 ∧ p.2 ≤ 131072) ∧ p.1 ≠ f.file) ∧ (f.e.map Prod.fst).Nodup
def FilAt (W : World) (B : Nat) (f : Fil) (dv cv ev : Value) : Prop := Rep W B dv (.s 4 (f.d.flatMap F.cells)) ∧ Rep W B cv (.s 5 (f.c.flatMap Cl.cells)) ∧ Rep W B ev (.s 2 (prD f.e))
theorem FilAt.keep {W W' : World} {B B' : Nat} {f : Fil} {dv cv ev : Value} (h : FilAt W B f dv cv ev) (hk : ∀ p : Addr, p.block < B → W'.cell? p = W.cell? p) (hB : B ≤ B') : FilAt W' B' f dv cv ev := ⟨h.1.keep hk hB, h.2.1.keep hk hB, h.2.2.keep hk hB⟩
theorem actwithin_any (x lo hi : Int) (h0 : lo ≤ x) (h1 : x ≤ hi) (w : World) :
  Calls Tryz.prog 99 #[.int .i64 x, .int .i64 lo, .int .i64 hi] w fun e w' => e = .returned (.bool true) ∧ w' = w := by
 have d0 : decide (lo ≤ x) = true := decide_eq_true h0
 have d1 : decide (x ≤ hi) = true := decide_eq_true h1
 go_enter Tryz.func99, Tryz.ntmps99
 go_wp2_with fail
 go_ret
 exact ⟨rfl, rfl⟩
def seen (l : List Int) : List (Int × Bool) := l.map fun x => (x, true)
theorem bitsD_none (x : Int) (zd : DataW Unit) : ∀ (l : List (Int × Bool)), (∀ p ∈ l, p.1 ≠ x) → (bitsD l).atKey (.int .i64 x) zd = zd
 | [], _ => by unfold bitsD; simp [DataW.atKey]
 | p :: l, h => by
  rw [bitsD, Maps.atKey_put_other (fun e => h p (by simp) (by injection e with _ e; exact e.symm))]
  exact bitsD_none x zd l (fun q hq => h q (by simp [hq]))
theorem zero_bool (w : World) : (zeroValue 4).run Tryz.prog w = .ok (.bool false) w := by
 kernel_rfl
def Seen (W : World) (mb : Nat) (l : List Int) : Prop := W.ownsMap Tryz.prog 3 boolR mb l.length (bitsD (seen l))
set_option maxRecDepth 100000 in
set_option maxHeartbeats 2000000 in
theorem afil1_any (x day : Int) (hx0 : 0 ≤ x) (hx1 : x ≤ 4095) (hd0 : 0 ≤ day) (hd1 : day ≤ 131072) (kb mb : Nat) (l : List Int) (hne : x ∉ l) (hl : l.length ≤ 100) (W : World) (hk : Blk W kb 197 #[.map (some mb)]) (hm : Seen W mb l) :
  Calls Tryz.prog 173 #[.agg #[.int .i64 x, .int .i64 day], .pointer (some ⟨kb, 0, none⟩)] W fun e w' => e = .returned (.bool false) ∧ Seen w' mb (x :: l) ∧ W.grownBy w' (some mb) := by
 have HA := Lib.hid (fun W => actwithin_any x 0 4095 hx0 hx1 W)
 have HB := Lib.hid (fun W => actwithin_any day 0 131072 hd0 hd1 W)
 have hc := (hk.alloc (.cells #[.int .i64 x, .int .i64 day] 106)).c1
 have X0 := Blk.new W 106 #[.int .i64 x, .int .i64 day]
 have hmW : Seen (W.alloc (.cells #[.int .i64 x, .int .i64 day] 106)) mb l := hm.kept (World.grownBy_alloc W _ none) (by simp)
 have hmb : mb < W.heap.size := hm.lt
 have hkey : keyOf Tryz.prog 3 (.int .i64 x) = some (.int .i64 x) := Maps.keyOf_int_mk Tryz.underlying3 (WalkArith.wf_i64 ⟨by omega, by omega⟩)
 obtain ⟨v, ps, hrun, hv⟩ := hmW.lookup (Maps.int_keyed Tryz.underlying3) Tryz.underlying197 (zero_bool _) (zd := .lit (.bool false)) (zp := []) rfl hkey
 rw [bitsD_none x _ (seen l) (fun p hp => by
  obtain ⟨y, hy, rfl⟩ := List.mem_map.1 hp
  exact fun e => hne (e ▸ hy))] at hv
 obtain rfl : v = .bool false := by
  cases v with
  | bool b => simp [boolR] at hv; rw [hv.1]
  | _ => simp [boolR] at hv
 have HM := Lib.hid hmW
 clear hv hm hmW hk
 have hc2 := X0.c2
 go_enter Tryz.func173, Tryz.ntmps173
 go_wp2_with (at_mapUpdate; refine wpList_mapUpdate_own _ rfl _ _ _ 197 rfl 3 4 (Maps.int_keyed Tryz.underlying3) Tryz.underlying197 boolR mb l.length (bitsD (seen l)) rfl HM.out (by unfold maxLen; omega) (.int .i64 x) (.bool true) (.int .i64 x) rfl rfl hkey (.lit (.bool true)) [] rfl ?_; intro w4 ho4 hg4; have X4 := (X0.grown hg4 (fun e => by injection e with e; omega)).c2)
 refine (HA.out _).mono ?_
 rintro e w5 ⟨rfl, rfl⟩
 go_wp2_with fail
 refine (HB.out _).mono ?_
 rintro e w5 ⟨rfl, rfl⟩
 go_wp2_with fail
 go_ret
 exact ⟨rfl, ho4, grown_up (World.grownBy_alloc W _ (some mb)) hg4 (fun k e _ => e)⟩
set_option maxRecDepth 100000 in
set_option maxHeartbeats 2000000 in
theorem eindex_any (w : World) (e : List (Int × Int)) (v : Value) (B : Nat) (hr : Rep w B v (.s 2 (prD e))) (he : e.length ≤ 8) (hok : ∀ p ∈ e, (0 ≤ p.1 ∧ p.1 ≤ 4095) ∧ (0 ≤ p.2 ∧ p.2 ≤ 131072)) (file : Int) (hne : ∀ p ∈ e, p.1 ≠ file) (hnd : (e.map Prod.fst).Nodup)
  (kb mb : Nat) (hkb : B ≤ kb) (hmb : B ≤ mb) (hlt : kb ≠ mb) (hk : Blk w kb 197 #[.map (some mb)]) (hm : Seen w mb [file]) :
  Calls Tryz.prog 191 #[v, .func (.func 173) #[] #[.pointer (some ⟨kb, 0, none⟩)]] w fun x w' => x = .returned (.int .i64 (-1)) ∧ w.grownBy w' (some mb) := by
 obtain ⟨A, c, rfl, hc, hcell⟩ := hr.pairs
 clear hr
 have HCELL := Lib.hid hcell
 have HOK := Lib.hid hok
 have HNE := Lib.hid hne
 have HND := Lib.hid hnd
 clear hcell hok hne hnd
 go_enter Tryz.func191, Tryz.ntmps191
 go_wp2
 go_loopw [8] (fun i wr => ∃ k : Nat, i = .int .i64 (k : Int) ∧ k ≤ e.length ∧ Seen wr mb (file :: (e.take k).map Prod.fst).reverse ∧ w.grownBy wr (some mb)) (fun i _ => e.length - (intOf i).toNat)
 case atStart => exact ⟨0, rfl, Nat.zero_le _, hm, World.grownBy.refl w _⟩
 case round =>
  obtain ⟨k, rfl, hk2, hS, hG⟩ := hrel
  by_cases hlt2 : k < e.length
  ·obtain ⟨b, o, rfl, hb, c0, c1⟩ := HCELL.out k hlt2
   obtain ⟨⟨p0, p1⟩, p2, p3⟩ := HOK.out e[k] (List.getElem_mem hlt2)
   have d0 := (World.cell?_of_block (a := ⟨b, o + k * 2, none⟩) (hG.block b (Nat.lt_trans (Nat.lt_of_lt_of_le hb hkb) hk.lt) (fun e => by injection e with e; omega))).trans c0
   have d1 := (World.cell?_of_block (a := ⟨b, o + k * 2 + 1, none⟩) (hG.block b (Nat.lt_trans (Nat.lt_of_lt_of_le hb hkb) hk.lt) (fun e => by injection e with e; omega))).trans c1
   have hkk := hk.grown hG (fun e => by injection e with e; omega)
   have hns : e[k].1 ∉ (file :: (e.take k).map Prod.fst).reverse := by
    rw [List.mem_reverse, List.mem_cons]
    rintro (h | h)
    ·exact HNE.out e[k] (List.getElem_mem hlt2) h
    ·obtain ⟨q, hq, h⟩ := List.mem_map.1 h
     obtain ⟨j, hj, rfl⟩ := List.getElem_of_mem hq
     rw [List.length_take] at hj
     have := (List.nodup_iff_pairwise_ne.1 HND.out)
     rw [List.pairwise_iff_getElem] at this
     refine this j k (by simp; omega) (by simp; omega) (by omega) ?_
     simpa using h
   have HC := Lib.hid (afil1_any e[k].1 e[k].2 p0 p1 p2 p3 kb mb _ hns (by simp; omega) wr hkk hS)
   have hrev : e[k].1 :: (file :: (e.take k).map Prod.fst).reverse = (file :: (e.take (k + 1)).map Prod.fst).reverse := by
    rw [List.take_add_one, List.getElem?_eq_getElem hlt2, Option.toList_some, List.map_append, List.map_cons, List.map_nil, ← List.cons_append, List.reverse_append]
    rfl
   rw [hrev] at HC
   clear c0 c1 hkk hns hrev hS
   generalize e[k].1 = x at *
   generalize e[k].2 = y at *
   go_wp2_with (refine HC.out.mono ?_; rintro x2 w2 ⟨rfl, hJ2, hk2⟩)
   go_roundw
   case rel => exact ⟨k + 1, by go_num, by omega, hJ2, grown_up hG hk2 (fun _ e _ => e)⟩
   case measure => simp [intOf]; omega
  ·obtain rfl : k = e.length := by omega
   go_wp2_with fail
   go_ret
   exact ⟨rfl, hG⟩
end Go.Proofs.YtbeaijjaecaidaaGreatDoor
namespace Go.Proofs.YtbeaijjaecaidaaGreatDoor
open Go.RowKit Go.Shelf
attribute [local go_sem] Oper.semAt_some
set_option maxRecDepth 100000 in
set_option maxHeartbeats 2000000 in
theorem econtains_any (w : World) (e : List (Int × Int)) (v : Value) (B : Nat) (hr : Rep w B v (.s 2 (prD e))) (he : e.length ≤ 8) (hok : ∀ p ∈ e, (0 ≤ p.1 ∧ p.1 ≤ 4095) ∧ (0 ≤ p.2 ∧ p.2 ≤ 131072)) (file : Int) (hne : ∀ p ∈ e, p.1 ≠ file) (hnd : (e.map Prod.fst).Nodup)
  (kb mb : Nat) (hkb : B ≤ kb) (hmb : B ≤ mb) (hlt : kb ≠ mb) (hk : Blk w kb 197 #[.map (some mb)]) (hm : Seen w mb [file]) :
  Calls Tryz.prog 172 #[v, .func (.func 173) #[] #[.pointer (some ⟨kb, 0, none⟩)]] w fun x w' => x = .returned (.bool false) ∧ w.grownBy w' (some mb) := by
 have HI := Lib.hid (eindex_any w e v B hr he hok file hne hnd kb mb hkb hmb hlt hk hm)
 obtain ⟨A, c, rfl, hc, hcell⟩ := hr.pairs
 clear hr hcell hok hne hnd hk hm
 go_enter Tryz.func172, Tryz.ntmps172
 go_wp2_with (go_at_call 191; refine HI.out.mono ?_; rintro x w2 ⟨rfl, hJ2⟩)
 go_ret
 exact ⟨rfl, hJ2⟩
set_option maxRecDepth 100000 in
set_option maxHeartbeats 4000000 in
theorem afiling_any (f : Fil) (hok : OkFil f) (dv cv ev : Value) (w : World) (B : Nat) (hBw : B ≤ w.heap.size) (h : FilAt w B f dv cv ev) :
  Calls Tryz.prog 147 #[.agg (f.vals dv cv ev)] w fun e w' => e = .returned (.bool true) ∧ Below w.heap.size w w' := by
 obtain ⟨day, known, file, office, party, other, d, c, el⟩ := f
 obtain ⟨hda, hkn, hfi, hof, hpa, hot, htx, hel, hep, hnd⟩ := hok
 obtain ⟨hd, hc, he⟩ := h
 dsimp only at hda hkn hfi hof hpa hot htx hel hep hnd hd hc he
 unfold Fil.vals
 dsimp only
 have HV := Lib.hid (fun (W : World) (hW : Below w.heap.size w W) => textvalid_any d c htx dv cv W B (Nat.le_trans hBw hW.size) (hd.keep (fun p hp => hW.cell (Nat.lt_of_lt_of_le hp hBw)) (Nat.le_refl _)) (hc.keep (fun p hp => hW.cell (Nat.lt_of_lt_of_le hp hBw)) (Nat.le_refl _)))
 have HC := Lib.hid (fun (W : World) (hW : Below w.heap.size w W) => econtains_any W el ev B (he.keep (fun p hp => hW.cell (Nat.lt_of_lt_of_le hp hBw)) (Nat.le_refl _)) hel (fun p hp => ⟨(hep p hp).1, (hep p hp).2.1⟩) file (fun p hp => (hep p hp).2.2) hnd)
 have HO := Lib.hid (fun W => actwithin_any other (-1) 4095 hot.1 hot.2.1 W)
 obtain ⟨Ad, cd, rfl, x1, x2⟩ := hd.formulas
 obtain ⟨Ac, cc, rfl, x3, x4⟩ := hc.claims
 obtain ⟨Ae, ce, rfl, x5, x6⟩ := he.pairs
 clear hd hc he htx hep hnd x1 x2 x3 x4 x5 x6
 generalize d.length = nd at *
 generalize c.length = nc at *
 generalize hne : el.length = ne at *
 have hof2 : (other == file) = false := by simpa using hot.2.2
 have hlen : decide (8 < (ne : Int)) = false := by simp; omega
 clear hot hda hkn hof hpa
 have hkey : keyOf Tryz.prog 3 (.int .i64 file) = some (.int .i64 file) := Maps.keyOf_int_mk Tryz.underlying3 (WalkArith.wf_i64 ⟨by omega, by omega⟩)
 have X0 := Blk.new w 41 #[.int .i64 0, .int .i64 day, .int .i64 known, .int .i64 file, .int .i64 office, .int .i64 party, .int .i64 other, .int .i64 0, .int .i64 0, .int .i64 0, .int .i64 0, .slice Ad nd cd, .slice Ac nc cc, .slice none 0 0, .slice Ae ne ce, .int .i64 0, .int .i64 0, .slice none 0 0, .slice none 0 0]
 have P0 := below_new w (.cells #[.int .i64 0, .int .i64 day, .int .i64 known, .int .i64 file, .int .i64 office, .int .i64 party, .int .i64 other, .int .i64 0, .int .i64 0, .int .i64 0, .int .i64 0, .slice Ad nd cd, .slice Ac nc cc, .slice none 0 0, .slice Ae ne ce, .int .i64 0, .int .i64 0, .slice none 0 0, .slice none 0 0] 41)
 have hcell := X0.c19
 go_enter Tryz.func147, Tryz.ntmps147
 go_wp2_with fail
 refine (HO.out _).mono ?_
 rintro e w1 ⟨rfl, rfl⟩
 go_wp2_with fail
 refine (HV.out _ P0).mono ?_
 rintro e w1 ⟨rfl, hb1⟩
 have X1 := X0.keep hb1
 have P1 := below_up P0 hb1 P0.size
 clear hcell X0 P0 hb1
 have hcell := (X1.alloc (.map #[] 0)).c19
 have hmk := run_makeMap (P := Tryz.prog) 197 w1
 have M0 : (w1.alloc (.map #[] 0)).ownsMap Tryz.prog 3 boolR w1.heap.size 0 (bitsD []) := World.ownsMap_made w1 Tryz.prog 3 boolR
 obtain ⟨w4, hrun, ho4, hg4'⟩ := M0.store (Maps.int_keyed Tryz.underlying3) Tryz.underlying197 (by unfold maxLen; omega) (key := .int .i64 file) (val := .bool true) hkey (d := .lit (.bool true)) (ps := []) rfl
 have hg4 := hg4'.grown
 have hlt1 := X1.lt
 have X4 := (X1.alloc (.map #[] 0)).grown hg4 (fun e => by injection e with e; omega)
 have P4 := (P1.alloc P1.size (.map #[] 0)).grown hg4 (Nat.le_trans P1.size (by simp)) (fun q e => by injection e with e; omega)
 have hs4 : w1.heap.size < w4.heap.size := Nat.lt_of_lt_of_le (by simp) hg4.size
 have K5 := Blk.new w4 197 #[.map (some w1.heap.size)]
 have g5 : w4.grownBy (w4.alloc (.cells #[.map (some w1.heap.size)] 197)) none := World.grownBy_alloc w4 _ none
 have X5 := (X4.grown g5 (by simp)).c19
 have P5 := P4.grown g5 P4.size (fun _ e => by cases e)
 have S5 : Seen (w4.alloc (.cells #[.map (some w1.heap.size)] 197)) w1.heap.size [file] := ho4.kept g5 (by simp)
 have HM := Lib.hid M0
 have HS := Lib.hid S5
 clear M0 ho4 hg4' S5
 go_wp2_with fail
 refine (HC.out _ P5 w4.heap.size w1.heap.size ?_ ?_ ?_ K5 HS.out).mono ?_
 ·omega
 ·omega
 ·omega
 rintro e w6 ⟨rfl, hg6⟩
 have P6 := P5.grown hg6 P5.size (fun q e => by injection e with e; omega)
 clear hrun hmk X5 hcell
 go_wp2_with fail
 go_ret
 exact ⟨rfl, P6⟩
end Go.Proofs.YtbeaijjaecaidaaGreatDoor
namespace Go.Proofs.YtbeaijjaecaidaaGreatDoor
open Go.RowKit Go.Shelf
attribute [local go_sem] Oper.semAt_some
set_option maxRecDepth 100000 in
set_option maxHeartbeats 1000000 in
theorem has_any (k : Int) (hk : k = 1 ∨ k = 2 ∨ k = 4) (g : Nat) (W : World) (hX : W.cell? ⟨g, 0, none⟩ = some (.int .i64 0)) (hG : W.cell? ⟨0, 0, none⟩ = some (.int .i64 655)) :
  Calls Tryz.prog 101 #[.int .i64 k, .pointer (some ⟨g, 0, none⟩)] W fun e w' => e = .returned (.bool true) ∧ w' = W := by
 rcases hk with rfl | rfl | rfl
 ·go_enter Tryz.func101, Tryz.ntmps101
  go_wp2_with fail
  go_ret
  exact ⟨rfl, rfl⟩
 ·go_enter Tryz.func101, Tryz.ntmps101
  go_wp2_with fail
  go_ret
  exact ⟨rfl, rfl⟩
 ·go_enter Tryz.func101, Tryz.ntmps101
  go_wp2_with fail
  go_ret
  exact ⟨rfl, rfl⟩
theorem wp_loadA {w : World} {g : Nat} {cs : Array Value} (h : Blk w g 41 cs) (hs : cs.size = 19) {o : Oper} {a : Act} {K : Act → World → Prop} {Q : Exit → Act → World → Prop} (x : Operand) (ho : o.op = .load 41 x)
  (hx : a.eval x = .pointer (some ⟨g, 0, none⟩)) (hK : K (a.put o.dst (.agg cs)) w) : o.wp Tryz.prog a w K Q := by
 refine wp_load_mid 41 x ho g 0 hx cs.toList _ (fun j v hv => by rw [Nat.zero_add, h.cell j, ← Array.getElem?_toList]; exact hv) Tryz.underlying41 rfl (by rw [Array.length_toList, hs]; kernel_rfl) ?_
 rw [Array.toArray_toList]
 exact hK
theorem wpList_loadA {w : World} {g : Nat} {cs : Array Value} (h : Blk w g 41 cs) (hs : cs.size = 19) {ops : Array Oper} {rest : List Oper} {o : Oper} {a : Act} {Q : Exit → Act → World → Prop} (x : Operand) (ho : o.op = .load 41 x) (hw : Region.wanted o (yielded ops a.tmps) = true)
  (hx : a.eval x = .pointer (some ⟨g, 0, none⟩)) (hK : wpList Tryz.prog ops Q rest (a.put o.dst (.agg cs)) w) : wpList Tryz.prog ops Q (o :: rest) a w :=
 wpList_step fun _ h2 => by
  rw [if_pos hw]
  exact wp_loadA h hs x ho hx (h2 _ _ hK)
set_option maxRecDepth 100000 in
set_option maxHeartbeats 2000000 in
theorem aformed_any (f : Fil) (hok : OkFil f) (dv cv ev : Value) (w : World) (B : Nat) (hBw : B ≤ w.heap.size) (h : FilAt w B f dv cv ev) :
  Calls Tryz.prog 102 #[.agg (f.vals dv cv ev)] w fun e w' => e = .returned (.bool true) ∧ Below w.heap.size w w' := by
 have HF := Lib.hid (fun (W : World) (hW : Below w.heap.size w W) => afiling_any f hok dv cv ev W B (Nat.le_trans hBw hW.size) (h.keep (fun p hp => hW.cell (Nat.lt_of_lt_of_le hp hBw)) (Nat.le_refl _)))
 clear h hok hBw
 obtain ⟨day, known, file, office, party, other, d, c, el⟩ := f
 unfold Fil.vals at *
 dsimp only at *
 clear d c el
 have X0 := Blk.new w 41 #[.int .i64 0, .int .i64 day, .int .i64 known, .int .i64 file, .int .i64 office, .int .i64 party, .int .i64 other, .int .i64 0, .int .i64 0, .int .i64 0, .int .i64 0, dv, cv, .slice none 0 0, ev, .int .i64 0, .int .i64 0, .slice none 0 0, .slice none 0 0]
 have P0 := below_new w (.cells #[.int .i64 0, .int .i64 day, .int .i64 known, .int .i64 file, .int .i64 office, .int .i64 party, .int .i64 other, .int .i64 0, .int .i64 0, .int .i64 0, .int .i64 0, dv, cv, .slice none 0 0, ev, .int .i64 0, .int .i64 0, .slice none 0 0, .slice none 0 0] 41)
 have hcell := X0.cell 0
 go_enter Tryz.func102, Tryz.ntmps102
 go_wp2_with (refine wpList_loadA X0 rfl _ rfl rfl rfl ?_)
 refine (HF.out _ P0).mono ?_
 rintro e w1 ⟨rfl, hb1⟩
 have P1 := below_up P0 hb1 P0.size
 clear hcell
 go_wp2_with fail
 go_ret
 exact ⟨rfl, P1⟩
set_option maxRecDepth 100000 in
set_option maxHeartbeats 4000000 in
theorem avalid_any (f : Fil) (hok : OkFil f) (dv cv ev : Value) (w : World) (hG : w.cell? ⟨0, 0, none⟩ = some (.int .i64 655)) (h0 : 0 < w.heap.size) (B : Nat) (hBw : B ≤ w.heap.size) (h : FilAt w B f dv cv ev) :
  Calls Tryz.prog 49 #[.agg (f.vals dv cv ev)] w fun e w' => e = .returned (.int .i64 0) ∧ Below w.heap.size w w' := by
 have HF := Lib.hid (fun (W : World) (hW : Below w.heap.size w W) => aformed_any f hok dv cv ev W B (Nat.le_trans hBw hW.size) (h.keep (fun p hp => hW.cell (Nat.lt_of_lt_of_le hp hBw)) (Nat.le_refl _)))
 obtain ⟨day, known, file, office, party, other, d, c, el⟩ := f
 obtain ⟨hda, hkn, hfi, hof, hpa, hot, htx, hel, hep, hnd⟩ := hok
 obtain ⟨hd, hc, he⟩ := h
 unfold Fil.vals at *
 dsimp only at *
 have hdl := htx.1
 have hcl := htx.2.2.1.1
 obtain ⟨Ad, cd, rfl, x1, x2⟩ := hd.formulas
 obtain ⟨Ac, cc, rfl, x3, x4⟩ := hc.claims
 obtain ⟨Ae, ce, rfl, x5, x6⟩ := he.pairs
 clear hd hc he htx hep hnd x1 x2 x3 x4 x5 x6 hot
 generalize d.length = nd at *
 generalize c.length = nc at *
 generalize hne : el.length = ne at *
 have HBa := Lib.hid (fun (W : World) (hW : Below w.heap.size w W) => bare_any W ((hW.cell (p := ⟨0, 0, none⟩) h0).trans hG) (Nat.lt_of_lt_of_le h0 hW.size) day known file office party other Ad Ac none Ae none none nd cd nc cc 0 ne ce 0 0 (by omega) (by omega))
 have HK := Lib.hid (fun W => actwithin_any 0 0 21 (by omega) (by omega) W)
 have HD := Lib.hid (fun W => actwithin_any day 0 131072 hda.1 hda.2 W)
 have HN := Lib.hid (fun W => actwithin_any known 0 1099511627776 hkn.1 hkn.2 W)
 have HFi := Lib.hid (fun W => actwithin_any file 0 4095 hfi.1 hfi.2 W)
 have HOf := Lib.hid (fun W => actwithin_any office 0 11 hof.1 hof.2 W)
 have HPa := Lib.hid (fun W => actwithin_any party 1 4095 hpa.1 hpa.2 W)
 clear hda hkn hfi hof hpa hel
 have X0 := Blk.new w 41 #[.int .i64 0, .int .i64 day, .int .i64 known, .int .i64 file, .int .i64 office, .int .i64 party, .int .i64 other, .int .i64 0, .int .i64 0, .int .i64 0, .int .i64 0, .slice Ad nd cd, .slice Ac nc cc, .slice none 0 0, .slice Ae ne ce, .int .i64 0, .int .i64 0, .slice none 0 0, .slice none 0 0]
 have P0 := below_new w (.cells #[.int .i64 0, .int .i64 day, .int .i64 known, .int .i64 file, .int .i64 office, .int .i64 party, .int .i64 other, .int .i64 0, .int .i64 0, .int .i64 0, .int .i64 0, .slice Ad nd cd, .slice Ac nc cc, .slice none 0 0, .slice Ae ne ce, .int .i64 0, .int .i64 0, .slice none 0 0, .slice none 0 0] 41)
 have hcell := X0.c19
 go_enter Tryz.func49, Tryz.ntmps49
 go_wp2_with fail
 refine (HK.out _).mono ?_
 rintro e w1 ⟨rfl, rfl⟩
 go_wp2_with fail
 refine (HD.out _).mono ?_
 rintro e w1 ⟨rfl, rfl⟩
 go_wp2_with fail
 refine (HN.out _).mono ?_
 rintro e w1 ⟨rfl, rfl⟩
 go_wp2_with (refine wpList_loadA X0 rfl _ rfl rfl rfl ?_)
 refine (HBa.out _ P0).mono ?_
 rintro e w1 ⟨rfl, hb1⟩
 have X1 := X0.keep hb1
 have P1 := below_up P0 hb1 P0.size
 clear hcell X0 P0 hb1
 have hcell := X1.c19
 have HH1 := Lib.hid (fun k (hk : k = 1 ∨ k = 2 ∨ k = 4) => has_any k hk w.heap.size w1 (X1.cell 0) ((P1.cell (p := ⟨0, 0, none⟩) h0).trans hG))
 go_wp2_with fail
 refine (HH1.out 1 (by omega)).mono ?_
 rintro e w2 ⟨rfl, rfl⟩
 go_wp2_with fail
 refine (HFi.out _).mono ?_
 rintro e w2 ⟨rfl, rfl⟩
 go_wp2_with fail
 refine (HH1.out 2 (by omega)).mono ?_
 rintro e w2 ⟨rfl, rfl⟩
 go_wp2_with fail
 refine (HOf.out _).mono ?_
 rintro e w2 ⟨rfl, rfl⟩
 go_wp2_with fail
 refine (HH1.out 4 (by omega)).mono ?_
 rintro e w2 ⟨rfl, rfl⟩
 go_wp2_with fail
 refine (HPa.out _).mono ?_
 rintro e w2 ⟨rfl, rfl⟩
 go_wp2_with (refine wpList_loadA X1 rfl _ rfl rfl rfl ?_)
 refine (HF.out _ P1).mono ?_
 rintro e w3 ⟨rfl, hb3⟩
 have P3 := below_up P1 hb3 P1.size
 clear hcell
 go_wp2_with fail
 go_ret
 exact ⟨rfl, P3⟩
end Go.Proofs.YtbeaijjaecaidaaGreatDoor
namespace Go.Proofs.YtbeaijjaecaidaaGreatDoor
open Go.RowKit Go.Shelf
attribute [local go_sem] Oper.semAt_some
def Fil.nums (f : Fil) : List Int := [0, f.day, f.known, f.file, f.office, f.party, f.other, 0, 0, 0, 0]
def prE (e : List (Int × Int)) : List Nat := e.flatMap fun p => intL p.1 ++ intL p.2
def encA (f : Fil) : List Nat := f.nums.flatMap intL ++ rawL (encT f.d f.c) ++ intL (f.e.length : Int) ++ prE f.e
theorem ints_flat {l : List Int} (h : ∀ x ∈ l, -9223372036854775808 ≤ x ∧ x ≤ 9223372036854775807) : (l.flatMap intL).length ≤ l.length * 10 := by
 induction l with
 | nil => simp
 | cons a l ih =>
  have h1 := intL_len (h a List.mem_cons_self).1 (h a List.mem_cons_self).2
  have h2 := ih (fun c hc => h c (List.mem_cons_of_mem _ hc))
  rw [List.flatMap_cons, List.length_append, List.length_cons]
  omega
theorem prE_len {e : List (Int × Int)} (h : ∀ p ∈ e, (0 ≤ p.1 ∧ p.1 ≤ 4095) ∧ (0 ≤ p.2 ∧ p.2 ≤ 131072)) : (prE e).length ≤ e.length * 20 := by
 unfold prE
 induction e with
 | nil => simp
 | cons a l ih =>
  obtain ⟨⟨a1, a2⟩, a3, a4⟩ := h a List.mem_cons_self
  have h1 := intL_len (n := a.1) (by omega) (by omega)
  have h3 := intL_len (n := a.2) (by omega) (by omega)
  have h2 := ih (fun c hc => h c (List.mem_cons_of_mem _ hc))
  rw [List.flatMap_cons, List.length_append, List.length_append, List.length_cons]
  omega
theorem OkFil.nums {f : Fil} (h : OkFil f) : ∀ x ∈ f.nums, -9223372036854775808 ≤ x ∧ x ≤ 9223372036854775807 := by
 obtain ⟨hda, hkn, hfi, hof, hpa, hot, _⟩ := h
 intro x hx
 simp only [Fil.nums, List.mem_cons, List.not_mem_nil, or_false] at hx
 rcases hx with rfl | rfl | rfl | rfl | rfl | rfl | rfl | rfl | rfl | rfl | rfl <;> omega
theorem OkFil.earl {f : Fil} (h : OkFil f) : ∀ p ∈ f.e, (0 ≤ p.1 ∧ p.1 ≤ 4095) ∧ (0 ≤ p.2 ∧ p.2 ≤ 131072) := fun p hp => ⟨(h.2.2.2.2.2.2.2.2.1 p hp).1, (h.2.2.2.2.2.2.2.2.1 p hp).2.1⟩
theorem nums_step {l : List Int} {k : Nat} (h : k < l.length) : (l.take (k + 1)).flatMap intL = (l.take k).flatMap intL ++ intL l[k] := by
 rw [List.take_add_one, List.getElem?_eq_getElem h, List.flatMap_append]
 simp
theorem prE_step {l : List (Int × Int)} {k : Nat} (h : k < l.length) : prE (l.take (k + 1)) = prE (l.take k) ++ intL l[k].1 ++ intL l[k].2 := by
 unfold prE
 rw [List.take_add_one, List.getElem?_eq_getElem h, List.flatMap_append]
 simp
set_option maxRecDepth 100000 in
set_option maxHeartbeats 4000000 in
theorem aenc_own (f : Fil) (hok : OkFil f) (dv cv ev : Value) (w : World) (hG : w.cell? ⟨0, 0, none⟩ = some (.int .i64 655)) (h0 : 0 < w.heap.size) (B : Nat) (hBw : B ≤ w.heap.size) (h : FilAt w B f dv cv ev) :
  Calls Tryz.prog 15 #[.agg (f.vals dv cv ev)] w fun e w' => ∃ u, e = .returned (.tuple #[u, .int .i64 0]) ∧ OwnB w' w.heap.size u (encA f) ∧ Below w.heap.size w w' := by
 have hkeep : ∀ W, Below w.heap.size w W → ∀ p : Addr, p.block < B → W.cell? p = w.cell? p := fun W hW p hp => hW.cell (Nat.lt_of_lt_of_le hp hBw)
 have HV := Lib.hid (fun (W : World) (hW : Below w.heap.size w W) => avalid_any f hok dv cv ev W ((hW.cell (p := ⟨0, 0, none⟩) h0).trans hG) (Nat.lt_of_lt_of_le h0 hW.size) B (Nat.le_trans hBw hW.size) (h.keep (hkeep W hW) (Nat.le_refl _)))
 have HT := Lib.hid (fun (W : World) (hW : Below w.heap.size w W) => textenc_own f.d f.c hok.2.2.2.2.2.2.1 dv cv W B (Nat.le_trans hBw hW.size) (h.1.keep (hkeep W hW) (Nat.le_refl _)) (h.2.1.keep (hkeep W hW) (Nat.le_refl _)))
 have htl := encT_len hok.2.2.2.2.2.2.1
 have htb := Lib.hid (encT_bytes f.d f.c)
 have HNU := Lib.hid hok.nums
 have HEA := Lib.hid hok.earl
 have hel : f.e.length ≤ 8 := hok.2.2.2.2.2.2.2.1
 have hHE : encA f = f.nums.flatMap intL ++ rawL (encT f.d f.c) ++ intL (f.e.length : Int) ++ prE f.e := rfl
 obtain ⟨Ae, ce, rfl, x5, x6⟩ := h.2.2.pairs
 clear h hok hkeep x5
 have HEV := Lib.hid x6
 clear x6
 generalize encT f.d f.c = tb at *
 have hnl : f.nums.length = 11 := rfl
 have hNU : f.nums = [0, f.day, f.known, f.file, f.office, f.party, f.other, 0, 0, 0, 0] := rfl
 generalize encA f = eb at *
 generalize f.nums = nu at *
 obtain ⟨day, known, file, office, party, other, d, c, el⟩ := f
 unfold Fil.vals at *
 dsimp only at *
 clear d c
 have HHE := Lib.hid hHE
 have HNL := Lib.hid hNU
 clear hHE hNU
 have X0 := Blk.new w 41 #[.int .i64 0, .int .i64 day, .int .i64 known, .int .i64 file, .int .i64 office, .int .i64 party, .int .i64 other, .int .i64 0, .int .i64 0, .int .i64 0, .int .i64 0, dv, cv, .slice none 0 0, .slice Ae el.length ce, .int .i64 0, .int .i64 0, .slice none 0 0, .slice none 0 0]
 have P0 := below_new w (.cells #[.int .i64 0, .int .i64 day, .int .i64 known, .int .i64 file, .int .i64 office, .int .i64 party, .int .i64 other, .int .i64 0, .int .i64 0, .int .i64 0, .int .i64 0, dv, cv, .slice none 0 0, .slice Ae el.length ce, .int .i64 0, .int .i64 0, .slice none 0 0, .slice none 0 0] 41)
 go_enter Tryz.func15, Tryz.ntmps15
 go_wp2_with (refine wpList_loadA X0 rfl _ rfl rfl rfl ?_)
 refine (HV.out _ P0).mono ?_
 rintro e w1 ⟨rfl, hb1⟩
 have P1 := below_up P0 hb1 P0.size
 have X1 := X0.keep hb1
 have hg1 := P1.size
 have G1 := Blk.new w1 101 #[.slice none 0 0]
 have P2 := P1.alloc P1.size (.cells #[.slice none 0 0] 101)
 have X2 := X1.alloc (.cells #[.slice none 0 0] 101)
 have W1 : WrAt (w1.alloc (.cells #[.slice none 0 0] 101)) w.heap.size w1.heap.size [] := ⟨hg1, _, 0, G1, World.ownsRow_nil _ _ _ _⟩
 clear G1 P1 X1 hb1 P0 X0
 generalize hgg : w1.heap.size = g at *
 generalize hw2 : w1.alloc (.cells #[.slice none 0 0] 101) = w2 at *
 have hsz2 : w2.heap.size = g + 1 := by rw [← hw2, World.size_alloc, hgg]
 have hcx2 := X2.c19
 go_upto_region 5 with fail
 have R3 := Blk.new w2 3 #[.int .i64 0, .int .i64 day, .int .i64 known, .int .i64 file, .int .i64 office, .int .i64 party, .int .i64 other, .int .i64 0, .int .i64 0, .int .i64 0, .int .i64 0]
 rw [hsz2] at R3
 have X3 := X2.alloc (.cells #[.int .i64 0, .int .i64 day, .int .i64 known, .int .i64 file, .int .i64 office, .int .i64 party, .int .i64 other, .int .i64 0, .int .i64 0, .int .i64 0, .int .i64 0] 3)
 have P3 := P2.alloc P2.size (.cells #[.int .i64 0, .int .i64 day, .int .i64 known, .int .i64 file, .int .i64 office, .int .i64 party, .int .i64 other, .int .i64 0, .int .i64 0, .int .i64 0, .int .i64 0] 3)
 have W3 := W1.alloc (.cells #[.int .i64 0, .int .i64 day, .int .i64 known, .int .i64 file, .int .i64 office, .int .i64 party, .int .i64 other, .int .i64 0, .int .i64 0, .int .i64 0, .int .i64 0] 3)
 have HC3 : (ints nu).toArray = #[.int .i64 0, .int .i64 day, .int .i64 known, .int .i64 file, .int .i64 office, .int .i64 party, .int .i64 other, .int .i64 0, .int .i64 0, .int .i64 0, .int .i64 0] := by rw [HNL.out]; rfl
 have R3 : Blk (w2.alloc (.cells #[.int .i64 0, .int .i64 day, .int .i64 known, .int .i64 file, .int .i64 office, .int .i64 party, .int .i64 other, .int .i64 0, .int .i64 0, .int .i64 0, .int .i64 0] 3)) (g + 1) 3 (ints nu).toArray := by rw [HC3]; exact R3
 clear hcx2 W1 X2 P2
 generalize w2.alloc (.cells #[.int .i64 0, .int .i64 day, .int .i64 known, .int .i64 file, .int .i64 office, .int .i64 party, .int .i64 other, .int .i64 0, .int .i64 0, .int .i64 0, .int .i64 0] 3) = w3 at *
 clear HC3
 go_loopw [44] (fun j wr => ∃ k : Nat, j = .int .i64 (k : Int) ∧ k ≤ 11 ∧ WrAt wr w.heap.size g ((nu.take k).flatMap intL) ∧ Below w.heap.size w wr ∧ Blk wr w.heap.size 41 #[.int .i64 0, .int .i64 day, .int .i64 known, .int .i64 file, .int .i64 office, .int .i64 party, .int .i64 other, .int .i64 0, .int .i64 0, .int .i64 0, .int .i64 0, dv, cv, .slice none 0 0, .slice Ae el.length ce, .int .i64 0, .int .i64 0, .slice none 0 0, .slice none 0 0] ∧ Blk wr (g + 1) 3 (ints nu).toArray) (fun j _ => 11 - (intOf j).toNat)
 case atStart => exact ⟨0, rfl, Nat.zero_le _, by simpa using W3, P3, X3, R3⟩
 case round =>
  obtain ⟨k, rfl, hk, hW, hB, hX, hR⟩ := hrel
  have hfl := ints_flat (l := nu.take k) (fun x hx => HNU.out x (List.mem_of_mem_take hx))
  rw [List.length_take] at hfl
  by_cases hlt : k < 11
  ·have hkn : k < nu.length := by omega
   have hc := hR.cellAt k (.int .i64 nu[k]) (by rw [List.getElem?_toArray]; exact ints_get nu k hkn)
   have HS := Lib.hid (nums_step hkn)
   obtain ⟨n0, n1⟩ := HNU.out nu[k] (List.getElem_mem hkn)
   generalize nu[k] = x at *
   generalize (nu.take k).flatMap intL = bs at *
   clear X3 P3 W3 R3
   go_wp2_with fail
   refine (wint_any g w.heap.size bs x wr n0 n1 hW (by omega)).mono ?_
   rintro e w4 ⟨⟨v4, rfl⟩, W4, k4⟩
   have P4 := hB.trans k4.1
   have X4 := k4.blk hX (by decide) (by decide)
   have R4 := k4.blk hR (by decide) (by decide)
   rw [← HS.out] at W4
   clear hc hfl
   go_wp2_with fail
   go_roundw
   case rel => exact ⟨k + 1, by go_num, by omega, W4, P4, X4, R4⟩
   case measure => simp [intOf]; omega
  ·obtain rfl : k = 11 := by omega
   rw [List.take_of_length_le (by omega)] at hW
   have hcx := hX.c19
   clear X3 P3 W3 R3 hR
   generalize hE1 : nu.flatMap intL = bs at *
   have hbl : bs.length ≤ 110 := by
    rw [← hE1]
    have := ints_flat HNU.out
    omega
   have HE1 := Lib.hid hE1
   clear hE1 hfl
   go_wp2_with fail
   refine (HT.out _ hB).mono ?_
   rintro e w4 ⟨v4, rfl, o4, hb4⟩
   have P4 := below_up hB hb4 hB.size
   have W4 := hW.grown hb4
   have X4 := hX.keep hb4
   clear hcx hW hB hX
   go_wp2_with fail
   refine (wraw_any g w.heap.size _ tb v4 w4 W4 (by omega) (by omega) htb.out o4.rep).mono ?_
   rintro e w5 ⟨⟨v5, rfl⟩, W5, k5⟩
   have P5 := P4.trans k5.1
   have X5 := k5.blk X4 (by decide) (by decide)
   have hrl : (rawL tb).length ≤ 940020 := by
    have := uv_len10 (n := tb.length) (by omega)
    unfold rawL
    simp only [List.length_append]
    omega
   have hcx := X5.c19
   clear W4 P4 X4 k5 o4
   go_wp2_with fail
   refine (wint_any g w.heap.size _ (el.length : Int) w5 (by omega) (by omega) W5 (by rw [List.length_append]; omega)).mono ?_
   rintro e w6 ⟨⟨v6, rfl⟩, W6, k6⟩
   have P6 := P5.trans k6.1
   have X6 := k6.blk X5 (by decide) (by decide)
   have hil := intL_len (n := (el.length : Int)) (by omega) (by omega)
   clear hcx W5 P5 X5 k6
   have hcx := X6.c19
   generalize hE2 : bs ++ rawL tb ++ intL (el.length : Int) = bs2 at *
   have hb2 : bs2.length ≤ 950000 := by
    rw [← hE2]
    simp only [List.length_append]
    omega
   have HE2 := Lib.hid hE2
   clear hE2 hil hrl hbl
   go_wp2_with fail
   clear hcx
   go_loopw [70] (fun j wr => ∃ k : Nat, j = .int .i64 (k : Int) ∧ k ≤ el.length ∧ WrAt wr w.heap.size g (bs2 ++ prE (el.take k)) ∧ Below w.heap.size w wr ∧ Blk wr w.heap.size 41 #[.int .i64 0, .int .i64 day, .int .i64 known, .int .i64 file, .int .i64 office, .int .i64 party, .int .i64 other, .int .i64 0, .int .i64 0, .int .i64 0, .int .i64 0, dv, cv, .slice none 0 0, .slice Ae el.length ce, .int .i64 0, .int .i64 0, .slice none 0 0, .slice none 0 0]) (fun j _ => el.length - (intOf j).toNat)
   case atStart => exact ⟨0, rfl, Nat.zero_le _, by simpa [prE] using W6, P6, X6⟩
   case round =>
    obtain ⟨k, rfl, hk, hW, hB, hX⟩ := hrel
    have hpl := prE_len (e := el.take k) (fun p hp => HEA.out p (List.mem_of_mem_take hp))
    rw [List.length_take] at hpl
    by_cases hlt : k < el.length
    ·obtain ⟨b, o, rfl, hb, c0, c1⟩ := HEV.out k hlt
     have hb' : b < w.heap.size := Nat.lt_of_lt_of_le hb hBw
     have e0 := (hB.cell (p := ⟨b, o + k * 2, none⟩) hb').trans c0
     have e1 := (hB.cell (p := ⟨b, o + k * 2 + 1, none⟩) hb').trans c1
     obtain ⟨⟨p1, p2⟩, p3, p4⟩ := HEA.out _ (List.getElem_mem hlt)
     have HS := Lib.hid (prE_step hlt)
     generalize el[k].1 = x at *
     generalize el[k].2 = y at *
     generalize prE (el.take k) = ps at *
     have Q0 := hB.alloc hB.size (.cells #[.int .i64 x, .int .i64 y] 106)
     have X0 := hX.alloc (.cells #[.int .i64 x, .int .i64 y] 106)
     have W0 := hW.alloc (.cells #[.int .i64 x, .int .i64 y] 106)
     have Y0 := Blk.new wr 106 #[.int .i64 x, .int .i64 y]
     have hcy := Y0.c2
     have hi1 := intL_len (n := x) (by omega) (by omega)
     clear c0 c1 W6 P6 X6 hW hB hX
     go_wp2_with fail
     refine (wint_any g w.heap.size _ x _ (by omega) (by omega) W0 (by rw [List.length_append]; omega)).mono ?_
     rintro e w7 ⟨⟨v7, rfl⟩, W7, k7⟩
     have P7 := Q0.trans k7.1
     have X7 := k7.blk X0 (by decide) (by decide)
     have Y7 := k7.blk Y0 (by decide) (by decide)
     have hcy7 := Y7.c2
     clear hcy W0 Q0 X0 Y0 k7 e0 e1
     go_wp2_with fail
     refine (wint_any g w.heap.size _ y _ (by omega) (by omega) W7 (by simp only [List.length_append]; omega)).mono ?_
     rintro e w8 ⟨⟨v8, rfl⟩, W8, k8⟩
     have P8 := P7.trans k8.1
     have X8 := k8.blk X7 (by decide) (by decide)
     have hass : bs2 ++ ps ++ intL x ++ intL y = bs2 ++ (ps ++ intL x ++ intL y) := by simp only [List.append_assoc]
     rw [hass, ← HS.out] at W8
     clear hcy7 W7 P7 X7 k8 hass
     go_wp2_with fail
     go_roundw
     case rel => exact ⟨k + 1, by go_num, by omega, W8, P8, X8⟩
     case measure => simp [intOf]; omega
    ·obtain rfl : k = el.length := by omega
     rw [List.take_length] at hW hpl
     have hcx := hX.c19
     have hfin : bs2 ++ prE el = eb := by rw [HHE.out, ← HE2.out, ← HE1.out]
     rw [hfin] at hW
     have hebl : eb.length ≤ 3000000000 := by
      rw [← hfin, List.length_append]
      omega
     clear hfin
     clear W6 P6 X6 hX
     go_wp2_with fail
     refine (wdone_own g w.heap.size _ wr hW hebl).mono ?_
     rintro e w7 ⟨v7, rfl, o7, hb7⟩
     clear hcx
     go_wp2_with fail
     exact bodyPost_ret (results_tmp2 rfl _ _ _) rfl ⟨_, rfl, o7.mono hB.size, below_up hB hb7 hB.size⟩
end Go.Proofs.YtbeaijjaecaidaaGreatDoor
namespace Go.Proofs.YtbeaijjaecaidaaGreatDoor
open Go.RowKit Go.Shelf
theorem Blk.setRow {W : World} {g : Nat} {t : TypeId} {cs : Array Value} (h : Blk W g t cs) (vs : Array Value) : Blk (W.setRow g vs) g t vs := setRow_heap W g cs vs t _ h
theorem grown_setRow (W : World) (g : Nat) (vs : Array Value) : W.grownBy (W.setRow g vs) (some g) := by
 refine ⟨rfl, rfl, rfl, by simp [World.setRow], fun k _ hne => ?_⟩
 simp only [World.setRow, Array.getElem?_modify]
 rw [if_neg (fun e => hne (by rw [e]))]
theorem wpList_storeA {w : World} {g : Nat} {old : Array Value} (h : Blk w g 41 old) (hs : old.size = 19) {ops : Array Oper} {rest : List Oper} {o : Oper} {a : Act} {Q : Exit → Act → World → Prop} (p v : Operand) (ho : o.op = .store 41 p v) (hg : o.guard = none)
  (hp : a.eval p = .pointer (some ⟨g, 0, none⟩)) (vs : Array Value) (hv : a.eval v = .agg vs) (hvs : vs.size = 19) (h1 : vs.all (·.oneCell') = true)
  (hK : ∀ w', Blk w' g 41 vs → w.grownBy w' (some g) → wpList Tryz.prog ops Q rest (a.put o.dst undef) w') : wpList Tryz.prog ops Q (o :: rest) a w :=
 wpList_store_row hg 41 p v ho g vs hp hv 41 old h (by rw [hvs]; kernel_rfl) (by rw [hs, hvs]) h1 (hK _ (h.setRow vs) (grown_setRow w g vs))
theorem results_A {fn : Func} {p : Tmp} (h : fn.results = #[.cell p 41]) (tmps : Array Value) {w : World} {g : Nat} {cs : Array Value} (hp : tmps.getD p undef = .pointer (some ⟨g, 0, none⟩)) (hb : Blk w g 41 cs) (hs : cs.size = 19) :
  (results fn tmps).run Tryz.prog w = .ok (.agg cs) w :=
 results_cell_row h tmps w g 41 cs _ _ hp hb Tryz.underlying41 rfl (by rw [hs]; kernel_rfl)
end Go.Proofs.YtbeaijjaecaidaaGreatDoor
