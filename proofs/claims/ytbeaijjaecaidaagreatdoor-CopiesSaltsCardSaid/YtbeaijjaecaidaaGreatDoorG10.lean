/- claims.Alts: the alternatives of a claim, by a map of those of the claims ahead. -/
import Derived.Test.YtbeaijjaecaidaaGreatDoorG09
import Derived.Test.YtbeaijjaecaidaaGreatDoorG06
import Derived.Test.YtbeaijjaecaidaaGreatDoorG01
namespace Go.Proofs.YtbeaijjaecaidaaGreatDoor
open Go.RowKit Go.Shelf
attribute [local go_sem] Oper.semAt_some
/-- A map from the numbers of claims to their alternatives. -/
def OfMap (W : World) (mb k : Nat) (D : DataW Value) (A : List (List F)) : Prop :=
 W.ownsMap Tryz.prog 3 tokR mb k D ∧ ∀ m, m < k → ∃ u, Maps.has D (.int .i64 (m : Int)) = true ∧ D.atKey (.int .i64 (m : Int)) (.held (.slice none 0 0)) = .held u ∧ Rep W W.heap.size u (.s 4 ((A.getD m []).flatMap F.cells))
theorem OfMap.below {W W' : World} {mb k : Nat} {D : DataW Value} {A : List (List F)} (h : OfMap W mb k D A) (hb : Below W.heap.size W W') : OfMap W' mb k D A :=
 ⟨h.1.kept (belowG hb) (by simp), fun m hm => by
  obtain ⟨u, h1, h2, h3⟩ := h.2 m hm
  exact ⟨u, h1, h2, h3.keep (fun p hp => hb.cell hp) hb.size⟩⟩
theorem OfMap.put {W W' : World} {mb k : Nat} {D : DataW Value} {A A' : List (List F)} (h : OfMap W mb k D A) (hA : ∀ m, m < k → A'.getD m [] = A.getD m []) {u : Value} (hu : Rep W W.heap.size u (.s 4 ((A'.getD k []).flatMap F.cells)))
  (ho : W'.ownsMap Tryz.prog 3 tokR mb (k + 1) (D.put (.int .i64 (k : Int)) (.held u))) (hg : W.grownBy W' (some mb)) : OfMap W' mb (k + 1) (D.put (.int .i64 (k : Int)) (.held u)) A' := by
 have hk : ∀ (p : Addr) (x : Value), p.block < W.heap.size → W.cell? p = some x → W'.cell? p = some x := fun p x hp hc => by
  have hne : p.block ≠ mb := fun e => by
   obtain ⟨o2, h2, h3⟩ := cells_of_cell hc
   obtain ⟨es, clock, h4, _⟩ := h.1
   rw [e, h4] at h2
   cases h2
   cases h3
  rw [World.cell?_of_block (hg.block p.block hp (fun e => hne (by cases e; rfl)))]
  exact hc
 refine ⟨ho, fun m hm => ?_⟩
 by_cases hmk : m = k
 ·subst hmk
  exact ⟨u, Maps.has_put_same h.1.isMap (by trivial) _, Maps.atKey_put_same h.1.isMap (by trivial) _ _, hu.mono hk hg.size⟩
 ·obtain ⟨u', h1, h2, h3⟩ := h.2 m (by omega)
  have hne : (Lit.int .i64 (m : Int)) ≠ .int .i64 (k : Int) := fun e => by cases e; omega
  refine ⟨u', by rw [Maps.has_put_other hne]; exact h1, by rw [Maps.atKey_put_other hne]; exact h2, ?_⟩
  rw [hA m (by omega)]
  exact h3.mono hk hg.size
theorem altsL_stay (l : List Cl) (k m : Nat) (h : k < l.length) (hm : m < k) : (altsL l (k + 1)).getD m [] = (altsL l k).getD m [] := by
 rw [altsL_get l (k + 1) m (by omega) (by omega), altsL_get l k m hm (by omega)]
theorem AltsOk.len {l : List Cl} (h : AltsOk l) (k : Nat) (hk : k ≤ l.length) (j : Nat) : ((altsL l k).getD j []).length ≤ 64 := by
 by_cases hj : j < k
 ·rw [altsL_get l k j hj hk]
  exact (h j (by omega)).2.1
 ·rw [List.getD_eq_getElem?_getD, List.getElem?_eq_none (by rw [altsL_length]; omega)]
  simp
set_option maxRecDepth 100000 in
set_option maxHeartbeats 2000000 in
theorem alts_any (l : List Cl) (hok : OkCl l) (hal : AltsOk l) (i : Nat) (hi : i < l.length) (v : Value) (w : World) (B : Nat) (hBw : B ≤ w.heap.size) (hr : Rep w B v (.s 5 (l.flatMap Cl.cells))) :
  Calls Tryz.prog 177 #[v, .int .i64 (i : Int)] w fun e w' => ∃ u, e = .returned (.tuple #[u, .int .i64 0]) ∧ Rep w' w'.heap.size u (.s 4 (((altsL l (i + 1)).getD i []).flatMap F.cells)) ∧ Below w.heap.size w w' := by
 have HC := Lib.hid (check_any l hok i hi v w B hBw hr)
 obtain ⟨A, c, rfl, hc, hcell⟩ := hr.claims
 have HCELL := Lib.hid hcell
 have HOK := Lib.hid hok
 have HAL := Lib.hid hal
 have hl := hok.1
 clear hr hcell hok hal
 go_enter Tryz.func177, Tryz.ntmps177
 go_wp2_with fail
 refine HC.out.mono ?_
 rintro e w1 ⟨rfl, hb1⟩
 have hM0 : OfMap (w1.alloc (.map #[] 0)) w1.heap.size 0 (.map []) (altsL l 0) := ⟨World.ownsMap_made w1 Tryz.prog 3 tokR, fun m hm => by omega⟩
 have hb2 := hb1.alloc hb1.size (.map #[] 0)
 have hmb := hb1.size
 have hmk := run_makeMap (P := Tryz.prog) 228 w1
 go_wp2_with fail
 clear hmk
 generalize w1.alloc (.map #[] 0) = w2 at *
 generalize w1.heap.size = mb at *
 go_loopw [26] (fun j wr => ∃ k : Nat, j = .int .i64 (k : Int) ∧ k ≤ i + 1 ∧ (∃ D, OfMap wr mb k D (altsL l k)) ∧ Below w.heap.size w wr) (fun j _ => i + 1 - (intOf j).toNat)
 case atStart => exact ⟨0, rfl, Nat.zero_le _, ⟨_, hM0⟩, hb2⟩
 case round =>
  obtain ⟨k, rfl, hk, ⟨D, hM⟩, hB⟩ := hrel
  by_cases hlt : k < i + 1
  ·have hkl : k < l.length := by omega
   obtain ⟨b, o, y, rfl, hb, hy, c0, c1, c2, c3, c4⟩ := HCELL.out k hkl
   have hb' : b < w.heap.size := Nat.lt_of_lt_of_le hb hBw
   have e0 := (hB.cell (p := ⟨b, o + k * 5, none⟩) hb').trans c0
   have e1 := (hB.cell (p := ⟨b, o + k * 5 + 1, none⟩) hb').trans c1
   have e2 := (hB.cell (p := ⟨b, o + k * 5 + 2, none⟩) hb').trans c2
   have e3 := (hB.cell (p := ⟨b, o + k * 5 + 3, none⟩) hb').trans c3
   have e4 := (hB.cell (p := ⟨b, o + k * 5 + 4, none⟩) hb').trans c4
   obtain ⟨hro, hrl, hof⟩ := HOK.out.2 k hkl
   have hao := HAL.out k hkl
   have hget := altsL_get l (k + 1) k (by omega) (by omega)
   rw [← hy] at hro hrl hof hao hget
   have HGET := Lib.hid hget
   have HA := Lib.hid (fun (W : World) (hW : Below wr.heap.size wr W) =>
    have hbW := hB.trans (hW.mono hB.size)
    have hMW := hM.below hW
    have hkeep : ∀ p : Addr, p.block < B → W.cell? p = w.cell? p := fun p hp => hbW.cell (Nat.lt_of_lt_of_le hp hBw)
    alternatives_any W ⟨y.r, y.a, y.b, y.c, y.d, y.t, y.hr.keep hkeep (Nat.le_trans hBw hbW.size), y.h.keep hkeep (Nat.le_trans hBw hbW.size)⟩ (altsL l k) hao (by have := hof.1; dsimp only; omega) hrl mb k D hMW.1 (HAL.out.len k (by omega)) (fun q hq => by
     have := hro q hq
     exact ⟨this.1, Int.le_trans (Int.le_of_lt this.2.1) (by omega)⟩) (fun r hr => by
     obtain ⟨q, hq, rfl⟩ := List.getElem_of_mem hr
     have h1 := hro q hq
     obtain ⟨u, u1, u2, u3⟩ := hMW.2 (y.t.refs[q].toNat) (by have := h1.1; have := h1.2.1; omega)
     have h2 : ((y.t.refs[q].toNat : Nat) : Int) = y.t.refs[q] := by have := h1.1; omega
     rw [h2] at u1 u2
     exact ⟨u, u1, u2, u3⟩))
   obtain ⟨A0, q0, A1, n1, q1, A2, n2, q2, f0, f1, f2, f3, f4⟩ := clm_form y
   dsimp only at HA
   rw [f0, f1, f2, f3, f4] at HA
   rw [f0] at e0
   rw [f1] at e1
   rw [f2] at e2
   rw [f3] at e3
   rw [f4] at e4
   clear c0 c1 c2 c3 c4 f0 f1 f2 f3 f4 hy hro hof hao hget
   generalize altF y.t (altsL l k) = al at *
   generalize y.t.refs.length = rl at *
   generalize y.t.body.op = op at *
   generalize y.t.body.n = nn at *
   have Q0 := below_new wr (.cells #[.slice A0 rl q0, .int .i64 op, .int .i64 nn, .slice A1 n1 q1, .slice A2 n2 q2] 169)
   go_wp2_with fail
   refine (HA.out _ Q0).mono ?_
   rintro e w3 ⟨u, rfl, hu, hb3⟩
   have Q3 := Q0.trans (hb3.mono Q0.size)
   have M3 := hM.below Q3
   have B3 := hB.trans (Q3.mono hB.size)
   clear e0 e1 e2 e3 e4
   go_wp2_with (at_mapUpdate; refine wpList_mapUpdate_own _ rfl _ _ _ 228 rfl 3 32 (Maps.int_keyed Tryz.underlying3) Tryz.underlying228 tokR mb k D rfl M3.1 (by unfold maxLen; omega) (.int .i64 (k : Int)) u (.int .i64 (k : Int)) rfl rfl (Maps.keyOf_int_mk Tryz.underlying3 (WalkArith.wf_i64 ⟨by omega, by omega⟩)) (.held u) [] rfl ?_; intro w4 ho4 hg4)
   have M4 := M3.put (A' := altsL l (k + 1)) (fun m hm => altsL_stay l k m hkl hm) (by rw [HGET.out]; exact hu) ho4 hg4
   have B4 := B3.grown hg4 B3.size (fun g e => by cases e; exact hmb)
   go_roundw
   case rel => exact ⟨k + 1, by go_num, by omega, ⟨_, M4⟩, B4⟩
   case measure => simp [intOf]; omega
  ·obtain rfl : k = i + 1 := by omega
   obtain ⟨u, u1, u2, u3⟩ := hM.2 i (by omega)
   have HU := Lib.hid u3
   clear u3
   go_wp2_with (at_lookup; refine wpList_lookup_tok rfl _ _ rfl mb (i + 1) D rfl hM.1 (i : Int) (by omega) (by omega) rfl _ u1 u2 ?_)
   exact bodyPost_ret (results_tmp2 rfl _ _ _) rfl ⟨_, rfl, HU.out, hB⟩
end Go.Proofs.YtbeaijjaecaidaaGreatDoor
