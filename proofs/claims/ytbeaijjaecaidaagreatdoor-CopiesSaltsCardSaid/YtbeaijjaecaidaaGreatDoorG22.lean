/- ref37.Of: the copy of a filing of a log. What Check answers to copies that are as they should be, or changed: the plain law. log: the filings of a script, all by one office. copies.Make of a filing of a log of one entry. -/
import Derived.Test.YtbeaijjaecaidaaGreatDoorG21
import Derived.Test.YtbeaijjaecaidaaGreatDoorG19
import Derived.Test.YtbeaijjaecaidaaGreatDoorG20
import Derived.Test.YtbeaijjaecaidaaGreatDoorG01
import Derived.Laws.ResultCell
namespace Go.Proofs.YtbeaijjaecaidaaGreatDoor
open Go.RowKit Go.Shelf
attribute [local go_sem] Oper.semAt_some
/-- The tick of a log. -/
def tickN (fl : List Fil) : Int := fl.foldl (fun t f => if t < f.known then f.known else t) 0
theorem tickN_step {fl : List Fil} {k : Nat} (hk : k < fl.length) : tickN (fl.take (k + 1)) = if tickN (fl.take k) < fl[k].known then fl[k].known else tickN (fl.take k) := by
 unfold tickN
 rw [List.take_add_one, List.getElem?_eq_getElem hk, List.foldl_append]
 rfl
/-- The head under which a copy stands. -/
def hdOf (sec : Nat) (fl : List Fil) (o : Int) (size : Nat) (R : Nat) : Hd := ⟨o, tickN (fl.take size), 9, (size : Int), R, 5, 0, sigN (keyN sec) ⟨o, tickN (fl.take size), 9, (size : Int), R, 5, 0, 0⟩⟩
/-- What stands below a world's end, but for one block. -/
def KeptBut (w : World) (g : Nat) (V : World) : Prop := ∀ p : Addr, p.block < w.heap.size → p.block ≠ g → V.cell? p = w.cell? p
theorem KeptBut.below {w V V' : World} {g : Nat} (h : KeptBut w g V) (hs : w.heap.size ≤ V.heap.size) (hb : Below V.heap.size V V') : KeptBut w g V' := fun p h1 h2 => (hb.cell (Nat.lt_of_lt_of_le h1 hs)).trans (h p h1 h2)
theorem KeptBut.grown {w V V' : World} {g : Nat} (h : KeptBut w g V) (hs : w.heap.size ≤ V.heap.size) (hb : V.grownBy V' (some g)) : KeptBut w g V' := fun p h1 h2 => (World.cell?_of_block (hb.block _ (Nat.lt_of_lt_of_le h1 hs) (fun e => h2 (by injection e)))).trans (h p h1 h2)
theorem KeptBut.range {w V : World} {g b o : Nat} {cs : List Value} (h : KeptBut w g V) (hr : w.rangeAt b o cs) (hb : b < w.heap.size) (hne : b ≠ g) : V.rangeAt b o cs := fun j u hu => (h _ hb hne).trans (hr j u hu)
theorem KeptBut.of_below {w V : World} {g : Nat} (h : Below w.heap.size w V) : KeptBut w g V := fun _ h1 _ => h.cell h1
theorem yieldsRH {S : World → Prop} {ops : Array Oper} {b off : Nat} {h : Hd} {o : Oper} {a : Act} (x : Operand) (ho : o.op = .load 29 x) (hx : a.eval x = .pointer (some ⟨b, off, none⟩)) (hS : ∀ W, S W → W.rangeAt b off h.vals.toList) (hw : Region.wanted o (yielded ops a.tmps) = true) : YieldsIf Tryz.prog ops S o (.agg h.vals) a := by
 have h := yieldsIf_load_mid (P := Tryz.prog) (ops := ops) (S := S) hw 29 x ho b off hx h.vals.toList _ hS Tryz.underlying29 rfl (by kernel_rfl)
 rwa [Array.toArray_toList] at h
def zeroK : Array Value := #[.int .i64 0, .int .i64 0, .int .i64 0, .int .i64 0, .int .u64 0, .int .u64 0, .int .i64 0, .int .u64 0, .int .i64 0, .int .i64 0, .int .i64 0, .int .i64 0, .int .i64 0, .int .i64 0, .int .i64 0, .int .i64 0, .int .i64 0, .int .i64 0, .int .i64 0, .int .i64 0, .slice none 0 0, .slice none 0 0, .slice none 0 0, .slice none 0 0, .int .i64 0, .int .i64 0, .slice none 0 0, .slice none 0 0, .int .u64 0, .slice none 0 0]
def zeroH : Array Value := #[.int .i64 0, .int .i64 0, .int .i64 0, .int .i64 0, .int .u64 0, .int .u64 0, .int .i64 0, .int .u64 0]
set_option maxRecDepth 100000 in
set_option maxHeartbeats 2000000 in
theorem exec_buildRH (d : Option Tmp) (ty : TypeId) (pos : String) (after : Array Edge) (gd : Option (Nat × Bool)) (r : Operand → Value) (o t s : Int) (R : Nat)
  (h0 : r (.tmp 33) = .int .i64 o) (h1 : r (.tmp 34) = .int .i64 t) (h2 : r (.tmp 35) = .int .i64 s) (h3 : r (.tmp 37) = .int .u64 (R : Int)) (h4 : ∀ v, r (.const v) = v) (w : World) :
  (execOp r ⟨d, .build 29 #[(0, .tmp 33), (1, .tmp 34), (2, .const (.int .i64 9)), (3, .tmp 35), (4, .tmp 37), (5, .const (.int .u64 5)), (6, .const (.int .i64 0))], ty, pos, after, gd⟩).run Tryz.prog w = .ok (.value (.agg (Hd.vals ⟨o, t, 9, s, R, 5, 0, 0⟩))) w := by
 unfold Hd.vals
 simp only [execOp]
 go_simp
set_option maxRecDepth 100000 in
set_option maxHeartbeats 2000000 in
theorem exec_prefix {t e : TypeId} (ht : Tryz.prog.underlying t = some (.slice e)) {sz : Nat} (hs : ∀ w, (sizeOf e).run Tryz.prog w = .ok sz w) (d : Option Tmp) (ty : TypeId) (pos : String) (after : Array Edge) (gd : Option (Nat × Bool)) (r : Operand → Value) (x y : Operand) (b o n c m : Nat)
  (h0 : r x = .slice (some ⟨b, o, none⟩) n c) (h1 : r y = .int .i64 (m : Int)) (hm : m ≤ c) (w : World) :
  (execOp r ⟨d, .slice t x none (some y) none, ty, pos, after, gd⟩).run Tryz.prog w = .ok (.value (.slice (some ⟨b, o, none⟩) m c)) w := by
 simp only [execOp]
 go_simp
theorem sizeAct (w : World) : (sizeOf 41).run Tryz.prog w = .ok 19 w := by kernel_rfl
theorem wpList_prefix {t e : TypeId} (ht : Tryz.prog.underlying t = some (.slice e)) {sz : Nat} (hs : ∀ w, (sizeOf e).run Tryz.prog w = .ok sz w) {ops : Array Oper} {rest : List Oper} {d : Option Tmp} {ty : TypeId} {pos : String} {after : Array Edge} {x y : Operand} {a : Act} {w : World} {Q : Exit → Act → World → Prop} (b o n c m : Nat)
  (h0 : a.eval x = .slice (some ⟨b, o, none⟩) n c) (h1 : a.eval y = .int .i64 (m : Int)) (hm : m ≤ c) (hK : wpList Tryz.prog ops Q rest (a.put d (.slice (some ⟨b, o, none⟩) m c)) w) : wpList Tryz.prog ops Q (⟨d, .slice t x none (some y) none, ty, pos, after, none⟩ :: rest) a w :=
 wpList_plain rfl fun _ h2 => by
  unfold Oper.wp
  rw [exec_prefix ht hs d ty pos after none a.eval x y b o n c m h0 h1 hm w, Oper.upon_value]
  exact h2 _ _ hK
set_option maxRecDepth 100000 in
set_option maxHeartbeats 4000000 in
theorem of_any (sec : Nat) (hsec : sec < 18446744073709551616) (fl : List Fil) (hl : fl.length ≤ 100) (hok : ∀ f ∈ fl, OkFil f) (A : Option Addr) (c : Nat) (hc : fl.length ≤ c) (w : World) (B : Nat) (hBw : B ≤ w.heap.size) (hrow : FilRow w B A fl) (i size : Nat) (hi : i < size) (hsz : size ≤ fl.length) (R : Nat) (hR : R < 18446744073709551616) (PP : World → Value → Prop)
  (HR : ∀ (W : World) (v : Value), Rep W W.heap.size v (.s 1 (valD (us (logN (fl.take size))))) → Calls Tryz.prog 28 #[v] W fun e w' => e = .returned (.int .u64 (R : Int)) ∧ Below W.heap.size W w')
  (HP : ∀ (W : World) (v : Value), Rep W W.heap.size v (.s 1 (valD (us (logN (fl.take size))))) → Calls Tryz.prog 42 #[v, .int .i64 (i : Int)] W fun e w' => ∃ Ap np cp, e = .returned (.slice Ap np cp) ∧ PP w' (.slice Ap np cp) ∧ Below W.heap.size W w')
  (HPP : ∀ (W W' : World) (v : Value), PP W v → W.grownBy W' (some w.heap.size) → PP W' v) :
  Calls Tryz.prog 11 #[.int .u64 (sec : Int), .slice A fl.length c, .int .i64 (i : Int), .int .i64 (size : Int)] w fun e w' => ∃ dv cv ev Ap np cp, e = .returned (.agg (cop (hdOf sec fl fl[i].office size R) (i : Int) fl[i] dv cv ev (saltN i) (.slice Ap np cp))) ∧ FilAt w B fl[i] dv cv ev ∧ PP w' (.slice Ap np cp) ∧ Below w.heap.size w w' := by
 obtain ⟨b, o, dv, cv, ev, rfl, hb, hr, hf⟩ := hrow i (by omega)
 have hone := hf.one
 have HF := Lib.hid hf
 have HL := Lib.hid (fun (W : World) (hW : Below w.heap.size w W) => reflog_any (fl.take size) (by rw [List.length_take]; omega) (fun f hf => hok f (List.mem_of_mem_take hf)) (some ⟨b, o, none⟩) c W B (Nat.le_trans hBw hW.size) ((hrow.take size).keep (fun p hp => hW.cell (Nat.lt_of_lt_of_le hp hBw)) (Nat.le_refl _)))
 rw [List.length_take, Nat.min_eq_left hsz] at HL
 have hkn : ∀ (k : Nat) (hk : k < fl.length) (W : World), Below w.heap.size w W → W.cell? ⟨b, o + k * 19 + 2, none⟩ = some (.int .i64 fl[k].known) := fun k hk W hW => by
  obtain ⟨b', o', dv', cv', ev', e, hb', hr', hf'⟩ := hrow k hk
  injection e with e
  injection e with e1 e2
  subst e1 e2
  exact (hW.cell (p := ⟨b, o + k * 19 + 2, none⟩) (Nat.lt_of_lt_of_le hb hBw)).trans (hr' 2 _ rfl)
 have HKN := Lib.hid hkn
 have HHR := Lib.hid HR
 have HHP := Lib.hid HP
 have HHPP := Lib.hid HPP
 have X0 := Blk.new w 44 zeroK
 have P0 := below_new w (.cells zeroK 44)
 unfold zeroK at X0 P0
 clear hf hrow hok hkn HR HP HPP
 go_enter Tryz.func11, Tryz.ntmps11
 go_upto_region 1 with fail
 generalize w.alloc (.cells #[.int .i64 0, .int .i64 0, .int .i64 0, .int .i64 0, .int .u64 0, .int .u64 0, .int .i64 0, .int .u64 0, .int .i64 0, .int .i64 0, .int .i64 0, .int .i64 0, .int .i64 0, .int .i64 0, .int .i64 0, .int .i64 0, .int .i64 0, .int .i64 0, .int .i64 0, .int .i64 0, .slice none 0 0, .slice none 0 0, .slice none 0 0, .slice none 0 0, .int .i64 0, .int .i64 0, .slice none 0 0, .slice none 0 0, .int .u64 0, .slice none 0 0] 44) = w0 at *
 go_upto_region 2 with (first | (refine wpList_prefix Tryz.underlying23 sizeAct b o fl.length c size rfl rfl (by omega) ?_) | (go_at_call 39; refine (HL.out _ P0).mono ?_; rintro e w1 ⟨u, rfl, O1, hb1⟩))
 have X1 := X0.keep hb1
 have P1 := below_up P0 hb1 P0.size
 have HO1 := Lib.hid O1
 have hslu := O1.rep.one
 obtain ⟨Au, nu, cu, rfl⟩ := hslu
 clear O1 X0 P0 hb1
 go_wp2_with fail
 go_loopw [10, 11] (fun t j W => ∃ k : Nat, t = .int .i64 (tickN (fl.take k)) ∧ j = .int .i64 (k : Int) ∧ k ≤ size ∧ W = w1) (fun _ j _ => size - (intOf j).toNat)
 case atStart => exact ⟨0, rfl, rfl, Nat.zero_le _, rfl⟩
 case round =>
  obtain ⟨k, rfl, rfl, hk, rfl⟩ := hrel
  by_cases hlt : k < size
  ·have hd : decide ((k : Int) < (size : Int)) = true := decide_eq_true (by omega)
   have hc2 := HKN.out k (by omega) _ P1
   have hst := Lib.hid (tickN_step (fl := fl) (k := k) (by omega))
   generalize fl[k].known = kn at *
   generalize tickN (fl.take k) = tk at *
   go_wp2_with fail
   go_roundw
   case rel => exact ⟨k + 1, by rw [hst.out], by go_num, by omega, by first | rfl | trivial⟩
   case measure => simp [intOf]; omega
  ·have hd : decide ((k : Int) < (size : Int)) = false := decide_eq_false (by omega)
   obtain rfl : k = size := by omega
   have hof : ∀ V, Below wr.heap.size wr V → V.cell? ⟨b, o + i * 19 + 4, none⟩ = some (.int .i64 fl[i].office) := fun V hV => ((hV.cell (p := ⟨b, o + i * 19 + 4, none⟩) (Nat.lt_of_lt_of_le hb (Nat.le_trans hBw P1.size))).trans (P1.cell (p := ⟨b, o + i * 19 + 4, none⟩) (Nat.lt_of_lt_of_le hb hBw))).trans (hr 4 _ rfl)
   have HOF := Lib.hid hof
   have hil : i < fl.length := by omega
   have HRW := Lib.hid (fun (V : World) (hV : Below wr.heap.size wr V) => (HO1.out.rep.keep (W' := V) (fun p hp => hV.cell hp) hV.size))
   have HRr := Lib.hid hr
   clear hof hr hd hlt hk
   go_upto_region 7 with fail
   go_cut [12] (fun p wx => ∃ g, p = .pointer (some ⟨g, 0, none⟩) ∧ wr.heap.size ≤ g ∧ Blk wx g 29 (Hd.vals ⟨fl[i].office, tickN (fl.take k), 9, (k : Int), R, 5, 0, 0⟩) ∧ Below wr.heap.size wr wx)
   case first =>
    refine wp_region_held_drew (S := (fun V => Below wr.heap.size wr V)) (by kernel_rfl) ?_ (fun hHeld => ?_)
    ·first | done | ((try dsimp only); exact (Below.refl _ _).drew)
    have PW := (Below.refl wr.heap.size wr).drew
    generalize wr.drew = wb at *
    refine tk 0 29 ?_ rfl (by kernel_rfl) (fun _ _ _ h => h) (by rfl) (by assumption) ?_ ?_
    rotate_left
    ·(intro w' hSw; (try dsimp only at hSw); go_simp; try (with_reducible rfl))
    (try simp only [pS, pB, pZ, pC])
    refine tk 1 30 ?_ rfl (by kernel_rfl) (fun _ _ _ h => h) (by rfl) (by assumption) ?_ ?_
    rotate_left
    ·(intro w' hSw; (try dsimp only at hSw); go_simp; try (with_reducible rfl))
    (try simp only [pS, pB, pZ, pC])
    refine tk 2 31 ?_ rfl (by kernel_rfl) (fun _ _ _ h => h) (by rfl) (by assumption) ?_ ?_
    rotate_left
    ·(intro w' hSw; (try dsimp only at hSw); go_simp; try (with_reducible rfl))
    (try simp only [pS, pB, pZ, pC])
    refine tk 3 32 ?_ rfl (by kernel_rfl) (fun _ _ _ h => h) (by rfl) (by assumption) ?_ ?_
    rotate_left
    ·(intro w' hSw; (try dsimp only at hSw); go_simp; try (with_reducible rfl))
    (try simp only [pS, pB, pZ, pC])
    refine tk 4 33 ?_ rfl (by kernel_rfl) (fun _ _ _ h => h) (by rfl) (by assumption) ?_ ?_
    rotate_left
    ·(intro w' hSw; (try dsimp only at hSw); (have hc := HOF.out _ hSw; go_simp); try (with_reducible rfl))
    (try simp only [pS, pB, pZ, pC])
    refine tk 5 34 ?_ rfl (by kernel_rfl) (fun _ _ _ h => h) (by rfl) (by assumption) ?_ ?_
    rotate_left
    ·(intro w' hSw; (try dsimp only at hSw); go_simp; try (with_reducible rfl))
    (try simp only [pS, pB, pZ, pC])
    refine tk 6 35 ?_ rfl (by kernel_rfl) (fun _ _ _ h => h) (by rfl) (by assumption) ?_ ?_
    rotate_left
    ·(intro w' hSw; (try dsimp only at hSw); go_simp; try (with_reducible rfl))
    (try simp only [pS, pB, pZ, pC])
    refine tk 7 36 ?_ rfl (by kernel_rfl) (fun _ _ _ h => h) (by rfl) (by assumption) ?_ ?_
    rotate_left
    ·(intro w' hSw; (try dsimp only at hSw); go_simp; try (with_reducible rfl))
    (try simp only [pS, pB, pZ, pC])
    refine wpAnyH_ready (rs := [8, 10]) (by kernel_rfl) (by simp) (AllReadyH.cons (o := ⟨some 37, _, _, _, _, _⟩) rfl (fun K hK => ?_) (AllReadyH.cons (o := ⟨some 12, _, _, _, _, _⟩) rfl (fun K hK => ?_) AllReadyH.nil))
    ·skip
     go_simp
     (refine (HHR.out _ _ (HRW.out _ PW)).mono ?_; rintro e w6 ⟨rfl, hb6⟩)
     refine hK.out _ _ ?_ (fun hHeld => ?_)
     ·first | done | ((try dsimp only); exact PW.trans (hb6.mono PW.size))
     clear hK K
     (try simp only [pS, pB, pZ, pC])
     have P6 := PW.trans (hb6.mono PW.size)
     refine tk 9 38 ?_ rfl (by kernel_rfl) (fun _ _ _ h => h) (by rfl) (by assumption) ?_ ?_
     rotate_left
     ·(intro w' hSw; (try dsimp only at hSw); (refine exec_buildRH _ _ _ _ _ _ fl[i].office (tickN (fl.take k)) (k : Int) R ?_ ?_ ?_ ?_ ?_ _ <;> (try intro) <;> rfl); try (with_reducible rfl))
     (try simp only [pS, pB, pZ, pC])
     refine wpAnyH_ready (rs := [10]) (by kernel_rfl) (by simp) (AllReadyH.cons (o := ⟨some 12, _, _, _, _, _⟩) rfl (fun K hK => ?_) AllReadyH.nil)
     go_simp
     skip
     refine hK.out _ _ ?_ (fun hHeld => ?_)
     ·first | done | ((try dsimp only); exact P6.alloc P6.size _)
     clear hK K
     (try simp only [pS, pB, pZ, pC])
     have hge : wr.heap.size ≤ w6.heap.size := P6.size
     have PZ := P6.alloc P6.size (.cells #[.int .i64 0, .int .i64 0, .int .i64 0, .int .i64 0, .int .u64 0, .int .u64 0, .int .i64 0, .int .u64 0] 29)
     have YZ := Blk.new w6 29 #[.int .i64 0, .int .i64 0, .int .i64 0, .int .i64 0, .int .u64 0, .int .u64 0, .int .i64 0, .int .u64 0]
     refine wpAnyH_ready (rs := [11]) (by kernel_rfl) (by simp) (AllReadyH.cons (o := ⟨none, _, _, _, _, _⟩) rfl (fun K hK => ?_) AllReadyH.nil)
     rw [if_pos (by rfl)]
     refine wp_storeW (T := 29) (n := 8) (by kernel_rfl) YZ rfl _ _ rfl rfl _ rfl rfl (by kernel_rfl) (fun w9 Y9 g9 => ?_)
     have B9 := PZ.grown g9 PZ.size (fun k e => by injection e with e; omega)
     refine hK.out _ _ ?_ (fun hHeld => ?_)
     ·exact B9
     clear hK K
     refine wpAnyH_done (by kernel_rfl) ?_ _
     go_wp2_with fail
     go_meet
     exact ⟨_, rfl, hge, Y9, B9⟩
    ·skip
     go_simp
     skip
     refine hK.out _ _ ?_ (fun hHeld => ?_)
     ·first | done | ((try dsimp only); exact PW.alloc PW.size _)
     clear hK K
     (try simp only [pS, pB, pZ, pC])
     have hge : wr.heap.size ≤ wb.heap.size := PW.size
     have PY := PW.alloc PW.size (.cells #[.int .i64 0, .int .i64 0, .int .i64 0, .int .i64 0, .int .u64 0, .int .u64 0, .int .i64 0, .int .u64 0] 29)
     have YY := Blk.new wb 29 #[.int .i64 0, .int .i64 0, .int .i64 0, .int .i64 0, .int .u64 0, .int .u64 0, .int .i64 0, .int .u64 0]
     refine wpAnyH_ready (rs := [8]) (by kernel_rfl) (by simp) (AllReadyH.cons (o := ⟨some 37, _, _, _, _, _⟩) rfl (fun K hK => ?_) AllReadyH.nil)
     go_simp
     (refine (HHR.out _ _ (HRW.out _ PY)).mono ?_; rintro e w6 ⟨rfl, hb6⟩)
     refine hK.out _ _ ?_ (fun hHeld => ?_)
     ·first | done | ((try dsimp only); exact PY.trans (hb6.mono PY.size))
     clear hK K
     (try simp only [pS, pB, pZ, pC])
     have PZ := PY.trans (hb6.mono PY.size)
     have YZ := YY.keep hb6
     refine tk 9 38 ?_ rfl (by kernel_rfl) (fun _ _ _ h => h) (by rfl) (by assumption) ?_ ?_
     rotate_left
     ·(intro w' hSw; (try dsimp only at hSw); (refine exec_buildRH _ _ _ _ _ _ fl[i].office (tickN (fl.take k)) (k : Int) R ?_ ?_ ?_ ?_ ?_ _ <;> (try intro) <;> rfl); try (with_reducible rfl))
     (try simp only [pS, pB, pZ, pC])
     refine wpAnyH_ready (rs := [11]) (by kernel_rfl) (by simp) (AllReadyH.cons (o := ⟨none, _, _, _, _, _⟩) rfl (fun K hK => ?_) AllReadyH.nil)
     rw [if_pos (by rfl)]
     refine wp_storeW (T := 29) (n := 8) (by kernel_rfl) YZ rfl _ _ rfl rfl _ rfl rfl (by kernel_rfl) (fun w9 Y9 g9 => ?_)
     have B9 := PZ.grown g9 PZ.size (fun k e => by injection e with e; omega)
     refine hK.out _ _ ?_ (fun hHeld => ?_)
     ·exact B9
     clear hK K
     refine wpAnyH_done (by kernel_rfl) ?_ _
     go_wp2_with fail
     go_meet
     exact ⟨_, rfl, hge, Y9, B9⟩
   case rest =>
    obtain ⟨g, rfl, hg, YH, PC⟩ := hcut
    obtain ⟨wq, rfl⟩ : ∃ z : World, z = wc := ⟨_, rfl⟩
    have HSG := Lib.hid (fun (V : World) => refsign_any sec hsec fl[i].office (tickN (fl.take k)) 9 (k : Int) R 5 hR (by omega) 0 0 V)
    have HSA := Lib.hid (fun (V : World) => salt_any i (by omega) V)
    have P4 := below_up P1 PC P1.size
    have X4 := X1.keep PC
    have HRr2 := Lib.hid (fun (V : World) (hV : KeptBut wq w.heap.size V) => (KeptBut.range hV (fun j u hu => (P4.cell (p := ⟨b, o + i * 19 + j, none⟩) (Nat.lt_of_lt_of_le hb hBw)).trans (HRr.out j u hu)) (Nat.lt_of_lt_of_le (Nat.lt_of_lt_of_le hb hBw) P4.size) (by omega) : V.rangeAt b (o + i * 19) (fl[i].vals dv cv ev).toList))
    have hgw : w.heap.size < g := Nat.lt_of_lt_of_le X1.lt hg
    have HYr := Lib.hid (fun (V : World) (hV : KeptBut wq w.heap.size V) => (KeptBut.range (o := 0) hV (fun j u hu => by rw [Nat.zero_add, YH.cell j, ← Array.getElem?_toList]; exact hu) YH.lt (by omega) : V.rangeAt g 0 (Hd.vals ⟨fl[i].office, tickN (fl.take k), 9, (k : Int), R, 5, 0, 0⟩).toList))
    have HRW2 := Lib.hid (fun (V : World) (hV : Below wq.heap.size wq V) => HRW.out V (PC.trans (hV.mono PC.size)))
    clear HRW HOF X1 P1 PC YH HRr hg
    go_upto_region 8 with fail
    refine wp_region_held_drew (S := (fun V => KeptBut wq w.heap.size V)) (by kernel_rfl) ?_ (fun hHeld => ?_)
    ·first | done | ((try dsimp only); exact fun p _ _ => World.cell?_drew wq p)
    have PD := (Below.refl wq.heap.size wq).drew
    generalize wq.drew = wd at *
    refine tk 0 39 ?_ rfl (by kernel_rfl) (fun _ _ _ h => h) (by rfl) (by assumption) ?_ ?_
    rotate_left
    ·(intro w' hSw; (try dsimp only at hSw); go_simp; try (with_reducible rfl))
    (try simp only [pS, pB, pZ, pC])
    refine wpAnyH_take (i := 1) (oi := ⟨some 40, _, _, _, _, _⟩) (v := _) rfl (by kernel_rfl) (by kernel_rfl) (by kernel_rfl) (fun _ _ _ h => h) (yieldsRH _ rfl rfl HYr.out rfl) (by assumption) ?_
    (try simp only [pS, pB, pZ, pC])
    refine tk 3 42 ?_ rfl (by kernel_rfl) (fun _ _ _ h => h) (by rfl) (by assumption) ?_ ?_
    rotate_left
    ·(intro w' hSw; (try dsimp only at hSw); go_simp; try (with_reducible rfl))
    (try simp only [pS, pB, pZ, pC])
    refine tk 4 43 ?_ rfl (by kernel_rfl) (fun _ _ _ h => h) (by rfl) (by assumption) ?_ ?_
    rotate_left
    ·(intro w' hSw; (try dsimp only at hSw); go_simp; try (with_reducible rfl))
    (try simp only [pS, pB, pZ, pC])
    refine tk 5 44 ?_ rfl (by kernel_rfl) (fun _ _ _ h => h) (by rfl) (by assumption) ?_ ?_
    rotate_left
    ·(intro w' hSw; (try dsimp only at hSw); go_simp; try (with_reducible rfl))
    (try simp only [pS, pB, pZ, pC])
    refine tk 6 45 ?_ rfl (by kernel_rfl) (fun _ _ _ h => h) (by rfl) (by assumption) ?_ ?_
    rotate_left
    ·(intro w' hSw; (try dsimp only at hSw); go_simp; try (with_reducible rfl))
    (try simp only [pS, pB, pZ, pC])
    refine wpAnyH_take (i := 7) (oi := ⟨some 46, _, _, _, _, _⟩) (v := _) rfl (by kernel_rfl) (by kernel_rfl) (by kernel_rfl) (fun _ _ _ h => h) (yieldsAt (cs := fl[i].vals dv cv ev) rfl _ rfl rfl HRr2.out rfl) (by assumption) ?_
    (try simp only [pS, pB, pZ, pC])
    refine tk 8 47 ?_ rfl (by kernel_rfl) (fun _ _ _ h => h) (by rfl) (by assumption) ?_ ?_
    rotate_left
    ·(intro w' hSw; (try dsimp only at hSw); go_simp; try (with_reducible rfl))
    (try simp only [pS, pB, pZ, pC])
    refine tk 10 49 ?_ rfl (by kernel_rfl) (fun _ _ _ h => h) (by rfl) (by assumption) ?_ ?_
    rotate_left
    ·(intro w' hSw; (try dsimp only at hSw); go_simp; try (with_reducible rfl))
    (try simp only [pS, pB, pZ, pC])
    refine tk 11 50 ?_ rfl (by kernel_rfl) (fun _ _ _ h => h) (by rfl) (by assumption) ?_ ?_
    rotate_left
    ·(intro w' hSw; (try dsimp only at hSw); go_simp; try (with_reducible rfl))
    (try simp only [pS, pB, pZ, pC])
    refine wpAnyH_ready (rs := [2]) (by kernel_rfl) (by simp) (AllReadyH.cons (o := ⟨some 41, _, _, _, _, _⟩) rfl (fun K hK => ?_) AllReadyH.nil)
    go_simp
    (refine (HSG.out _).mono ?_; rintro e w6 ⟨rfl, hb6⟩)
    refine hK.out _ _ ?_ (fun hHeld => ?_)
    ·first | done | ((try dsimp only); exact KeptBut.of_below (PD.trans (hb6.mono PD.size)))
    clear hK K
    (try simp only [pS, pB, pZ, pC])
    have P6 := PD.trans (hb6.mono PD.size)
    refine wpAnyH_ready (rs := [9]) (by kernel_rfl) (by simp) (AllReadyH.cons (o := ⟨some 48, _, _, _, _, _⟩) rfl (fun K hK => ?_) AllReadyH.nil)
    go_simp
    (refine (HSA.out _).mono ?_; rintro e w7 ⟨rfl, hb7⟩)
    refine hK.out _ _ ?_ (fun hHeld => ?_)
    ·first | done | ((try dsimp only); exact KeptBut.of_below (P6.trans (hb7.mono P6.size)))
    clear hK K
    (try simp only [pS, pB, pZ, pC])
    have P7 := P6.trans (hb7.mono P6.size)
    refine wpAnyH_ready (rs := [12]) (by kernel_rfl) (by simp) (AllReadyH.cons (o := ⟨some 51, _, _, _, _, _⟩) rfl (fun K hK => ?_) AllReadyH.nil)
    go_simp
    (refine (HHP.out _ _ (HRW2.out _ P7)).mono ?_; rintro e w8 ⟨Ap, np, cp, rfl, hpp, hb8⟩)
    refine hK.out _ _ ?_ (fun hHeld => ?_)
    ·first | done | ((try dsimp only); exact KeptBut.of_below (P7.trans (hb8.mono P7.size)))
    clear hK K
    (try simp only [pS, pB, pZ, pC])
    have P8 := P7.trans (hb8.mono P7.size)
    refine tk 13 52 ?_ rfl (by kernel_rfl) (fun _ _ _ h => h) (by rfl) (by assumption) ?_ ?_
    rotate_left
    ·(intro w' hSw; (try dsimp only at hSw); (refine exec_buildK _ _ _ _ _ _ (.tmp 41) (.tmp 42) (.tmp 46) (.tmp 48) (.tmp 51) (hdOf sec fl fl[i].office k R) (i : Int) fl[i] dv cv ev (saltN i) Ap np cp ?_ ?_ ?_ ?_ ?_ _ <;> rfl); try (with_reducible rfl))
    (try simp only [pS, pB, pZ, pC])
    have X8 := X4.keep P8
    have P9 := P4.trans (P8.mono P4.size)
    refine wpAnyH_ready (rs := [14]) (by kernel_rfl) (by simp) (AllReadyH.cons (o := ⟨none, _, _, _, _, _⟩) rfl (fun K hK => ?_) AllReadyH.nil)
    rw [if_pos (by rfl)]
    refine wp_storeW (T := 44) (n := 30) (by kernel_rfl) X8 rfl _ _ rfl rfl _ rfl rfl (cop_one _ _ _ _ _ _ _ hone) (fun w9 Y9 g9 => ?_)
    refine hK.out _ _ ?_ (fun hHeld => ?_)
    ·exact (KeptBut.of_below P8).grown P8.size g9
    clear hK K
    refine wpAnyH_done (by kernel_rfl) ?_ _
    go_wp2_with fail
    exact bodyPost_ret (results_K rfl _ rfl Y9 rfl) rfl ⟨dv, cv, ev, Ap, np, cp, rfl, HF.out, HHPP.out _ _ _ hpp g9, P9.grown g9 P9.size (fun j e => by injection e with e; omega)⟩
end Go.Proofs.YtbeaijjaecaidaaGreatDoor
namespace Go.Proofs.YtbeaijjaecaidaaGreatDoor
open Go.RowKit Go.Shelf
theorem wds_cons {a : Nat} {l : List Nat} (h : a < 18446744073709551616) (hl : Words l) : Words (a :: l) := fun x hx => by
 rcases List.mem_cons.1 hx with rfl | hx
 ·exact h
 ·exact hl x hx
theorem wds_nil : Words [] := fun x hx => by cases hx
theorem lab_one {s : ByteArray} {p q : List Nat} {x y : Nat} (hx : x < 18446744073709551616) (hy : y < 18446744073709551616) (hq : Words q) (h : labN s (p ++ x :: q) = labN s (p ++ y :: q)) : x = y := sum_one hx hy hq h
theorem leaf_inj {a b : Nat} (ha : a < 18446744073709551616) (hb : b < 18446744073709551616) (h : leafN a = leafN b) : a = b := lab_one (p := []) (q := []) ha hb wds_nil h
theorem commit_lt (bs : List Nat) (s : Nat) : commitN bs s < 18446744073709551616 := lab_lt _ _
theorem commit_inj {bs : List Nat} {s t : Nat} (ha : s < 18446744073709551616) (hb : t < 18446744073709551616) (h : commitN bs s = commitN bs t) : s = t := lab_one (p := []) (q := [bytesN sSealed bs]) ha hb (wds_cons (bytesN_lt _ _) wds_nil) h
theorem sig_inj {a b : Nat} {h : Hd} (ha : a < 18446744073709551616) (hb : b < 18446744073709551616) (hl : h.log < 18446744073709551616) (hm : h.map < 18446744073709551616) (e : sigN a h = sigN b h) : a = b :=
 lab_one (p := []) (q := [u64 h.office, u64 h.tick, u64 h.day, u64 h.size, h.log, h.map, u64 h.sld]) ha hb (wds_cons (u64_lt _) (wds_cons (u64_lt _) (wds_cons (u64_lt _) (wds_cons (u64_lt _) (wds_cons hl (wds_cons hm (wds_cons (u64_lt _) wds_nil))))))) e
theorem fil_good (f : Fil) {o : Int} (h : f.office = o) : filE f o = 0 := if_pos h
theorem fil_bad (f : Fil) {o : Int} (h : f.office ≠ o) : filE f o = 22 := if_neg h
theorem hd_sign (sec : Nat) (fl : List Fil) (o : Int) (size R : Nat) : (hdOf sec fl o size R).sign = sigN (keyN sec) (hdOf sec fl o size R) := rfl
theorem hd_good {key : Nat} {h : Hd} (e : h.sign = sigN key h) : hdE key h = 0 := if_pos e
theorem hd_bad {key key' : Nat} {h : Hd} (e : h.sign = sigN key h) (ha : key < 18446744073709551616) (hb : key' < 18446744073709551616) (hl : h.log < 18446744073709551616) (hm : h.map < 18446744073709551616) (hne : key ≠ key') : hdE key' h = 23 := if_neg (fun e2 => hne (sig_inj ha hb hl hm (e.symm.trans e2)))
theorem log_good {h : Hd} {f : Fil} {s : Nat} (e : h.log = leafN (commitN (encA f) s)) : logE h f s = 0 := if_pos e
theorem log_bad {h : Hd} {f : Fil} {s s' : Nat} (e : h.log = leafN (commitN (encA f) s)) (ha : s < 18446744073709551616) (hb : s' < 18446744073709551616) (hne : s ≠ s') : logE h f s' = 10 :=
 if_neg (fun e2 => hne (commit_inj ha hb (leaf_inj (commit_lt _ _) (commit_lt _ _) (e.symm.trans e2))))
theorem next_ne {s : Nat} : s ≠ (s + 1) % 18446744073709551616 := by omega
/-- One cell of a copy changed. -/
theorem IsCop.setSalt {C : Array Value} {h : Hd} {i : Int} {f : Fil} {dv cv ev : Value} {salt : Nat} {p : Value} (hC : IsCop C h i f dv cv ev salt p) (s : Nat) : IsCop (C.setIfInBounds 28 (.int .u64 (s : Int))) h i f dv cv ev s p := by
 obtain ⟨h1, h2, h3, h4, h5, h6⟩ := hC
 refine ⟨by simp [h1], fun j v hj => ?_, fun j v hj => ?_, ?_, ?_, ?_⟩
 ·have hlt : j < 19 := lt_of_some hj
  rw [Array.getElem?_setIfInBounds_ne (by omega)]
  exact h2 j v hj
 ·have hlt : j < 8 := lt_of_some hj
  rw [Array.getElem?_setIfInBounds_ne (by omega)]
  exact h3 j v hj
 ·rw [Array.getElem?_setIfInBounds_ne (by omega)]; exact h4
 ·rw [Array.getElem?_setIfInBounds_self_of_lt (by omega)]
 ·rw [Array.getElem?_setIfInBounds_ne (by omega)]; exact h6
theorem IsCop.setOffice {C : Array Value} {h : Hd} {i : Int} {f : Fil} {dv cv ev : Value} {salt : Nat} {p : Value} (hC : IsCop C h i f dv cv ev salt p) (o : Int) : IsCop (C.setIfInBounds 13 (.int .i64 o)) h i { f with office := o } dv cv ev salt p := by
 obtain ⟨h1, h2, h3, h4, h5, h6⟩ := hC
 refine ⟨by simp [h1], fun j v hj => ?_, fun j v hj => ?_, ?_, ?_, ?_⟩
 ·have hlt : j < 19 := lt_of_some hj
  by_cases h4 : j = 4
  ·subst h4
   rw [Array.getElem?_setIfInBounds_self_of_lt (by omega)]
   exact hj
  ·rw [Array.getElem?_setIfInBounds_ne (by omega)]
   refine h2 j v ?_
   have e : j = 0 ∨ j = 1 ∨ j = 2 ∨ j = 3 ∨ j = 5 ∨ j = 6 ∨ j = 7 ∨ j = 8 ∨ j = 9 ∨ j = 10 ∨ j = 11 ∨ j = 12 ∨ j = 13 ∨ j = 14 ∨ j = 15 ∨ j = 16 ∨ j = 17 ∨ j = 18 := by omega
   rcases e with rfl | rfl | rfl | rfl | rfl | rfl | rfl | rfl | rfl | rfl | rfl | rfl | rfl | rfl | rfl | rfl | rfl | rfl <;> exact hj
 ·have hlt : j < 8 := lt_of_some hj
  rw [Array.getElem?_setIfInBounds_ne (by omega)]
  exact h3 j v hj
 ·rw [Array.getElem?_setIfInBounds_ne (by omega)]; exact h4
 ·rw [Array.getElem?_setIfInBounds_ne (by omega)]; exact h5
 ·rw [Array.getElem?_setIfInBounds_ne (by omega)]; exact h6
/-- The filing of the example. -/
def liveF : Fil := ⟨7, 2, 3, 1, 4, -1, [.mk 0 0 [] []], [], []⟩
theorem liveF_ok : OkFil liveF := by
 have hF : Feat (.mk 0 0 [] []) := by
  refine ⟨⟨by decide, by decide, ?_⟩, by decide⟩
  intro y hy
  have hy : y ∈ [F.mk 0 0 [] []] := hy
  simp only [List.mem_cons, List.not_mem_nil, or_false] at hy
  rcases hy with rfl
  exact .inl ⟨rfl, rfl, rfl, rfl⟩
 have hT : OkTx [.mk 0 0 [] []] [] := genTx_ok ⟨by decide, fun f hf => by rw [List.mem_singleton.1 hf]; exact hF, by decide, fun i hi => absurd hi (by simp)⟩
 refine ⟨by decide, by decide, by decide, by decide, by decide, by decide, hT, by decide, fun p hp => (by cases hp), List.nodup_nil⟩
end Go.Proofs.YtbeaijjaecaidaaGreatDoor
namespace Go.Proofs.YtbeaijjaecaidaaGreatDoor
open Go.RowKit Go.Shelf
attribute [local go_sem] Oper.semAt_some
/-- The filings that a law is about. -/
structure LogOk (fl : List Fil) (o : Int) : Prop where
 len : fl.length ≤ 14
 ok : ∀ f ∈ fl, OkFil f
 office : ∀ f ∈ fl, f.office = o
theorem logOk_of {l : List Item} (h : GenS l) {o : Int} (ho : 0 ≤ o ∧ o ≤ 11) : LogOk ((filsOf l).map (setO o)) o := by
 have hg := h.2.2
 refine ⟨by rw [List.length_map]; exact hg.1, fun f hf => ?_, fun f hf => ?_⟩
 ·obtain ⟨f0, hf0, rfl⟩ := List.mem_map.1 hf
  obtain ⟨i, hi, rfl⟩ := List.getElem_of_mem hf0
  obtain ⟨g1, g2, g3, g4, g5⟩ := hg.2 i hi
  have := hg.1
  exact genA_ok g1 (by omega) ⟨g2, g3⟩ ⟨g4, g5⟩ o ho
 ·obtain ⟨f0, _, rfl⟩ := List.mem_map.1 hf
  rfl
set_option maxRecDepth 100000 in
set_option maxHeartbeats 2000000 in
theorem log_any (A : Option Addr) (n c : Nat) (o : Int) (ho : 0 ≤ o ∧ o ≤ 11) (w : World) (hA : IntsAt w A n) (hA2 : ∀ a, A = some a → a.block < w.heap.size) :
  Calls Tryz.prog 8 #[.slice A n c, .int .i64 o] w fun e w' => ∃ Ao co fl, e = .returned (.slice Ao fl.length co) ∧ fl.length ≤ co ∧ LogOk fl o ∧ FilRow w' w'.heap.size Ao fl ∧ Below w.heap.size w w' := by
 have HS := Lib.hid (script_any A n c w hA hA2)
 clear hA hA2
 go_enter Tryz.func8, Tryz.ntmps8
 go_wp2_with fail
 refine HS.out.mono ?_
 rintro e w1 ⟨u, l, rfl, h1, h2, hb1⟩
 have HF := Lib.hid (filings_any u l h2 o w1 w.heap.size h1)
 have HL := Lib.hid (logOk_of h2 ho)
 clear h1 h2 HS
 go_wp2_with fail
 refine HF.out.mono ?_
 rintro e w2 ⟨v, rfl, h3, hb2⟩
 have hr := RepM.out (ts := []) (H := []) (OwnM.rep h3 (fun _ h => by cases h) (by simp) (fun _ h => by cases h))
 obtain ⟨Ao, co, rfl, hco, hrow⟩ := Rep.filRow hr
 have hb := below_up hb1 hb2 hb1.size
 clear HF h3 hr
 generalize (filsOf l).map (setO o) = fl at *
 have HR := Lib.hid hrow
 clear hrow
 go_wp2_with fail
 go_ret
 exact ⟨Ao, co, fl, rfl, hco, HL.out, HR.out, hb⟩
end Go.Proofs.YtbeaijjaecaidaaGreatDoor
namespace Go.Proofs.YtbeaijjaecaidaaGreatDoor
open Go.RowKit Go.Shelf
attribute [local go_sem] Oper.semAt_some
set_option maxRecDepth 100000 in
set_option maxHeartbeats 1000000 in
theorem clone_nil (w : World) : Calls Tryz.prog 58 #[.slice none 0 0] w fun e w' => e = .returned (.slice none 0 0) ∧ w' = w := by
 have heq : ∀ W : World, (binOp .eql 42 (.slice none 0 0) (.slice none 0 0)).run Tryz.prog W = .ok (.bool true) W := fun W => Lib.run_eql_slice_nil W _ _ none 0 0 0 0 Tryz.underlying42
 go_enter Tryz.func58, Tryz.ntmps58
 go_wp2_with fail
 go_ret
 exact ⟨rfl, rfl⟩
set_option maxRecDepth 100000 in
theorem results_CE {fn : Func} {p u : Tmp} (h : fn.results = #[.cell p 51, .tmp u]) (tmps : Array Value) {w : World} {g : Nat} {cs : Array Value} (hp : tmps.getD p undef = .pointer (some ⟨g, 0, none⟩)) (hb : Blk w g 51 cs) (hs : cs.size = 30) :
  (results fn tmps).run Tryz.prog w = .ok (.tuple #[.agg cs, tmps.getD u undef]) w := by
 have hl := run_loadVar_row w g 51 51 cs (0, 0) _ hb Tryz.underlying51 rfl (by rw [hs]; kernel_rfl)
 have hp' : tmps[p]?.getD undef = .pointer (some ⟨g, 0, none⟩) := by simpa using hp
 simp [results, h, hp', asAddr, hl]
theorem yieldsHv {S : World → Prop} {ops : Array Oper} {g : Nat} {cs : Array Value} (hs : cs.size = 8) {o : Oper} {a : Act} (x : Operand) (ho : o.op = .load 49 x) (hx : a.eval x = .pointer (some ⟨g, 0, none⟩)) (hS : ∀ W, S W → Blk W g 49 cs) (hw : Region.wanted o (yielded ops a.tmps) = true) : YieldsIf Tryz.prog ops S o (.agg cs) a := by
 have h := yieldsIf_load_mid (P := Tryz.prog) (ops := ops) (S := S) hw 49 x ho g 0 hx cs.toList _ (fun w h j v hv => by rw [Nat.zero_add, (hS w h).cell j, ← Array.getElem?_toList]; exact hv) Tryz.underlying49 rfl (by rw [Array.length_toList, hs]; kernel_rfl)
 rwa [Array.toArray_toList] at h
set_option maxRecDepth 100000 in
set_option maxHeartbeats 4000000 in
theorem make_any (h : Hd) (f : Fil) (hok : OkFil f) (dv cv ev : Value) (salt : Nat) (hsalt : salt < 18446744073709551616) (hs1 : h.size = 1) (hkt : f.known ≤ h.tick) (hoff : f.office = h.office) (hlog : h.log = leafN (commitN (encA f) salt))
  (w : World) (hG : w.cell? ⟨0, 0, none⟩ = some (.int .i64 655)) (h0 : 0 < w.heap.size) (B : Nat) (hBw : B ≤ w.heap.size) (hf : FilAt w B f dv cv ev) :
  Calls Tryz.prog 17 #[.agg h.vals, .int .i64 0, .agg (f.vals dv cv ev), .int .u64 (salt : Int), .slice none 0 0] w fun e w' => e = .returned (.tuple #[.agg (cop h 0 f dv cv ev salt (.slice none 0 0)), .int .i64 0]) ∧ Below w.heap.size w w' := by
 have HK : ∀ W, Below w.heap.size w W → W.cell? ⟨0, 0, none⟩ = some (.int .i64 655) ∧ 0 < W.heap.size ∧ B ≤ W.heap.size ∧ FilAt W B f dv cv ev := fun W hW => ⟨(hW.cell (p := ⟨0, 0, none⟩) h0).trans hG, Nat.lt_of_lt_of_le h0 hW.size, Nat.le_trans hBw hW.size, hf.keep (fun p hp => hW.cell (Nat.lt_of_lt_of_le hp hBw)) (Nat.le_refl _)⟩
 have hC := cop_is h 0 f dv cv ev salt (.slice none 0 0)
 have H1 := Lib.hid (fun (W : World) (hW : Below w.heap.size w W) => cfiling_any hC hok W (HK W hW).1 (HK W hW).2.1 B (HK W hW).2.2.1 (HK W hW).2.2.2)
 have H3 := Lib.hid (fun (W : World) (hW : Below w.heap.size w W) => clogged_any hC hok hs1 hkt hsalt W (HK W hW).1 (HK W hW).2.1 B (HK W hW).2.2.1 (HK W hW).2.2.2)
 rw [fil_good f hoff] at H1
 rw [log_good hlog] at H3
 have hone := hf.one
 have hcs := hC.size
 have hC1 := cop_one h 0 f salt none 0 0 hone
 have hvs : h.vals.size = 8 := rfl
 have hfs : (f.vals dv cv ev).size = 19 := rfl
 have HBD := Lib.hid (fun (d : Option Tmp) (ty : TypeId) (pos : String) (after : Array Edge) (gd : Option (Nat × Bool)) (r : Operand → Value) (x0 x1 x2 x3 x4 : Operand) (h0 : r x0 = .agg h.vals) (h1 : r x1 = .int .i64 0) (h2 : r x2 = .agg (f.vals dv cv ev)) (h3 : r x3 = .int .u64 (salt : Int)) (h4 : r x4 = .slice none 0 0) (w : World) => exec_buildC d ty pos after gd r x0 x1 x2 x3 x4 h 0 f dv cv ev salt none 0 0 h0 h1 h2 h3 h4 w)
 clear HK hC hok hsalt hs1 hkt hoff hlog hG h0 hBw hf hone
 generalize cop h 0 f dv cv ev salt (.slice none 0 0) = C at *
 generalize h.vals = hv at *
 generalize f.vals dv cv ev = fv at *
 have P0 := ((below_new w (.cells hv 49)).alloc (by simp) (.cells fv 41)).alloc (by simp; omega) (.cells #[.int .i64 0, .int .i64 0, .int .i64 0, .int .i64 0, .int .u64 0, .int .u64 0, .int .i64 0, .int .u64 0, .int .i64 0, .int .i64 0, .int .i64 0, .int .i64 0, .int .i64 0, .int .i64 0, .int .i64 0, .int .i64 0, .int .i64 0, .int .i64 0, .int .i64 0, .int .i64 0, .slice none 0 0, .slice none 0 0, .slice none 0 0, .slice none 0 0, .int .i64 0, .int .i64 0, .slice none 0 0, .slice none 0 0, .int .u64 0, .slice none 0 0] 51)
 have B0 := ((Blk.new w 49 hv).alloc (.cells fv 41)).alloc (.cells #[.int .i64 0, .int .i64 0, .int .i64 0, .int .i64 0, .int .u64 0, .int .u64 0, .int .i64 0, .int .u64 0, .int .i64 0, .int .i64 0, .int .i64 0, .int .i64 0, .int .i64 0, .int .i64 0, .int .i64 0, .int .i64 0, .int .i64 0, .int .i64 0, .int .i64 0, .int .i64 0, .slice none 0 0, .slice none 0 0, .slice none 0 0, .slice none 0 0, .int .i64 0, .int .i64 0, .slice none 0 0, .slice none 0 0, .int .u64 0, .slice none 0 0] 51)
 have B1 := (Blk.new (w.alloc (.cells hv 49)) 41 fv).alloc (.cells #[.int .i64 0, .int .i64 0, .int .i64 0, .int .i64 0, .int .u64 0, .int .u64 0, .int .i64 0, .int .u64 0, .int .i64 0, .int .i64 0, .int .i64 0, .int .i64 0, .int .i64 0, .int .i64 0, .int .i64 0, .int .i64 0, .int .i64 0, .int .i64 0, .int .i64 0, .int .i64 0, .slice none 0 0, .slice none 0 0, .slice none 0 0, .slice none 0 0, .int .i64 0, .int .i64 0, .slice none 0 0, .slice none 0 0, .int .u64 0, .slice none 0 0] 51)
 have B2 := Blk.new ((w.alloc (.cells hv 49)).alloc (.cells fv 41)) 51 #[.int .i64 0, .int .i64 0, .int .i64 0, .int .i64 0, .int .u64 0, .int .u64 0, .int .i64 0, .int .u64 0, .int .i64 0, .int .i64 0, .int .i64 0, .int .i64 0, .int .i64 0, .int .i64 0, .int .i64 0, .int .i64 0, .int .i64 0, .int .i64 0, .int .i64 0, .int .i64 0, .slice none 0 0, .slice none 0 0, .slice none 0 0, .slice none 0 0, .int .i64 0, .int .i64 0, .slice none 0 0, .slice none 0 0, .int .u64 0, .slice none 0 0]
 rw [World.size_alloc] at B1
 rw [World.size_alloc, World.size_alloc] at B2
 go_enter Tryz.func17, Tryz.ntmps17
 go_upto_region 1 with fail
 generalize ((w.alloc (.cells hv 49)).alloc (.cells fv 41)).alloc (.cells #[.int .i64 0, .int .i64 0, .int .i64 0, .int .i64 0, .int .u64 0, .int .u64 0, .int .i64 0, .int .u64 0, .int .i64 0, .int .i64 0, .int .i64 0, .int .i64 0, .int .i64 0, .int .i64 0, .int .i64 0, .int .i64 0, .int .i64 0, .int .i64 0, .int .i64 0, .int .i64 0, .slice none 0 0, .slice none 0 0, .slice none 0 0, .slice none 0 0, .int .i64 0, .int .i64 0, .slice none 0 0, .slice none 0 0, .int .u64 0, .slice none 0 0] 51) = w3 at *
 go_cut [12] (fun p wx => ∃ g, p = .pointer (some ⟨g, 0, none⟩) ∧ Blk wx g 51 C ∧ w.heap.size + 1 + 1 < g ∧ Blk wx (w.heap.size + 1 + 1) 51 #[.int .i64 0, .int .i64 0, .int .i64 0, .int .i64 0, .int .u64 0, .int .u64 0, .int .i64 0, .int .u64 0, .int .i64 0, .int .i64 0, .int .i64 0, .int .i64 0, .int .i64 0, .int .i64 0, .int .i64 0, .int .i64 0, .int .i64 0, .int .i64 0, .int .i64 0, .int .i64 0, .slice none 0 0, .slice none 0 0, .slice none 0 0, .slice none 0 0, .int .i64 0, .int .i64 0, .slice none 0 0, .slice none 0 0, .int .u64 0, .slice none 0 0] ∧ Below w.heap.size w wx)
 case first =>
  refine wp_region_held_drew (S := (fun V => Blk V w.heap.size 49 hv ∧ Blk V (w.heap.size + 1) 41 fv ∧ Blk V (w.heap.size + 1 + 1) 51 #[.int .i64 0, .int .i64 0, .int .i64 0, .int .i64 0, .int .u64 0, .int .u64 0, .int .i64 0, .int .u64 0, .int .i64 0, .int .i64 0, .int .i64 0, .int .i64 0, .int .i64 0, .int .i64 0, .int .i64 0, .int .i64 0, .int .i64 0, .int .i64 0, .int .i64 0, .int .i64 0, .slice none 0 0, .slice none 0 0, .slice none 0 0, .slice none 0 0, .int .i64 0, .int .i64 0, .slice none 0 0, .slice none 0 0, .int .u64 0, .slice none 0 0] ∧ Below w.heap.size w V)) (by kernel_rfl) ?_ (fun hHeld => ?_)
  ·first | done | ((try dsimp only); exact ⟨B0.drew, B1.drew, B2.drew, P0.drew⟩)
  have SX : Blk w3.drew w.heap.size 49 hv ∧ Blk w3.drew (w.heap.size + 1) 41 fv ∧ Blk w3.drew (w.heap.size + 1 + 1) 51 #[.int .i64 0, .int .i64 0, .int .i64 0, .int .i64 0, .int .u64 0, .int .u64 0, .int .i64 0, .int .u64 0, .int .i64 0, .int .i64 0, .int .i64 0, .int .i64 0, .int .i64 0, .int .i64 0, .int .i64 0, .int .i64 0, .int .i64 0, .int .i64 0, .int .i64 0, .int .i64 0, .slice none 0 0, .slice none 0 0, .slice none 0 0, .slice none 0 0, .int .i64 0, .int .i64 0, .slice none 0 0, .slice none 0 0, .int .u64 0, .slice none 0 0] ∧ Below w.heap.size w w3.drew := ⟨B0.drew, B1.drew, B2.drew, P0.drew⟩
  clear B0 B1 B2 P0
  generalize w3.drew = wd at *
  refine wpAnyH_take (i := 0) (oi := ⟨some 14, _, _, _, _, _⟩) (v := _) rfl (by kernel_rfl) (by kernel_rfl) (by kernel_rfl) (fun _ _ _ h => h) (yieldsHv hvs _ rfl rfl (fun _ h => h.1) rfl) (by assumption) ?_
  (try simp only [pS, pB, pZ, pC])
  refine tk 1 15 ?_ rfl (by kernel_rfl) (fun _ _ _ h => h) (by rfl) (by assumption) ?_ ?_
  rotate_left
  ·(intro w' hSw; (try dsimp only at hSw); go_simp; try (with_reducible rfl))
  (try simp only [pS, pB, pZ, pC])
  refine wpAnyH_take (i := 2) (oi := ⟨some 16, _, _, _, _, _⟩) (v := _) rfl (by kernel_rfl) (by kernel_rfl) (by kernel_rfl) (fun _ _ _ h => h) (yieldsA hfs _ rfl rfl (fun _ h => h.2.1) rfl) (by assumption) ?_
  (try simp only [pS, pB, pZ, pC])
  refine tk 3 17 ?_ rfl (by kernel_rfl) (fun _ _ _ h => h) (by rfl) (by assumption) ?_ ?_
  rotate_left
  ·(intro w' hSw; (try dsimp only at hSw); go_simp; try (with_reducible rfl))
  (try simp only [pS, pB, pZ, pC])
  refine tk 4 18 ?_ rfl (by kernel_rfl) (fun _ _ _ h => h) (by rfl) (by assumption) ?_ ?_
  rotate_left
  ·(intro w' hSw; (try dsimp only at hSw); go_simp; try (with_reducible rfl))
  (try simp only [pS, pB, pZ, pC])
  have hgt0 := SX.2.2.1.lt
  refine wpAnyH_ready (rs := [5, 7]) (by kernel_rfl) (by simp) (AllReadyH.cons (o := ⟨some 19, _, _, _, _, _⟩) rfl (fun K hK => ?_) (AllReadyH.cons (o := ⟨some 12, _, _, _, _, _⟩) rfl (fun K hK => ?_) AllReadyH.nil))
  ·skip
   go_simp
   (refine (clone_nil _).mono ?_; rintro e w6 ⟨rfl, hw6⟩; rw [hw6]; clear hw6)
   refine hK.out _ _ ?_ (fun hHeld => ?_)
   ·first | done | ((try dsimp only); exact SX)
   clear hK K
   (try simp only [pS, pB, pZ, pC])
   refine tk 6 20 ?_ rfl (by kernel_rfl) (fun _ _ _ h => h) (by rfl) (by assumption) ?_ ?_
   rotate_left
   ·(intro w' hSw; (try dsimp only at hSw); (refine HBD.out _ _ _ _ _ _ (.tmp 14) (.tmp 15) (.tmp 16) (.tmp 17) (.tmp 19) ?_ ?_ ?_ ?_ ?_ _ <;> rfl); try (with_reducible rfl))
   (try simp only [pS, pB, pZ, pC])
   refine wpAnyH_ready (rs := [7]) (by kernel_rfl) (by simp) (AllReadyH.cons (o := ⟨some 12, _, _, _, _, _⟩) rfl (fun K hK => ?_) AllReadyH.nil)
   go_simp
   skip
   refine hK.out _ _ ?_ (fun hHeld => ?_)
   ·first | done | ((try dsimp only); exact ⟨SX.1.alloc _, SX.2.1.alloc _, SX.2.2.1.alloc _, SX.2.2.2.alloc SX.2.2.2.size _⟩)
   clear hK K
   (try simp only [pS, pB, pZ, pC])
   have YZ := Blk.new wd 51 #[.int .i64 0, .int .i64 0, .int .i64 0, .int .i64 0, .int .u64 0, .int .u64 0, .int .i64 0, .int .u64 0, .int .i64 0, .int .i64 0, .int .i64 0, .int .i64 0, .int .i64 0, .int .i64 0, .int .i64 0, .int .i64 0, .int .i64 0, .int .i64 0, .int .i64 0, .int .i64 0, .slice none 0 0, .slice none 0 0, .slice none 0 0, .slice none 0 0, .int .i64 0, .int .i64 0, .slice none 0 0, .slice none 0 0, .int .u64 0, .slice none 0 0]
   have hgt : w.heap.size + 1 + 1 < wd.heap.size := hgt0
   have SZ := hHeld
   refine wpAnyH_ready (rs := [8]) (by kernel_rfl) (by simp) (AllReadyH.cons (o := ⟨none, _, _, _, _, _⟩) rfl (fun K hK => ?_) AllReadyH.nil)
   rw [if_pos (by rfl)]
   refine wp_storeW (T := 51) (n := 30) (by kernel_rfl) YZ rfl _ _ rfl rfl C rfl hcs hC1 (fun w9 Y9 g9 => ?_)
   have S9 : Blk w9 w.heap.size 49 hv ∧ Blk w9 (w.heap.size + 1) 41 fv ∧ Blk w9 (w.heap.size + 1 + 1) 51 #[.int .i64 0, .int .i64 0, .int .i64 0, .int .i64 0, .int .u64 0, .int .u64 0, .int .i64 0, .int .u64 0, .int .i64 0, .int .i64 0, .int .i64 0, .int .i64 0, .int .i64 0, .int .i64 0, .int .i64 0, .int .i64 0, .int .i64 0, .int .i64 0, .int .i64 0, .int .i64 0, .slice none 0 0, .slice none 0 0, .slice none 0 0, .slice none 0 0, .int .i64 0, .int .i64 0, .slice none 0 0, .slice none 0 0, .int .u64 0, .slice none 0 0] ∧ Below w.heap.size w w9 := ⟨SZ.1.grown g9 (fun e => by injection e with e; omega), SZ.2.1.grown g9 (fun e => by injection e with e; omega), SZ.2.2.1.grown g9 (fun e => by injection e with e; omega), SZ.2.2.2.grown g9 SZ.2.2.2.size (fun k e => by injection e with e; omega)⟩
   refine hK.out _ _ ?_ (fun hHeld => ?_)
   ·exact S9
   clear hK K
   refine wpAnyH_done (by kernel_rfl) ?_ _
   go_wp2_with fail
   go_meet
   exact ⟨_, rfl, Y9, hgt, S9.2.2.1, S9.2.2.2⟩
  ·skip
   go_simp
   skip
   refine hK.out _ _ ?_ (fun hHeld => ?_)
   ·first | done | ((try dsimp only); exact ⟨SX.1.alloc _, SX.2.1.alloc _, SX.2.2.1.alloc _, SX.2.2.2.alloc SX.2.2.2.size _⟩)
   clear hK K
   (try simp only [pS, pB, pZ, pC])
   have YZ := Blk.new wd 51 #[.int .i64 0, .int .i64 0, .int .i64 0, .int .i64 0, .int .u64 0, .int .u64 0, .int .i64 0, .int .u64 0, .int .i64 0, .int .i64 0, .int .i64 0, .int .i64 0, .int .i64 0, .int .i64 0, .int .i64 0, .int .i64 0, .int .i64 0, .int .i64 0, .int .i64 0, .int .i64 0, .slice none 0 0, .slice none 0 0, .slice none 0 0, .slice none 0 0, .int .i64 0, .int .i64 0, .slice none 0 0, .slice none 0 0, .int .u64 0, .slice none 0 0]
   have hgt : w.heap.size + 1 + 1 < wd.heap.size := hgt0
   have SZ : Blk (wd.alloc (.cells #[.int .i64 0, .int .i64 0, .int .i64 0, .int .i64 0, .int .u64 0, .int .u64 0, .int .i64 0, .int .u64 0, .int .i64 0, .int .i64 0, .int .i64 0, .int .i64 0, .int .i64 0, .int .i64 0, .int .i64 0, .int .i64 0, .int .i64 0, .int .i64 0, .int .i64 0, .int .i64 0, .slice none 0 0, .slice none 0 0, .slice none 0 0, .slice none 0 0, .int .i64 0, .int .i64 0, .slice none 0 0, .slice none 0 0, .int .u64 0, .slice none 0 0] 51)) w.heap.size 49 hv ∧ Blk (wd.alloc (.cells #[.int .i64 0, .int .i64 0, .int .i64 0, .int .i64 0, .int .u64 0, .int .u64 0, .int .i64 0, .int .u64 0, .int .i64 0, .int .i64 0, .int .i64 0, .int .i64 0, .int .i64 0, .int .i64 0, .int .i64 0, .int .i64 0, .int .i64 0, .int .i64 0, .int .i64 0, .int .i64 0, .slice none 0 0, .slice none 0 0, .slice none 0 0, .slice none 0 0, .int .i64 0, .int .i64 0, .slice none 0 0, .slice none 0 0, .int .u64 0, .slice none 0 0] 51)) (w.heap.size + 1) 41 fv ∧ Blk (wd.alloc (.cells #[.int .i64 0, .int .i64 0, .int .i64 0, .int .i64 0, .int .u64 0, .int .u64 0, .int .i64 0, .int .u64 0, .int .i64 0, .int .i64 0, .int .i64 0, .int .i64 0, .int .i64 0, .int .i64 0, .int .i64 0, .int .i64 0, .int .i64 0, .int .i64 0, .int .i64 0, .int .i64 0, .slice none 0 0, .slice none 0 0, .slice none 0 0, .slice none 0 0, .int .i64 0, .int .i64 0, .slice none 0 0, .slice none 0 0, .int .u64 0, .slice none 0 0] 51)) (w.heap.size + 1 + 1) 51 #[.int .i64 0, .int .i64 0, .int .i64 0, .int .i64 0, .int .u64 0, .int .u64 0, .int .i64 0, .int .u64 0, .int .i64 0, .int .i64 0, .int .i64 0, .int .i64 0, .int .i64 0, .int .i64 0, .int .i64 0, .int .i64 0, .int .i64 0, .int .i64 0, .int .i64 0, .int .i64 0, .slice none 0 0, .slice none 0 0, .slice none 0 0, .slice none 0 0, .int .i64 0, .int .i64 0, .slice none 0 0, .slice none 0 0, .int .u64 0, .slice none 0 0] ∧ Below w.heap.size w (wd.alloc (.cells #[.int .i64 0, .int .i64 0, .int .i64 0, .int .i64 0, .int .u64 0, .int .u64 0, .int .i64 0, .int .u64 0, .int .i64 0, .int .i64 0, .int .i64 0, .int .i64 0, .int .i64 0, .int .i64 0, .int .i64 0, .int .i64 0, .int .i64 0, .int .i64 0, .int .i64 0, .int .i64 0, .slice none 0 0, .slice none 0 0, .slice none 0 0, .slice none 0 0, .int .i64 0, .int .i64 0, .slice none 0 0, .slice none 0 0, .int .u64 0, .slice none 0 0] 51)) := hHeld
   refine wpAnyH_ready (rs := [5]) (by kernel_rfl) (by simp) (AllReadyH.cons (o := ⟨some 19, _, _, _, _, _⟩) rfl (fun K hK => ?_) AllReadyH.nil)
   go_simp
   (refine (clone_nil _).mono ?_; rintro e w6 ⟨rfl, hw6⟩; rw [hw6]; clear hw6)
   refine hK.out _ _ ?_ (fun hHeld => ?_)
   ·first | done | ((try dsimp only); exact SZ)
   clear hK K
   (try simp only [pS, pB, pZ, pC])
   refine tk 6 20 ?_ rfl (by kernel_rfl) (fun _ _ _ h => h) (by rfl) (by assumption) ?_ ?_
   rotate_left
   ·(intro w' hSw; (try dsimp only at hSw); (refine HBD.out _ _ _ _ _ _ (.tmp 14) (.tmp 15) (.tmp 16) (.tmp 17) (.tmp 19) ?_ ?_ ?_ ?_ ?_ _ <;> rfl); try (with_reducible rfl))
   (try simp only [pS, pB, pZ, pC])
   refine wpAnyH_ready (rs := [8]) (by kernel_rfl) (by simp) (AllReadyH.cons (o := ⟨none, _, _, _, _, _⟩) rfl (fun K hK => ?_) AllReadyH.nil)
   rw [if_pos (by rfl)]
   refine wp_storeW (T := 51) (n := 30) (by kernel_rfl) YZ rfl _ _ rfl rfl C rfl hcs hC1 (fun w9 Y9 g9 => ?_)
   have S9 : Blk w9 w.heap.size 49 hv ∧ Blk w9 (w.heap.size + 1) 41 fv ∧ Blk w9 (w.heap.size + 1 + 1) 51 #[.int .i64 0, .int .i64 0, .int .i64 0, .int .i64 0, .int .u64 0, .int .u64 0, .int .i64 0, .int .u64 0, .int .i64 0, .int .i64 0, .int .i64 0, .int .i64 0, .int .i64 0, .int .i64 0, .int .i64 0, .int .i64 0, .int .i64 0, .int .i64 0, .int .i64 0, .int .i64 0, .slice none 0 0, .slice none 0 0, .slice none 0 0, .slice none 0 0, .int .i64 0, .int .i64 0, .slice none 0 0, .slice none 0 0, .int .u64 0, .slice none 0 0] ∧ Below w.heap.size w w9 := ⟨SZ.1.grown g9 (fun e => by injection e with e; omega), SZ.2.1.grown g9 (fun e => by injection e with e; omega), SZ.2.2.1.grown g9 (fun e => by injection e with e; omega), SZ.2.2.2.grown g9 SZ.2.2.2.size (fun k e => by injection e with e; omega)⟩
   refine hK.out _ _ ?_ (fun hHeld => ?_)
   ·exact S9
   clear hK K
   refine wpAnyH_done (by kernel_rfl) ?_ _
   go_wp2_with fail
   go_meet
   exact ⟨_, rfl, Y9, hgt, S9.2.2.1, S9.2.2.2⟩
 case rest =>
  obtain ⟨g, rfl, Y4, hgt, Z4, P4⟩ := hcut
  obtain ⟨w4, rfl⟩ : ∃ z : World, z = wc := ⟨_, rfl⟩
  clear B0 B1 B2 P0
  go_wp2_with (refine wpList_loadC Y4 hcs _ rfl rfl rfl ?_)
  have hF := Blk.new w4 97 #[.func (.func 45) #[.agg C] #[], .func (.func 48) #[.agg C] #[]]
  have PF := P4.alloc P4.size (.cells #[.func (.func 45) #[.agg C] #[], .func (.func 48) #[.agg C] #[]] 97)
  have YF := Y4.alloc (.cells #[.func (.func 45) #[.agg C] #[], .func (.func 48) #[.agg C] #[]] 97)
  have ZF := Z4.alloc (.cells #[.func (.func 45) #[.agg C] #[], .func (.func 48) #[.agg C] #[]] 97)
  refine (first2_any C 0 0 _ _ hF (fun W hW => H1.out W (PF.trans (hW.mono PF.size))) (fun _ W hW => H3.out W (PF.trans (hW.mono PF.size)))).mono ?_
  rintro e w5 ⟨he, hb5⟩
  rw [show first2 0 0 = 0 from rfl] at he
  subst he
  have P5 := PF.trans (hb5.mono PF.size)
  have Y5 := YF.keep hb5
  have Z5 := ZF.keep hb5
  clear hF PF YF ZF Y4 Z4 P4 hb5 H1 H3 HBD
  go_wp2_with (first | (refine wpList_loadC Y5 hcs _ rfl rfl rfl ?_) | (refine wpList_storeW (T := 51) (n := 30) (by kernel_rfl) Z5 rfl _ _ rfl rfl rfl C rfl hcs hC1 ?_; intro w6 Y6 g6))
  exact bodyPost_ret (results_CE rfl _ rfl Y6 hcs) rfl ⟨rfl, P5.grown g6 P5.size (fun k e => by injection e with e; omega)⟩
end Go.Proofs.YtbeaijjaecaidaaGreatDoor
