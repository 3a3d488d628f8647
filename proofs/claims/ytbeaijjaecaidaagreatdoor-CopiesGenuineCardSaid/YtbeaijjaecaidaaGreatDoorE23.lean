/- A log in the program: roots of its parts. copies.Make of a filing of a log of one entry. slices.Reverse and slices.Clone of numbers of one's own. A log in the program: Root and Proof. copies.Make of a filing of any log, with its path. Genuine copies: the log that the law keeps, its heads, its paths: the plain law. -/
import Derived.Test.YtbeaijjaecaidaaGreatDoorE22
import Derived.Test.YtbeaijjaecaidaaGreatDoorE18
import Derived.Test.YtbeaijjaecaidaaGreatDoorE21
import Derived.Test.YtbeaijjaecaidaaGreatDoorE19
import Derived.Test.YtbeaijjaecaidaaGreatDoorE01
import Derived.Laws.ResultCell
namespace Go.Proofs.YtbeaijjaecaidaaGreatDoor
open Go.RowKit Go.Shelf
attribute [local go_sem] Oper.semAt_some
theorem zero_u64 (w : World) : (zeroValue 27).run Tryz.prog w = .ok (.int .u64 0) w := by
 go_simp
theorem lit_u64 {R : Nat} {c : Int} {ps : List MemPlace} (h : ((DataW.lit (.int .u64 (R : Int)) : DataW Unit), ps) = (.lit (.int .u64 c), [])) : c = (R : Int) := by
 injection h with h _
 injection h with h
 injection h with _ h
 exact h.symm
theorem u64R_mk (n : Int) : u64R (.int .u64 n) = some (.lit (.int .u64 n), []) := rfl
theorem tree_look {W : World} {base g mb m : Nat} {v : Value} {hs : List Nat} (h : TreeAt W base g mb m v hs) (f n : Nat) (hf : f ≤ 1000) (hn : n ≤ 1000) :
  ∃ (c : Int) (ok : Bool), (Instr.lookup 117 (.map (some mb)) (.agg #[.int .i64 (f : Int), .int .i64 (n : Int)]) true).run Tryz.prog W = .ok (.tuple #[.int .u64 c, .bool ok]) W ∧ (ok = true → c = (rootS hs f n : Int)) := by
 obtain ⟨_, _, ⟨D, h3, h4⟩, _, _⟩ := h
 obtain ⟨u, ps, hrun, hu⟩ := h3.look_ok two_keyed Tryz.underlying117 (zero_u64 W) (zd := .lit (.int .u64 0)) (zp := []) rfl (key_of f n hf hn)
 obtain ⟨c, rfl, hc⟩ := u64R_inv hu
 refine ⟨c, _, hrun, fun hok => ?_⟩
 obtain ⟨_, h5⟩ := h4 f n hf hn hok
 rw [h5] at hc
 exact lit_u64 hc
set_option maxRecDepth 100000 in
theorem tree_put {W : World} {base g mb m : Nat} {v : Value} {hs : List Nat} (h : TreeAt W base g mb m v hs) (f n : Nat) (hf : f ≤ 1000) (hn : n ≤ 1000) (hl : f + n ≤ hs.length) (hm : m ≤ 2000000) :
  ∃ W', (Instr.mapUpdate 117 (.map (some mb)) (.agg #[.int .i64 (f : Int), .int .i64 (n : Int)]) (.int .u64 (rootS hs f n : Int))).run Tryz.prog W = .ok () W' ∧ TreeAt W' base g mb (m + 1) v hs ∧ W.grownBy W' (some mb) := by
 obtain ⟨h1, h2, ⟨D, h3, h4⟩, h5, h6⟩ := h
 obtain ⟨W', hrun, r1, r2⟩ := h3.update two_keyed Tryz.underlying117 (by unfold maxLen; omega) (key := keyV f n) (val := .int .u64 (rootS hs f n : Int)) (key_of f n hf hn) (d := .lit (.int .u64 (rootS hs f n : Int))) (ps := []) (u64R_mk _)
 have hne : mb ≠ g := fun e => by
  obtain ⟨es, cl, hb, _⟩ := h3
  rw [e] at hb
  have := h1
  unfold Blk at this
  rw [this] at hb
  cases hb
 refine ⟨W', hrun, ⟨h1.grown r2 (fun e => hne (by injection e with e; exact e.symm)), h2.kept r2 ?_, ⟨_, r1, h4.put h3.isMap hf hn hl⟩, h5, h6⟩, r2⟩
 cases hv : v.ownBlock with
 | none => exact .inl rfl
 | some b => exact .inr (fun e => by injection e with e; have := (h2.lt b hv).1; omega)
theorem TreeAt.ne {W : World} {base g mb m : Nat} {v : Value} {hs : List Nat} (h : TreeAt W base g mb m v hs) : mb ≠ g := fun e => by
 obtain ⟨h1, _, ⟨D, h3, _⟩, _, _⟩ := h
 obtain ⟨es, cl, hb, _⟩ := h3
 rw [e] at hb
 unfold Blk at h1
 rw [h1] at hb
 cases hb
set_option maxRecDepth 100000 in
set_option maxHeartbeats 4000000 in
theorem treeroot_any (base g mb : Nat) (v : Value) (hs : List Nat) (hl : hs.length ≤ 16) (hw : Words hs) : ∀ (n f m : Nat) (w : World), 1 ≤ n → f + n ≤ hs.length → m + n ≤ 1000000 → TreeAt w base g mb m v hs →
  Calls Tryz.prog 65 #[.pointer (some ⟨g, 0, none⟩), .int .i64 (f : Int), .int .i64 (n : Int)] w fun e w' => e = .returned (.int .u64 (rootS hs f n : Int)) ∧ TreeAt w' base g mb (m + (n - 1)) v hs ∧ w.grownBy w' (some mb) := by
 intro n
 induction n using Nat.strongRecOn with
 | ind n ih =>
 intro f m w h1 hfn hm hT
 by_cases hn1 : n = 1
 ·subst hn1
  obtain ⟨b, c, rfl, hbb, hbl, hc, hcell⟩ := hT.row (by omega)
  have hx := hcell f (by omega)
  have HL := Lib.hid (fun W => leaf_any hs[f] (hw _ (List.getElem_mem _)) W)
  rw [← rootS_one (by omega)] at HL
  have hd := hT.1.c2
  have HT := Lib.hid hT
  have hflt : f < hs.length := by omega
  clear hT hcell ih hw
  generalize hs[f] = x at *
  generalize rootS hs f 1 = R at *
  generalize hs.length = q at *
  go_enter Tryz.func65, Tryz.ntmps65
  go_wp2_with fail
  refine (HL.out _).mono ?_
  rintro e w' ⟨rfl, hb⟩
  go_wp2_with fail
  go_ret
  exact ⟨rfl, HT.out.below hb, grown_of_below hb⟩
 ·have e0 : ((n : Int) == 0) = false := by rw [beq_eq_false_iff_ne]; omega
  have e1 : ((n : Int) == 1) = false := by rw [beq_eq_false_iff_ne]; omega
  have hgr0 := World.grownBy_alloc w (.cells #[.int .i64 (f : Int), .int .i64 (n : Int)] 172) (some mb)
  have hT1 := hT.step (World.grownBy_alloc w (.cells #[.int .i64 (f : Int), .int .i64 (n : Int)] 172) none) (fun _ e => by cases e)
  have hK1 := Blk.new w 172 #[.int .i64 (f : Int), .int .i64 (n : Int)]
  have hglt := hT.lt
  have hb := halfN_bd (n := n) (by omega)
  have HH := Lib.hid (fun (W : World) => half_any n (by omega) (by omega) W)
  have hnode := rootS_node (hs := hs) (f := f) (n := n) hfn (by omega) (by omega)
  obtain ⟨k, hk⟩ : ∃ k, k = halfN n := ⟨_, rfl⟩
  rw [← hk] at hb HH hnode
  have HI1 := Lib.hid (fun (W : World) hT => ih k (by omega) f m W (by omega) (by omega) (by omega) hT)
  have HI2 := Lib.hid (fun (W : World) hT => ih (n - k) (by omega) (f + k) (m + (k - 1)) W (by omega) (by omega) (by omega) hT)
  have HN := Lib.hid (fun (W : World) => node_any (rootS hs f k) (rootS hs (f + k) (n - k)) (rootS_lt _ _ _) (rootS_lt _ _ _) W)
  rw [← hnode] at HN
  have hw1 : IntKind.i64.wrap ((f : Int) + (k : Int)) = ((f + k : Nat) : Int) := by rw [IntKind.wrap_i64]; omega
  have hw2 : IntKind.i64.wrap ((n : Int) - (k : Int)) = ((n - k : Nat) : Int) := by rw [IntKind.wrap_i64]; omega
  have hw3 : IntKind.i64.wrap ((n : Int) - 1) = ((n - 1 : Nat) : Int) := by rw [IntKind.wrap_i64]; omega
  have hT1 := hT1.below (Below.refl _ _).drew
  have hK1 := hK1.drew
  have hgr0 := grown_up hgr0 (grown_drew _ none) (fun _ e => by cases e)
  obtain ⟨c, ok, hrun, hok⟩ := tree_look hT1 f n (by omega) (by omega)
  have HR := Lib.hid hrun
  have hlt : w.heap.size < (w.alloc (.cells #[.int .i64 (f : Int), .int .i64 (n : Int)] 172)).drew.heap.size := hK1.lt
  clear hk hnode ih hrun
  go_enter Tryz.func65, Tryz.ntmps65
  go_upto_region 7 with fail
  refine wp_region_held_drew (S := (fun V => V = (w.alloc (.cells #[.int .i64 (f : Int), .int .i64 (n : Int)] 172)).drew)) (by kernel_rfl) ?_ (fun hHeld => ?_)
  ·first | done | ((try dsimp only); (try rfl))
  generalize (w.alloc (.cells #[.int .i64 (f : Int), .int .i64 (n : Int)] 172)).drew = wd at *
  have hc2 := hT1.1.c2
  have hk2 := hK1.c2
  refine tk 0 30 ?_ rfl ?_ ?_
  rotate_left
  ·(intro w' hSw; (try dsimp only at hSw); go_simp; try (with_reducible rfl))
  (try simp only [pS, pB, pZ, pC])
  refine tk 1 31 ?_ rfl ?_ ?_
  rotate_left
  ·(intro w' hSw; (try dsimp only at hSw); go_simp; try (with_reducible rfl))
  (try simp only [pS, pB, pZ, pC])
  refine tk 2 32 ?_ rfl ?_ ?_
  rotate_left
  ·(intro w' hSw; (try dsimp only at hSw); go_simp; try (with_reducible rfl))
  (try simp only [pS, pB, pZ, pC])
  refine tk 3 33 ?_ rfl ?_ ?_
  rotate_left
  ·(intro w' hSw; (try dsimp only at hSw); (subst hSw; go_simp); try (with_reducible rfl))
  (try simp only [pS, pB, pZ, pC])
  refine tk 4 34 ?_ rfl ?_ ?_
  rotate_left
  ·(intro w' hSw; (try dsimp only at hSw); (subst hSw; go_simp); try (with_reducible rfl))
  (try simp only [pS, pB, pZ, pC])
  refine tk 5 35 ?_ rfl ?_ ?_
  rotate_left
  ·(intro w' hSw; (try dsimp only at hSw); (subst hSw; have hr := HR.out; go_simp); try (with_reducible rfl))
  (try simp only [pS, pB, pZ, pC])
  refine tk 6 29 ?_ rfl ?_ ?_
  rotate_left
  ·(intro w' hSw; (try dsimp only at hSw); go_simp; try (with_reducible rfl))
  (try simp only [pS, pB, pZ, pC])
  refine tk 7 36 ?_ rfl ?_ ?_
  rotate_left
  ·(intro w' hSw; (try dsimp only at hSw); go_simp; try (with_reducible rfl))
  (try simp only [pS, pB, pZ, pC])
  refine tk 8 37 ?_ rfl ?_ ?_
  rotate_left
  ·(intro w' hSw; (try dsimp only at hSw); go_simp; try (with_reducible rfl))
  (try simp only [pS, pB, pZ, pC])
  refine tk 9 8 ?_ rfl ?_ ?_
  rotate_left
  ·(intro w' hSw; (try dsimp only at hSw); go_simp; try (with_reducible rfl))
  (try simp only [pS, pB, pZ, pC])
  refine tk 10 9 ?_ rfl ?_ ?_
  rotate_left
  ·(intro w' hSw; (try dsimp only at hSw); go_simp; try (with_reducible rfl))
  (try simp only [pS, pB, pZ, pC])
  refine wpAnyH_done (by kernel_rfl) ?_ _
  clear hHeld hc2 hk2
  have hglt1 := hT1.lt
  have hmg := hT1.ne
  cases ok with
  | true =>
   have hcR := hok rfl
   subst hcR
   have HT1 := Lib.hid (hT1.mono (show m ≤ m + (n - 1) by omega))
   clear hT1
   go_wp2_with fail
   go_ret
   exact ⟨rfl, HT1.out, hgr0⟩
  | false =>
   clear hok HR
   go_wp2_with fail
   refine (HH.out _).mono ?_
   rintro e w0 ⟨rfl, rfl⟩
   go_wp2_with fail
   refine (HI1.out _ hT1).mono ?_
   rintro e w2 ⟨rfl, T2, g2⟩
   have K2 := hK1.grown g2 (fun e => by injection e with e; omega)
   have G2 := grown_up hgr0 g2 (fun _ e _ => e)
   clear hT1 hK1 hgr0 g2 HI1
   go_wp2_with fail
   refine (HI2.out _ T2).mono ?_
   rintro e w3 ⟨rfl, T3, g3⟩
   have K3 := K2.grown g3 (fun e => by injection e with e; omega)
   have G3 := grown_up G2 g3 (fun _ e _ => e)
   clear T2 K2 G2 g3 HI2
   go_wp2_with fail
   refine (HN.out _).mono ?_
   rintro e w4 ⟨rfl, hb4⟩
   have T4 := T3.below hb4
   have K4 := K3.keep hb4
   have G4 := grown_up G3 (grown_of_below (row := none) hb4) (fun _ e _ => by cases e)
   clear T3 K3 G3 hb4 HN HH
   have HT4 := Lib.hid T4
   have T4b := T4.1
   have P13 : Blk w4.drew g 119 #[v, .map (some mb)] ∧ Blk w4.drew w.heap.size 172 #[.int .i64 (f : Int), .int .i64 (n : Int)] := ⟨T4b.drew, K4.drew⟩
   clear T4 T4b
   go_wp2_with fail
   ·skip
    refine wp_region_held_drew (S := (fun V => Blk V g 119 #[v, .map (some mb)] ∧ Blk V w.heap.size 172 #[.int .i64 (f : Int), .int .i64 (n : Int)])) (by kernel_rfl) ?_ (fun hHeld => ?_)
    ·first | done | ((try dsimp only); exact P13)
    obtain ⟨W5, hput, T5, g5⟩ := tree_put (HT4.out.below (Below.refl _ _).drew) f n (by omega) (by omega) hfn (by omega)
    have G5 := grown_up (grown_up G4 (grown_drew w4 none) (fun _ e => by cases e)) g5 (fun _ e _ => e)
    have hmw := HT4.out.lt
    clear HT4 K4 G4
    generalize w4.drew = wd at *
    refine tk 0 60 ?_ rfl ?_ ?_
    rotate_left
    ·(intro w' hSw; (try dsimp only at hSw); go_simp; try (with_reducible rfl))
    (try simp only [pS, pB, pZ, pC])
    refine tk 1 61 ?_ rfl ?_ ?_
    rotate_left
    ·(intro w' hSw; (try dsimp only at hSw); go_simp; try (with_reducible rfl))
    (try simp only [pS, pB, pZ, pC])
    refine tk 2 62 ?_ rfl ?_ ?_
    rotate_left
    ·(intro w' hSw; (try dsimp only at hSw); go_simp; try (with_reducible rfl))
    (try simp only [pS, pB, pZ, pC])
    refine tk 3 63 ?_ rfl ?_ ?_
    rotate_left
    ·(intro w' hSw; (try dsimp only at hSw); (have hc := hSw.1.c2; go_simp); try (with_reducible rfl))
    (try simp only [pS, pB, pZ, pC])
    refine tk 4 64 ?_ rfl ?_ ?_
    rotate_left
    ·(intro w' hSw; (try dsimp only at hSw); (have hc := hSw.2.c2; go_simp); try (with_reducible rfl))
    (try simp only [pS, pB, pZ, pC])
    refine tk 5 65 ?_ rfl ?_ ?_
    rotate_left
    ·(intro w' hSw; (try dsimp only at hSw); go_simp; try (with_reducible rfl))
    (try simp only [pS, pB, pZ, pC])
    refine rd 6 none (by kernel_rfl) rfl fun K hK => ?_
    go_simp
    refine hK.out _ _ ?_ (fun hHeld => ?_)
    ·exact ⟨P13.1.grown g5 (fun e => hmg (by injection e with e; exact e.symm)), P13.2.grown g5 (fun e => by injection e with e; omega)⟩
    clear hK K
    refine wpAnyH_done (by kernel_rfl) ?_ _
    go_wp2_with fail
    go_ret
    exact ⟨rfl, T5.mono (by omega), G5⟩
   ·go_ret
    exact ⟨rfl, HT4.out.mono (by omega), G4⟩
end Go.Proofs.YtbeaijjaecaidaaGreatDoor
namespace Go.Proofs.YtbeaijjaecaidaaGreatDoor
open Go.RowKit Go.Shelf
attribute [local go_sem] Oper.semAt_some
set_option maxRecDepth 100000 in
set_option maxHeartbeats 1000000 in
theorem clone_nil (w : World) : Calls Tryz.prog 58 #[.slice none 0 0] w fun e w' => e = .returned (.slice none 0 0) ∧ w' = w := by
 have heq : ∀ W : World, (binOp .eql 42 (.slice none 0 0) (.slice none 0 0)).run Tryz.prog W = .ok (.bool true) W := fun W => Lib.run_eql_slice_nil W _ _ none 0 0 0 0 Tryz.underlying42
 go_enter Tryz.func58, Tryz.ntmps58
 go_wp2_with fail
 go_ret
 exact ⟨rfl, rfl⟩
set_option maxRecDepth 100000 in
theorem results_CE {fn : Func} {p u : Tmp} (h : fn.results = #[.cell p 51, .tmp u]) (tmps : Array Value) {w : World} {g : Nat} {cs : Array Value} (hp : tmps.getD p undef = .pointer (some ⟨g, 0, none⟩)) (hb : Blk w g 51 cs) (hs : cs.size = 30) :
  (results fn tmps).run Tryz.prog w = .ok (.tuple #[.agg cs, tmps.getD u undef]) w := by
 have hl := run_loadVar_row w g 51 51 cs (0, 0) _ hb Tryz.underlying51 rfl (by rw [hs]; kernel_rfl)
 have hp' : tmps[p]?.getD undef = .pointer (some ⟨g, 0, none⟩) := by simpa using hp
 simp [results, h, hp', asAddr, hl]
theorem yieldsHv {S : World → Prop} {ops : Array Oper} {g : Nat} {cs : Array Value} (hs : cs.size = 8) {o : Oper} {a : Act} (x : Operand) (ho : o.op = .load 49 x) (hx : a.eval x = .pointer (some ⟨g, 0, none⟩)) (hS : ∀ W, S W → Blk W g 49 cs) (hw : Region.wanted o (yielded ops a.tmps) = true) : YieldsIf Tryz.prog ops S o (.agg cs) a := by
 have h := yieldsIf_load_mid (P := Tryz.prog) (ops := ops) (S := S) hw 49 x ho g 0 hx cs.toList _ (fun w h j v hv => by rw [Nat.zero_add, (hS w h).cell j, ← Array.getElem?_toList]; exact hv) Tryz.underlying49 rfl (by rw [Array.length_toList, hs]; kernel_rfl)
 rwa [Array.toArray_toList] at h
end Go.Proofs.YtbeaijjaecaidaaGreatDoor
namespace Go.Proofs.YtbeaijjaecaidaaGreatDoor
open Go.RowKit Go.Shelf
attribute [local go_sem] Oper.semAt_some
def revN (ps : List Nat) (k : Nat) : List Nat := (List.range ps.length).map fun m => if m < k ∨ ps.length ≤ m + k then ps.getD (ps.length - 1 - m) 0 else ps.getD m 0
theorem revN_length (ps : List Nat) (k : Nat) : (revN ps k).length = ps.length := by simp [revN]
theorem revN_get {ps : List Nat} {k m : Nat} (hm : m < ps.length) : (revN ps k)[m]? = some (if m < k ∨ ps.length ≤ m + k then ps.getD (ps.length - 1 - m) 0 else ps.getD m 0) := by
 simp [revN, hm]
theorem revN_zero (ps : List Nat) : revN ps 0 = ps := by
 refine List.ext_getElem? fun m => ?_
 by_cases hm : m < ps.length
 ·rw [revN_get hm, if_neg (by omega)]
  simp [List.getD, hm]
 ·rw [List.getElem?_eq_none (by rw [revN_length]; omega), List.getElem?_eq_none (by omega)]
theorem revN_done {ps : List Nat} {k : Nat} (h1 : ps.length ≤ 2 * k + 1) (h2 : 2 * k ≤ ps.length) : revN ps k = ps.reverse := by
 refine List.ext_getElem? fun m => ?_
 by_cases hm : m < ps.length
 ·rw [revN_get hm, List.getElem?_reverse hm]
  have hg : ps[ps.length - 1 - m]? = some (ps.getD (ps.length - 1 - m) 0) := by
   have : ps.length - 1 - m < ps.length := by omega
   simp [List.getD, this]
  rw [hg]
  congr 1
  by_cases hc : m < k ∨ ps.length ≤ m + k
  ·rw [if_pos hc]
  ·rw [if_neg hc]
   congr 1
   omega
 ·rw [List.getElem?_eq_none (by rw [revN_length]; omega), List.getElem?_eq_none (by rw [List.length_reverse]; omega)]
theorem revN_step {ps : List Nat} {k : Nat} (h : 2 * k + 1 < ps.length) : revN ps (k + 1) = ((revN ps k).set k (ps.getD (ps.length - 1 - k) 0)).set (ps.length - 1 - k) (ps.getD k 0) := by
 refine List.ext_getElem? fun m => ?_
 by_cases hm : m < ps.length
 ·rw [revN_get hm, List.getElem?_set, List.getElem?_set]
  have hl1 : ((revN ps k).set k (ps.getD (ps.length - 1 - k) 0)).length = ps.length := by rw [List.length_set, revN_length]
  by_cases e1 : ps.length - 1 - k = m
  ·rw [if_pos e1, if_pos (show m < k + 1 ∨ ps.length ≤ m + (k + 1) by omega), if_pos (by rw [hl1]; omega)]
   congr 2
   omega
  ·rw [if_neg e1]
   by_cases e2 : k = m
   ·rw [if_pos e2, if_pos (show m < k + 1 ∨ ps.length ≤ m + (k + 1) by omega), if_pos (by rw [revN_length]; omega), e2]
   ·rw [if_neg e2, revN_get hm]
    congr 1
    by_cases hc : m < k ∨ ps.length ≤ m + k
    ·rw [if_pos hc, if_pos (by omega)]
    ·rw [if_neg hc, if_neg (by omega)]
 ·rw [List.getElem?_eq_none (by rw [revN_length]; omega), List.getElem?_eq_none (by rw [List.length_set, List.length_set, revN_length]; omega)]
theorem revN_at {ps : List Nat} {k : Nat} (h : 2 * k + 1 < ps.length) : (us (revN ps k))[k]? = some (.int .u64 (ps.getD k 0 : Int)) ∧ (us (revN ps k))[ps.length - 1 - k]? = some (.int .u64 (ps.getD (ps.length - 1 - k) 0 : Int)) := by
 unfold us
 rw [List.getElem?_map, List.getElem?_map, revN_get (by omega), revN_get (by omega), if_neg (by omega), if_neg (by omega)]
 exact ⟨rfl, rfl⟩
theorem us_set (l : List Nat) (k x : Nat) : us (l.set k x) = (us l).set k (.int .u64 (x : Int)) := by
 unfold us
 rw [List.map_set]
set_option maxRecDepth 100000 in
set_option maxHeartbeats 4000000 in
theorem reverse_own (base g c : Nat) (ps : List Nat) (h0 : 0 < ps.length) (hl : ps.length ≤ 1000) (w : World) (h : w.ownsRow base 27 1 (.slice (some ⟨g, 0, none⟩) ps.length c) ps.length (us ps)) :
  Calls Tryz.prog 74 #[.slice (some ⟨g, 0, none⟩) ps.length c] w fun e w' => (∃ v, e = .returned v) ∧ w'.ownsRow base 27 1 (.slice (some ⟨g, 0, none⟩) ps.length c) ps.length (us ps.reverse) ∧ w.grownBy w' (some g) := by
 have hw0 : IntKind.i64.wrap ((ps.length : Int) - 1) = ((ps.length - 1 : Nat) : Int) := by rw [IntKind.wrap_i64]; omega
 go_enter Tryz.func74, Tryz.ntmps74
 go_wp2_with fail
 go_loopw [2, 3] (fun i j W => ∃ k : Nat, i = .int .i64 (k : Int) ∧ j = .int .i64 ((ps.length - 1 - k : Nat) : Int) ∧ 2 * k ≤ ps.length ∧ W.ownsRow base 27 1 (.slice (some ⟨g, 0, none⟩) ps.length c) ps.length (us (revN ps k)) ∧ w.grownBy W (some g)) (fun i _ _ => ps.length - (intOf i).toNat)
 case atStart => exact ⟨0, rfl, rfl, by omega, by rw [revN_zero]; exact h, World.grownBy.refl w _⟩
 case round =>
  obtain ⟨k, rfl, rfl, hk, hO, hG⟩ := hrel
  obtain ⟨W, rfl⟩ : ∃ z : World, z = wr := ⟨_, rfl⟩
  by_cases hlt : 2 * k + 1 < ps.length
  ·have hd : decide (k < ps.length - 1 - k) = true := decide_eq_true (by omega)
   obtain ⟨r1, r2⟩ := revN_at hlt
   have hO := hO.drew
   have hG := grown_up hG (grown_drew W none) (fun _ e => by cases e)
   have hck := (hO.cellAt k (by omega)).trans r1
   have hcj := (hO.cellAt (ps.length - 1 - k) (by omega)).trans r2
   have hfk := hO.frozenAt k
   have hfj := hO.frozenAt (ps.length - 1 - k)
   have hlk : k < ps.length := by omega
   have hlj : ps.length - 1 - k < ps.length := by omega
   have hne : k ≠ ps.length - 1 - k := by omega
   have hw1 : IntKind.i64.wrap ((k : Int) + 1) = ((k + 1 : Nat) : Int) := by rw [IntKind.wrap_i64]; omega
   have hw2 : IntKind.i64.wrap (((ps.length - 1 - k : Nat) : Int) - 1) = ((ps.length - 1 - (k + 1) : Nat) : Int) := by rw [IntKind.wrap_i64]; omega
   have hm : ps.length - (k + 1) < ps.length - k := by omega
   have hk1 : 2 * (k + 1) ≤ ps.length := by omega
   obtain ⟨s1, t1⟩ := hO.stored k (.int .u64 (ps.getD (ps.length - 1 - k) 0 : Int))
   have hcj2 : (W.drew.setCell ⟨g, k, none⟩ (.int .u64 (ps.getD (ps.length - 1 - k) 0 : Int))).cell? ⟨g, ps.length - 1 - k, none⟩ = some (.int .u64 (ps.getD (ps.length - 1 - k) 0 : Int)) := (World.cell?_setCell_other _ _ _ _ (by intro e; simp only [Addr.mk.injEq] at e; omega)).trans hcj
   have hfj2 := s1.frozenAt (ps.length - 1 - k)
   obtain ⟨s2, t2⟩ := s1.stored (ps.length - 1 - k) (.int .u64 (ps.getD k 0 : Int))
   rw [← us_set, ← us_set, ← revN_step hlt] at s2
   have HS2 := Lib.hid s2
   have HG2 := Lib.hid (grown_up (grown_up hG t1 (fun _ e _ => e)) t2 (fun _ e _ => e))
   clear s1 s2 t1 t2 hO hG r1 r2 hlt hk h
   generalize ps.getD (ps.length - 1 - k) 0 = y at *
   generalize ps.getD k 0 = x at *
   generalize hps2 : revN ps (k + 1) = ps2 at *
   generalize hj2 : ps.length - 1 - (k + 1) = j2 at *
   have HPS2 := Lib.hid hps2
   have HJ2 := Lib.hid hj2
   clear hps2 hj2
   generalize ps.length - 1 - k = j at *
   generalize ps.length = q at *
   go_upto_region 3 with fail
   refine wp_region_held_drew (S := (fun _ => True)) (by kernel_rfl) ?_ (fun hHeld => ?_)
   ·first | done | ((try dsimp only); (try trivial))
   generalize W.drew = wd at *
   refine tk 0 14 ?_ rfl ?_ ?_
   rotate_left
   ·(intro w' hSw; (try dsimp only at hSw); go_simp; try (with_reducible rfl))
   (try simp only [pS, pB, pZ, pC])
   refine tk 1 15 ?_ rfl ?_ ?_
   rotate_left
   ·(intro w' hSw; (try dsimp only at hSw); go_simp; try (with_reducible rfl))
   (try simp only [pS, pB, pZ, pC])
   refine tk 2 16 ?_ rfl ?_ ?_
   rotate_left
   ·(intro w' hSw; (try dsimp only at hSw); go_simp; try (with_reducible rfl))
   (try simp only [pS, pB, pZ, pC])
   refine tk 3 17 ?_ rfl ?_ ?_
   rotate_left
   ·(intro w' hSw; (try dsimp only at hSw); go_simp; try (with_reducible rfl))
   (try simp only [pS, pB, pZ, pC])
   refine tk 4 18 ?_ rfl ?_ ?_
   rotate_left
   ·(intro w' hSw; (try dsimp only at hSw); go_simp; try (with_reducible rfl))
   (try simp only [pS, pB, pZ, pC])
   refine tk 5 19 ?_ rfl ?_ ?_
   rotate_left
   ·(intro w' hSw; (try dsimp only at hSw); go_simp; try (with_reducible rfl))
   (try simp only [pS, pB, pZ, pC])
   refine tk 6 20 ?_ rfl ?_ ?_
   rotate_left
   ·(intro w' hSw; (try dsimp only at hSw); go_simp; try (with_reducible rfl))
   (try simp only [pS, pB, pZ, pC])
   refine tk 8 22 ?_ rfl ?_ ?_
   rotate_left
   ·(intro w' hSw; (try dsimp only at hSw); go_simp; try (with_reducible rfl))
   (try simp only [pS, pB, pZ, pC])
   refine tk 9 23 ?_ rfl ?_ ?_
   rotate_left
   ·(intro w' hSw; (try dsimp only at hSw); go_simp; try (with_reducible rfl))
   (try simp only [pS, pB, pZ, pC])
   refine tk 10 24 ?_ rfl ?_ ?_
   rotate_left
   ·(intro w' hSw; (try dsimp only at hSw); go_simp; try (with_reducible rfl))
   (try simp only [pS, pB, pZ, pC])
   refine rd2 7 (some 21) 11 (some 25) (by kernel_rfl) rfl rfl (fun K hK => ?_) fun K hK => ?_
   ·skip
    go_simp
    skip
    refine hK.out _ _ ?_ (fun hHeld => ?_)
    ·first | done | ((try dsimp only); (try trivial))
    clear hK K
    (try simp only [pS, pB, pZ, pC])
    refine rd 11 (some 25) (by kernel_rfl) rfl fun K hK => ?_
    go_simp
    skip
    refine hK.out _ _ ?_ (fun hHeld => ?_)
    ·first | done | ((try dsimp only); (try trivial))
    clear hK K
    (try simp only [pS, pB, pZ, pC])
    refine tk 12 26 ?_ rfl ?_ ?_
    rotate_left
    ·(intro w' hSw; (try dsimp only at hSw); go_simp; try (with_reducible rfl))
    (try simp only [pS, pB, pZ, pC])
    refine rd 13 none (by kernel_rfl) rfl fun K hK => ?_
    go_simp
    skip
    refine hK.out _ _ ?_ (fun hHeld => ?_)
    ·first | done | ((try dsimp only); (try trivial))
    clear hK K
    (try simp only [pS, pB, pZ, pC])
    refine tk 14 27 ?_ rfl ?_ ?_
    rotate_left
    ·(intro w' hSw; (try dsimp only at hSw); go_simp; try (with_reducible rfl))
    (try simp only [pS, pB, pZ, pC])
    refine rd 15 none (by kernel_rfl) rfl fun K hK => ?_
    go_simp
    skip
    refine hK.out _ _ ?_ (fun hHeld => ?_)
    ·first | done | ((try dsimp only); (try trivial))
    clear hK K
    (try simp only [pS, pB, pZ, pC])
    refine wpAnyH_done (by kernel_rfl) ?_ _
    go_wp2_with fail
    go_roundw
    case rel => exact ⟨k + 1, by go_num, by rw [HJ2.out], hk1, by rw [HPS2.out]; exact HS2.out, HG2.out⟩
    case measure => simp [intOf]; omega
   ·skip
    go_simp
    skip
    refine hK.out _ _ ?_ (fun hHeld => ?_)
    ·first | done | ((try dsimp only); (try trivial))
    clear hK K
    (try simp only [pS, pB, pZ, pC])
    refine rd 7 (some 21) (by kernel_rfl) rfl fun K hK => ?_
    go_simp
    skip
    refine hK.out _ _ ?_ (fun hHeld => ?_)
    ·first | done | ((try dsimp only); (try trivial))
    clear hK K
    (try simp only [pS, pB, pZ, pC])
    refine tk 12 26 ?_ rfl ?_ ?_
    rotate_left
    ·(intro w' hSw; (try dsimp only at hSw); go_simp; try (with_reducible rfl))
    (try simp only [pS, pB, pZ, pC])
    refine rd 13 none (by kernel_rfl) rfl fun K hK => ?_
    go_simp
    skip
    refine hK.out _ _ ?_ (fun hHeld => ?_)
    ·first | done | ((try dsimp only); (try trivial))
    clear hK K
    (try simp only [pS, pB, pZ, pC])
    refine tk 14 27 ?_ rfl ?_ ?_
    rotate_left
    ·(intro w' hSw; (try dsimp only at hSw); go_simp; try (with_reducible rfl))
    (try simp only [pS, pB, pZ, pC])
    refine rd 15 none (by kernel_rfl) rfl fun K hK => ?_
    go_simp
    skip
    refine hK.out _ _ ?_ (fun hHeld => ?_)
    ·first | done | ((try dsimp only); (try trivial))
    clear hK K
    (try simp only [pS, pB, pZ, pC])
    refine wpAnyH_done (by kernel_rfl) ?_ _
    go_wp2_with fail
    go_roundw
    case rel => exact ⟨k + 1, by go_num, by rw [HJ2.out], hk1, by rw [HPS2.out]; exact HS2.out, HG2.out⟩
    case measure => simp [intOf]; omega
  ·have hd : decide (k < ps.length - 1 - k) = false := decide_eq_false (by omega)
   rw [revN_done (by omega) hk] at hO
   go_wp2_with fail
   go_end0
   exact ⟨⟨_, rfl⟩, hO, hG⟩
set_option maxRecDepth 100000 in
theorem reverse_nil (w : World) : Calls Tryz.prog 74 #[.slice none 0 0] w fun e w' => (∃ v, e = .returned v) ∧ w' = w := by
 go_enter Tryz.func74, Tryz.ntmps74
 go_wp2_with fail
 go_loopw [2, 3] (fun i j W => i = .int .i64 0 ∧ j = .int .i64 (-1) ∧ W = w) (fun _ _ _ => 0)
 case atStart => exact ⟨rfl, rfl, rfl⟩
 case round =>
  obtain ⟨rfl, rfl, rfl⟩ := hrel
  go_wp2_with fail
  go_end0
  exact ⟨⟨_, rfl⟩, rfl⟩
set_option maxRecDepth 100000 in
set_option maxHeartbeats 1000000 in
theorem clone_own (base : Nat) (v : Value) (ps : List Nat) (hl : ps.length ≤ 1000) (w : World) (h : w.ownsRow base 27 1 v ps.length (us ps)) :
  Calls Tryz.prog 58 #[v] w fun e w' => ∃ v', e = .returned v' ∧ w'.ownsRow w.heap.size 27 1 v' ps.length (us ps) ∧ Below w.heap.size w w' := by
 rcases h.2 with ⟨rfl, e0⟩ | ⟨b, c, cur, rfl, _⟩
 ·have hp : ps = [] := List.eq_nil_of_length_eq_zero e0
  subst hp
  refine (clone_nil w).mono ?_
  rintro e w' ⟨rfl, rfl⟩
  exact ⟨_, rfl, World.ownsRow_nil _ _ _ _, Below.refl _ _⟩
 ·obtain ⟨i0, hi, hz0, hz1, hz2⟩ := info_parts Tryz.info27
  have heq : ∀ W : World, (binOp .eql 42 (.slice (some ⟨b, 0, none⟩) ps.length c) (.slice none 0 0)).run Tryz.prog W = .ok (.bool false) W := fun W => Lib.run_eql_slice_nil W _ _ (some ⟨b, 0, none⟩) ps.length c 0 0 Tryz.underlying42
  have hus := us_length ps
  have hnews : ∀ j u, (us ps)[j]? = some u → (w.alloc (.cells #[] 27)).cell? ((⟨b, 0, none⟩ : Addr).add j) = some u := fun j u hu => by
   have hj := lt_of_some hu
   rw [Addr.add_lit, Nat.zero_add]
   exact Lib.cell?_alloc_some _ ((h.cellAt j (by omega)).trans hu)
  have HNW := Lib.hid hnews
  have HO := World.ownsRow_made w #[] 0 (base := w.heap.size) (e := 27) (size := 1) (Nat.le_refl _) (Nat.zero_le _) rfl
  have P0 := below_new w (.cells #[] 27)
  clear hnews h
  go_enter Tryz.func58, Tryz.ntmps58
  go_wp2_with (at_builtin; refine wpList_append_own _ rfl _ _ 42 rfl w.heap.size 27 i0 (.int .u64 0) 1 8 Tryz.underlying42 hi hz0 hz1 hz2 rfl (by decide) (.slice (some ⟨w.heap.size, 0, none⟩) 0 0) 0 [] rfl HO ⟨b, 0, none⟩ ps.length c (us ps) rfl (by rw [hus, Nat.mul_one]) HNW.out (fun u hu => by obtain ⟨x, _, rfl⟩ := List.mem_map.1 hu; rfl) (by unfold maxLen; omega) (by omega) (by simp) ?_; intro v1 w1 hown1 hg1 _)
  rw [Nat.zero_add, List.nil_append] at hown1
  go_ret
  exact ⟨_, rfl, hown1, P0.grown hg1 P0.size (fun k e => by injection e with e; have e : w.heap.size = k := e; omega)⟩
end Go.Proofs.YtbeaijjaecaidaaGreatDoor
namespace Go.Proofs.YtbeaijjaecaidaaGreatDoor
open Go.RowKit Go.Shelf
attribute [local go_sem] Oper.semAt_some
set_option maxRecDepth 100000 in
set_option maxHeartbeats 1000000 in
theorem treeRoot_any (base g mb : Nat) (v : Value) (hs : List Nat) (hl : hs.length ≤ 16) (hw : Words hs) (n m : Nat) (w : World) (h1 : 1 ≤ n) (hn : n ≤ hs.length) (hm : m ≤ 900000) (hT : TreeAt w base g mb m v hs) :
  Calls Tryz.prog 26 #[.pointer (some ⟨g, 0, none⟩), .int .i64 (n : Int)] w fun e w' => e = .returned (.tuple #[.int .u64 (rootS hs 0 n : Int), .int .i64 0]) ∧ TreeAt w' base g mb (m + (n - 1)) v hs ∧ w.grownBy w' (some mb) := by
 have HR := Lib.hid (treeroot_any base g mb v hs hl hw n 0 m w h1 (by omega) (by omega) hT)
 obtain ⟨A, c, rfl⟩ := hT.form
 have hd := hT.1.c2
 have e2 : decide (hs.length < n) = false := decide_eq_false (by omega)
 clear hT hw
 go_enter Tryz.func26, Tryz.ntmps26
 go_wp2_with fail
 refine HR.out.mono ?_
 rintro e w' ⟨rfl, hT2, hg⟩
 go_wp2_with fail
 exact bodyPost_ret (results_tmp2 rfl _ _ _) rfl ⟨rfl, hT2, hg⟩
set_option maxRecDepth 100000 in
set_option maxHeartbeats 4000000 in
theorem treeproof_any (base g mb : Nat) (v : Value) (hs : List Nat) (hl : hs.length ≤ 16) (hw : Words hs) (n i m : Nat) (w : World) (hi : i < n) (hn : n ≤ hs.length) (hm : m ≤ 900000) (hT : TreeAt w base g mb m v hs) :
  Calls Tryz.prog 30 #[.pointer (some ⟨g, 0, none⟩), .int .i64 (i : Int), .int .i64 (n : Int)] w fun e w' => ∃ u, e = .returned (.tuple #[u, .int .i64 0]) ∧ w'.ownsRow w.heap.size 27 1 u (pathS hs 0 n i).length (us (pathS hs 0 n i)) ∧ TreeAt w' base g mb (m + 16 * n) v hs ∧ w.grownBy w' (some mb) := by
 have HR := Lib.hid (treeroot_any base g mb v hs hl hw)
 have hvb := Lib.hid hT.2.1.lt
 have hlt0 := hT.lt
 obtain ⟨i0, hinf, hz0, hz1, hz2⟩ := info_parts Tryz.info27
 obtain ⟨A, c, rfl⟩ := hT.form
 have hd := hT.1.c2
 have e1 : decide ((n : Int) < 1) = false := decide_eq_false (by omega)
 have e2 : decide (hs.length < n) = false := decide_eq_false (by omega)
 have e4 : decide (n ≤ i) = false := decide_eq_false (by omega)
 clear hw
 go_enter Tryz.func30, Tryz.ntmps30
 go_wp2_with fail
 clear hd e1 e2 e4
 go_loopw [8, 9, 10] (fun u a b W => ∃ (f q mm : Nat) (out : List Nat), a = .int .i64 (f : Int) ∧ b = .int .i64 (q : Int) ∧ 1 ≤ q ∧ q ≤ n ∧ f + q ≤ n ∧ f ≤ i ∧ i < f + q ∧ out.length + q ≤ n ∧ mm + 16 * q ≤ m + 16 * n ∧ pathS hs 0 n i = pathS hs f q (i - f) ++ out.reverse ∧ W.ownsRow w.heap.size 27 1 u out.length (us out) ∧ (out = [] → u = .slice none 0 0) ∧ TreeAt W base g mb mm (.slice A hs.length c) hs ∧ w.grownBy W (some mb)) (fun _ _ b _ => (intOf b).toNat)
 case atStart => exact ⟨0, n, m, [], rfl, rfl, by omega, by omega, by omega, by omega, by omega, by simp, by omega, by simp, World.ownsRow_nil _ _ _ _, fun _ => rfl, hT, World.grownBy.refl w _⟩
 case round =>
  obtain ⟨f, q, mm, out, rfl, rfl, hq1, hqn, hfq, hfi, hiq, hol, hmm, hpath, hO, hnil, hT1, hG⟩ := hrel
  obtain ⟨W, rfl⟩ : ∃ z : World, z = wr := ⟨_, rfl⟩
  by_cases hlt : 1 < q
  ·have hd : decide ((1 : Int) < (q : Int)) = true := decide_eq_true (by omega)
   have hb := halfN_bd (n := q) (by omega)
   have hstep := pathS_step (hs := hs) (f := f) (n := q) (i := i - f) (by omega) (by omega) (by omega) (by omega)
   have HH := Lib.hid (fun (W : World) => half_any q (by omega) (by omega) W)
   obtain ⟨k, hk⟩ : ∃ k, k = halfN q := ⟨_, rfl⟩
   rw [← hk] at hb hstep HH
   clear hk
   have hw1 : IntKind.i64.wrap ((f : Int) + (k : Int)) = (f : Int) + (k : Int) := by rw [IntKind.wrap_i64]; omega
   have hw2 : IntKind.i64.wrap ((q : Int) - (k : Int)) = ((q - k : Nat) : Int) := by rw [IntKind.wrap_i64]; omega
   obtain ⟨Ao, co, rfl⟩ := own_slice hO
   have hsz : w.heap.size ≤ W.heap.size := hG.size
   by_cases hik : i < f + k
   ·have hdk : decide ((i : Int) < (f : Int) + (k : Int)) = true := decide_eq_true (by omega)
    have HC := Lib.hid (HR.out (q - k) (f + k) mm W (by omega) (by omega) (by omega) hT1)
    rw [if_pos (by omega)] at hstep
    go_wp2_with fail
    refine (HH.out _).mono ?_
    rintro e w0 ⟨rfl, rfl⟩
    go_wp2_with fail
    refine HC.out.mono ?_
    rintro e w1 ⟨rfl, hT2, hg1⟩
    obtain ⟨R, hR⟩ : ∃ R, R = rootS hs (f + k) (q - k) := ⟨_, rfl⟩
    rw [← hR] at hstep
    rw [← hR]
    have hO2 := (hO.kept hg1 (by
     cases hv : (Value.slice Ao out.length co).ownBlock with
     | none => exact .inl rfl
     | some b => exact .inr (fun e => by injection e with e; have := (hO.lt b hv).1; omega))).alloc (.cells #[.int .u64 (R : Int)] 27)
    have hT3 := hT2.below (below_new w1 (.cells #[.int .u64 (R : Int)] 27))
    have hS3 : w.heap.size ≤ (w1.alloc (.cells #[.int .u64 (R : Int)] 27)).heap.size := by rw [World.size_alloc]; have := hg1.size; omega
    have hG3 := grown_up (grown_up hG hg1 (fun _ e _ => e)) (World.grownBy_alloc w1 (.cells #[.int .u64 (R : Int)] 27) none) (fun _ e => by cases e)
    have hus := us_length out
    have HO2 := Lib.hid hO2.lt
    have HST := Lib.hid hstep
    have HPA := Lib.hid hpath
    clear hR hT1 hT2 HH HC hstep hpath hO hG hg1 hnil
    go_wp2_with (at_builtin; refine wpList_append_own _ rfl _ _ 42 rfl w.heap.size 27 i0 (.int .u64 0) 1 8 Tryz.underlying42 hinf hz0 hz1 hz2 rfl (by decide) (.slice Ao out.length co) _ _ rfl hO2 ⟨w1.heap.size, 0, none⟩ 1 1 [.int .u64 (R : Int)] rfl rfl (cell_one_new _ _ _) (by intro u hu; rw [List.mem_singleton.mp hu]; rfl) (by unfold maxLen; omega) (by omega) hS3 ?_; intro v1 w2 hown1 hgr1 hlo1; obtain ⟨A1, c1, rfl⟩ := own_slice hown1)
    have hT4 := hT3.step hgr1 (fun k e => ⟨fun e2 => by have := (HO2.out k e).1; omega, fun e2 => by have := (HO2.out k e).1; omega, fun e2 => by have := (HO2.out k e).1; have := (hvb.out k e2).2; omega⟩)
    have hG4 := grown_up hG3 hgr1 (fun k e hk => by have := (HO2.out k e).1; omega)
    have E : us out ++ [Value.int .u64 (R : Int)] = us (out ++ [R]) := by unfold us; rw [List.map_append]; rfl
    rw [E] at hown1
    go_roundw
    case rel => exact ⟨f, k, mm + ((q - k) - 1), out ++ [R], by go_num, by go_num, by omega, by omega, by omega, by omega, by omega, by rw [List.length_append]; simp; omega, by omega, by rw [HPA.out, HST.out, List.reverse_append, List.append_assoc]; rfl, by rw [List.length_append]; exact hown1, fun e => by simp at e, hT4, hG4⟩
    case measure => simp [intOf]; omega
   ·have hdk : decide ((i : Int) < (f : Int) + (k : Int)) = false := decide_eq_false (by omega)
    have HC := Lib.hid (HR.out k f mm W (by omega) (by omega) (by omega) hT1)
    rw [if_neg (by omega)] at hstep
    go_wp2_with fail
    refine (HH.out _).mono ?_
    rintro e w0 ⟨rfl, rfl⟩
    go_wp2_with fail
    refine HC.out.mono ?_
    rintro e w1 ⟨rfl, hT2, hg1⟩
    obtain ⟨R, hR⟩ : ∃ R, R = rootS hs f k := ⟨_, rfl⟩
    rw [← hR] at hstep
    rw [← hR]
    have hO2 := (hO.kept hg1 (by
     cases hv : (Value.slice Ao out.length co).ownBlock with
     | none => exact .inl rfl
     | some b => exact .inr (fun e => by injection e with e; have := (hO.lt b hv).1; omega))).alloc (.cells #[.int .u64 (R : Int)] 27)
    have hT3 := hT2.below (below_new w1 (.cells #[.int .u64 (R : Int)] 27))
    have hS3 : w.heap.size ≤ (w1.alloc (.cells #[.int .u64 (R : Int)] 27)).heap.size := by rw [World.size_alloc]; have := hg1.size; omega
    have hG3 := grown_up (grown_up hG hg1 (fun _ e _ => e)) (World.grownBy_alloc w1 (.cells #[.int .u64 (R : Int)] 27) none) (fun _ e => by cases e)
    have hus := us_length out
    have HO2 := Lib.hid hO2.lt
    have HST := Lib.hid hstep
    have HPA := Lib.hid hpath
    clear hR hT1 hT2 HH HC hstep hpath hO hG hg1 hnil
    go_wp2_with (at_builtin; refine wpList_append_own _ rfl _ _ 42 rfl w.heap.size 27 i0 (.int .u64 0) 1 8 Tryz.underlying42 hinf hz0 hz1 hz2 rfl (by decide) (.slice Ao out.length co) _ _ rfl hO2 ⟨w1.heap.size, 0, none⟩ 1 1 [.int .u64 (R : Int)] rfl rfl (cell_one_new _ _ _) (by intro u hu; rw [List.mem_singleton.mp hu]; rfl) (by unfold maxLen; omega) (by omega) hS3 ?_; intro v1 w2 hown1 hgr1 hlo1; obtain ⟨A1, c1, rfl⟩ := own_slice hown1)
    have hT4 := hT3.step hgr1 (fun k e => ⟨fun e2 => by have := (HO2.out k e).1; omega, fun e2 => by have := (HO2.out k e).1; omega, fun e2 => by have := (HO2.out k e).1; have := (hvb.out k e2).2; omega⟩)
    have hG4 := grown_up hG3 hgr1 (fun k e hk => by have := (HO2.out k e).1; omega)
    have E : us out ++ [Value.int .u64 (R : Int)] = us (out ++ [R]) := by unfold us; rw [List.map_append]; rfl
    rw [E] at hown1
    go_roundw
    case rel => exact ⟨(f + k), (q - k), mm + (k - 1), out ++ [R], by go_num, by go_num, by omega, by omega, by omega, by omega, by omega, by rw [List.length_append]; simp; omega, by omega, by rw [HPA.out, HST.out, List.reverse_append, List.append_assoc, Nat.sub_sub]; rfl, by rw [List.length_append]; exact hown1, fun e => by simp at e, hT4, hG4⟩
    case measure => simp [intOf]; omega
  ·have hd : decide ((1 : Int) < (q : Int)) = false := decide_eq_false (by omega)
   obtain rfl : q = 1 := by omega
   rw [pathS_one (by omega), List.nil_append] at hpath
   have HPA := Lib.hid hpath
   clear hpath
   rcases out with _ | ⟨x, out⟩
   ·obtain rfl := hnil rfl
    go_wp2_with fail
    refine (reverse_nil _).mono ?_
    rintro e w1 ⟨⟨v1, rfl⟩, rfl⟩
    go_wp2_with fail
    exact bodyPost_ret (results_tmp2 rfl _ _ _) rfl ⟨_, rfl, by rw [HPA.out]; exact hO, hT1.mono (by omega), hG⟩
   ·obtain ⟨Ao, co, rfl⟩ := own_slice hO
    obtain ⟨g1, cur1, rfl, hg1, _, _⟩ := own_blk hO (by simp)
    have HREV := Lib.hid (reverse_own w.heap.size g1 co (x :: out) (by simp) (by omega) W hO)
    have hus := us_length (x :: out)
    have hrl : (x :: out).reverse.length = (x :: out).length := List.length_reverse
    generalize x :: out = l at *
    generalize hll : l.length = ll at *
    go_wp2_with fail
    refine HREV.out.mono ?_
    rintro e w1 ⟨⟨v1, rfl⟩, o1, gr1⟩
    have T1 := hT1.step gr1 (fun k e => by injection e with e; subst e; exact ⟨by omega, by omega, fun e2 => by have := (hvb.out _ e2).2; omega⟩)
    have G1 := grown_up hG gr1 (fun k e hk => by injection e with e; omega)
    go_wp2_with fail
    exact bodyPost_ret (results_tmp2 rfl _ _ _) rfl ⟨_, rfl, by rw [HPA.out, hrl]; exact o1, T1.mono (by omega), G1⟩
end Go.Proofs.YtbeaijjaecaidaaGreatDoor
namespace Go.Proofs.YtbeaijjaecaidaaGreatDoor
open Go.RowKit Go.Shelf
attribute [local go_sem] Oper.semAt_some
theorem own_cap {w : World} {base : Nat} {A : Option Addr} {n c : Nat} {xs : List Value} (h : w.ownsRow base 27 1 (.slice A n c) n xs) : n ≤ c := by
 rcases h.2 with ⟨e, e0⟩ | ⟨g, cap, cur, e, _, _, hnc, _⟩
 ·omega
 ·injection e with _ _ e3
  omega
theorem own_mono {w : World} {base base' : Nat} {v : Value} {n : Nat} {xs : List Value} (h : w.ownsRow base 27 1 v n xs) (hb : base' ≤ base) : w.ownsRow base' 27 1 v n xs :=
 ⟨h.1, h.2.imp id (fun ⟨g, cap, cur, e, hg, hr⟩ => ⟨g, cap, cur, e, Nat.le_trans hb hg, hr⟩)⟩
theorem own_rowU {w : World} {base : Nat} {A : Option Addr} {c : Nat} {ps : List Nat} (h : w.ownsRow base 27 1 (.slice A ps.length c) ps.length (us ps)) : RowU w A ps := fun k hk => by
 obtain ⟨g, cur, rfl, _, _, _⟩ := own_blk h (by omega)
 exact ⟨g, 0, rfl, by rw [Nat.zero_add, h.cellAt k (by omega)]; exact us_get hk⟩
set_option maxRecDepth 100000 in
set_option maxHeartbeats 4000000 in
theorem make_core (CF : Option Addr → Nat → Array Value) (hv fv : Array Value) (iv : Int) (salt : Nat) (ps : List Nat) (hvs : hv.size = 8) (hfs : fv.size = 19) (hp : ps.length ≤ 1000) (hcs : ∀ A c, (CF A c).size = 30) (hC1 : ∀ A c, (CF A c).all (·.oneCell') = true)
  (HBD : Hid (∀ (d : Option Tmp) (ty : TypeId) (pos : String) (after : Array Edge) (gd : Option (Nat × Bool)) (r : Operand → Value) (x0 x1 x2 x3 x4 : Operand) (A : Option Addr) (c : Nat), r x0 = .agg hv → r x1 = .int .i64 iv → r x2 = .agg fv → r x3 = .int .u64 (salt : Int) → r x4 = .slice A ps.length c → ∀ w : World,
   (execOp r ⟨d, .build 51 #[(0, x0), (1, x1), (2, x2), (3, x3), (4, x4)], ty, pos, after, gd⟩).run Tryz.prog w = .ok (.value (.agg (CF A c))) w))
  (base : Nat) (Ap : Option Addr) (cp : Nat) (w : World) (hpv : Hid (∀ W, Below w.heap.size w W → W.ownsRow base 27 1 (.slice Ap ps.length cp) ps.length (us ps)))
  (H1 : Hid (∀ A c W, Below w.heap.size w W → Calls Tryz.prog 45 #[.agg (CF A c)] W fun e w' => e = .returned (.int .i64 0) ∧ Below W.heap.size W w'))
  (H3 : Hid (∀ A c W, Below w.heap.size w W → RowU W A ps → ps.length ≤ c → Calls Tryz.prog 48 #[.agg (CF A c)] W fun e w' => e = .returned (.int .i64 0) ∧ Below W.heap.size W w')) :
  Calls Tryz.prog 17 #[.agg hv, .int .i64 iv, .agg fv, .int .u64 (salt : Int), .slice Ap ps.length cp] w fun e w' => ∃ A c, e = .returned (.tuple #[.agg (CF A c), .int .i64 0]) ∧ w'.ownsRow w.heap.size 27 1 (.slice A ps.length c) ps.length (us ps) ∧ Below w.heap.size w w' := by
 have HCL := Lib.hid (fun (W : World) (hW : Below w.heap.size w W) => clone_own base (.slice Ap ps.length cp) ps hp W (hpv.out W hW))
 have P0 := ((below_new w (.cells hv 49)).alloc (by simp) (.cells fv 41)).alloc (by simp; omega) (.cells #[.int .i64 0, .int .i64 0, .int .i64 0, .int .i64 0, .int .u64 0, .int .u64 0, .int .i64 0, .int .u64 0, .int .i64 0, .int .i64 0, .int .i64 0, .int .i64 0, .int .i64 0, .int .i64 0, .int .i64 0, .int .i64 0, .int .i64 0, .int .i64 0, .int .i64 0, .int .i64 0, .slice none 0 0, .slice none 0 0, .slice none 0 0, .slice none 0 0, .int .i64 0, .int .i64 0, .slice none 0 0, .slice none 0 0, .int .u64 0, .slice none 0 0] 51)
 have B0 := ((Blk.new w 49 hv).alloc (.cells fv 41)).alloc (.cells #[.int .i64 0, .int .i64 0, .int .i64 0, .int .i64 0, .int .u64 0, .int .u64 0, .int .i64 0, .int .u64 0, .int .i64 0, .int .i64 0, .int .i64 0, .int .i64 0, .int .i64 0, .int .i64 0, .int .i64 0, .int .i64 0, .int .i64 0, .int .i64 0, .int .i64 0, .int .i64 0, .slice none 0 0, .slice none 0 0, .slice none 0 0, .slice none 0 0, .int .i64 0, .int .i64 0, .slice none 0 0, .slice none 0 0, .int .u64 0, .slice none 0 0] 51)
 have B1 := (Blk.new (w.alloc (.cells hv 49)) 41 fv).alloc (.cells #[.int .i64 0, .int .i64 0, .int .i64 0, .int .i64 0, .int .u64 0, .int .u64 0, .int .i64 0, .int .u64 0, .int .i64 0, .int .i64 0, .int .i64 0, .int .i64 0, .int .i64 0, .int .i64 0, .int .i64 0, .int .i64 0, .int .i64 0, .int .i64 0, .int .i64 0, .int .i64 0, .slice none 0 0, .slice none 0 0, .slice none 0 0, .slice none 0 0, .int .i64 0, .int .i64 0, .slice none 0 0, .slice none 0 0, .int .u64 0, .slice none 0 0] 51)
 have B2 := Blk.new ((w.alloc (.cells hv 49)).alloc (.cells fv 41)) 51 #[.int .i64 0, .int .i64 0, .int .i64 0, .int .i64 0, .int .u64 0, .int .u64 0, .int .i64 0, .int .u64 0, .int .i64 0, .int .i64 0, .int .i64 0, .int .i64 0, .int .i64 0, .int .i64 0, .int .i64 0, .int .i64 0, .int .i64 0, .int .i64 0, .int .i64 0, .int .i64 0, .slice none 0 0, .slice none 0 0, .slice none 0 0, .slice none 0 0, .int .i64 0, .int .i64 0, .slice none 0 0, .slice none 0 0, .int .u64 0, .slice none 0 0]
 rw [World.size_alloc] at B1
 rw [World.size_alloc, World.size_alloc] at B2
 have HCS := Lib.hid hcs
 have HC1 := Lib.hid hC1
 clear hcs hC1
 go_enter Tryz.func17, Tryz.ntmps17
 go_upto_region 1 with fail
 generalize ((w.alloc (.cells hv 49)).alloc (.cells fv 41)).alloc (.cells #[.int .i64 0, .int .i64 0, .int .i64 0, .int .i64 0, .int .u64 0, .int .u64 0, .int .i64 0, .int .u64 0, .int .i64 0, .int .i64 0, .int .i64 0, .int .i64 0, .int .i64 0, .int .i64 0, .int .i64 0, .int .i64 0, .int .i64 0, .int .i64 0, .int .i64 0, .int .i64 0, .slice none 0 0, .slice none 0 0, .slice none 0 0, .slice none 0 0, .int .i64 0, .int .i64 0, .slice none 0 0, .slice none 0 0, .int .u64 0, .slice none 0 0] 51) = w3 at *
 go_cut [12] (fun p wx => ∃ g A c, p = .pointer (some ⟨g, 0, none⟩) ∧ Blk wx g 51 (CF A c) ∧ ps.length ≤ c ∧ wx.ownsRow (w.heap.size + 1 + 1 + 1) 27 1 (.slice A ps.length c) ps.length (us ps) ∧ w.heap.size + 1 + 1 < g ∧ Blk wx (w.heap.size + 1 + 1) 51 #[.int .i64 0, .int .i64 0, .int .i64 0, .int .i64 0, .int .u64 0, .int .u64 0, .int .i64 0, .int .u64 0, .int .i64 0, .int .i64 0, .int .i64 0, .int .i64 0, .int .i64 0, .int .i64 0, .int .i64 0, .int .i64 0, .int .i64 0, .int .i64 0, .int .i64 0, .int .i64 0, .slice none 0 0, .slice none 0 0, .slice none 0 0, .slice none 0 0, .int .i64 0, .int .i64 0, .slice none 0 0, .slice none 0 0, .int .u64 0, .slice none 0 0] ∧ Below w.heap.size w wx)
 case first =>
  refine wp_region_held_drew (S := (fun V => Blk V w.heap.size 49 hv ∧ Blk V (w.heap.size + 1) 41 fv ∧ Blk V (w.heap.size + 1 + 1) 51 #[.int .i64 0, .int .i64 0, .int .i64 0, .int .i64 0, .int .u64 0, .int .u64 0, .int .i64 0, .int .u64 0, .int .i64 0, .int .i64 0, .int .i64 0, .int .i64 0, .int .i64 0, .int .i64 0, .int .i64 0, .int .i64 0, .int .i64 0, .int .i64 0, .int .i64 0, .int .i64 0, .slice none 0 0, .slice none 0 0, .slice none 0 0, .slice none 0 0, .int .i64 0, .int .i64 0, .slice none 0 0, .slice none 0 0, .int .u64 0, .slice none 0 0] ∧ Below w.heap.size w V)) (by kernel_rfl) ?_ (fun hHeld => ?_)
  ·first | done | ((try dsimp only); exact ⟨B0.drew, B1.drew, B2.drew, P0.drew⟩)
  have SX : Blk w3.drew w.heap.size 49 hv ∧ Blk w3.drew (w.heap.size + 1) 41 fv ∧ Blk w3.drew (w.heap.size + 1 + 1) 51 #[.int .i64 0, .int .i64 0, .int .i64 0, .int .i64 0, .int .u64 0, .int .u64 0, .int .i64 0, .int .u64 0, .int .i64 0, .int .i64 0, .int .i64 0, .int .i64 0, .int .i64 0, .int .i64 0, .int .i64 0, .int .i64 0, .int .i64 0, .int .i64 0, .int .i64 0, .int .i64 0, .slice none 0 0, .slice none 0 0, .slice none 0 0, .slice none 0 0, .int .i64 0, .int .i64 0, .slice none 0 0, .slice none 0 0, .int .u64 0, .slice none 0 0] ∧ Below w.heap.size w w3.drew := ⟨B0.drew, B1.drew, B2.drew, P0.drew⟩
  clear B0 B1 B2 P0
  generalize w3.drew = wd at *
  refine wpAnyH_take (i := 0) (oi := ⟨some 14, _, _, _, _, _⟩) (v := _) rfl (by kernel_rfl) (by kernel_rfl) (by kernel_rfl) (fun _ _ _ h => h) (yieldsHv hvs _ rfl rfl (fun _ h => h.1) rfl) (by assumption) ?_
  (try simp only [pS, pB, pZ, pC])
  refine tk 1 15 ?_ rfl ?_ ?_
  rotate_left
  ·(intro w' hSw; (try dsimp only at hSw); go_simp; try (with_reducible rfl))
  (try simp only [pS, pB, pZ, pC])
  refine wpAnyH_take (i := 2) (oi := ⟨some 16, _, _, _, _, _⟩) (v := _) rfl (by kernel_rfl) (by kernel_rfl) (by kernel_rfl) (fun _ _ _ h => h) (yieldsA hfs _ rfl rfl (fun _ h => h.2.1) rfl) (by assumption) ?_
  (try simp only [pS, pB, pZ, pC])
  refine tk 3 17 ?_ rfl ?_ ?_
  rotate_left
  ·(intro w' hSw; (try dsimp only at hSw); go_simp; try (with_reducible rfl))
  (try simp only [pS, pB, pZ, pC])
  refine tk 4 18 ?_ rfl ?_ ?_
  rotate_left
  ·(intro w' hSw; (try dsimp only at hSw); go_simp; try (with_reducible rfl))
  (try simp only [pS, pB, pZ, pC])
  have hgt0 := SX.2.2.1.lt
  refine rd2 5 (some 19) 7 (some 12) (by kernel_rfl) rfl rfl (fun K hK => ?_) fun K hK => ?_
  ·skip
   go_simp
   (refine (HCL.out _ SX.2.2.2).mono ?_; rintro e w6 ⟨v6, rfl, o6, hb6⟩; obtain ⟨A6, c6, rfl⟩ := own_slice o6)
   refine hK.out _ _ ?_ (fun hHeld => ?_)
   ·first | done | ((try dsimp only); exact ⟨SX.1.keep hb6, SX.2.1.keep hb6, SX.2.2.1.keep hb6, below_up SX.2.2.2 hb6 SX.2.2.2.size⟩)
   clear hK K
   (try simp only [pS, pB, pZ, pC])
   have S6 : Blk w6 w.heap.size 49 hv ∧ Blk w6 (w.heap.size + 1) 41 fv ∧ Blk w6 (w.heap.size + 1 + 1) 51 #[.int .i64 0, .int .i64 0, .int .i64 0, .int .i64 0, .int .u64 0, .int .u64 0, .int .i64 0, .int .u64 0, .int .i64 0, .int .i64 0, .int .i64 0, .int .i64 0, .int .i64 0, .int .i64 0, .int .i64 0, .int .i64 0, .int .i64 0, .int .i64 0, .int .i64 0, .int .i64 0, .slice none 0 0, .slice none 0 0, .slice none 0 0, .slice none 0 0, .int .i64 0, .int .i64 0, .slice none 0 0, .slice none 0 0, .int .u64 0, .slice none 0 0] ∧ Below w.heap.size w w6 := hHeld
   have hc6 := own_cap o6
   have hgt : w.heap.size + 1 + 1 < w6.heap.size := S6.2.2.1.lt
   have hcs := HCS.out A6 c6
   have hC1 := HC1.out A6 c6
   clear hb6
   refine tk 6 20 ?_ rfl ?_ ?_
   rotate_left
   ·(intro w' hSw; (try dsimp only at hSw); (refine HBD.out _ _ _ _ _ _ (.tmp 14) (.tmp 15) (.tmp 16) (.tmp 17) (.tmp 19) A6 c6 ?_ ?_ ?_ ?_ ?_ _ <;> rfl); try (with_reducible rfl))
   (try simp only [pS, pB, pZ, pC])
   generalize hCC : CF A6 c6 = C at *
   have HCC := Lib.hid hCC
   clear hCC
   refine rd 7 (some 12) (by kernel_rfl) rfl fun K hK => ?_
   go_simp
   skip
   refine hK.out _ _ ?_ (fun hHeld => ?_)
   ·first | done | ((try dsimp only); exact ⟨S6.1.alloc _, S6.2.1.alloc _, S6.2.2.1.alloc _, S6.2.2.2.alloc S6.2.2.2.size _⟩)
   clear hK K
   (try simp only [pS, pB, pZ, pC])
   have YZ := Blk.new w6 51 #[.int .i64 0, .int .i64 0, .int .i64 0, .int .i64 0, .int .u64 0, .int .u64 0, .int .i64 0, .int .u64 0, .int .i64 0, .int .i64 0, .int .i64 0, .int .i64 0, .int .i64 0, .int .i64 0, .int .i64 0, .int .i64 0, .int .i64 0, .int .i64 0, .int .i64 0, .int .i64 0, .slice none 0 0, .slice none 0 0, .slice none 0 0, .slice none 0 0, .int .i64 0, .int .i64 0, .slice none 0 0, .slice none 0 0, .int .u64 0, .slice none 0 0]
   have SZ := hHeld
   refine rd 8 none (by kernel_rfl) rfl fun K hK => ?_
   rw [if_pos (by rfl)]
   refine wp_storeW (T := 51) (n := 30) (by kernel_rfl) YZ rfl _ _ rfl rfl C rfl hcs hC1 (fun w9 Y9 g9 => ?_)
   have S9 : Blk w9 w.heap.size 49 hv ∧ Blk w9 (w.heap.size + 1) 41 fv ∧ Blk w9 (w.heap.size + 1 + 1) 51 #[.int .i64 0, .int .i64 0, .int .i64 0, .int .i64 0, .int .u64 0, .int .u64 0, .int .i64 0, .int .u64 0, .int .i64 0, .int .i64 0, .int .i64 0, .int .i64 0, .int .i64 0, .int .i64 0, .int .i64 0, .int .i64 0, .int .i64 0, .int .i64 0, .int .i64 0, .int .i64 0, .slice none 0 0, .slice none 0 0, .slice none 0 0, .slice none 0 0, .int .i64 0, .int .i64 0, .slice none 0 0, .slice none 0 0, .int .u64 0, .slice none 0 0] ∧ Below w.heap.size w w9 := ⟨SZ.1.grown g9 (fun e => by injection e with e; omega), SZ.2.1.grown g9 (fun e => by injection e with e; omega), SZ.2.2.1.grown g9 (fun e => by injection e with e; omega), SZ.2.2.2.grown g9 SZ.2.2.2.size (fun k e => by injection e with e; omega)⟩
   have o9 := (o6.alloc (.cells #[.int .i64 0, .int .i64 0, .int .i64 0, .int .i64 0, .int .u64 0, .int .u64 0, .int .i64 0, .int .u64 0, .int .i64 0, .int .i64 0, .int .i64 0, .int .i64 0, .int .i64 0, .int .i64 0, .int .i64 0, .int .i64 0, .int .i64 0, .int .i64 0, .int .i64 0, .int .i64 0, .slice none 0 0, .slice none 0 0, .slice none 0 0, .slice none 0 0, .int .i64 0, .int .i64 0, .slice none 0 0, .slice none 0 0, .int .u64 0, .slice none 0 0] 51)).kept g9 (by
    cases hv9 : (Value.slice A6 ps.length c6).ownBlock with
    | none => exact .inl rfl
    | some b => exact .inr (fun e => by injection e with e; have := (o6.lt b hv9).2; omega))
   refine hK.out _ _ ?_ (fun hHeld => ?_)
   ·exact S9
   clear hK K
   refine wpAnyH_done (by kernel_rfl) ?_ _
   go_wp2_with fail
   go_meet
   exact ⟨_, A6, c6, rfl, by rw [HCC.out]; exact Y9, hc6, own_mono o9 (by omega), hgt, S9.2.2.1, S9.2.2.2⟩
  ·skip
   go_simp
   skip
   refine hK.out _ _ ?_ (fun hHeld => ?_)
   ·first | done | ((try dsimp only); exact ⟨SX.1.alloc _, SX.2.1.alloc _, SX.2.2.1.alloc _, SX.2.2.2.alloc SX.2.2.2.size _⟩)
   clear hK K
   (try simp only [pS, pB, pZ, pC])
   have YZ0 := Blk.new wd 51 #[.int .i64 0, .int .i64 0, .int .i64 0, .int .i64 0, .int .u64 0, .int .u64 0, .int .i64 0, .int .u64 0, .int .i64 0, .int .i64 0, .int .i64 0, .int .i64 0, .int .i64 0, .int .i64 0, .int .i64 0, .int .i64 0, .int .i64 0, .int .i64 0, .int .i64 0, .int .i64 0, .slice none 0 0, .slice none 0 0, .slice none 0 0, .slice none 0 0, .int .i64 0, .int .i64 0, .slice none 0 0, .slice none 0 0, .int .u64 0, .slice none 0 0]
   have hgt : w.heap.size + 1 + 1 < wd.heap.size := hgt0
   have SZ0 : Blk (wd.alloc (.cells #[.int .i64 0, .int .i64 0, .int .i64 0, .int .i64 0, .int .u64 0, .int .u64 0, .int .i64 0, .int .u64 0, .int .i64 0, .int .i64 0, .int .i64 0, .int .i64 0, .int .i64 0, .int .i64 0, .int .i64 0, .int .i64 0, .int .i64 0, .int .i64 0, .int .i64 0, .int .i64 0, .slice none 0 0, .slice none 0 0, .slice none 0 0, .slice none 0 0, .int .i64 0, .int .i64 0, .slice none 0 0, .slice none 0 0, .int .u64 0, .slice none 0 0] 51)) w.heap.size 49 hv ∧ Blk (wd.alloc (.cells #[.int .i64 0, .int .i64 0, .int .i64 0, .int .i64 0, .int .u64 0, .int .u64 0, .int .i64 0, .int .u64 0, .int .i64 0, .int .i64 0, .int .i64 0, .int .i64 0, .int .i64 0, .int .i64 0, .int .i64 0, .int .i64 0, .int .i64 0, .int .i64 0, .int .i64 0, .int .i64 0, .slice none 0 0, .slice none 0 0, .slice none 0 0, .slice none 0 0, .int .i64 0, .int .i64 0, .slice none 0 0, .slice none 0 0, .int .u64 0, .slice none 0 0] 51)) (w.heap.size + 1) 41 fv ∧ Blk (wd.alloc (.cells #[.int .i64 0, .int .i64 0, .int .i64 0, .int .i64 0, .int .u64 0, .int .u64 0, .int .i64 0, .int .u64 0, .int .i64 0, .int .i64 0, .int .i64 0, .int .i64 0, .int .i64 0, .int .i64 0, .int .i64 0, .int .i64 0, .int .i64 0, .int .i64 0, .int .i64 0, .int .i64 0, .slice none 0 0, .slice none 0 0, .slice none 0 0, .slice none 0 0, .int .i64 0, .int .i64 0, .slice none 0 0, .slice none 0 0, .int .u64 0, .slice none 0 0] 51)) (w.heap.size + 1 + 1) 51 #[.int .i64 0, .int .i64 0, .int .i64 0, .int .i64 0, .int .u64 0, .int .u64 0, .int .i64 0, .int .u64 0, .int .i64 0, .int .i64 0, .int .i64 0, .int .i64 0, .int .i64 0, .int .i64 0, .int .i64 0, .int .i64 0, .int .i64 0, .int .i64 0, .int .i64 0, .int .i64 0, .slice none 0 0, .slice none 0 0, .slice none 0 0, .slice none 0 0, .int .i64 0, .int .i64 0, .slice none 0 0, .slice none 0 0, .int .u64 0, .slice none 0 0] ∧ Below w.heap.size w (wd.alloc (.cells #[.int .i64 0, .int .i64 0, .int .i64 0, .int .i64 0, .int .u64 0, .int .u64 0, .int .i64 0, .int .u64 0, .int .i64 0, .int .i64 0, .int .i64 0, .int .i64 0, .int .i64 0, .int .i64 0, .int .i64 0, .int .i64 0, .int .i64 0, .int .i64 0, .int .i64 0, .int .i64 0, .slice none 0 0, .slice none 0 0, .slice none 0 0, .slice none 0 0, .int .i64 0, .int .i64 0, .slice none 0 0, .slice none 0 0, .int .u64 0, .slice none 0 0] 51)) := hHeld
   have hwz : (wd.alloc (.cells #[.int .i64 0, .int .i64 0, .int .i64 0, .int .i64 0, .int .u64 0, .int .u64 0, .int .i64 0, .int .u64 0, .int .i64 0, .int .i64 0, .int .i64 0, .int .i64 0, .int .i64 0, .int .i64 0, .int .i64 0, .int .i64 0, .int .i64 0, .int .i64 0, .int .i64 0, .int .i64 0, .slice none 0 0, .slice none 0 0, .slice none 0 0, .slice none 0 0, .int .i64 0, .int .i64 0, .slice none 0 0, .slice none 0 0, .int .u64 0, .slice none 0 0] 51)).heap.size = wd.heap.size + 1 := World.size_alloc ..
   refine rd 5 (some 19) (by kernel_rfl) rfl fun K hK => ?_
   go_simp
   (refine (HCL.out _ SZ0.2.2.2).mono ?_; rintro e w6 ⟨v6, rfl, o6, hb6⟩; obtain ⟨A6, c6, rfl⟩ := own_slice o6)
   refine hK.out _ _ ?_ (fun hHeld => ?_)
   ·first | done | ((try dsimp only); exact ⟨SZ0.1.keep hb6, SZ0.2.1.keep hb6, SZ0.2.2.1.keep hb6, below_up SZ0.2.2.2 hb6 SZ0.2.2.2.size⟩)
   clear hK K
   (try simp only [pS, pB, pZ, pC])
   have SZ : Blk w6 w.heap.size 49 hv ∧ Blk w6 (w.heap.size + 1) 41 fv ∧ Blk w6 (w.heap.size + 1 + 1) 51 #[.int .i64 0, .int .i64 0, .int .i64 0, .int .i64 0, .int .u64 0, .int .u64 0, .int .i64 0, .int .u64 0, .int .i64 0, .int .i64 0, .int .i64 0, .int .i64 0, .int .i64 0, .int .i64 0, .int .i64 0, .int .i64 0, .int .i64 0, .int .i64 0, .int .i64 0, .int .i64 0, .slice none 0 0, .slice none 0 0, .slice none 0 0, .slice none 0 0, .int .i64 0, .int .i64 0, .slice none 0 0, .slice none 0 0, .int .u64 0, .slice none 0 0] ∧ Below w.heap.size w w6 := hHeld
   have YZ := YZ0.keep hb6
   have hc6 := own_cap o6
   have hcs := HCS.out A6 c6
   have hC1 := HC1.out A6 c6
   clear hb6 YZ0 SZ0
   refine tk 6 20 ?_ rfl ?_ ?_
   rotate_left
   ·(intro w' hSw; (try dsimp only at hSw); (refine HBD.out _ _ _ _ _ _ (.tmp 14) (.tmp 15) (.tmp 16) (.tmp 17) (.tmp 19) A6 c6 ?_ ?_ ?_ ?_ ?_ _ <;> rfl); try (with_reducible rfl))
   (try simp only [pS, pB, pZ, pC])
   generalize hCC : CF A6 c6 = C at *
   have HCC := Lib.hid hCC
   clear hCC
   refine rd 8 none (by kernel_rfl) rfl fun K hK => ?_
   rw [if_pos (by rfl)]
   refine wp_storeW (T := 51) (n := 30) (by kernel_rfl) YZ rfl _ _ rfl rfl C rfl hcs hC1 (fun w9 Y9 g9 => ?_)
   have S9 : Blk w9 w.heap.size 49 hv ∧ Blk w9 (w.heap.size + 1) 41 fv ∧ Blk w9 (w.heap.size + 1 + 1) 51 #[.int .i64 0, .int .i64 0, .int .i64 0, .int .i64 0, .int .u64 0, .int .u64 0, .int .i64 0, .int .u64 0, .int .i64 0, .int .i64 0, .int .i64 0, .int .i64 0, .int .i64 0, .int .i64 0, .int .i64 0, .int .i64 0, .int .i64 0, .int .i64 0, .int .i64 0, .int .i64 0, .slice none 0 0, .slice none 0 0, .slice none 0 0, .slice none 0 0, .int .i64 0, .int .i64 0, .slice none 0 0, .slice none 0 0, .int .u64 0, .slice none 0 0] ∧ Below w.heap.size w w9 := ⟨SZ.1.grown g9 (fun e => by injection e with e; omega), SZ.2.1.grown g9 (fun e => by injection e with e; omega), SZ.2.2.1.grown g9 (fun e => by injection e with e; omega), SZ.2.2.2.grown g9 SZ.2.2.2.size (fun k e => by injection e with e; omega)⟩
   have o9 := o6.kept g9 (by
    cases hv9 : (Value.slice A6 ps.length c6).ownBlock with
    | none => exact .inl rfl
    | some b => exact .inr (fun e => by injection e with e; have := (o6.lt b hv9).1; omega))
   refine hK.out _ _ ?_ (fun hHeld => ?_)
   ·exact S9
   clear hK K
   refine wpAnyH_done (by kernel_rfl) ?_ _
   go_wp2_with fail
   go_meet
   exact ⟨_, A6, c6, rfl, by rw [HCC.out]; exact Y9, hc6, own_mono o9 (by omega), hgt, S9.2.2.1, S9.2.2.2⟩
 case rest =>
  obtain ⟨g, A6, c6, rfl, Y4, hc6, O4, hgt, Z4, P4⟩ := hcut
  obtain ⟨w4, rfl⟩ : ∃ z : World, z = wc := ⟨_, rfl⟩
  have hcs := HCS.out A6 c6
  have hC1 := HC1.out A6 c6
  have h1 := Lib.hid (H1.out A6 c6)
  have h3 := Lib.hid (H3.out A6 c6)
  have HR4 := Lib.hid (own_rowU O4)
  have HO4 := Lib.hid O4
  have hcf : ∃ C, C = CF A6 c6 := ⟨_, rfl⟩
  obtain ⟨C, hC⟩ := hcf
  rw [← hC] at hcs hC1 h1 h3 Y4
  have HCC := Lib.hid hC
  clear B0 B1 B2 P0 H1 H3 HBD O4 hC HCS HC1
  go_wp2_with (refine wpList_loadC Y4 hcs _ rfl rfl rfl ?_)
  have hF := Blk.new w4 97 #[.func (.func 45) #[.agg C] #[], .func (.func 48) #[.agg C] #[]]
  have PF0 := below_new w4 (.cells #[.func (.func 45) #[.agg C] #[], .func (.func 48) #[.agg C] #[]] 97)
  have PF := P4.alloc P4.size (.cells #[.func (.func 45) #[.agg C] #[], .func (.func 48) #[.agg C] #[]] 97)
  have YF := Y4.alloc (.cells #[.func (.func 45) #[.agg C] #[], .func (.func 48) #[.agg C] #[]] 97)
  have ZF := Z4.alloc (.cells #[.func (.func 45) #[.agg C] #[], .func (.func 48) #[.agg C] #[]] 97)
  refine (first2_any C 0 0 _ _ hF (fun W hW => h1.out W (PF.trans (hW.mono PF.size))) (fun _ W hW => h3.out W (PF.trans (hW.mono PF.size)) ((HR4.out.keep PF0).keep hW) hc6)).mono ?_
  rintro e w5 ⟨he, hb5⟩
  rw [show first2 0 0 = 0 from rfl] at he
  subst he
  have P5 := PF.trans (hb5.mono PF.size)
  have Y5 := YF.keep hb5
  have Z5 := ZF.keep hb5
  have Q5 := below_up PF0 hb5 PF0.size
  have hz4 : w.heap.size + 1 + 1 < w4.heap.size := Z4.lt
  clear hF PF YF ZF Y4 Z4 P4 hb5 h1 h3 PF0
  go_wp2_with (first | (refine wpList_loadC Y5 hcs _ rfl rfl rfl ?_) | (refine wpList_storeW (T := 51) (n := 30) (by kernel_rfl) Z5 rfl _ _ rfl rfl rfl C rfl hcs hC1 ?_; intro w6 Y6 g6))
  have kn : ∀ {W W' : World} {row : Option Nat}, W.ownsRow (w.heap.size + 1 + 1 + 1) 27 1 (.slice A6 ps.length c6) ps.length (us ps) → W.grownBy W' row → (∀ k, row = some k → k < w.heap.size + 1 + 1 + 1) → W'.ownsRow (w.heap.size + 1 + 1 + 1) 27 1 (.slice A6 ps.length c6) ps.length (us ps) := fun {W W' row} ho hg hr => ho.kept hg (by
   cases hv9 : (Value.slice A6 ps.length c6).ownBlock with
   | none => exact .inl rfl
   | some b => exact .inr (fun e => by have := (ho.lt b hv9).1; have := hr b e.symm; omega))
  have O6 := kn (kn HO4.out (grown_of_below (row := none) Q5) (fun _ e => by cases e)) g6 (fun k e => by injection e with e; omega)
  exact bodyPost_ret (results_CE rfl _ rfl Y6 hcs) rfl ⟨A6, c6, by rw [← HCC.out]; rfl, own_mono O6 (by omega), P5.grown g6 P5.size (fun k e => by injection e with e; omega)⟩
set_option maxRecDepth 100000 in
set_option maxHeartbeats 4000000 in
theorem make_gen (h : Hd) (f : Fil) (hok : OkFil f) (dv cv ev : Value) (salt : Nat) (hsalt : salt < 18446744073709551616) (i n : Nat) (hin : i < n) (hn16 : n ≤ 16) (ps : List Nat) (hp : ps.length ≤ 100) (hpw : Words ps) (hfit : fitF 16 i n ps.length = true) (hs1 : h.size = (n : Int)) (hkt : f.known ≤ h.tick) (hoff : f.office = h.office) (hlog : h.log = climbF 16 i n (commitN (encA f) salt) ps)
  (base : Nat) (pv : Value) (w : World) (hG : w.cell? ⟨0, 0, none⟩ = some (.int .i64 655)) (h0 : 0 < w.heap.size) (B : Nat) (hBw : B ≤ w.heap.size) (hf : FilAt w B f dv cv ev) (hpv : w.ownsRow base 27 1 pv ps.length (us ps)) :
  Calls Tryz.prog 17 #[.agg h.vals, .int .i64 (i : Int), .agg (f.vals dv cv ev), .int .u64 (salt : Int), pv] w fun e w' => ∃ A c, e = .returned (.tuple #[.agg (cop h (i : Int) f dv cv ev salt (.slice A ps.length c)), .int .i64 0]) ∧ w'.ownsRow w.heap.size 27 1 (.slice A ps.length c) ps.length (us ps) ∧ Below w.heap.size w w' := by
 have HK : ∀ W, Below w.heap.size w W → W.cell? ⟨0, 0, none⟩ = some (.int .i64 655) ∧ 0 < W.heap.size ∧ B ≤ W.heap.size ∧ FilAt W B f dv cv ev := fun W hW => ⟨(hW.cell (p := ⟨0, 0, none⟩) h0).trans hG, Nat.lt_of_lt_of_le h0 hW.size, Nat.le_trans hBw hW.size, hf.keep (fun p hp => hW.cell (Nat.lt_of_lt_of_le hp hBw)) (Nat.le_refl _)⟩
 have hC := fun (A : Option Addr) (c : Nat) => cop_is h (i : Int) f dv cv ev salt (.slice A ps.length c)
 obtain ⟨Ap, cp, rfl⟩ := own_slice hpv
 refine make_core (fun A c => cop h (i : Int) f dv cv ev salt (.slice A ps.length c)) h.vals (f.vals dv cv ev) (i : Int) salt ps rfl rfl (by omega) (fun A c => (hC A c).size) (fun A c => cop_one h _ f salt A _ c hf.one) (Lib.hid (fun d ty pos after gd r x0 x1 x2 x3 x4 A c h0 h1 h2 h3 h4 w => exec_buildC d ty pos after gd r x0 x1 x2 x3 x4 h _ f dv cv ev salt A ps.length c h0 h1 h2 h3 h4 w)) base Ap cp w (Lib.hid (fun W hW => hpv.kept (grown_of_below (row := none) hW) (by
  cases hv : (Value.slice Ap ps.length cp).ownBlock with
  | none => exact .inl rfl
  | some b => exact .inr (fun e => by cases e)))) (Lib.hid (fun A c W hW => ?_)) (Lib.hid (fun A c W hW hR hc => ?_))
 ·have H1 := cfiling_any (hC A c) hok W (HK W hW).1 (HK W hW).2.1 B (HK W hW).2.2.1 (HK W hW).2.2.2
  rw [fil_good f hoff] at H1
  exact H1
 ·have H3 := clogged_gen (hC A c) hok hs1 hin hn16 hp hc hpw hfit hkt hsalt W (HK W hW).1 (HK W hW).2.1 B (HK W hW).2.2.1 (HK W hW).2.2.2 hR
  rw [show logG h f salt ps i n = 0 from if_pos hlog] at H3
  exact H3
end Go.Proofs.YtbeaijjaecaidaaGreatDoor
namespace Go.Proofs.YtbeaijjaecaidaaGreatDoor
open Go.RowKit Go.Shelf
def entG (fl : List Fil) : List Nat := fl.mapIdx fun i f => commitN (encA f) (i + 3)
theorem entG_length (fl : List Fil) : (entG fl).length = fl.length := List.length_mapIdx
theorem entG_step {fl : List Fil} {k : Nat} (hk : k < fl.length) : entG (fl.take (k + 1)) = entG (fl.take k) ++ [commitN (encA fl[k]) (k + 3)] := by
 unfold entG
 rw [List.take_add_one, List.getElem?_eq_getElem hk]
 simp only [Option.toList, List.mapIdx_append, List.mapIdx_cons, List.mapIdx_nil, List.length_take]
 rw [Nat.min_eq_left (by omega), Nat.zero_add]
theorem entG_words (fl : List Fil) : Words (entG fl) := fun x hx => by
 unfold entG at hx
 obtain ⟨i, hi, rfl⟩ := List.mem_mapIdx.1 hx
 exact lab_lt _ _
theorem entG_len {fl : List Fil} {k : Nat} (hk : k ≤ fl.length) : (entG (fl.take k)).length = k := by rw [entG_length, List.length_take]; omega
def hdG (sec : Nat) (t : Int) (n R : Nat) : Hd := ⟨4, t, 0, (n : Int), R, 0, 1, sigN (keyN sec) ⟨4, t, 0, (n : Int), R, 0, 1, 0⟩⟩
theorem hdG_good (sec : Nat) {t : Int} {n R : Nat} (ht : 0 ≤ t ∧ t ≤ 1099511627776) (h1 : 1 ≤ n) (hn : n ≤ 16) : hdC (keyN sec) (hdG sec t n R) = 0 := by
 have hb : hdB (hdG sec t n R).office (hdG sec t n R).tick (hdG sec t n R).day (hdG sec t n R).size (hdG sec t n R).sld = true := by
  show hdB 4 t 0 (n : Int) 1 = true
  unfold hdB inB
  simp only [Bool.and_eq_true, decide_eq_true_eq]
  omega
 unfold hdC
 rw [if_pos hb]
 exact if_pos rfl
theorem tick_bd {fl : List Fil} (hok : ∀ f ∈ fl, OkFil f) (k : Nat) : 0 ≤ tickN (fl.take k) ∧ tickN (fl.take k) ≤ 1099511627776 :=
 ⟨(tick_ge (fl.take k) 0).1, tick_le (b := 1099511627776) (fl.take k) 0 (by omega) (fun f hf => (hok f (List.mem_of_mem_take hf)).2.1.2)⟩
theorem tick_of {fl : List Fil} {j k : Nat} (hj : j < k) (hk : k ≤ fl.length) : fl[j].known ≤ tickN (fl.take k) := by
 have h : fl[j] ∈ fl.take k := by
  have e : (fl.take k)[j]'(by rw [List.length_take]; omega) = fl[j] := List.getElem_take
  rw [← e]
  exact List.getElem_mem _
 exact (tick_ge (fl.take k) 0).2 _ h
theorem genuine_fit {fl : List Fil} {j k : Nat} (hj : j < k) (hk : k ≤ fl.length) (h14 : fl.length ≤ 14) :
  climbF 16 j k (commitN (encA fl[j]) (j + 3)) (pathS (entG (fl.take k)) 0 k j) = rootS (entG (fl.take k)) 0 k ∧ fitF 16 j k (pathS (entG (fl.take k)) 0 k j).length = true := by
 have hl := entG_len hk
 have h := climb_path 16 (entG (fl.take k)) j (by omega) (by omega)
 have hs : sub (entG (fl.take k)) 0 k = entG (fl.take k) := by
  have := sub_all (entG (fl.take k))
  rw [hl] at this
  exact this
 have hg : (entG (fl.take k))[j]'(by omega) = commitN (encA fl[j]) (j + 3) := by
  unfold entG
  rw [List.getElem_mapIdx, List.getElem_take]
 unfold pathS rootS
 rw [hs]
 rw [hg, hl] at h
 exact h
theorem pathS_len (hs : List Nat) (f n i : Nat) : (pathS hs f n i).length ≤ 16 := path_len _ _ _
theorem pathS_words (hs : List Nat) (f n i : Nat) : Words (pathS hs f n i) := path_words _ _ _
end Go.Proofs.YtbeaijjaecaidaaGreatDoor
