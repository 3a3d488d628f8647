/- Copies: made of their parts, in the program and out of the reference's. The features that generated acts use. Written by mkfeat.py. The maker's features and claims. append(row, element) where the elements' data lie elsewhere: at any type of elements. -/
import Derived.Test.YtbeaijjaecaidaaGreatDoorG14
import Derived.Test.YtbeaijjaecaidaaGreatDoorE11
import Derived.Test.YtbeaijjaecaidaaGreatDoorE07
import Derived.Test.YtbeaijjaecaidaaGreatDoorE02
import Derived.Test.YtbeaijjaecaidaaGreatDoorE01
import Derived.Maps.AppendAt
namespace Go.Proofs.YtbeaijjaecaidaaGreatDoor
open Go.RowKit Go.Shelf
attribute [local go_sem] Oper.semAt_some
theorem wpList_storeW {T : TypeId} {n : Nat} (hi : (Tryz.prog.info? T).map (·.size) = some n) {w : World} {g : Nat} {old : Array Value} (h : Blk w g T old) (hs : old.size = n) {ops : Array Oper} {rest : List Oper} {o : Oper} {a : Act} {Q : Exit → Act → World → Prop} (p v : Operand) (ho : o.op = .store T p v) (hg : o.guard = none)
  (hp : a.eval p = .pointer (some ⟨g, 0, none⟩)) (vs : Array Value) (hv : a.eval v = .agg vs) (hvs : vs.size = n) (h1 : vs.all (·.oneCell') = true)
  (hK : ∀ w', Blk w' g T vs → w.grownBy w' (some g) → wpList Tryz.prog ops Q rest (a.put o.dst undef) w') : wpList Tryz.prog ops Q (o :: rest) a w :=
 wpList_store_row hg T p v ho g vs hp hv T old h (by rw [hvs]; exact hi) (by rw [hs, hvs]) h1 (hK _ (h.setRow vs) (grown_setRow w g vs))
theorem wp_storeW {T : TypeId} {n : Nat} (hi : (Tryz.prog.info? T).map (·.size) = some n) {w : World} {g : Nat} {old : Array Value} (h : Blk w g T old) (hs : old.size = n) {o : Oper} {a : Act} {K : Act → World → Prop} {Q : Exit → Act → World → Prop} (p v : Operand) (ho : o.op = .store T p v)
  (hp : a.eval p = .pointer (some ⟨g, 0, none⟩)) (vs : Array Value) (hv : a.eval v = .agg vs) (hvs : vs.size = n) (h1 : vs.all (·.oneCell') = true)
  (hK : ∀ w', Blk w' g T vs → w.grownBy w' (some g) → K (a.put o.dst undef) w') : o.wp Tryz.prog a w K Q :=
 wp_store_row T p v ho g vs hp hv T old h (by rw [hvs]; exact hi) (by rw [hs, hvs]) h1 (hK _ (h.setRow vs) (grown_setRow w g vs))
theorem results_H {fn : Func} {p : Tmp} (h : fn.results = #[.cell p 49]) (tmps : Array Value) {w : World} {g : Nat} {cs : Array Value} (hp : tmps.getD p undef = .pointer (some ⟨g, 0, none⟩)) (hb : Blk w g 49 cs) (hs : cs.size = 8) :
  (results fn tmps).run Tryz.prog w = .ok (.agg cs) w :=
 results_cell_row h tmps w g 49 cs _ _ hp hb Tryz.underlying49 rfl (by rw [hs]; kernel_rfl)
theorem results_C {fn : Func} {p : Tmp} (h : fn.results = #[.cell p 51]) (tmps : Array Value) {w : World} {g : Nat} {cs : Array Value} (hp : tmps.getD p undef = .pointer (some ⟨g, 0, none⟩)) (hb : Blk w g 51 cs) (hs : cs.size = 30) :
  (results fn tmps).run Tryz.prog w = .ok (.agg cs) w :=
 results_cell_row h tmps w g 51 cs _ _ hp hb Tryz.underlying51 rfl (by rw [hs]; kernel_rfl)
theorem results_K {fn : Func} {p : Tmp} (h : fn.results = #[.cell p 44]) (tmps : Array Value) {w : World} {g : Nat} {cs : Array Value} (hp : tmps.getD p undef = .pointer (some ⟨g, 0, none⟩)) (hb : Blk w g 44 cs) (hs : cs.size = 30) :
  (results fn tmps).run Tryz.prog w = .ok (.agg cs) w :=
 results_cell_row h tmps w g 44 cs _ _ hp hb Tryz.underlying44 rfl (by rw [hs]; kernel_rfl)
set_option maxRecDepth 100000 in
set_option maxHeartbeats 2000000 in
theorem exec_buildC (d : Option Tmp) (ty : TypeId) (pos : String) (after : Array Edge) (gd : Option (Nat × Bool)) (r : Operand → Value) (x0 x1 x2 x3 x4 : Operand) (h : Hd) (i : Int) (f : Fil) (dv cv ev : Value) (salt : Nat) (A : Option Addr) (n c : Nat)
  (h0 : r x0 = .agg h.vals) (h1 : r x1 = .int .i64 i) (h2 : r x2 = .agg (f.vals dv cv ev)) (h3 : r x3 = .int .u64 (salt : Int)) (h4 : r x4 = .slice A n c) (w : World) :
  (execOp r ⟨d, .build 51 #[(0, x0), (1, x1), (2, x2), (3, x3), (4, x4)], ty, pos, after, gd⟩).run Tryz.prog w = .ok (.value (.agg (cop h i f dv cv ev salt (.slice A n c)))) w := by
 unfold Hd.vals at h0
 unfold Fil.vals at h2
 unfold cop
 simp only [execOp]
 go_simp
set_option maxRecDepth 100000 in
set_option maxHeartbeats 2000000 in
theorem exec_buildK (d : Option Tmp) (ty : TypeId) (pos : String) (after : Array Edge) (gd : Option (Nat × Bool)) (r : Operand → Value) (x0 x1 x2 x3 x4 : Operand) (h : Hd) (i : Int) (f : Fil) (dv cv ev : Value) (salt : Nat) (A : Option Addr) (n c : Nat)
  (h0 : r x0 = .agg h.vals) (h1 : r x1 = .int .i64 i) (h2 : r x2 = .agg (f.vals dv cv ev)) (h3 : r x3 = .int .u64 (salt : Int)) (h4 : r x4 = .slice A n c) (w : World) :
  (execOp r ⟨d, .build 44 #[(0, x0), (1, x1), (2, x2), (3, x3), (4, x4)], ty, pos, after, gd⟩).run Tryz.prog w = .ok (.value (.agg (cop h i f dv cv ev salt (.slice A n c)))) w := by
 unfold Hd.vals at h0
 unfold Fil.vals at h2
 unfold cop
 simp only [execOp]
 go_simp
set_option maxRecDepth 100000 in
set_option maxHeartbeats 2000000 in
theorem own_any (h : Hd) (w : World) : Calls Tryz.prog 18 #[.agg h.vals] w fun e w' => e = .returned (.agg h.vals) ∧ Below w.heap.size w w' := by
 obtain ⟨o, t, d, s, l, m, sl, sg⟩ := h
 unfold Hd.vals
 dsimp only
 have X0 := (Blk.new w 29 #[.int .i64 o, .int .i64 t, .int .i64 d, .int .i64 s, .int .u64 (l : Int), .int .u64 (m : Int), .int .i64 sl, .int .u64 (sg : Int)]).alloc (.cells #[.int .i64 0, .int .i64 0, .int .i64 0, .int .i64 0, .int .u64 0, .int .u64 0, .int .i64 0, .int .u64 0] 49)
 have Y0 := Blk.new (w.alloc (.cells #[.int .i64 o, .int .i64 t, .int .i64 d, .int .i64 s, .int .u64 (l : Int), .int .u64 (m : Int), .int .i64 sl, .int .u64 (sg : Int)] 29)) 49 #[.int .i64 0, .int .i64 0, .int .i64 0, .int .i64 0, .int .u64 0, .int .u64 0, .int .i64 0, .int .u64 0]
 rw [World.size_alloc] at Y0
 have P0 := (below_new w (.cells #[.int .i64 o, .int .i64 t, .int .i64 d, .int .i64 s, .int .u64 (l : Int), .int .u64 (m : Int), .int .i64 sl, .int .u64 (sg : Int)] 29)).alloc (by simp) (.cells #[.int .i64 0, .int .i64 0, .int .i64 0, .int .i64 0, .int .u64 0, .int .u64 0, .int .i64 0, .int .u64 0] 49)
 go_enter Tryz.func18, Tryz.ntmps18
 go_upto_region 1 with fail
 generalize (w.alloc (.cells #[.int .i64 o, .int .i64 t, .int .i64 d, .int .i64 s, .int .u64 (l : Int), .int .u64 (m : Int), .int .i64 sl, .int .u64 (sg : Int)] 29)).alloc (.cells #[.int .i64 0, .int .i64 0, .int .i64 0, .int .i64 0, .int .u64 0, .int .u64 0, .int .i64 0, .int .u64 0] 49) = w1 at *
 have hc := X0.c8
 go_wp2_with (refine wpList_storeW (T := 49) (n := 8) (by kernel_rfl) Y0 rfl _ _ rfl rfl rfl _ rfl rfl (by kernel_rfl) ?_; intro w2 Y2 g2)
 exact bodyPost_ret (results_H rfl _ rfl Y2 rfl) rfl ⟨rfl, P0.grown g2 P0.size (fun k e => by injection e with e; omega)⟩
def OneV (dv cv ev : Value) : Prop := (∃ A n c, dv = .slice A n c) ∧ (∃ A n c, cv = .slice A n c) ∧ (∃ A n c, ev = .slice A n c)
theorem Rep.one {W : World} {B sz : Nat} {v : Value} {ds : List D} (h : Rep W B v (.s sz ds)) : ∃ A n c, v = .slice A n c := by
 obtain ⟨A, n, c, rfl, _⟩ := h.slice
 exact ⟨A, n, c, rfl⟩
theorem FilAt.one {W : World} {B : Nat} {f : Fil} {dv cv ev : Value} (h : FilAt W B f dv cv ev) : OneV dv cv ev := ⟨Rep.one h.1, Rep.one h.2.1, Rep.one h.2.2⟩
theorem cop_one (h : Hd) (i : Int) (f : Fil) {dv cv ev : Value} (salt : Nat) (A : Option Addr) (n c : Nat) (hv : OneV dv cv ev) : (cop h i f dv cv ev salt (.slice A n c)).all (·.oneCell') = true := by
 obtain ⟨⟨_, _, _, rfl⟩, ⟨_, _, _, rfl⟩, _, _, _, rfl⟩ := hv
 simp [cop, Value.oneCell']
def zeroC : Array Value := #[.int .i64 0, .int .i64 0, .int .i64 0, .int .i64 0, .int .u64 0, .int .u64 0, .int .i64 0, .int .u64 0, .int .i64 0, .int .i64 0, .int .i64 0, .int .i64 0, .int .i64 0, .int .i64 0, .int .i64 0, .int .i64 0, .int .i64 0, .int .i64 0, .int .i64 0, .int .i64 0, .slice none 0 0, .slice none 0 0, .slice none 0 0, .slice none 0 0, .int .i64 0, .int .i64 0, .slice none 0 0, .slice none 0 0, .int .u64 0, .slice none 0 0]
theorem yieldsCH {T : TypeId} {C : Array Value} {h : Hd} {i : Int} {f : Fil} {dv cv ev : Value} {salt : Nat} {p : Value} (hC : IsCop C h i f dv cv ev salt p) {HT : TypeId} {S : World → Prop} {ops : Array Oper} {g : Nat} {o : Oper} {a : Act} {d : TypeDesc} (x : Operand) (ho : o.op = .load HT x) (hx : a.eval x = .pointer (some ⟨g, 0, none⟩)) (hS : ∀ W, S W → Blk W g T C) (hu : Tryz.prog.underlying HT = some d) (hd : d.isRow = true) (hi : (Tryz.prog.info? HT).map (·.size) = some 8) (hw : Region.wanted o (yielded ops a.tmps) = true) : YieldsIf Tryz.prog ops S o (.agg h.vals) a := by
 have h := yieldsIf_load_mid (P := Tryz.prog) (ops := ops) (S := S) hw HT x ho g 0 hx h.vals.toList d (fun w h => hC.hrange (hS w h)) hu hd hi
 rwa [Array.toArray_toList] at h
theorem yieldsCA {T : TypeId} {C : Array Value} {h : Hd} {i : Int} {f : Fil} {dv cv ev : Value} {salt : Nat} {p : Value} (hC : IsCop C h i f dv cv ev salt p) {S : World → Prop} {ops : Array Oper} {g : Nat} {o : Oper} {a : Act} (x : Operand) (ho : o.op = .load 41 x) (hx : a.eval x = .pointer (some ⟨g, 9, none⟩)) (hS : ∀ W, S W → Blk W g T C) (hw : Region.wanted o (yielded ops a.tmps) = true) : YieldsIf Tryz.prog ops S o (.agg (f.vals dv cv ev)) a := by
 have h := yieldsIf_load_mid (P := Tryz.prog) (ops := ops) (S := S) hw 41 x ho g 9 hx (f.vals dv cv ev).toList _ (fun w h => hC.range (hS w h)) Tryz.underlying41 rfl (by kernel_rfl)
 rwa [Array.toArray_toList] at h
set_option maxRecDepth 100000 in
set_option maxHeartbeats 4000000 in
theorem real_any {C : Array Value} {h : Hd} {i : Int} {f : Fil} {dv cv ev : Value} {salt : Nat} {A : Option Addr} {n c : Nat} (hC : IsCop C h i f dv cv ev salt (.slice A n c)) (hv : OneV dv cv ev) (w : World) :
  Calls Tryz.prog 14 #[.agg C] w fun e w' => e = .returned (.agg (cop h i f dv cv ev salt (.slice A n c))) ∧ Below w.heap.size w w' := by
 have HO := Lib.hid (fun W => own_any h W)
 have X0 := (Blk.new w 44 C).alloc (.cells zeroC 51)
 have Y0 := Blk.new (w.alloc (.cells C 44)) 51 zeroC
 rw [World.size_alloc] at Y0
 have P0 := (below_new w (.cells C 44)).alloc (by simp) (.cells zeroC 51)
 unfold zeroC at X0 Y0 P0
 have hcs := hC.size
 go_enter Tryz.func14, Tryz.ntmps14
 go_upto_region 1 with fail
 generalize (w.alloc (.cells C 44)).alloc (.cells #[.int .i64 0, .int .i64 0, .int .i64 0, .int .i64 0, .int .u64 0, .int .u64 0, .int .i64 0, .int .u64 0, .int .i64 0, .int .i64 0, .int .i64 0, .int .i64 0, .int .i64 0, .int .i64 0, .int .i64 0, .int .i64 0, .int .i64 0, .int .i64 0, .int .i64 0, .int .i64 0, .slice none 0 0, .slice none 0 0, .slice none 0 0, .slice none 0 0, .int .i64 0, .int .i64 0, .slice none 0 0, .slice none 0 0, .int .u64 0, .slice none 0 0] 51) = w1 at *
 refine wp_region_held_drew (S := (fun W => Blk W w.heap.size 44 C ∧ (∃ cs, Blk W (w.heap.size + 1) 51 cs ∧ cs.size = 30) ∧ Below w.heap.size w W)) (by kernel_rfl) ?_ (fun hHeld => ?_)
 ·first | done | ((try dsimp only); exact ⟨X0, ⟨_, Y0, rfl⟩, P0.drew⟩)
 clear X0 Y0 P0
 generalize w1.drew = wb at *
 refine tk 0 3 ?_ rfl ?_ ?_
 rotate_left
 ·(intro w' hSw; (try dsimp only at hSw); go_simp; try (with_reducible rfl))
 (try simp only [pS, pB, pZ, pC])
 refine wpAnyH_take (i := 1) (oi := ⟨some 4, _, _, _, _, _⟩) (v := _) rfl (by kernel_rfl) (by kernel_rfl) (by kernel_rfl) (fun _ _ _ h => h) (yieldsCH hC _ rfl rfl (fun _ h => h.1) Tryz.underlying29 rfl (by kernel_rfl) rfl) (by assumption) ?_
 (try simp only [pS, pB, pZ, pC])
 refine tk 3 6 ?_ rfl ?_ ?_
 rotate_left
 ·(intro w' hSw; (try dsimp only at hSw); go_simp; try (with_reducible rfl))
 (try simp only [pS, pB, pZ, pC])
 refine tk 4 7 ?_ rfl ?_ ?_
 rotate_left
 ·(intro w' hSw; (try dsimp only at hSw); (have hc := hC.cells hSw.1; go_simp); try (with_reducible rfl))
 (try simp only [pS, pB, pZ, pC])
 refine tk 5 8 ?_ rfl ?_ ?_
 rotate_left
 ·(intro w' hSw; (try dsimp only at hSw); go_simp; try (with_reducible rfl))
 (try simp only [pS, pB, pZ, pC])
 refine wpAnyH_take (i := 6) (oi := ⟨some 9, _, _, _, _, _⟩) (v := _) rfl (by kernel_rfl) (by kernel_rfl) (by kernel_rfl) (fun _ _ _ h => h) (yieldsCA hC _ rfl rfl (fun _ h => h.1) rfl) (by assumption) ?_
 (try simp only [pS, pB, pZ, pC])
 refine tk 7 10 ?_ rfl ?_ ?_
 rotate_left
 ·(intro w' hSw; (try dsimp only at hSw); go_simp; try (with_reducible rfl))
 (try simp only [pS, pB, pZ, pC])
 refine tk 8 11 ?_ rfl ?_ ?_
 rotate_left
 ·(intro w' hSw; (try dsimp only at hSw); (have hc := hC.cells hSw.1; go_simp); try (with_reducible rfl))
 (try simp only [pS, pB, pZ, pC])
 refine tk 9 12 ?_ rfl ?_ ?_
 rotate_left
 ·(intro w' hSw; (try dsimp only at hSw); go_simp; try (with_reducible rfl))
 (try simp only [pS, pB, pZ, pC])
 refine tk 10 13 ?_ rfl ?_ ?_
 rotate_left
 ·(intro w' hSw; (try dsimp only at hSw); (have hc := hC.cells hSw.1; go_simp); try (with_reducible rfl))
 (try simp only [pS, pB, pZ, pC])
 refine rd 2 (some 5) (by kernel_rfl) rfl fun K hK => ?_
 go_simp
 (refine (HO.out _).mono ?_; rintro e w2 ⟨rfl, hb2⟩)
 refine hK.out _ _ ?_ (fun hHeld => ?_)
 ·first | done | ((try dsimp only); exact ⟨hHeld.1.keep hb2, (by obtain ⟨cs, k1, k2⟩ := hHeld.2.1; exact ⟨cs, k1.keep hb2, k2⟩), below_up hHeld.2.2 hb2 hHeld.2.2.size⟩)
 clear hK K
 (try simp only [pS, pB, pZ, pC])
 refine tk 11 14 ?_ rfl ?_ ?_
 rotate_left
 ·(intro w' hSw; (try dsimp only at hSw); (refine exec_buildC _ _ _ _ _ _ (.tmp 5) (.tmp 7) (.tmp 9) (.tmp 11) (.tmp 13) h i f dv cv ev salt A n c ?_ ?_ ?_ ?_ ?_ _ <;> rfl); try (with_reducible rfl))
 (try simp only [pS, pB, pZ, pC])
 have ⟨K1, ⟨zs, K2, K3⟩, K4⟩ := hHeld
 refine rd 12 none (by kernel_rfl) rfl fun K hK => ?_
 rw [if_pos (by rfl)]
 refine wp_storeW (T := 51) (n := 30) (by kernel_rfl) K2 K3 _ _ rfl rfl _ rfl rfl (cop_one h i f salt A n c hv) (fun w3 K5 gs => ?_)
 have K6 : Below w.heap.size w w3 := K4.grown gs K4.size (fun k e => by injection e with e; omega)
 refine hK.out _ _ ?_ (fun hHeld => ?_)
 ·exact ⟨K1.grown gs (fun e => by injection e with e; omega), ⟨_, K5, rfl⟩, K6⟩
 clear hK K
 refine wpAnyH_done (by kernel_rfl) ?_ _
 go_wp2_with fail
 exact bodyPost_ret (results_C rfl _ rfl K5 rfl) rfl ⟨rfl, K6⟩
end Go.Proofs.YtbeaijjaecaidaaGreatDoor
namespace Go.Proofs.YtbeaijjaecaidaaGreatDoor
open Go.RowKit Go.Shelf
attribute [local go_sem] Oper.semAt_some
def TS : List TypeId := [144, 41, 169]
theorem Blk.newAt {W : World} {n : Nat} {t : TypeId} {cs : Array Value} (h : W.heap.size = n) : Blk (W.alloc (.cells cs t)) n t cs := h ▸ Blk.new W t cs
theorem below_al {w W : World} (h : Below w.heap.size w W) (o : Obj) : Below w.heap.size w (W.alloc o) := h.alloc h.size o
def fc (n : Int) : F := .mk 1 n [] []
def fv (n : Int) (x : Iv) : F := .mk 2 n [x] []
theorem fc_rep (H : List Nat) (W : World) (n : Int) : RepML TS H W [.int .i64 1, .int .i64 n, .slice none 0 0, .slice none 0 0] (fc n).cells := by
 rw [F.cells_eq]
 exact RepL.cons (.v _) (RepL.cons (.v _) (RepL.cons (.nil 8) (RepL.cons (.nil 4) (RepL.nil _ _))))
theorem fv_rep {H : List Nat} {W : World} {n : Int} {x : Iv} {ib : Nat} (h : Blk W ib 164 x.vals) (hr : ib ∉ H) : RepML TS H W [.int .i64 2, .int .i64 n, .slice (some ⟨ib, 0, none⟩) 1 1, .slice none 0 0] (fv n x).cells := by
 rw [F.cells_eq]
 refine RepL.cons (.v _) (RepL.cons (.v _) (RepL.cons ?_ (RepL.cons (.nil 4) (RepL.nil _ _))))
 show RepM TS H W _ (.s 8 (([x] : List Iv).flatMap Iv.cells))
 refine RepM.of_blk h (by decide) hr rfl ?_
 rw [List.flatMap_cons, List.flatMap_nil, List.append_nil]
 exact RepL.of_plain _ _ x.vals.toList
theorem fn_rep {H : List Nat} {W : World} {op : Int} {ks : List F} {kb n : Nat} {cs : Array Value} (h : Blk W kb 39 cs) (hk : kb ∉ H) (hs : cs.size = n * 4) (hr : RepML TS H W cs.toList (ks.flatMap F.cells)) : RepML TS H W [.int .i64 op, .int .i64 0, .slice none 0 0, .slice (some ⟨kb, 0, none⟩) n n] (F.mk op 0 [] ks).cells := by
 rw [F.cells_eq]
 exact RepL.cons (.v _) (RepL.cons (.v _) (RepL.cons (.nil 8) (RepL.cons (RepM.of_blk h (by decide) hk hs hr) (RepL.nil _ _))))
theorem two_rep {H : List Nat} {W : World} {vs us : List Value} {a b : F} (h : RepML TS H W vs a.cells) (k : RepML TS H W us b.cells) : RepML TS H W (vs ++ us) ([a, b].flatMap F.cells) := by
 have : RepML TS H W (vs ++ us) (a.cells ++ b.cells) := RepL.append h k
 rwa [show [a, b].flatMap F.cells = a.cells ++ b.cells from by simp]
theorem one_rep {H : List Nat} {W : World} {vs : List Value} {a : F} (h : RepML TS H W vs a.cells) : RepML TS H W vs ([a].flatMap F.cells) := by
 rwa [show [a].flatMap F.cells = a.cells from by simp]
theorem results_F {fn : Func} {p : Tmp} (h : fn.results = #[.cell p 39]) (tmps : Array Value) {w : World} {g : Nat} {cs : Array Value} (hp : tmps.getD p undef = .pointer (some ⟨g, 0, none⟩)) (hb : Blk w g 39 cs) (hs : cs.size = 4) :
  (results fn tmps).run Tryz.prog w = .ok (.agg cs) w :=
 results_cell_row h tmps w g 39 cs _ _ hp hb Tryz.underlying39 rfl (by rw [hs]; kernel_rfl)
def FeatRet (w : World) (e : Ending) (w' : World) : Prop := ∃ a b c d t, e = .returned (.agg #[a, b, c, d]) ∧ (∀ H : List Nat, (∀ g ∈ H, g < w.heap.size) → RepML TS H w' [a, b, c, d] t.cells) ∧ Feat t ∧ Below w.heap.size w w'
theorem okIvs_one {x : Iv} (h : OkIv x) : OkIvs [x] := ⟨Nat.le_refl _, fun y hy => by rw [List.mem_singleton.1 hy]; exact h⟩
theorem fc_node {n : Int} (h0 : 0 ≤ n) (h1 : n < 64) : OkNode (fc n) := .inr (.inl ⟨rfl, ⟨h0, h1⟩, rfl, rfl⟩)
theorem fv_node {n : Int} {x : Iv} (h0 : 0 ≤ n) (h1 : n < 32) (hx : OkIv x) : OkNode (fv n x) := .inr (.inr (.inl ⟨rfl, ⟨h0, h1⟩, okIvs_one hx, rfl⟩))
theorem fp_node {op : Int} {a : F} (h : op = 3 ∨ op = 6) : OkNode (.mk op 0 [] [a]) := .inr (.inr (.inr (.inl ⟨h, rfl, rfl, rfl⟩)))
theorem fa_node {op : Int} {l : List F} (h : op = 4 ∨ op = 5) : OkNode (.mk op 0 [] l) := .inr (.inr (.inr (.inr ⟨h, rfl, rfl⟩)))
theorem feat0_ok : Feat (fc 0) := by
 refine ⟨⟨by decide, by decide, ?_⟩, by decide⟩
 intro y hy
 have hy : y ∈ [fc 0] := hy
 simp only [List.mem_cons, List.not_mem_nil, or_false] at hy
 rcases hy with rfl
 ·exact fc_node (by decide) (by decide)
set_option maxRecDepth 100000 in
set_option maxHeartbeats 4000000 in
theorem feature0_any (w : World) : Calls Tryz.prog 171 #[.int .i64 0] w (FeatRet w) := by
 have HA := Lib.hid (fun W => around_any 0 1048576 W (by omega) (by omega) (by omega) (by omega))
 have har : arN 0 1048576 = 0 := by decide
 rw [har] at HA
 clear har
 go_enter Tryz.func171, Tryz.ntmps171
 go_wp2_with fail
 refine (HA.out _).mono ?_
 rintro e w1 ⟨rfl, rfl⟩
 go_wp2_with fail
 refine bodyPost_ret (results_F rfl _ rfl (g := w.heap.size) (cs := #[.int .i64 1, .int .i64 0, .slice none 0 0, .slice none 0 0]) ?_ rfl) rfl ⟨_, _, _, _, (fc 0), rfl, ?_, feat0_ok, ?_⟩
 ·exact (((((Blk.newAt (by simp)).alloc _).alloc _).alloc _).alloc _).alloc _
 ·intro H hH
  exact (fc_rep _ _ 0)
 ·repeat' first | exact Below.refl _ _ | refine below_al ?_ _
theorem feat7_ok : Feat (.mk 4 0 [] [(fc 0), (fv 0 ⟨0, 1, 1, 1, false, false, false, false⟩)]) := by
 refine ⟨⟨by decide, by decide, ?_⟩, by decide⟩
 intro y hy
 have hy : y ∈ [.mk 4 0 [] [(fc 0), (fv 0 ⟨0, 1, 1, 1, false, false, false, false⟩)], fc 0, fv 0 ⟨0, 1, 1, 1, false, false, false, false⟩] := hy
 simp only [List.mem_cons, List.not_mem_nil, or_false] at hy
 rcases hy with rfl | rfl | rfl
 ·exact fa_node (by decide)
 ·exact fc_node (by decide) (by decide)
 ·exact fv_node (by decide) (by decide) ⟨rfl, ⟨by decide, by decide, by decide, by decide⟩, .inr ⟨rfl, ⟨by decide, by decide, by decide, by decide⟩, by decide⟩⟩
set_option maxRecDepth 100000 in
set_option maxHeartbeats 4000000 in
theorem feature7_any (w : World) : Calls Tryz.prog 171 #[.int .i64 7] w (FeatRet w) := by
 have HA := Lib.hid (fun W => around_any 7 1048576 W (by omega) (by omega) (by omega) (by omega))
 have har : arN 7 1048576 = 7 := by decide
 rw [har] at HA
 clear har
 go_enter Tryz.func171, Tryz.ntmps171
 go_wp2_with fail
 refine (HA.out _).mono ?_
 rintro e w1 ⟨rfl, rfl⟩
 go_wp2_with fail
 refine bodyPost_ret (results_F rfl _ rfl (g := w.heap.size) (cs := #[.int .i64 4, .int .i64 0, .slice none 0 0, .slice (some ⟨w.heap.size + 1 + 1 + 1 + 1 + 1 + 1, 0, none⟩) 2 2]) ?_ rfl) rfl ⟨_, _, _, _, (.mk 4 0 [] [(fc 0), (fv 0 ⟨0, 1, 1, 1, false, false, false, false⟩)]), rfl, ?_, feat7_ok, ?_⟩
 ·exact ((((((Blk.newAt (by simp)).alloc _).alloc _).alloc _).alloc _).alloc _).alloc _
 ·intro H hH
  exact (fun (H4 : Blk _ (w.heap.size + 1 + 1 + 1 + 1) 164 (Iv.vals ⟨0, 1, 1, 1, false, false, false, false⟩)) (H6 : Blk _ (w.heap.size + 1 + 1 + 1 + 1 + 1 + 1) 39 #[.int .i64 1, .int .i64 0, .slice none 0 0, .slice none 0 0, .int .i64 2, .int .i64 0, .slice (some ⟨w.heap.size + 1 + 1 + 1 + 1, 0, none⟩) 1 1, .slice none 0 0]) => (fn_rep (n := 2) H6 (fun h => by have := hH _ h; omega) rfl (two_rep (fc_rep _ _ 0) (fv_rep H4 (fun h => by have := hH _ h; omega))))) (((Blk.newAt (by simp)).alloc _).alloc _) (Blk.newAt (by simp))
 ·repeat' first | exact Below.refl _ _ | refine below_al ?_ _
theorem feat9_ok : Feat (.mk 5 0 [] [(fc 0), (fv 0 ⟨0, 1, 1, 1, false, false, false, false⟩)]) := by
 refine ⟨⟨by decide, by decide, ?_⟩, by decide⟩
 intro y hy
 have hy : y ∈ [.mk 5 0 [] [(fc 0), (fv 0 ⟨0, 1, 1, 1, false, false, false, false⟩)], fc 0, fv 0 ⟨0, 1, 1, 1, false, false, false, false⟩] := hy
 simp only [List.mem_cons, List.not_mem_nil, or_false] at hy
 rcases hy with rfl | rfl | rfl
 ·exact fa_node (by decide)
 ·exact fc_node (by decide) (by decide)
 ·exact fv_node (by decide) (by decide) ⟨rfl, ⟨by decide, by decide, by decide, by decide⟩, .inr ⟨rfl, ⟨by decide, by decide, by decide, by decide⟩, by decide⟩⟩
set_option maxRecDepth 100000 in
set_option maxHeartbeats 4000000 in
theorem feature9_any (w : World) : Calls Tryz.prog 171 #[.int .i64 9] w (FeatRet w) := by
 have HA := Lib.hid (fun W => around_any 9 1048576 W (by omega) (by omega) (by omega) (by omega))
 have har : arN 9 1048576 = 9 := by decide
 rw [har] at HA
 clear har
 go_enter Tryz.func171, Tryz.ntmps171
 go_wp2_with fail
 refine (HA.out _).mono ?_
 rintro e w1 ⟨rfl, rfl⟩
 go_wp2_with fail
 refine bodyPost_ret (results_F rfl _ rfl (g := w.heap.size) (cs := #[.int .i64 5, .int .i64 0, .slice none 0 0, .slice (some ⟨w.heap.size + 1 + 1 + 1 + 1 + 1 + 1, 0, none⟩) 2 2]) ?_ rfl) rfl ⟨_, _, _, _, (.mk 5 0 [] [(fc 0), (fv 0 ⟨0, 1, 1, 1, false, false, false, false⟩)]), rfl, ?_, feat9_ok, ?_⟩
 ·exact ((((((Blk.newAt (by simp)).alloc _).alloc _).alloc _).alloc _).alloc _).alloc _
 ·intro H hH
  exact (fun (H4 : Blk _ (w.heap.size + 1 + 1 + 1 + 1) 164 (Iv.vals ⟨0, 1, 1, 1, false, false, false, false⟩)) (H6 : Blk _ (w.heap.size + 1 + 1 + 1 + 1 + 1 + 1) 39 #[.int .i64 1, .int .i64 0, .slice none 0 0, .slice none 0 0, .int .i64 2, .int .i64 0, .slice (some ⟨w.heap.size + 1 + 1 + 1 + 1, 0, none⟩) 1 1, .slice none 0 0]) => (fn_rep (n := 2) H6 (fun h => by have := hH _ h; omega) rfl (two_rep (fc_rep _ _ 0) (fv_rep H4 (fun h => by have := hH _ h; omega))))) (((Blk.newAt (by simp)).alloc _).alloc _) (Blk.newAt (by simp))
 ·repeat' first | exact Below.refl _ _ | refine below_al ?_ _
theorem feat20_ok : Feat (fv 1 ⟨0, 1, 1, 1, false, false, false, false⟩) := by
 refine ⟨⟨by decide, by decide, ?_⟩, by decide⟩
 intro y hy
 have hy : y ∈ [fv 1 ⟨0, 1, 1, 1, false, false, false, false⟩] := hy
 simp only [List.mem_cons, List.not_mem_nil, or_false] at hy
 rcases hy with rfl
 ·exact fv_node (by decide) (by decide) ⟨rfl, ⟨by decide, by decide, by decide, by decide⟩, .inr ⟨rfl, ⟨by decide, by decide, by decide, by decide⟩, by decide⟩⟩
set_option maxRecDepth 100000 in
set_option maxHeartbeats 4000000 in
theorem feature20_any (w : World) : Calls Tryz.prog 171 #[.int .i64 20] w (FeatRet w) := by
 have HA := Lib.hid (fun W => around_any 20 1048576 W (by omega) (by omega) (by omega) (by omega))
 have har : arN 20 1048576 = 20 := by decide
 rw [har] at HA
 clear har
 go_enter Tryz.func171, Tryz.ntmps171
 go_wp2_with fail
 refine (HA.out _).mono ?_
 rintro e w1 ⟨rfl, rfl⟩
 go_wp2_with fail
 refine bodyPost_ret (results_F rfl _ rfl (g := w.heap.size) (cs := #[.int .i64 2, .int .i64 1, .slice (some ⟨w.heap.size + 1 + 1 + 1 + 1, 0, none⟩) 1 1, .slice none 0 0]) ?_ rfl) rfl ⟨_, _, _, _, (fv 1 ⟨0, 1, 1, 1, false, false, false, false⟩), rfl, ?_, feat20_ok, ?_⟩
 ·exact (((((Blk.newAt (by simp)).alloc _).alloc _).alloc _).alloc _).alloc _
 ·intro H hH
  exact (fun (H4 : Blk _ (w.heap.size + 1 + 1 + 1 + 1) 164 (Iv.vals ⟨0, 1, 1, 1, false, false, false, false⟩)) => (fv_rep H4 (fun h => by have := hH _ h; omega))) ((Blk.newAt (by simp)).alloc _)
 ·repeat' first | exact Below.refl _ _ | refine below_al ?_ _
theorem feat36_ok : Feat (fv 0 ⟨0, 1, 0, 0, false, false, false, true⟩) := by
 refine ⟨⟨by decide, by decide, ?_⟩, by decide⟩
 intro y hy
 have hy : y ∈ [fv 0 ⟨0, 1, 0, 0, false, false, false, true⟩] := hy
 simp only [List.mem_cons, List.not_mem_nil, or_false] at hy
 rcases hy with rfl
 ·exact fv_node (by decide) (by decide) ⟨rfl, ⟨by decide, by decide, by decide, by decide⟩, .inl ⟨rfl, rfl, rfl, rfl⟩⟩
set_option maxRecDepth 100000 in
set_option maxHeartbeats 4000000 in
theorem feature36_any (w : World) : Calls Tryz.prog 171 #[.int .i64 36] w (FeatRet w) := by
 have HA := Lib.hid (fun W => around_any 36 1048576 W (by omega) (by omega) (by omega) (by omega))
 have har : arN 36 1048576 = 36 := by decide
 rw [har] at HA
 clear har
 go_enter Tryz.func171, Tryz.ntmps171
 go_wp2_with fail
 refine (HA.out _).mono ?_
 rintro e w1 ⟨rfl, rfl⟩
 go_wp2_with fail
 refine bodyPost_ret (results_F rfl _ rfl (g := w.heap.size) (cs := #[.int .i64 2, .int .i64 0, .slice (some ⟨w.heap.size + 1 + 1 + 1 + 1, 0, none⟩) 1 1, .slice none 0 0]) ?_ rfl) rfl ⟨_, _, _, _, (fv 0 ⟨0, 1, 0, 0, false, false, false, true⟩), rfl, ?_, feat36_ok, ?_⟩
 ·exact (((((Blk.newAt (by simp)).alloc _).alloc _).alloc _).alloc _).alloc _
 ·intro H hH
  exact (fun (H4 : Blk _ (w.heap.size + 1 + 1 + 1 + 1) 164 (Iv.vals ⟨0, 1, 0, 0, false, false, false, true⟩)) => (fv_rep H4 (fun h => by have := hH _ h; omega))) ((Blk.newAt (by simp)).alloc _)
 ·repeat' first | exact Below.refl _ _ | refine below_al ?_ _
theorem feat52_ok : Feat (fv 1 ⟨0, 1, 1, 1, false, false, false, false⟩) := by
 refine ⟨⟨by decide, by decide, ?_⟩, by decide⟩
 intro y hy
 have hy : y ∈ [fv 1 ⟨0, 1, 1, 1, false, false, false, false⟩] := hy
 simp only [List.mem_cons, List.not_mem_nil, or_false] at hy
 rcases hy with rfl
 ·exact fv_node (by decide) (by decide) ⟨rfl, ⟨by decide, by decide, by decide, by decide⟩, .inr ⟨rfl, ⟨by decide, by decide, by decide, by decide⟩, by decide⟩⟩
set_option maxRecDepth 100000 in
set_option maxHeartbeats 4000000 in
theorem feature52_any (w : World) : Calls Tryz.prog 171 #[.int .i64 52] w (FeatRet w) := by
 have HA := Lib.hid (fun W => around_any 52 1048576 W (by omega) (by omega) (by omega) (by omega))
 have har : arN 52 1048576 = 52 := by decide
 rw [har] at HA
 clear har
 go_enter Tryz.func171, Tryz.ntmps171
 go_wp2_with fail
 refine (HA.out _).mono ?_
 rintro e w1 ⟨rfl, rfl⟩
 go_wp2_with fail
 refine bodyPost_ret (results_F rfl _ rfl (g := w.heap.size) (cs := #[.int .i64 2, .int .i64 1, .slice (some ⟨w.heap.size + 1 + 1 + 1 + 1, 0, none⟩) 1 1, .slice none 0 0]) ?_ rfl) rfl ⟨_, _, _, _, (fv 1 ⟨0, 1, 1, 1, false, false, false, false⟩), rfl, ?_, feat52_ok, ?_⟩
 ·exact (((((Blk.newAt (by simp)).alloc _).alloc _).alloc _).alloc _).alloc _
 ·intro H hH
  exact (fun (H4 : Blk _ (w.heap.size + 1 + 1 + 1 + 1) 164 (Iv.vals ⟨0, 1, 1, 1, false, false, false, false⟩)) => (fv_rep H4 (fun h => by have := hH _ h; omega))) ((Blk.newAt (by simp)).alloc _)
 ·repeat' first | exact Below.refl _ _ | refine below_al ?_ _
theorem feat23_ok : Feat (.mk 4 0 [] [(fc 1), (fv 1 ⟨0, 1, 1, 1, true, false, false, false⟩)]) := by
 refine ⟨⟨by decide, by decide, ?_⟩, by decide⟩
 intro y hy
 have hy : y ∈ [.mk 4 0 [] [(fc 1), (fv 1 ⟨0, 1, 1, 1, true, false, false, false⟩)], fc 1, fv 1 ⟨0, 1, 1, 1, true, false, false, false⟩] := hy
 simp only [List.mem_cons, List.not_mem_nil, or_false] at hy
 rcases hy with rfl | rfl | rfl
 ·exact fa_node (by decide)
 ·exact fc_node (by decide) (by decide)
 ·exact fv_node (by decide) (by decide) ⟨rfl, ⟨by decide, by decide, by decide, by decide⟩, .inr ⟨rfl, ⟨by decide, by decide, by decide, by decide⟩, by decide⟩⟩
set_option maxRecDepth 100000 in
set_option maxHeartbeats 4000000 in
theorem feature23_any (w : World) : Calls Tryz.prog 171 #[.int .i64 23] w (FeatRet w) := by
 have HA := Lib.hid (fun W => around_any 23 1048576 W (by omega) (by omega) (by omega) (by omega))
 have har : arN 23 1048576 = 23 := by decide
 rw [har] at HA
 clear har
 go_enter Tryz.func171, Tryz.ntmps171
 go_wp2_with fail
 refine (HA.out _).mono ?_
 rintro e w1 ⟨rfl, rfl⟩
 go_wp2_with fail
 refine bodyPost_ret (results_F rfl _ rfl (g := w.heap.size) (cs := #[.int .i64 4, .int .i64 0, .slice none 0 0, .slice (some ⟨w.heap.size + 1 + 1 + 1 + 1 + 1 + 1, 0, none⟩) 2 2]) ?_ rfl) rfl ⟨_, _, _, _, (.mk 4 0 [] [(fc 1), (fv 1 ⟨0, 1, 1, 1, true, false, false, false⟩)]), rfl, ?_, feat23_ok, ?_⟩
 ·exact ((((((Blk.newAt (by simp)).alloc _).alloc _).alloc _).alloc _).alloc _).alloc _
 ·intro H hH
  exact (fun (H4 : Blk _ (w.heap.size + 1 + 1 + 1 + 1) 164 (Iv.vals ⟨0, 1, 1, 1, true, false, false, false⟩)) (H6 : Blk _ (w.heap.size + 1 + 1 + 1 + 1 + 1 + 1) 39 #[.int .i64 1, .int .i64 1, .slice none 0 0, .slice none 0 0, .int .i64 2, .int .i64 1, .slice (some ⟨w.heap.size + 1 + 1 + 1 + 1, 0, none⟩) 1 1, .slice none 0 0]) => (fn_rep (n := 2) H6 (fun h => by have := hH _ h; omega) rfl (two_rep (fc_rep _ _ 1) (fv_rep H4 (fun h => by have := hH _ h; omega))))) (((Blk.newAt (by simp)).alloc _).alloc _) (Blk.newAt (by simp))
 ·repeat' first | exact Below.refl _ _ | refine below_al ?_ _
theorem feat100_ok : Feat (fv 0 ⟨1, 1, 2, 1, false, false, false, false⟩) := by
 refine ⟨⟨by decide, by decide, ?_⟩, by decide⟩
 intro y hy
 have hy : y ∈ [fv 0 ⟨1, 1, 2, 1, false, false, false, false⟩] := hy
 simp only [List.mem_cons, List.not_mem_nil, or_false] at hy
 rcases hy with rfl
 ·exact fv_node (by decide) (by decide) ⟨rfl, ⟨by decide, by decide, by decide, by decide⟩, .inr ⟨rfl, ⟨by decide, by decide, by decide, by decide⟩, by decide⟩⟩
set_option maxRecDepth 100000 in
set_option maxHeartbeats 4000000 in
theorem feature100_any (w : World) : Calls Tryz.prog 171 #[.int .i64 100] w (FeatRet w) := by
 have HA := Lib.hid (fun W => around_any 100 1048576 W (by omega) (by omega) (by omega) (by omega))
 have har : arN 100 1048576 = 100 := by decide
 rw [har] at HA
 clear har
 go_enter Tryz.func171, Tryz.ntmps171
 go_wp2_with fail
 refine (HA.out _).mono ?_
 rintro e w1 ⟨rfl, rfl⟩
 go_wp2_with fail
 refine bodyPost_ret (results_F rfl _ rfl (g := w.heap.size) (cs := #[.int .i64 2, .int .i64 0, .slice (some ⟨w.heap.size + 1 + 1 + 1 + 1, 0, none⟩) 1 1, .slice none 0 0]) ?_ rfl) rfl ⟨_, _, _, _, (fv 0 ⟨1, 1, 2, 1, false, false, false, false⟩), rfl, ?_, feat100_ok, ?_⟩
 ·exact (((((Blk.newAt (by simp)).alloc _).alloc _).alloc _).alloc _).alloc _
 ·intro H hH
  exact (fun (H4 : Blk _ (w.heap.size + 1 + 1 + 1 + 1) 164 (Iv.vals ⟨1, 1, 2, 1, false, false, false, false⟩)) => (fv_rep H4 (fun h => by have := hH _ h; omega))) ((Blk.newAt (by simp)).alloc _)
 ·repeat' first | exact Below.refl _ _ | refine below_al ?_ _
theorem feat215_ok : Feat (.mk 4 0 [] [(fc 1), (fv 1 ⟨2, 1, 0, 0, true, false, false, true⟩)]) := by
 refine ⟨⟨by decide, by decide, ?_⟩, by decide⟩
 intro y hy
 have hy : y ∈ [.mk 4 0 [] [(fc 1), (fv 1 ⟨2, 1, 0, 0, true, false, false, true⟩)], fc 1, fv 1 ⟨2, 1, 0, 0, true, false, false, true⟩] := hy
 simp only [List.mem_cons, List.not_mem_nil, or_false] at hy
 rcases hy with rfl | rfl | rfl
 ·exact fa_node (by decide)
 ·exact fc_node (by decide) (by decide)
 ·exact fv_node (by decide) (by decide) ⟨rfl, ⟨by decide, by decide, by decide, by decide⟩, .inl ⟨rfl, rfl, rfl, rfl⟩⟩
set_option maxRecDepth 100000 in
set_option maxHeartbeats 4000000 in
theorem feature215_any (w : World) : Calls Tryz.prog 171 #[.int .i64 215] w (FeatRet w) := by
 have HA := Lib.hid (fun W => around_any 215 1048576 W (by omega) (by omega) (by omega) (by omega))
 have har : arN 215 1048576 = 215 := by decide
 rw [har] at HA
 clear har
 go_enter Tryz.func171, Tryz.ntmps171
 go_wp2_with fail
 refine (HA.out _).mono ?_
 rintro e w1 ⟨rfl, rfl⟩
 go_wp2_with fail
 refine bodyPost_ret (results_F rfl _ rfl (g := w.heap.size) (cs := #[.int .i64 4, .int .i64 0, .slice none 0 0, .slice (some ⟨w.heap.size + 1 + 1 + 1 + 1 + 1 + 1, 0, none⟩) 2 2]) ?_ rfl) rfl ⟨_, _, _, _, (.mk 4 0 [] [(fc 1), (fv 1 ⟨2, 1, 0, 0, true, false, false, true⟩)]), rfl, ?_, feat215_ok, ?_⟩
 ·exact ((((((Blk.newAt (by simp)).alloc _).alloc _).alloc _).alloc _).alloc _).alloc _
 ·intro H hH
  exact (fun (H4 : Blk _ (w.heap.size + 1 + 1 + 1 + 1) 164 (Iv.vals ⟨2, 1, 0, 0, true, false, false, true⟩)) (H6 : Blk _ (w.heap.size + 1 + 1 + 1 + 1 + 1 + 1) 39 #[.int .i64 1, .int .i64 1, .slice none 0 0, .slice none 0 0, .int .i64 2, .int .i64 1, .slice (some ⟨w.heap.size + 1 + 1 + 1 + 1, 0, none⟩) 1 1, .slice none 0 0]) => (fn_rep (n := 2) H6 (fun h => by have := hH _ h; omega) rfl (two_rep (fc_rep _ _ 1) (fv_rep H4 (fun h => by have := hH _ h; omega))))) (((Blk.newAt (by simp)).alloc _).alloc _) (Blk.newAt (by simp))
 ·repeat' first | exact Below.refl _ _ | refine below_al ?_ _
theorem feat13_ok : Feat (.mk 3 0 [] [(fc 0)]) := by
 refine ⟨⟨by decide, by decide, ?_⟩, by decide⟩
 intro y hy
 have hy : y ∈ [.mk 3 0 [] [(fc 0)], fc 0] := hy
 simp only [List.mem_cons, List.not_mem_nil, or_false] at hy
 rcases hy with rfl | rfl
 ·exact fp_node (by decide)
 ·exact fc_node (by decide) (by decide)
set_option maxRecDepth 100000 in
set_option maxHeartbeats 4000000 in
theorem feature13_any (w : World) : Calls Tryz.prog 171 #[.int .i64 13] w (FeatRet w) := by
 have HA := Lib.hid (fun W => around_any 13 1048576 W (by omega) (by omega) (by omega) (by omega))
 have har : arN 13 1048576 = 13 := by decide
 rw [har] at HA
 clear har
 go_enter Tryz.func171, Tryz.ntmps171
 go_wp2_with fail
 refine (HA.out _).mono ?_
 rintro e w1 ⟨rfl, rfl⟩
 go_wp2_with fail
 refine bodyPost_ret (results_F rfl _ rfl (g := w.heap.size) (cs := #[.int .i64 3, .int .i64 0, .slice none 0 0, .slice (some ⟨w.heap.size + 1 + 1 + 1 + 1 + 1 + 1, 0, none⟩) 1 1]) ?_ rfl) rfl ⟨_, _, _, _, (.mk 3 0 [] [(fc 0)]), rfl, ?_, feat13_ok, ?_⟩
 ·exact ((((((Blk.newAt (by simp)).alloc _).alloc _).alloc _).alloc _).alloc _).alloc _
 ·intro H hH
  exact (fun (H6 : Blk _ (w.heap.size + 1 + 1 + 1 + 1 + 1 + 1) 39 #[.int .i64 1, .int .i64 0, .slice none 0 0, .slice none 0 0]) => (fn_rep (n := 1) H6 (fun h => by have := hH _ h; omega) rfl (one_rep (fc_rep _ _ 0)))) (Blk.newAt (by simp))
 ·repeat' first | exact Below.refl _ _ | refine below_al ?_ _
theorem feat47_ok : Feat (.mk 4 0 [] [(fc 2), .mk 3 0 [] [(fv 0 ⟨0, 1, 1, 1, true, false, false, false⟩)]]) := by
 refine ⟨⟨by decide, by decide, ?_⟩, by decide⟩
 intro y hy
 have hy : y ∈ [.mk 4 0 [] [(fc 2), .mk 3 0 [] [(fv 0 ⟨0, 1, 1, 1, true, false, false, false⟩)]], fc 2, .mk 3 0 [] [(fv 0 ⟨0, 1, 1, 1, true, false, false, false⟩)], fv 0 ⟨0, 1, 1, 1, true, false, false, false⟩] := hy
 simp only [List.mem_cons, List.not_mem_nil, or_false] at hy
 rcases hy with rfl | rfl | rfl | rfl
 ·exact fa_node (by decide)
 ·exact fc_node (by decide) (by decide)
 ·exact fp_node (by decide)
 ·exact fv_node (by decide) (by decide) ⟨rfl, ⟨by decide, by decide, by decide, by decide⟩, .inr ⟨rfl, ⟨by decide, by decide, by decide, by decide⟩, by decide⟩⟩
set_option maxRecDepth 100000 in
set_option maxHeartbeats 4000000 in
theorem feature47_any (w : World) : Calls Tryz.prog 171 #[.int .i64 47] w (FeatRet w) := by
 have HA := Lib.hid (fun W => around_any 47 1048576 W (by omega) (by omega) (by omega) (by omega))
 have har : arN 47 1048576 = 47 := by decide
 rw [har] at HA
 clear har
 go_enter Tryz.func171, Tryz.ntmps171
 go_wp2_with fail
 refine (HA.out _).mono ?_
 rintro e w1 ⟨rfl, rfl⟩
 go_wp2_with fail
 refine bodyPost_ret (results_F rfl _ rfl (g := w.heap.size) (cs := #[.int .i64 4, .int .i64 0, .slice none 0 0, .slice (some ⟨w.heap.size + 1 + 1 + 1 + 1 + 1 + 1 + 1, 0, none⟩) 2 2]) ?_ rfl) rfl ⟨_, _, _, _, (.mk 4 0 [] [(fc 2), .mk 3 0 [] [(fv 0 ⟨0, 1, 1, 1, true, false, false, false⟩)]]), rfl, ?_, feat47_ok, ?_⟩
 ·exact (((((((Blk.newAt (by simp)).alloc _).alloc _).alloc _).alloc _).alloc _).alloc _).alloc _
 ·intro H hH
  exact (fun (H4 : Blk _ (w.heap.size + 1 + 1 + 1 + 1) 164 (Iv.vals ⟨0, 1, 1, 1, true, false, false, false⟩)) (H6 : Blk _ (w.heap.size + 1 + 1 + 1 + 1 + 1 + 1) 39 #[.int .i64 2, .int .i64 0, .slice (some ⟨w.heap.size + 1 + 1 + 1 + 1, 0, none⟩) 1 1, .slice none 0 0]) (H7 : Blk _ (w.heap.size + 1 + 1 + 1 + 1 + 1 + 1 + 1) 39 #[.int .i64 1, .int .i64 2, .slice none 0 0, .slice none 0 0, .int .i64 3, .int .i64 0, .slice none 0 0, .slice (some ⟨w.heap.size + 1 + 1 + 1 + 1 + 1 + 1, 0, none⟩) 1 1]) => (fn_rep (n := 2) H7 (fun h => by have := hH _ h; omega) rfl (two_rep (fc_rep _ _ 2) (fn_rep (n := 1) H6 (fun h => by have := hH _ h; omega) rfl (one_rep (fv_rep H4 (fun h => by have := hH _ h; omega))))))) ((((Blk.newAt (by simp)).alloc _).alloc _).alloc _) ((Blk.newAt (by simp)).alloc _) (Blk.newAt (by simp))
 ·repeat' first | exact Below.refl _ _ | refine below_al ?_ _
theorem feat12_ok : Feat (.mk 4 0 [] [(fc 0), .mk 6 0 [] [fc 0]]) := by
 refine ⟨⟨by decide, by decide, ?_⟩, by decide⟩
 intro y hy
 have hy : y ∈ [.mk 4 0 [] [(fc 0), .mk 6 0 [] [fc 0]], fc 0, .mk 6 0 [] [fc 0], fc 0] := hy
 simp only [List.mem_cons, List.not_mem_nil, or_false] at hy
 rcases hy with rfl | rfl | rfl | rfl
 ·exact fa_node (by decide)
 ·exact fc_node (by decide) (by decide)
 ·exact fp_node (by decide)
 ·exact fc_node (by decide) (by decide)
set_option maxRecDepth 100000 in
set_option maxHeartbeats 4000000 in
theorem feature12_any (w : World) : Calls Tryz.prog 171 #[.int .i64 12] w (FeatRet w) := by
 have HA := Lib.hid (fun W => around_any 12 1048576 W (by omega) (by omega) (by omega) (by omega))
 have har : arN 12 1048576 = 12 := by decide
 rw [har] at HA
 clear har
 go_enter Tryz.func171, Tryz.ntmps171
 go_wp2_with fail
 refine (HA.out _).mono ?_
 rintro e w1 ⟨rfl, rfl⟩
 go_wp2_with fail
 refine bodyPost_ret (results_F rfl _ rfl (g := w.heap.size) (cs := #[.int .i64 4, .int .i64 0, .slice none 0 0, .slice (some ⟨w.heap.size + 1 + 1 + 1 + 1 + 1 + 1 + 1, 0, none⟩) 2 2]) ?_ rfl) rfl ⟨_, _, _, _, (.mk 4 0 [] [(fc 0), .mk 6 0 [] [fc 0]]), rfl, ?_, feat12_ok, ?_⟩
 ·exact (((((((Blk.newAt (by simp)).alloc _).alloc _).alloc _).alloc _).alloc _).alloc _).alloc _
 ·intro H hH
  exact (fun (H6 : Blk _ (w.heap.size + 1 + 1 + 1 + 1 + 1 + 1) 39 #[.int .i64 1, .int .i64 0, .slice none 0 0, .slice none 0 0]) (H7 : Blk _ (w.heap.size + 1 + 1 + 1 + 1 + 1 + 1 + 1) 39 #[.int .i64 1, .int .i64 0, .slice none 0 0, .slice none 0 0, .int .i64 6, .int .i64 0, .slice none 0 0, .slice (some ⟨w.heap.size + 1 + 1 + 1 + 1 + 1 + 1, 0, none⟩) 1 1]) => (fn_rep (n := 2) H7 (fun h => by have := hH _ h; omega) rfl (two_rep (fc_rep _ _ 0) (fn_rep (n := 1) H6 (fun h => by have := hH _ h; omega) rfl (one_rep (fc_rep _ _ 0)))))) ((Blk.newAt (by simp)).alloc _) (Blk.newAt (by simp))
 ·repeat' first | exact Below.refl _ _ | refine below_al ?_ _
theorem feat123456_ok : Feat (fc 0) := by
 refine ⟨⟨by decide, by decide, ?_⟩, by decide⟩
 intro y hy
 have hy : y ∈ [fc 0] := hy
 simp only [List.mem_cons, List.not_mem_nil, or_false] at hy
 rcases hy with rfl
 ·exact fc_node (by decide) (by decide)
set_option maxRecDepth 100000 in
set_option maxHeartbeats 4000000 in
theorem feature123456_any (w : World) : Calls Tryz.prog 171 #[.int .i64 123456] w (FeatRet w) := by
 have HA := Lib.hid (fun W => around_any 123456 1048576 W (by omega) (by omega) (by omega) (by omega))
 have har : arN 123456 1048576 = 123456 := by decide
 rw [har] at HA
 clear har
 go_enter Tryz.func171, Tryz.ntmps171
 go_wp2_with fail
 refine (HA.out _).mono ?_
 rintro e w1 ⟨rfl, rfl⟩
 go_wp2_with fail
 refine bodyPost_ret (results_F rfl _ rfl (g := w.heap.size) (cs := #[.int .i64 1, .int .i64 0, .slice none 0 0, .slice none 0 0]) ?_ rfl) rfl ⟨_, _, _, _, (fc 0), rfl, ?_, feat123456_ok, ?_⟩
 ·exact (((((Blk.newAt (by simp)).alloc _).alloc _).alloc _).alloc _).alloc _
 ·intro H hH
  exact (fc_rep _ _ 0)
 ·repeat' first | exact Below.refl _ _ | refine below_al ?_ _
theorem feat5000_ok : Feat (.mk 4 0 [] [(fc 0), (fv 0 ⟨2, 1, 4, 1, true, false, false, false⟩)]) := by
 refine ⟨⟨by decide, by decide, ?_⟩, by decide⟩
 intro y hy
 have hy : y ∈ [.mk 4 0 [] [(fc 0), (fv 0 ⟨2, 1, 4, 1, true, false, false, false⟩)], fc 0, fv 0 ⟨2, 1, 4, 1, true, false, false, false⟩] := hy
 simp only [List.mem_cons, List.not_mem_nil, or_false] at hy
 rcases hy with rfl | rfl | rfl
 ·exact fa_node (by decide)
 ·exact fc_node (by decide) (by decide)
 ·exact fv_node (by decide) (by decide) ⟨rfl, ⟨by decide, by decide, by decide, by decide⟩, .inr ⟨rfl, ⟨by decide, by decide, by decide, by decide⟩, by decide⟩⟩
set_option maxRecDepth 100000 in
set_option maxHeartbeats 4000000 in
theorem feature5000_any (w : World) : Calls Tryz.prog 171 #[.int .i64 5000] w (FeatRet w) := by
 have HA := Lib.hid (fun W => around_any 5000 1048576 W (by omega) (by omega) (by omega) (by omega))
 have har : arN 5000 1048576 = 5000 := by decide
 rw [har] at HA
 clear har
 go_enter Tryz.func171, Tryz.ntmps171
 go_wp2_with fail
 refine (HA.out _).mono ?_
 rintro e w1 ⟨rfl, rfl⟩
 go_wp2_with fail
 refine bodyPost_ret (results_F rfl _ rfl (g := w.heap.size) (cs := #[.int .i64 4, .int .i64 0, .slice none 0 0, .slice (some ⟨w.heap.size + 1 + 1 + 1 + 1 + 1 + 1, 0, none⟩) 2 2]) ?_ rfl) rfl ⟨_, _, _, _, (.mk 4 0 [] [(fc 0), (fv 0 ⟨2, 1, 4, 1, true, false, false, false⟩)]), rfl, ?_, feat5000_ok, ?_⟩
 ·exact ((((((Blk.newAt (by simp)).alloc _).alloc _).alloc _).alloc _).alloc _).alloc _
 ·intro H hH
  exact (fun (H4 : Blk _ (w.heap.size + 1 + 1 + 1 + 1) 164 (Iv.vals ⟨2, 1, 4, 1, true, false, false, false⟩)) (H6 : Blk _ (w.heap.size + 1 + 1 + 1 + 1 + 1 + 1) 39 #[.int .i64 1, .int .i64 0, .slice none 0 0, .slice none 0 0, .int .i64 2, .int .i64 0, .slice (some ⟨w.heap.size + 1 + 1 + 1 + 1, 0, none⟩) 1 1, .slice none 0 0]) => (fn_rep (n := 2) H6 (fun h => by have := hH _ h; omega) rfl (two_rep (fc_rep _ _ 0) (fv_rep H4 (fun h => by have := hH _ h; omega))))) (((Blk.newAt (by simp)).alloc _).alloc _) (Blk.newAt (by simp))
 ·repeat' first | exact Below.refl _ _ | refine below_al ?_ _
end Go.Proofs.YtbeaijjaecaidaaGreatDoor
namespace Go.Proofs.YtbeaijjaecaidaaGreatDoor
open Go.RowKit Go.Shelf
attribute [local go_sem] Oper.semAt_some
def featN : List Int := [0, 7, 9, 20, 36, 52, 23, 100, 215, 13, 47, 12, 123456, 5000]
theorem feature_any (n : Int) (hn : n ∈ featN) (w : World) : Calls Tryz.prog 171 #[.int .i64 n] w (FeatRet w) := by
 unfold featN at hn
 simp only [List.mem_cons, List.not_mem_nil, or_false] at hn
 rcases hn with rfl | rfl | rfl | rfl | rfl | rfl | rfl | rfl | rfl | rfl | rfl | rfl | rfl | rfl
 ·exact feature0_any w
 ·exact feature7_any w
 ·exact feature9_any w
 ·exact feature20_any w
 ·exact feature36_any w
 ·exact feature52_any w
 ·exact feature23_any w
 ·exact feature100_any w
 ·exact feature215_any w
 ·exact feature13_any w
 ·exact feature47_any w
 ·exact feature12_any w
 ·exact feature123456_any w
 ·exact feature5000_any w
theorem grown_st4 (w : World) (g : Nat) (a b c d : Value) : w.grownBy (st4 w g a b c d) (some g) :=
 grown_up (grown_up (grown_up (grown_set w g 0 a) (grown_set _ g 1 b) (fun _ e _ => e)) (grown_set _ g 2 c) (fun _ e _ => e)) (grown_set _ g 3 d) (fun _ e _ => e)
set_option maxRecDepth 100000 in
set_option maxHeartbeats 2000000 in
theorem mkfeature_any {w : World} {base g : Nat} {A : Option Addr} {n c : Nat} {day : Int} {fv : Value} (h : Mk w base g A n c day fv) :
  Calls Tryz.prog 138 #[.pointer (some ⟨g, 0, none⟩)] w fun e w' => (∃ a b c d t, e = .returned (.agg #[a, b, c, d]) ∧ (∀ H : List Nat, (∀ i ∈ H, i < w.heap.size) → RepML TS H w' [a, b, c, d] t.cells) ∧ Feat t) ∧ w.grownBy w' (some g) ∧ Mk w' base g A n c day fv := by
 have hlt := h.lt
 have hbase := h.base
 have Z0 := Blk.new w 39 #[.int .i64 0, .int .i64 0, .slice none 0 0, .slice none 0 0]
 have G0 := World.grownBy_alloc w (.cells #[.int .i64 0, .int .i64 0, .slice none 0 0, .slice none 0 0] 39) (some g)
 have M0 := h.step (World.grownBy_alloc w (.cells #[.int .i64 0, .int .i64 0, .slice none 0 0, .slice none 0 0] 39) none) (fun _ e => by cases e)
 have hs0 : (w.alloc (.cells #[.int .i64 0, .int .i64 0, .slice none 0 0, .slice none 0 0] 39)).heap.size = w.heap.size + 1 := World.size_alloc ..
 clear h
 go_enter Tryz.func138, Tryz.ntmps138
 go_upto_region 1 with fail
 generalize w.alloc (.cells #[.int .i64 0, .int .i64 0, .slice none 0 0, .slice none 0 0] 39) = w1 at *
 have R1 := Blk.new w1 3 (ints featN).toArray
 have Z1 := Z0.alloc (.cells (ints featN).toArray 3)
 have G1 := grown_up G0 (World.grownBy_alloc w1 (.cells (ints featN).toArray 3) none) (fun _ e => by cases e)
 have M1 := M0.step (World.grownBy_alloc w1 (.cells (ints featN).toArray 3) none) (fun _ e => by cases e)
 have HM1 := Lib.hid M1
 have HG1 := Lib.hid G1
 have HR1 := Lib.hid R1
 have HZ1 := Lib.hid Z1
 rw [hs0] at HR1
 clear M0 G0 Z0 R1 Z1 G1 M1
 go_wp2_with fail
 refine (next_any HM1.out 14 (by omega) (by omega)).mono ?_
 rintro e w3 ⟨⟨r, rfl, hr0, hr1⟩, g3, M3⟩
 obtain ⟨k, rfl⟩ : ∃ k : Nat, r = (k : Int) := ⟨r.toNat, by omega⟩
 have hk : k < featN.length := by show k < 14; omega
 have R3 := HR1.out.grown g3 (fun e => by injection e with e; omega)
 have Z3 := HZ1.out.grown g3 (fun e => by injection e with e; omega)
 have G3 := grown_up HG1.out g3 (fun _ e _ => e)
 have hcell : w3.cell? ⟨w.heap.size + 1, k, none⟩ = some (.int .i64 featN[k]) := R3.cellAt k _ (by rw [List.getElem?_toArray]; exact ints_get featN k hk)
 have hx : featN[k] ∈ featN := List.getElem_mem hk
 generalize featN[k] = x at *
 have HX := Lib.hid (feature_any x hx)
 have hs3 := Z3.lt
 clear HM1 HG1 HR1 HZ1 g3 R3 hx hs0
 go_wp2_with fail
 refine (HX.out w3).mono ?_
 rintro e w4 ⟨a, b, c', d, t, rfl, hrep, hft, hb4⟩
 obtain ⟨A1, n1, q1, A2, n2, q2, rfl, rfl, rfl, rfl⟩ := node_form (hrep [] (fun _ h => by cases h)).out
 have Z4 := Z3.keep hb4
 have hc4 := Z4.c4
 have hf4 := Z4.f4
 have HR := Lib.hid hrep
 clear hcell hrep Z3
 generalize t.op = op at *
 generalize t.n = tn at *
 go_wp2_with fail
 refine bodyPost_ret (results_F rfl _ rfl (Z4.set4 (.int .i64 op) (.int .i64 tn) (.slice A1 n1 q1) (.slice A2 n2 q2)) rfl) rfl ⟨⟨_, _, _, _, t, rfl, fun H hH => ?_, hft⟩, ?_, ?_⟩
 ·refine RepML.step (HR.out (w.heap.size :: H) (fun i hi => ?_)) (grown_st4 w4 w.heap.size _ _ _ _) (fun i e _ => .inr (by injection e with e; subst e; simp)) (fun i hi => .inl (by simp [hi]))
  rcases List.mem_cons.1 hi with rfl | hi
  ·exact hs3
  ·have := hH i hi
   omega
 ·exact grown_up (grown_up G3 (grown_of_below (row := none) hb4) (fun _ e => by cases e)) (grown_st4 w4 w.heap.size _ _ _ _) (fun i e hi => by injection e with e; omega)
 ·exact (M3.step (grown_of_below (row := none) hb4) (fun _ e => by cases e)).step (grown_st4 w4 w.heap.size _ _ _ _) (fun i e => by injection e with e; omega)
end Go.Proofs.YtbeaijjaecaidaaGreatDoor
namespace Go.Proofs.YtbeaijjaecaidaaGreatDoor
open Go.RowKit Go.Shelf
theorem OwnM.slice {ts : List TypeId} {H : List Nat} {w : World} {base : Nat} {e : TypeId} {size : Nat} {v : Value} {ds : List D} (h : OwnM ts H w base e size v ds) : ∃ A n c, v = .slice A n c ∧ ds.length = n * size ∧ n ≤ c := by
 obtain ⟨n, xs, h1, h2⟩ := h
 have h3 := h1.1
 have h4 := h2.1
 rcases h1.2 with ⟨rfl, rfl⟩ | ⟨g, cap, cur, rfl, _, _, hnc, _⟩
 ·exact ⟨none, 0, 0, rfl, by omega, Nat.le_refl _⟩
 ·exact ⟨_, n, cap, rfl, by omega, hnc⟩
theorem run_appM {T e : TypeId} {z : Value} {size bytes : Nat} (hT : Tryz.prog.underlying T = some (.slice e)) (hinf : (Tryz.prog.info? e).map (fun i => (i.zero, i.size, i.bytes)) = some (some z, size, bytes)) (hz : z.cells.size = size) (hp : 0 < size) (hby : bytes ≤ 1000)
  {ts : List TypeId} {H : List Nat} {w : World} {base : Nat} {v : Value} {ds : List D} (hown : OwnM ts H w base e size v ds) {g m c : Nat} {cs : Array Value} (hb : Blk w g e cs) (hcs : cs.size = m * size) (h1 : cs.all (·.oneCell') = true) {es : List D} (hn : RepML ts (v.ownBlock.toList ++ H) w cs.toList es)
  (hlen : ds.length ≤ 100000) (hm : m ≤ 1000) (hbase : base ≤ w.heap.size) {ty : TypeId} :
  ∃ v' w', (Builtin.append_ #[T, T] ty #[v, .slice (some ⟨g, 0, none⟩) m c]).run Tryz.prog w = .ok v' w' ∧ OwnM ts H w' base e size v' (ds ++ es) ∧ w.grownBy w' v.ownBlock ∧ (v'.ownBlock = v.ownBlock ∨ v'.ownBlock = some w.heap.size) := by
 obtain ⟨n, xs, q1, q2⟩ := hown
 obtain ⟨i0, hi, hz0, hz1, hz2⟩ := info_parts hinf
 have hl1 := q1.1
 have hl2 := q2.1
 have hn1 : n ≤ 100000 := by
  have : n * 1 ≤ n * size := Nat.mul_le_mul_left n hp
  omega
 have hall : ∀ u ∈ cs.toList, u.oneCell' = true := fun u hu => (Array.all_eq_true_iff_forall_mem.1 h1) u (by simpa using hu)
 obtain ⟨v', w', r1, r2, r3, _, r5⟩ := run_append_own_at (P := Tryz.prog) w base T ty e i0 z size bytes hT hi hz0 hz1 hz2 hz hp v n xs q1 ⟨g, 0, none⟩ m c cs.toList (by rw [Array.length_toList, hcs])
  (fun j u hu => by
   rw [Addr.add_lit, Nat.zero_add, hb.cell j, ← Array.getElem?_toList]
   exact hu) hall (by unfold maxLen; omega) (by
   have := Nat.mul_le_mul (show n + m ≤ 101000 by omega) hby
   omega) hbase
 exact ⟨v', w', r1, OwnM.app q2 hn r2 r3 r5, r3, r5⟩
theorem wpList_appM {T e : TypeId} {z : Value} {size bytes : Nat} (hT : Tryz.prog.underlying T = some (.slice e)) (hinf : (Tryz.prog.info? e).map (fun i => (i.zero, i.size, i.bytes)) = some (some z, size, bytes)) (hz : z.cells.size = size) (hp : 0 < size) (hby : bytes ≤ 1000)
  {ts : List TypeId} {H : List Nat} {w : World} {base : Nat} {v : Value} {ds : List D} (hown : OwnM ts H w base e size v ds) {g m c : Nat} {cs : Array Value} (hb : Blk w g e cs) (hcs : cs.size = m * size) (h1 : cs.all (·.oneCell') = true) {es : List D} (hn : RepML ts (v.ownBlock.toList ++ H) w cs.toList es)
  (hlen : ds.length ≤ 100000) (hm : m ≤ 1000) (hbase : base ≤ w.heap.size)
  {ops : Array Oper} {rest : List Oper} {o : Oper} {a : Act} {Q : Exit → Act → World → Prop} (hgd : o.guard = none) (s x : Operand) (ho : o.op = .call { callee := .builtin .append, args := #[s, x], argTypes := #[T, T] }) (hs : a.eval s = v) (hx : a.eval x = .slice (some ⟨g, 0, none⟩) m c)
  (hK : ∀ v' w', OwnM ts H w' base e size v' (ds ++ es) → w.grownBy w' v.ownBlock → (v'.ownBlock = v.ownBlock ∨ v'.ownBlock = some w.heap.size) → wpList Tryz.prog ops Q rest (a.put o.dst v') w') : wpList Tryz.prog ops Q (o :: rest) a w :=
 let ⟨v', w', r1, r2, r3, r4⟩ := run_appM hT hinf hz hp hby hown hb hcs h1 hn hlen hm hbase (ty := o.type) (c := c)
 wpList_plain hgd fun _ hK' => wp_app_run s x T v _ v' ho hs hx r1 (hK' _ _ (hK v' w' r2 r3 r4))
theorem Tryz.info169 : (Tryz.prog.info? 169).map (fun i => (i.zero, i.size, i.bytes)) = some (some (.agg #[.slice none 0 0, .int .i64 0, .int .i64 0, .slice none 0 0, .slice none 0 0]), 5, 88) := by kernel_rfl
theorem Tryz.info106 : (Tryz.prog.info? 106).map (fun i => (i.zero, i.size, i.bytes)) = some (some (.agg #[.int .i64 0, .int .i64 0]), 2, 16) := by kernel_rfl
theorem Tryz.info41 : (Tryz.prog.info? 41).map (fun i => (i.zero, i.size, i.bytes)) = some (some (.agg #[.int .i64 0, .int .i64 0, .int .i64 0, .int .i64 0, .int .i64 0, .int .i64 0, .int .i64 0, .int .i64 0, .int .i64 0, .int .i64 0, .int .i64 0, .slice none 0 0, .slice none 0 0, .slice none 0 0, .slice none 0 0, .int .i64 0, .int .i64 0, .slice none 0 0, .slice none 0 0]), 19, 248) := by kernel_rfl
end Go.Proofs.YtbeaijjaecaidaaGreatDoor
