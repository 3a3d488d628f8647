/- The documented examples of copies: lives returns true. The law CopiesSalts, walked. -/
import Derived.Test.YtbeaijjaecaidaaGreatDoorG22
import Derived.Test.YtbeaijjaecaidaaGreatDoorG01
namespace Go.Proofs.YtbeaijjaecaidaaGreatDoor
open Go.RowKit Go.Shelf
attribute [local go_sem] Oper.semAt_some
theorem live_row (W : World) (b0 b1 : Nat) (hb0 : Blk W b0 39 #[.int .i64 0, .int .i64 0, .slice none 0 0, .slice none 0 0])
  (hb1 : Blk W b1 41 (liveF.vals (.slice (some ⟨b0, 0, none⟩) 1 1) (.slice none 0 0) (.slice none 0 0))) : FilRow W W.heap.size (some ⟨b1, 0, none⟩) [liveF] := fun k hk => by
 have hk : k < 1 := hk
 obtain rfl : k = 0 := by omega
 refine ⟨b1, 0, .slice (some ⟨b0, 0, none⟩) 1 1, .slice none 0 0, .slice none 0 0, rfl, hb1.lt, fun j u hu => ?_, ?_, .nil _, .nil _⟩
 ·rw [Nat.zero_mul, Nat.zero_add, hb1.cell j, ← Array.getElem?_toList]
  exact hu
 ·refine Rep.mk (cs := [.int .i64 0, .int .i64 0, .slice none 0 0, .slice none 0 0]) rfl (Nat.le_refl _) hb0.lt ?_ (fun j u hu => ?_)
  ·exact RepL.cons (.v _) (RepL.cons (.v _) (RepL.cons (.nil _) (RepL.cons (.nil _) (RepL.nil _ _))))
  ·rw [Nat.zero_add, hb0.cell j, ← Array.getElem?_toList]
   exact hu
set_option maxRecDepth 100000 in
set_option maxHeartbeats 4000000 in
theorem live_of (W : World) (b0 b1 : Nat) (hb0 : Blk W b0 39 #[.int .i64 0, .int .i64 0, .slice none 0 0, .slice none 0 0])
  (hb1 : Blk W b1 41 (liveF.vals (.slice (some ⟨b0, 0, none⟩) 1 1) (.slice none 0 0) (.slice none 0 0))) :
  Calls Tryz.prog 11 #[.int .u64 6, .slice (some ⟨b1, 0, none⟩) 1 1, .int .i64 0, .int .i64 1] W fun e w' => ∃ C dv cv ev, e = .returned (.agg C) ∧ IsCop C (hdOf 6 [liveF] 1 1 (leafN (entN 0 liveF))) 0 liveF dv cv ev (saltN 0) (.slice none 0 0) ∧ C.all (·.oneCell') = true ∧ FilAt W W.heap.size liveF dv cv ev ∧ Below W.heap.size W w' := by
 refine (of_any 6 (by omega) [liveF] (by decide) (fun f hf => by rw [List.mem_singleton.1 hf]; exact liveF_ok) (some ⟨b1, 0, none⟩) 1 (by decide) W W.heap.size (Nat.le_refl _) (live_row W b0 b1 hb0 hb1) 0 1 (by decide) (by decide) (leafN (entN 0 liveF)) (lab_lt _ _) (fun _ v => v = .slice none 0 0)
  (fun V v hr => ?_) (fun V v hr => ?_) (fun _ _ _ h _ => h)).mono ?_
 ·obtain ⟨A, c, rfl, hc, hcell⟩ := Rep.row hr
  obtain ⟨b, o, rfl, _, h1⟩ := hcell 0 (.int .u64 (entN 0 liveF : Int)) rfl
  exact refroot_one (entN 0 liveF) (lab_lt _ _) b o c V h1
 ·obtain ⟨A, c, rfl, hc, hcell⟩ := Rep.row hr
  refine (refpath_one A c 0 V).mono ?_
  rintro e w' ⟨rfl, rfl⟩
  exact ⟨none, 0, 0, rfl, rfl, Below.refl _ _⟩
 ·rintro e w' ⟨dv, cv, ev, Ap, np, cp, rfl, hf, hp, hb⟩
  rw [hp]
  exact ⟨_, dv, cv, ev, rfl, cop_is _ _ _ _ _ _ _ _, cop_one _ _ _ _ _ _ _ hf.one, hf, hb⟩
theorem liveF2_ok : OkFil { liveF with office := 2 } := by
 obtain ⟨h1, h2, h3, h4, h5⟩ := liveF_ok
 exact ⟨h1, h2, h3, by decide, h5⟩
theorem one_set {C : Array Value} {i : Nat} {v : Value} (h : C.all (·.oneCell') = true) (hv : v.oneCell' = true) : (C.setIfInBounds i v).all (·.oneCell') = true := by
 rw [Array.all_eq_true_iff_forall_mem] at *
 intro x hx
 rcases Array.mem_or_eq_of_mem_setIfInBounds hx with hx | rfl
 ·exact h x hx
 ·exact hv
set_option maxRecDepth 100000 in
set_option maxHeartbeats 4000000 in
theorem lives_any (w : World) (hG : w.cell? ⟨0, 0, none⟩ = some (.int .i64 655)) (h0 : 0 < w.heap.size) :
  Calls Tryz.prog 9 #[] w fun e w' => e = .returned (.bool true) ∧ Below w.heap.size w w' := by
 have hs1 : (w.alloc (.cells #[.int .i64 0, .int .i64 0, .slice none 0 0, .slice none 0 0] 39)).heap.size = w.heap.size + 1 := World.size_alloc ..
 have b0 := (Blk.new w 39 #[.int .i64 0, .int .i64 0, .slice none 0 0, .slice none 0 0]).alloc (.cells #[.int .i64 0, .int .i64 7, .int .i64 2, .int .i64 3, .int .i64 1, .int .i64 4, .int .i64 (-1), .int .i64 0, .int .i64 0, .int .i64 0, .int .i64 0, .slice (some ⟨w.heap.size, 0, none⟩) 1 1, .slice none 0 0, .slice none 0 0, .slice none 0 0, .int .i64 0, .int .i64 0, .slice none 0 0, .slice none 0 0] 41)
 have b1 := Blk.new (w.alloc (.cells #[.int .i64 0, .int .i64 0, .slice none 0 0, .slice none 0 0] 39)) 41 #[.int .i64 0, .int .i64 7, .int .i64 2, .int .i64 3, .int .i64 1, .int .i64 4, .int .i64 (-1), .int .i64 0, .int .i64 0, .int .i64 0, .int .i64 0, .slice (some ⟨w.heap.size, 0, none⟩) 1 1, .slice none 0 0, .slice none 0 0, .slice none 0 0, .int .i64 0, .int .i64 0, .slice none 0 0, .slice none 0 0]
 rw [hs1] at b1
 have P2 := (below_new w (.cells #[.int .i64 0, .int .i64 0, .slice none 0 0, .slice none 0 0] 39)).alloc (by simp) (.cells #[.int .i64 0, .int .i64 7, .int .i64 2, .int .i64 3, .int .i64 1, .int .i64 4, .int .i64 (-1), .int .i64 0, .int .i64 0, .int .i64 0, .int .i64 0, .slice (some ⟨w.heap.size, 0, none⟩) 1 1, .slice none 0 0, .slice none 0 0, .slice none 0 0, .int .i64 0, .int .i64 0, .slice none 0 0, .slice none 0 0] 41)
 clear hs1
 go_enter Tryz.func9, Tryz.ntmps9
 go_upto_region 2 with fail
 generalize (w.alloc (.cells #[.int .i64 0, .int .i64 0, .slice none 0 0, .slice none 0 0] 39)).alloc (.cells #[.int .i64 0, .int .i64 7, .int .i64 2, .int .i64 3, .int .i64 1, .int .i64 4, .int .i64 (-1), .int .i64 0, .int .i64 0, .int .i64 0, .int .i64 0, .slice (some ⟨w.heap.size, 0, none⟩) 1 1, .slice none 0 0, .slice none 0 0, .slice none 0 0, .int .i64 0, .int .i64 0, .slice none 0 0, .slice none 0 0] 41) = w2 at *
 have HOF := Lib.hid (live_of w2 _ _ b0 b1)
 clear b0 b1
 have hG2 := (P2.cell (p := ⟨0, 0, none⟩) h0).trans hG
 have h02 := Nat.lt_of_lt_of_le h0 P2.size
 clear hG h0
 go_wp2_with fail
 refine HOF.out.mono ?_
 rintro e w3 ⟨C, dv, cv, ev, rfl, hC, hC1, hf, hb3⟩
 have P3 := below_up P2 hb3 P2.size
 have hG3 := (hb3.cell (p := ⟨0, 0, none⟩) h02).trans hG2
 have h03 := Nat.lt_of_lt_of_le h02 hb3.size
 have hf3 : FilAt w3 w2.heap.size liveF dv cv ev := hf.keep (fun p hp => hb3.cell hp) (Nat.le_refl _)
 have hB3 := hb3.size
 have hone := hf.one
 have hsign := hd_sign 6 [liveF] 1 1 (leafN (entN 0 liveF))
 have hlog : (hdOf 6 [liveF] 1 1 (leafN (entN 0 liveF))).log = leafN (commitN (encA liveF) (saltN 0)) := rfl
 have hoff : (hdOf 6 [liveF] 1 1 (leafN (entN 0 liveF))).office = 1 := rfl
 have hsz1 : (hdOf 6 [liveF] 1 1 (leafN (entN 0 liveF))).size = 1 := rfl
 have hkt : liveF.known ≤ (hdOf 6 [liveF] 1 1 (leafN (entN 0 liveF))).tick := by decide
 have hhd : OkHd (hdOf 6 [liveF] 1 1 (leafN (entN 0 liveF))).office (hdOf 6 [liveF] 1 1 (leafN (entN 0 liveF))).tick (hdOf 6 [liveF] 1 1 (leafN (entN 0 liveF))).day (hdOf 6 [liveF] 1 1 (leafN (entN 0 liveF))).size (hdOf 6 [liveF] 1 1 (leafN (entN 0 liveF))).sld := ⟨by decide, by decide, by decide, by decide, by decide⟩
 have hll : (hdOf 6 [liveF] 1 1 (leafN (entN 0 liveF))).log < 18446744073709551616 := lab_lt _ _
 have hmm : (hdOf 6 [liveF] 1 1 (leafN (entN 0 liveF))).map < 18446744073709551616 := by decide
 have hslt : saltN 0 < 18446744073709551616 := lab_lt _ _
 have hklt : keyN 6 < 18446744073709551616 := lab_lt _ _
 have HKEY := Lib.hid (fun (W : World) => key_any 6 (by omega) W)
 generalize hdOf 6 [liveF] 1 1 (leafN (entN 0 liveF)) = h at *
 generalize saltN 0 = s at *
 generalize keyN 6 = key at *
 clear HOF hb3 hf hG2 h02 P2
 have hcs := hC.size
 have Z1 := Blk.new w3 44 #[.int .i64 0, .int .i64 0, .int .i64 0, .int .i64 0, .int .u64 0, .int .u64 0, .int .i64 0, .int .u64 0, .int .i64 0, .int .i64 0, .int .i64 0, .int .i64 0, .int .i64 0, .int .i64 0, .int .i64 0, .int .i64 0, .int .i64 0, .int .i64 0, .int .i64 0, .int .i64 0, .slice none 0 0, .slice none 0 0, .slice none 0 0, .slice none 0 0, .int .i64 0, .int .i64 0, .slice none 0 0, .slice none 0 0, .int .u64 0, .slice none 0 0]
 go_upto_region 3 with (refine wpList_storeW (T := 44) (n := 30) (by kernel_rfl) Z1 rfl _ _ rfl rfl rfl C rfl hcs hC1 ?_; intro w4 Y4 g4)
 have P4 := (P3.alloc P3.size (.cells #[.int .i64 0, .int .i64 0, .int .i64 0, .int .i64 0, .int .u64 0, .int .u64 0, .int .i64 0, .int .u64 0, .int .i64 0, .int .i64 0, .int .i64 0, .int .i64 0, .int .i64 0, .int .i64 0, .int .i64 0, .int .i64 0, .int .i64 0, .int .i64 0, .int .i64 0, .int .i64 0, .slice none 0 0, .slice none 0 0, .slice none 0 0, .slice none 0 0, .int .i64 0, .int .i64 0, .slice none 0 0, .slice none 0 0, .int .u64 0, .slice none 0 0] 44)).grown g4 (Nat.le_trans P3.size (by simp)) (fun k e => by injection e with e; have := P3.size; omega)
 have Q4 := (below_new w3 (.cells #[.int .i64 0, .int .i64 0, .int .i64 0, .int .i64 0, .int .u64 0, .int .u64 0, .int .i64 0, .int .u64 0, .int .i64 0, .int .i64 0, .int .i64 0, .int .i64 0, .int .i64 0, .int .i64 0, .int .i64 0, .int .i64 0, .int .i64 0, .int .i64 0, .int .i64 0, .int .i64 0, .slice none 0 0, .slice none 0 0, .slice none 0 0, .slice none 0 0, .int .i64 0, .int .i64 0, .slice none 0 0, .slice none 0 0, .int .u64 0, .slice none 0 0] 44)).grown g4 (by simp) (fun k e => by injection e with e; omega)
 have hs4 := Y4.lt
 clear Z1 g4
 have Z2 := Blk.new w4 44 #[.int .i64 0, .int .i64 0, .int .i64 0, .int .i64 0, .int .u64 0, .int .u64 0, .int .i64 0, .int .u64 0, .int .i64 0, .int .i64 0, .int .i64 0, .int .i64 0, .int .i64 0, .int .i64 0, .int .i64 0, .int .i64 0, .int .i64 0, .int .i64 0, .int .i64 0, .int .i64 0, .slice none 0 0, .slice none 0 0, .slice none 0 0, .slice none 0 0, .int .i64 0, .int .i64 0, .slice none 0 0, .slice none 0 0, .int .u64 0, .slice none 0 0]
 have Y4a := Y4.alloc (.cells #[.int .i64 0, .int .i64 0, .int .i64 0, .int .i64 0, .int .u64 0, .int .u64 0, .int .i64 0, .int .u64 0, .int .i64 0, .int .i64 0, .int .i64 0, .int .i64 0, .int .i64 0, .int .i64 0, .int .i64 0, .int .i64 0, .int .i64 0, .int .i64 0, .int .i64 0, .int .i64 0, .slice none 0 0, .slice none 0 0, .slice none 0 0, .slice none 0 0, .int .i64 0, .int .i64 0, .slice none 0 0, .slice none 0 0, .int .u64 0, .slice none 0 0] 44)
 go_upto_region 4 with (first | (refine wpList_loadK Y4 hcs _ rfl rfl rfl ?_) | (refine wpList_storeW (T := 44) (n := 30) (by kernel_rfl) Z2 rfl _ _ rfl rfl rfl C rfl hcs hC1 ?_; intro w5 Y5 g5))
 have X5 := Y4a.grown g5 (fun e => by injection e with e; omega)
 have P5 := (P4.alloc P4.size (.cells #[.int .i64 0, .int .i64 0, .int .i64 0, .int .i64 0, .int .u64 0, .int .u64 0, .int .i64 0, .int .u64 0, .int .i64 0, .int .i64 0, .int .i64 0, .int .i64 0, .int .i64 0, .int .i64 0, .int .i64 0, .int .i64 0, .int .i64 0, .int .i64 0, .int .i64 0, .int .i64 0, .slice none 0 0, .slice none 0 0, .slice none 0 0, .slice none 0 0, .int .i64 0, .int .i64 0, .slice none 0 0, .slice none 0 0, .int .u64 0, .slice none 0 0] 44)).grown g5 (Nat.le_trans P4.size (by simp)) (fun k e => by injection e with e; have := P4.size; omega)
 have Q5 := (Q4.alloc Q4.size (.cells #[.int .i64 0, .int .i64 0, .int .i64 0, .int .i64 0, .int .u64 0, .int .u64 0, .int .i64 0, .int .u64 0, .int .i64 0, .int .i64 0, .int .i64 0, .int .i64 0, .int .i64 0, .int .i64 0, .int .i64 0, .int .i64 0, .int .i64 0, .int .i64 0, .int .i64 0, .int .i64 0, .slice none 0 0, .slice none 0 0, .slice none 0 0, .slice none 0 0, .int .i64 0, .int .i64 0, .slice none 0 0, .slice none 0 0, .int .u64 0, .slice none 0 0] 44)).grown g5 (Nat.le_trans Q4.size (by simp)) (fun k e => by injection e with e; have := Q4.size; omega)
 clear Z2 Y4a Y4 g5 P4 Q4
 have hc28 := Y5.cellAt 28 _ hC.salt
 have hf28 := Y5.frozen 28
 have hw : IntKind.u64.wrap ((s : Int) + 1) = (((s + 1) % 18446744073709551616 : Nat) : Int) := by
  rw [IntKind.wrap_u64]; omega
 have hs' : (s + 1) % 18446744073709551616 < 18446744073709551616 := Nat.mod_lt _ (by omega)
 have hne : s ≠ (s + 1) % 18446744073709551616 := next_ne
 have hD := hC.setSalt ((s + 1) % 18446744073709551616)
 generalize (s + 1) % 18446744073709551616 = s1 at *
 go_upto_region 5 with fail
 have Y6 := Y5.set 28 (.int .u64 (s1 : Int))
 have X6 := X5.far (p := ⟨w4.heap.size, 28, none⟩) (Nat.ne_of_lt hs4) (.int .u64 (s1 : Int))
 have P6 := P5.setCell (p := ⟨w4.heap.size, 28, none⟩) (Nat.le_trans (Nat.le_trans P3.size (Nat.le_of_lt hs4)) (Nat.le_refl _)) (.int .u64 (s1 : Int))
 have Q6 := Q5.setCell (p := ⟨w4.heap.size, 28, none⟩) (Nat.le_of_lt hs4) (.int .u64 (s1 : Int))
 have hD1 := one_set (i := 28) hC1 (v := .int .u64 (s1 : Int)) rfl
 clear X5 Y5 P5 Q5 hw hc28 hf28
 generalize w5.setCell ⟨w4.heap.size, 28, none⟩ (.int .u64 (s1 : Int)) = w6 at *
 generalize C.setIfInBounds 28 (.int .u64 (s1 : Int)) = D at *
 generalize hb4 : w4.heap.size = n4 at *
 clear hb4 w4 w5
 have hs6 := Y6.lt
 have Z3 := Blk.new w6 44 #[.int .i64 0, .int .i64 0, .int .i64 0, .int .i64 0, .int .u64 0, .int .u64 0, .int .i64 0, .int .u64 0, .int .i64 0, .int .i64 0, .int .i64 0, .int .i64 0, .int .i64 0, .int .i64 0, .int .i64 0, .int .i64 0, .int .i64 0, .int .i64 0, .int .i64 0, .int .i64 0, .slice none 0 0, .slice none 0 0, .slice none 0 0, .slice none 0 0, .int .i64 0, .int .i64 0, .slice none 0 0, .slice none 0 0, .int .u64 0, .slice none 0 0]
 have X6a := X6.alloc (.cells #[.int .i64 0, .int .i64 0, .int .i64 0, .int .i64 0, .int .u64 0, .int .u64 0, .int .i64 0, .int .u64 0, .int .i64 0, .int .i64 0, .int .i64 0, .int .i64 0, .int .i64 0, .int .i64 0, .int .i64 0, .int .i64 0, .int .i64 0, .int .i64 0, .int .i64 0, .int .i64 0, .slice none 0 0, .slice none 0 0, .slice none 0 0, .slice none 0 0, .int .i64 0, .int .i64 0, .slice none 0 0, .slice none 0 0, .int .u64 0, .slice none 0 0] 44)
 have Y6a := Y6.alloc (.cells #[.int .i64 0, .int .i64 0, .int .i64 0, .int .i64 0, .int .u64 0, .int .u64 0, .int .i64 0, .int .u64 0, .int .i64 0, .int .i64 0, .int .i64 0, .int .i64 0, .int .i64 0, .int .i64 0, .int .i64 0, .int .i64 0, .int .i64 0, .int .i64 0, .int .i64 0, .int .i64 0, .slice none 0 0, .slice none 0 0, .slice none 0 0, .slice none 0 0, .int .i64 0, .int .i64 0, .slice none 0 0, .slice none 0 0, .int .u64 0, .slice none 0 0] 44)
 go_upto_region 6 with (first | (refine wpList_loadK X6 hcs _ rfl rfl rfl ?_) | (refine wpList_storeW (T := 44) (n := 30) (by kernel_rfl) Z3 rfl _ _ rfl rfl rfl C rfl hcs hC1 ?_; intro w7 Y7 g7))
 have X7 := X6a.grown g7 (fun e => by injection e with e; omega)
 have D7 := Y6a.grown g7 (fun e => by injection e with e; omega)
 have P7 := (P6.alloc P6.size (.cells #[.int .i64 0, .int .i64 0, .int .i64 0, .int .i64 0, .int .u64 0, .int .u64 0, .int .i64 0, .int .u64 0, .int .i64 0, .int .i64 0, .int .i64 0, .int .i64 0, .int .i64 0, .int .i64 0, .int .i64 0, .int .i64 0, .int .i64 0, .int .i64 0, .int .i64 0, .int .i64 0, .slice none 0 0, .slice none 0 0, .slice none 0 0, .slice none 0 0, .int .i64 0, .int .i64 0, .slice none 0 0, .slice none 0 0, .int .u64 0, .slice none 0 0] 44)).grown g7 (Nat.le_trans P6.size (by simp)) (fun k e => by injection e with e; have := P6.size; omega)
 have Q7 := (Q6.alloc Q6.size (.cells #[.int .i64 0, .int .i64 0, .int .i64 0, .int .i64 0, .int .u64 0, .int .u64 0, .int .i64 0, .int .u64 0, .int .i64 0, .int .i64 0, .int .i64 0, .int .i64 0, .int .i64 0, .int .i64 0, .int .i64 0, .int .i64 0, .int .i64 0, .int .i64 0, .int .i64 0, .int .i64 0, .slice none 0 0, .slice none 0 0, .slice none 0 0, .slice none 0 0, .int .i64 0, .int .i64 0, .slice none 0 0, .slice none 0 0, .int .u64 0, .slice none 0 0] 44)).grown g7 (Nat.le_trans Q6.size (by simp)) (fun k e => by injection e with e; have := Q6.size; omega)
 have hs7 := Y7.lt
 clear Z3 X6a Y6a X6 Y6 g7 P6 Q6
 have hE := hC.setOffice 2
 have hc13 : w7.cell? ⟨w6.heap.size, 13, none⟩ = some (.int .i64 liveF.office) := Y7.cellAt 13 _ (hC.act 4 _ rfl)
 have hf13 := Y7.frozen 13
 go_upto_region 7 with fail
 have Y8 := Y7.set 13 (.int .i64 2)
 have X8 := X7.far (p := ⟨w6.heap.size, 13, none⟩) (by show w3.heap.size ≠ w6.heap.size; omega) (.int .i64 2)
 have D8 := D7.far (p := ⟨w6.heap.size, 13, none⟩) (Nat.ne_of_lt hs6) (.int .i64 2)
 have P8 := P7.setCell (p := ⟨w6.heap.size, 13, none⟩) (by have := P3.size; show w.heap.size ≤ w6.heap.size; omega) (.int .i64 2)
 have Q8 := Q7.setCell (p := ⟨w6.heap.size, 13, none⟩) (by show w3.heap.size ≤ w6.heap.size; omega) (.int .i64 2)
 clear X7 Y7 D7 P7 Q7 hc13 hf13
 generalize w7.setCell ⟨w6.heap.size, 13, none⟩ (.int .i64 2) = w8 at *
 have hes := hE.size
 have hds := hD.size
 generalize C.setIfInBounds 13 (.int .i64 2) = E at *
 have hFO : liveF.office = 1 := rfl
 have HKW : ∀ W, Below w3.heap.size w3 W → W.cell? ⟨0, 0, none⟩ = some (.int .i64 655) ∧ 0 < W.heap.size ∧ w2.heap.size ≤ W.heap.size ∧ FilAt W w2.heap.size liveF dv cv ev := fun W hW => ⟨(hW.cell (p := ⟨0, 0, none⟩) h03).trans hG3, Nat.lt_of_lt_of_le h03 hW.size, Nat.le_trans hB3 hW.size, hf3.keep (fun p hp => hW.cell (Nat.lt_of_lt_of_le hp hB3)) (Nat.le_refl _)⟩
 have RC := Lib.hid (fun (W : World) => real_any hC hone W)
 have RD := Lib.hid (fun (W : World) => real_any hD hone W)
 have RE := Lib.hid (fun (W : World) => real_any hE hone W)
 have hk1 : (key + 1) % 18446744073709551616 < 18446744073709551616 := Nat.mod_lt _ (by omega)
 have hkne : key ≠ (key + 1) % 18446744073709551616 := next_ne
 have hwk : IntKind.u64.wrap ((key : Int) + 1) = (((key + 1) % 18446744073709551616 : Nat) : Int) := by
  rw [IntKind.wrap_u64]; omega
 generalize (key + 1) % 18446744073709551616 = key1 at *
 have CC := Lib.hid (fun (W : World) (hW : Below w3.heap.size w3 W) => ccheck_any (cop_is h 0 liveF dv cv ev s (.slice none 0 0)) liveF_ok key hklt hsz1 hkt hslt hll hmm hhd W (HKW W hW).1 (HKW W hW).2.1 w2.heap.size (HKW W hW).2.2.1 (HKW W hW).2.2.2)
 have CD := Lib.hid (fun (W : World) (hW : Below w3.heap.size w3 W) => ccheck_any (cop_is h 0 liveF dv cv ev s1 (.slice none 0 0)) liveF_ok key hklt hsz1 hkt hs' hll hmm hhd W (HKW W hW).1 (HKW W hW).2.1 w2.heap.size (HKW W hW).2.2.1 (HKW W hW).2.2.2)
 have CK := Lib.hid (fun (W : World) (hW : Below w3.heap.size w3 W) => ccheck_any (cop_is h 0 liveF dv cv ev s (.slice none 0 0)) liveF_ok key1 hk1 hsz1 hkt hslt hll hmm hhd W (HKW W hW).1 (HKW W hW).2.1 w2.heap.size (HKW W hW).2.2.1 (HKW W hW).2.2.2)
 have CE := Lib.hid (fun (W : World) (hW : Below w3.heap.size w3 W) => ccheck_any (cop_is h 0 { liveF with office := 2 } dv cv ev s (.slice none 0 0)) liveF2_ok key hklt hsz1 hkt hslt hll hmm hhd W (HKW W hW).1 (HKW W hW).2.1 w2.heap.size (HKW W hW).2.2.1 (HKW W hW).2.2.2)
 rw [fil_good liveF (hFO.trans hoff.symm), hd_good hsign, log_good hlog] at CC
 rw [fil_good liveF (hFO.trans hoff.symm), hd_good hsign, log_bad hlog hslt hs' hne] at CD
 rw [fil_good liveF (hFO.trans hoff.symm), hd_bad hsign hklt hk1 hll hmm hkne] at CK
 rw [fil_bad { liveF with office := 2 } (fun e => by rw [hoff] at e; cases e)] at CE
 unfold first3 at CC CD CK CE
 simp only [if_true, if_neg (show ¬ ((22 : Int) = 0) by decide), if_neg (show ¬ ((23 : Int) = 0) by decide)] at CC CD CK CE
 generalize cop h 0 { liveF with office := 2 } dv cv ev s (.slice none 0 0) = E1 at *
 generalize cop h 0 liveF dv cv ev s (.slice none 0 0) = C1 at *
 generalize cop h 0 liveF dv cv ev s1 (.slice none 0 0) = D1 at *
 have hp29 := hC.path
 clear HKW hC hD hE hC1 hD1 hf3 hG3 h03 hB3 hone hsign hlog hoff hsz1 hkt hhd hll hmm hslt hs' hne hklt hk1 hkne hFO P3
 go_upto_region 8 with (go_at_call 12; refine (HKEY.out _).mono ?_; rintro e wn ⟨rfl, hbn⟩; replace X8 := X8.keep hbn; replace D8 := D8.keep hbn; replace Y8 := Y8.keep hbn; replace P8 := below_up P8 hbn P8.size; replace Q8 := below_up Q8 hbn Q8.size; clear hbn)
 have hc29 : ∀ W, Blk W w3.heap.size 44 C → W.cell? ⟨w3.heap.size, 29, none⟩ = some (.slice none 0 0) := fun W hW => hW.cellAt 29 _ hp29
 have hc := hc29 _ X8
 clear hc29
 go_wp2_with (refine wpList_loadK X8 hcs _ rfl rfl rfl ?_)
 refine (RC.out _).mono ?_
 rintro e wn ⟨rfl, hbn⟩
 replace X8 := X8.keep hbn
 replace D8 := D8.keep hbn
 replace Y8 := Y8.keep hbn
 replace P8 := below_up P8 hbn P8.size
 replace Q8 := below_up Q8 hbn Q8.size
 clear hbn
 go_wp2_with fail
 refine (CC.out _ Q8).mono ?_
 rintro e wn ⟨rfl, hbn⟩
 replace X8 := X8.keep hbn
 replace D8 := D8.keep hbn
 replace Y8 := Y8.keep hbn
 replace P8 := below_up P8 hbn P8.size
 replace Q8 := below_up Q8 hbn Q8.size
 clear hbn
 go_wp2_with (refine wpList_loadK D8 hds _ rfl rfl rfl ?_)
 refine (RD.out _).mono ?_
 rintro e wn ⟨rfl, hbn⟩
 replace X8 := X8.keep hbn
 replace D8 := D8.keep hbn
 replace Y8 := Y8.keep hbn
 replace P8 := below_up P8 hbn P8.size
 replace Q8 := below_up Q8 hbn Q8.size
 clear hbn
 go_wp2_with fail
 refine (CD.out _ Q8).mono ?_
 rintro e wn ⟨rfl, hbn⟩
 replace X8 := X8.keep hbn
 replace D8 := D8.keep hbn
 replace Y8 := Y8.keep hbn
 replace P8 := below_up P8 hbn P8.size
 replace Q8 := below_up Q8 hbn Q8.size
 clear hbn
 go_wp2_with (refine wpList_loadK X8 hcs _ rfl rfl rfl ?_)
 refine (RC.out _).mono ?_
 rintro e wn ⟨rfl, hbn⟩
 replace X8 := X8.keep hbn
 replace D8 := D8.keep hbn
 replace Y8 := Y8.keep hbn
 replace P8 := below_up P8 hbn P8.size
 replace Q8 := below_up Q8 hbn Q8.size
 clear hbn
 go_wp2_with fail
 refine (CK.out _ Q8).mono ?_
 rintro e wn ⟨rfl, hbn⟩
 replace X8 := X8.keep hbn
 replace D8 := D8.keep hbn
 replace Y8 := Y8.keep hbn
 replace P8 := below_up P8 hbn P8.size
 replace Q8 := below_up Q8 hbn Q8.size
 clear hbn
 go_wp2_with (refine wpList_loadK Y8 hes _ rfl rfl rfl ?_)
 refine (RE.out _).mono ?_
 rintro e wn ⟨rfl, hbn⟩
 replace X8 := X8.keep hbn
 replace D8 := D8.keep hbn
 replace Y8 := Y8.keep hbn
 replace P8 := below_up P8 hbn P8.size
 replace Q8 := below_up Q8 hbn Q8.size
 clear hbn
 go_wp2_with fail
 refine (CE.out _ Q8).mono ?_
 rintro e wn ⟨rfl, hbn⟩
 replace X8 := X8.keep hbn
 replace D8 := D8.keep hbn
 replace Y8 := Y8.keep hbn
 replace P8 := below_up P8 hbn P8.size
 replace Q8 := below_up Q8 hbn Q8.size
 clear hbn
 go_wp2_with fail
 go_ret
 exact ⟨rfl, P8⟩
end Go.Proofs.YtbeaijjaecaidaaGreatDoor
namespace Go.Proofs.YtbeaijjaecaidaaGreatDoor
open Go.RowKit Go.Shelf
attribute [local go_sem] Oper.semAt_some
theorem wpList_loadHd {w : World} {g : Nat} {cs : Array Value} (h : Blk w g 49 cs) (hs : cs.size = 8) {ops : Array Oper} {rest : List Oper} {o : Oper} {a : Act} {Q : Exit → Act → World → Prop} (x : Operand) (ho : o.op = .load 49 x) (hw : Region.wanted o (yielded ops a.tmps) = true)
  (hx : a.eval x = .pointer (some ⟨g, 0, none⟩)) (hK : wpList Tryz.prog ops Q rest (a.put o.dst (.agg cs)) w) : wpList Tryz.prog ops Q (o :: rest) a w :=
 wpList_step fun _ h2 => by
  rw [if_pos hw]
  refine wp_load_mid 49 x ho g 0 hx cs.toList _ (fun j v hv => by rw [Nat.zero_add, h.cell j, ← Array.getElem?_toList]; exact hv) Tryz.underlying49 rfl (by rw [Array.length_toList, hs]; kernel_rfl) ?_
  rw [Array.toArray_toList]
  exact h2 _ _ hK
theorem yieldsC {S : World → Prop} {ops : Array Oper} {g : Nat} {cs : Array Value} (hs : cs.size = 30) {o : Oper} {a : Act} (x : Operand) (ho : o.op = .load 51 x) (hx : a.eval x = .pointer (some ⟨g, 0, none⟩)) (hS : ∀ W, S W → Blk W g 51 cs) (hw : Region.wanted o (yielded ops a.tmps) = true) : YieldsIf Tryz.prog ops S o (.agg cs) a := by
 have h := yieldsIf_load_mid (P := Tryz.prog) (ops := ops) (S := S) hw 51 x ho g 0 hx cs.toList _ (fun w h j v hv => by rw [Nat.zero_add, (hS w h).cell j, ← Array.getElem?_toList]; exact hv) Tryz.underlying51 rfl (by rw [Array.length_toList, hs]; kernel_rfl)
 rwa [Array.toArray_toList] at h
/-- The head under which the law's copy stands. -/
def hdS (kn : Int) (R : Nat) : Hd := ⟨1, kn, 0, 1, R, 0, 0, sigN (keyN 1) ⟨1, kn, 0, 1, R, 0, 0, 0⟩⟩
set_option maxRecDepth 100000 in
set_option maxHeartbeats 4000000 in
theorem salt_walk (A : Option Addr) (n c : Nat) (salt at_ : Int) (w : World) (hG : w.cell? ⟨0, 0, none⟩ = some (.int .i64 655)) (h0 : 0 < w.heap.size) (hA : IntsAt w A n) (hA2 : ∀ a, A = some a → a.block < w.heap.size) (hat : -9223372036854775808 ≤ at_ ∧ at_ ≤ 9223372036854775807) :
  Calls Tryz.prog 5 #[.slice A n c, .int .i64 salt, .int .i64 at_] w fun e w' => e = .returned (.bool true) ∧ Below w.heap.size w w' := by
 have HLG := Lib.hid (log_any A n c 1 (by omega) w hA hA2)
 clear hA hA2
 have HLV := Lib.hid (fun (W : World) (hW : Below w.heap.size w W) => lives_any W ((hW.cell (p := ⟨0, 0, none⟩) h0).trans hG) (Nat.lt_of_lt_of_le h0 hW.size))
 go_enter Tryz.func5, Tryz.ntmps5
 go_wp2_with fail
 refine HLG.out.mono ?_
 rintro e w1 ⟨Ao, co, fl, rfl, hco, hlog, hrow, hb1⟩
 by_cases hz : fl.length = 0
 ·have ez : ((fl.length : Int) == 0) = true := by rw [hz]; rfl
  clear hrow
  go_wp2_with fail
  refine (HLV.out _ hb1).mono ?_
  rintro e w2 ⟨rfl, hb2⟩
  have P2 := below_up hb1 hb2 hb1.size
  go_wp2_with fail
  go_ret
  exact ⟨rfl, P2⟩
 ·have ez : ((fl.length : Int) == 0) = false := by rw [beq_eq_false_iff_ne]; omega
  have HROW := Lib.hid hrow
  have HLOG := Lib.hid hlog
  clear hrow hlog
  have hl14 := HLOG.out.len
  go_wp2_with fail
  refine (around_any at_ (fl.length : Int) _ hat.1 hat.2 (by omega) (by omega)).mono ?_
  rintro e w2 ⟨rfl, rfl⟩
  obtain ⟨k, hk, hklt⟩ : ∃ k : Nat, arN at_ (fl.length : Int) = (k : Int) ∧ k < fl.length := by
   have h1 := arN_nonneg at_ (fl.length : Int) (by omega)
   have h2 := arN_lt at_ (fl.length : Int) (by omega)
   exact ⟨(arN at_ (fl.length : Int)).toNat, by omega, by omega⟩
  rw [hk]
  obtain ⟨b, o, dv, cv, ev, rfl, hb, hr, hf⟩ := HROW.out k hklt
  have hok := HLOG.out.ok _ (List.getElem_mem hklt)
  have hoff := HLOG.out.office _ (List.getElem_mem hklt)
  have hone := hf.one
  have hall : (fl[k].vals dv cv ev).all (·.oneCell') = true := by
   obtain ⟨⟨_, _, _, rfl⟩, ⟨_, _, _, rfl⟩, _, _, _, rfl⟩ := hone
   simp [Fil.vals, Value.oneCell']
  have hnl : fl.length ≤ 14 := hl14
  clear HROW HLOG HLG hk ez hz hat
  generalize fl[k] = f at *
  generalize fl.length = nl at *
  have Z1 := Blk.new w1 41 #[.int .i64 0, .int .i64 0, .int .i64 0, .int .i64 0, .int .i64 0, .int .i64 0, .int .i64 0, .int .i64 0, .int .i64 0, .int .i64 0, .int .i64 0, .slice none 0 0, .slice none 0 0, .slice none 0 0, .slice none 0 0, .int .i64 0, .int .i64 0, .slice none 0 0, .slice none 0 0]
  have P1 := below_new w1 (.cells #[.int .i64 0, .int .i64 0, .int .i64 0, .int .i64 0, .int .i64 0, .int .i64 0, .int .i64 0, .int .i64 0, .int .i64 0, .int .i64 0, .int .i64 0, .slice none 0 0, .slice none 0 0, .slice none 0 0, .slice none 0 0, .int .i64 0, .int .i64 0, .slice none 0 0, .slice none 0 0] 41)
  go_upto_region 5 with (first | (refine wpList_load_mid rfl 41 _ rfl b (o + k * 19) (by go_simp) _ _ hr Tryz.underlying41 rfl (by kernel_rfl) ?_) | (refine wpList_storeA Z1 rfl _ _ rfl rfl rfl _ rfl rfl hall ?_; intro w2 Y2 g2))
  have P2 := P1.grown g2 P1.size (fun k e => by injection e with e; omega)
  have HG1 := (hb1.cell (p := ⟨0, 0, none⟩) h0).trans hG
  have H01 := Nat.lt_of_lt_of_le h0 hb1.size
  have HKW : ∀ W, Below w1.heap.size w1 W → W.cell? ⟨0, 0, none⟩ = some (.int .i64 655) ∧ 0 < W.heap.size ∧ w1.heap.size ≤ W.heap.size ∧ FilAt W w1.heap.size f dv cv ev := fun W hW => ⟨(hW.cell (p := ⟨0, 0, none⟩) H01).trans HG1, Nat.lt_of_lt_of_le H01 hW.size, hW.size, hf.keep (fun p hp => hW.cell hp) (Nat.le_refl _)⟩
  have hKW := Lib.hid HKW
  have HEN := Lib.hid (fun (W : World) (hW : Below w1.heap.size w1 W) => aenc_own f hok dv cv ev W (HKW W hW).1 (HKW W hW).2.1 w1.heap.size (HKW W hW).2.2.1 (HKW W hW).2.2.2)
  have hlen := encA_len hok
  have hbb := Lib.hid (encA_bytes f)
  have HF := Lib.hid hf
  have hfs : (f.vals dv cv ev).size = 19 := rfl
  have hwS := wrap_u64' salt
  have hsl := u64_lt salt
  clear hr Z1 P1 g2 hf HKW HG1 H01
  go_wp2_with (refine wpList_loadA Y2 hfs _ rfl rfl rfl ?_)
  refine (HEN.out _ P2).mono ?_
  rintro e w3 ⟨u, rfl, o3, hb3⟩
  have P3 := below_up P2 hb3 P2.size
  have Y3 := Y2.keep hb3
  have hlt13 := Y3.lt
  clear P2 Y2 hb3
  go_upto_region 7 with (go_at_call 23; refine (lognew_any _).mono ?_; rintro e w4 ⟨rfl, T4, hb4⟩)
  have P4 := below_up P3 hb4 P3.size
  have Y4 := Y3.keep hb4
  have R4 := o3.rep.keep (W' := w4) (fun p hp => hb4.cell hp) hb4.size
  have hm4 : w3.heap.size ≤ w4.heap.size := hb4.size
  clear P3 Y3 hb4 o3
  go_wp2_with fail
  refine (commit_any u (encA f) hbb.out (by omega) (u64 salt) hsl _ R4).mono ?_
  rintro e w5 ⟨rfl, hb5⟩
  have P5 := below_up P4 hb5 P4.size
  have Y5 := Y4.keep hb5
  have T5 := T4.keep hb5
  have hcl := commit_lt (encA f) (u64 salt)
  clear P4 Y4 T4 hb5 R4
  go_wp2_with fail
  have h13 : w1.heap.size < w3.heap.size := hlt13
  refine (logadd_one w3.heap.size (w3.heap.size + 1) _ (commitN (encA f) (u64 salt)) w5 T5 (by omega)).mono ?_
  rintro e w6 ⟨rfl, ⟨gb, gc, T6, hcell, hgb1, hgb2⟩, hb6⟩
  have P6 := P5.trans (hb6.mono (Nat.le_of_lt h13))
  have Y6 := Y5.under hb6 h13
  clear P5 Y5 T5 hb6 hgb1 hgb2
  go_wp2_with fail
  refine (logroot_one _ gb gc _ _ hcl w6 T6 hcell).mono ?_
  rintro e w7 ⟨rfl, hb7⟩
  have P7 := below_up P6 hb7 P6.size
  have Y7 := Y6.keep hb7
  have hRl : leafN (commitN (encA f) (u64 salt)) < 18446744073709551616 := lab_lt _ _
  generalize hR : leafN (commitN (encA f) (u64 salt)) = R at *
  clear P6 Y6 T6 hcell hb7
  have hc2 : w7.cell? ⟨w1.heap.size, 2, none⟩ = some (.int .i64 f.known) := Y7.cellAt 2 _ rfl
  go_wp2_with fail
  refine (sign_any 1 (by omega) 1 f.known 0 1 R 0 hRl (by omega) 0 0 _).mono ?_
  rintro e w8 ⟨rfl, hb8⟩
  have P8 := below_up P7 hb8 P7.size
  have Y8 := Y7.keep hb8
  have Z8 := Blk.new w8 49 #[.int .i64 0, .int .i64 0, .int .i64 0, .int .i64 0, .int .u64 0, .int .u64 0, .int .i64 0, .int .u64 0]
  have PZ := P8.alloc P8.size (.cells #[.int .i64 0, .int .i64 0, .int .i64 0, .int .i64 0, .int .u64 0, .int .u64 0, .int .i64 0, .int .u64 0] 49)
  have YZ := Y8.alloc (.cells #[.int .i64 0, .int .i64 0, .int .i64 0, .int .i64 0, .int .u64 0, .int .u64 0, .int .i64 0, .int .u64 0] 49)
  clear P7 Y7 hb8 hc2
  go_upto_region 12 with (refine wpList_storeW (T := 49) (n := 8) (by kernel_rfl) Z8 rfl _ _ rfl rfl rfl _ rfl rfl (by kernel_rfl) ?_; intro w9 H9 g9)
  have P9 := PZ.grown g9 PZ.size (fun k e => by injection e with e; have := P8.size; omega)
  have hw18 : w1.heap.size < w8.heap.size := Y8.lt
  have Y9 := YZ.grown g9 (fun e => by injection e with e; omega)
  have H9' : Blk w9 w8.heap.size 49 (hdS f.known R).vals := H9
  have hhs : (hdS f.known R).vals.size = 8 := rfl
  have hC := cop_is (hdS f.known R) 0 f dv cv ev (u64 salt) (.slice none 0 0)
  have hC1 := cop_one (hdS f.known R) 0 f (u64 salt) none 0 0 hone
  have hcs := hC.size
  have hkn := hok.2.1
  have HMK := Lib.hid (fun (W : World) (hW : Below w1.heap.size w1 W) => make_any (hdS f.known R) f hok dv cv ev (u64 salt) hsl rfl (Int.le_refl _) hoff hR.symm W (hKW.out _ hW).1 (hKW.out _ hW).2.1 w1.heap.size (hKW.out _ hW).2.2.1 (hKW.out _ hW).2.2.2)
  have hhd : OkHd 1 f.known 0 1 0 := ⟨by decide, hkn, by decide, by decide, by decide⟩
  have HCK := Lib.hid (fun (W : World) (hW : Below w1.heap.size w1 W) => ccheck_any hC hok (keyN 1) (lab_lt _ _) rfl (Int.le_refl _) hsl hRl (by show 0 < 18446744073709551616; omega) hhd W (hKW.out _ hW).1 (hKW.out _ hW).2.1 w1.heap.size (hKW.out _ hW).2.2.1 (hKW.out _ hW).2.2.2)
  rw [fil_good f (o := (hdS f.known R).office) hoff, hd_good (key := keyN 1) (h := hdS f.known R) rfl, log_good (h := hdS f.known R) hR.symm] at HCK
  have HET := Lib.hid (fun (W : World) (hW : Below w1.heap.size w1 W) => entry_any f hok dv cv ev (u64 salt) hsl W w1.heap.size (hKW.out _ hW).2.2.1 (hKW.out _ hW).2.2.2)
  have HRT := Lib.hid (fun (b o c : Nat) (W : World) hc => refroot_one (commitN (encA f) (u64 salt)) hcl b o c W hc)
  rw [hR] at HRT
  have HKY := Lib.hid (fun (W : World) => key_any 1 (by omega) W)
  clear YZ PZ P8 Y8 H9 Z8 g9 hhd hok HEN hlen hbb hone hall hcl hRl hkn HF hR
  generalize keyN 1 = key at *
  generalize commitN (encA f) (u64 salt) = cm at *
  generalize hdS f.known R = hh at *
  generalize cop hh 0 f dv cv ev (u64 salt) (.slice none 0 0) = C at *
  generalize hh.vals = hv at *
  generalize f.vals dv cv ev = fv at *
  (try simp only [Act.put])
  go_wp2_with (first | (refine wpList_loadHd H9' hhs _ rfl rfl rfl ?_) | (refine wpList_loadA Y9 hfs _ rfl rfl rfl ?_))
  refine (HMK.out _ P9).mono ?_
  rintro e w10 ⟨rfl, hb10⟩
  have P10 := below_up P9 hb10 P9.size
  have Y10 := Y9.keep hb10
  have Z10 := Blk.new w10 51 #[.int .i64 0, .int .i64 0, .int .i64 0, .int .i64 0, .int .u64 0, .int .u64 0, .int .i64 0, .int .u64 0, .int .i64 0, .int .i64 0, .int .i64 0, .int .i64 0, .int .i64 0, .int .i64 0, .int .i64 0, .int .i64 0, .int .i64 0, .int .i64 0, .int .i64 0, .int .i64 0, .slice none 0 0, .slice none 0 0, .slice none 0 0, .slice none 0 0, .int .i64 0, .int .i64 0, .slice none 0 0, .slice none 0 0, .int .u64 0, .slice none 0 0]
  have PZ := P10.alloc P10.size (.cells #[.int .i64 0, .int .i64 0, .int .i64 0, .int .i64 0, .int .u64 0, .int .u64 0, .int .i64 0, .int .u64 0, .int .i64 0, .int .i64 0, .int .i64 0, .int .i64 0, .int .i64 0, .int .i64 0, .int .i64 0, .int .i64 0, .int .i64 0, .int .i64 0, .int .i64 0, .int .i64 0, .slice none 0 0, .slice none 0 0, .slice none 0 0, .slice none 0 0, .int .i64 0, .int .i64 0, .slice none 0 0, .slice none 0 0, .int .u64 0, .slice none 0 0] 51)
  have YZ := Y10.alloc (.cells #[.int .i64 0, .int .i64 0, .int .i64 0, .int .i64 0, .int .u64 0, .int .u64 0, .int .i64 0, .int .u64 0, .int .i64 0, .int .i64 0, .int .i64 0, .int .i64 0, .int .i64 0, .int .i64 0, .int .i64 0, .int .i64 0, .int .i64 0, .int .i64 0, .int .i64 0, .int .i64 0, .slice none 0 0, .slice none 0 0, .slice none 0 0, .slice none 0 0, .int .i64 0, .int .i64 0, .slice none 0 0, .slice none 0 0, .int .u64 0, .slice none 0 0] 51)
  have hw110 : w1.heap.size < w10.heap.size := Y10.lt
  clear P9 Y9 H9' hb10 P10 Y10 HMK
  go_upto_region 13 with (refine wpList_storeW (T := 51) (n := 30) (by kernel_rfl) Z10 rfl _ _ rfl rfl rfl C rfl hcs hC1 ?_; intro w11 C11 g11)
  have P11 := PZ.grown g11 PZ.size (fun k e => by injection e with e; omega)
  have Y11 := YZ.grown g11 (fun e => by injection e with e; omega)
  clear PZ YZ Z10 g11
  (try simp only [Act.put])
  refine wp_region_held_drew (S := (fun V => Below w11.heap.size w11 V)) (by kernel_rfl) ?_ (fun hHeld => ?_)
  ·first | done | ((try dsimp only); exact (Below.refl _ _).drew)
  have Q0 := (Below.refl w11.heap.size w11).drew
  generalize w11.drew = wd at *
  refine tk 0 71 ?_ rfl (by kernel_rfl) (fun _ _ _ h => h) (by rfl) (by assumption) ?_ ?_
  rotate_left
  ·(intro w' hSw; (try dsimp only at hSw); go_simp; try (with_reducible rfl))
  (try simp only [pS, pB, pZ, pC])
  refine tk 1 72 ?_ rfl (by kernel_rfl) (fun _ _ _ h => h) (by rfl) (by assumption) ?_ ?_
  rotate_left
  ·(intro w' hSw; (try dsimp only at hSw); go_simp; try (with_reducible rfl))
  (try simp only [pS, pB, pZ, pC])
  refine tk 2 73 ?_ rfl (by kernel_rfl) (fun _ _ _ h => h) (by rfl) (by assumption) ?_ ?_
  rotate_left
  ·(intro w' hSw; (try dsimp only at hSw); go_simp; try (with_reducible rfl))
  (try simp only [pS, pB, pZ, pC])
  refine tk 3 74 ?_ rfl (by kernel_rfl) (fun _ _ _ h => h) (by rfl) (by assumption) ?_ ?_
  rotate_left
  ·(intro w' hSw; (try dsimp only at hSw); go_simp; try (with_reducible rfl))
  (try simp only [pS, pB, pZ, pC])
  refine tk 4 75 ?_ rfl (by kernel_rfl) (fun _ _ _ h => h) (by rfl) (by assumption) ?_ ?_
  rotate_left
  ·(intro w' hSw; (try dsimp only at hSw); go_simp; try (with_reducible rfl))
  (try simp only [pS, pB, pZ, pC])
  refine tk 5 76 ?_ rfl (by kernel_rfl) (fun _ _ _ h => h) (by rfl) (by assumption) ?_ ?_
  rotate_left
  ·(intro w' hSw; (try dsimp only at hSw); go_simp; try (with_reducible rfl))
  (try simp only [pS, pB, pZ, pC])
  refine tk 6 77 ?_ rfl (by kernel_rfl) (fun _ _ _ h => h) (by rfl) (by assumption) ?_ ?_
  rotate_left
  ·(intro w' hSw; (try dsimp only at hSw); go_simp; try (with_reducible rfl))
  (try simp only [pS, pB, pZ, pC])
  refine tk 7 78 ?_ rfl (by kernel_rfl) (fun _ _ _ h => h) (by rfl) (by assumption) ?_ ?_
  rotate_left
  ·(intro w' hSw; (try dsimp only at hSw); go_simp; try (with_reducible rfl))
  (try simp only [pS, pB, pZ, pC])
  refine tk 8 79 ?_ rfl (by kernel_rfl) (fun _ _ _ h => h) (by rfl) (by assumption) ?_ ?_
  rotate_left
  ·(intro w' hSw; (try dsimp only at hSw); go_simp; try (with_reducible rfl))
  (try simp only [pS, pB, pZ, pC])
  refine tk 9 80 ?_ rfl (by kernel_rfl) (fun _ _ _ h => h) (by rfl) (by assumption) ?_ ?_
  rotate_left
  ·(intro w' hSw; (try dsimp only at hSw); go_simp; try (with_reducible rfl))
  (try simp only [pS, pB, pZ, pC])
  refine tk 10 81 ?_ rfl (by kernel_rfl) (fun _ _ _ h => h) (by rfl) (by assumption) ?_ ?_
  rotate_left
  ·(intro w' hSw; (try dsimp only at hSw); go_simp; try (with_reducible rfl))
  (try simp only [pS, pB, pZ, pC])
  refine tk 11 82 ?_ rfl (by kernel_rfl) (fun _ _ _ h => h) (by rfl) (by assumption) ?_ ?_
  rotate_left
  ·(intro w' hSw; (try dsimp only at hSw); go_simp; try (with_reducible rfl))
  (try simp only [pS, pB, pZ, pC])
  refine wpAnyH_take (i := 12) (oi := ⟨some 83, _, _, _, _, _⟩) (v := _) rfl (by kernel_rfl) (by kernel_rfl) (by kernel_rfl) (fun _ _ _ h => h) (yieldsA hfs _ rfl rfl (fun V (h : Below w11.heap.size w11 V) => Y11.keep h) rfl) (by assumption) ?_
  (try simp only [pS, pB, pZ, pC])
  refine tk 13 84 ?_ rfl (by kernel_rfl) (fun _ _ _ h => h) (by rfl) (by assumption) ?_ ?_
  rotate_left
  ·(intro w' hSw; (try dsimp only at hSw); go_simp; try (with_reducible rfl))
  (try simp only [pS, pB, pZ, pC])
  refine tk 14 85 ?_ rfl (by kernel_rfl) (fun _ _ _ h => h) (by rfl) (by assumption) ?_ ?_
  rotate_left
  ·(intro w' hSw; (try dsimp only at hSw); go_simp; try (with_reducible rfl))
  (try simp only [pS, pB, pZ, pC])
  refine wpAnyH_ready (rs := [15]) (by kernel_rfl) (by simp) (AllReadyH.cons (o := ⟨some 86, _, _, _, _, _⟩) rfl (fun K hK => ?_) AllReadyH.nil)
  go_simp
  (refine (HET.out _ (P11.trans (Q0.mono P11.size))).mono ?_; rintro e w12 ⟨rfl, hb12⟩)
  refine hK.out _ _ ?_ (fun hHeld => ?_)
  ·first | done | ((try dsimp only); exact Q0.trans (hb12.mono Q0.size))
  clear hK K
  (try simp only [pS, pB, pZ, pC])
  have Q1 := Q0.trans (hb12.mono Q0.size)
  refine wpAnyH_ready (rs := [16]) (by kernel_rfl) (by simp) (AllReadyH.cons (o := ⟨some 87, _, _, _, _, _⟩) rfl (fun K hK => ?_) AllReadyH.nil)
  go_simp
  skip
  refine hK.out _ _ ?_ (fun hHeld => ?_)
  ·first | done | ((try dsimp only); exact Q1.alloc Q1.size _)
  clear hK K
  (try simp only [pS, pB, pZ, pC])
  have Q2 := Q1.alloc Q1.size (.cells #[.int .u64 (cm : Int)] 27)
  have hcc := (Blk.new w12 27 #[.int .u64 (cm : Int)]).cell 0
  refine wpAnyH_ready (rs := [17]) (by kernel_rfl) (by simp) (AllReadyH.cons (o := ⟨some 88, _, _, _, _, _⟩) rfl (fun K hK => ?_) AllReadyH.nil)
  go_simp
  (refine (HRT.out _ 0 1 _ hcc).mono ?_; rintro e w13 ⟨rfl, hb13⟩)
  refine hK.out _ _ ?_ (fun hHeld => ?_)
  ·first | done | ((try dsimp only); exact Q2.trans (hb13.mono Q2.size))
  clear hK K
  (try simp only [pS, pB, pZ, pC])
  have Q3 := Q2.trans (hb13.mono Q2.size)
  clear hcc
  refine tk 18 89 ?_ rfl (by kernel_rfl) (fun _ _ _ h => h) (by rfl) (by assumption) ?_ ?_
  rotate_left
  ·(intro w' hSw; (try dsimp only at hSw); go_simp; try (with_reducible rfl))
  (try simp only [pS, pB, pZ, pC])
  refine tk 19 90 ?_ rfl (by kernel_rfl) (fun _ _ _ h => h) (by rfl) (by assumption) ?_ ?_
  rotate_left
  ·(intro w' hSw; (try dsimp only at hSw); go_simp; try (with_reducible rfl))
  (try simp only [pS, pB, pZ, pC])
  refine tk 20 91 ?_ rfl (by kernel_rfl) (fun _ _ _ h => h) (by rfl) (by assumption) ?_ ?_
  rotate_left
  ·(intro w' hSw; (try dsimp only at hSw); go_simp; try (with_reducible rfl))
  (try simp only [pS, pB, pZ, pC])
  refine wpAnyH_take (i := 22) (oi := ⟨some 93, _, _, _, _, _⟩) (v := _) rfl (by kernel_rfl) (by kernel_rfl) (by kernel_rfl) (fun _ _ _ h => h) (yieldsC hcs _ rfl rfl (fun V (h : Below w11.heap.size w11 V) => C11.keep h) rfl) (by assumption) ?_
  (try simp only [pS, pB, pZ, pC])
  refine wpAnyH_ready (rs := [21]) (by kernel_rfl) (by simp) (AllReadyH.cons (o := ⟨some 92, _, _, _, _, _⟩) rfl (fun K hK => ?_) AllReadyH.nil)
  go_simp
  (refine (HKY.out _).mono ?_; rintro e w14 ⟨rfl, hb14⟩)
  refine hK.out _ _ ?_ (fun hHeld => ?_)
  ·first | done | ((try dsimp only); exact Q3.trans (hb14.mono Q3.size))
  clear hK K
  (try simp only [pS, pB, pZ, pC])
  have Q4 := Q3.trans (hb14.mono Q3.size)
  refine wpAnyH_ready (rs := [23]) (by kernel_rfl) (by simp) (AllReadyH.cons (o := ⟨some 94, _, _, _, _, _⟩) rfl (fun K hK => ?_) AllReadyH.nil)
  go_simp
  (refine (HCK.out _ (P11.trans (Q4.mono P11.size))).mono ?_; rintro e w15 ⟨rfl, hb15⟩; rw [show first3 0 0 0 = 0 from rfl])
  refine hK.out _ _ ?_ (fun hHeld => ?_)
  ·first | done | ((try dsimp only); exact Q4.trans (hb15.mono Q4.size))
  clear hK K
  (try simp only [pS, pB, pZ, pC])
  have Q5 := Q4.trans (hb15.mono Q4.size)
  refine tk 24 95 ?_ rfl (by kernel_rfl) (fun _ _ _ h => h) (by rfl) (by assumption) ?_ ?_
  rotate_left
  ·(intro w' hSw; (try dsimp only at hSw); go_simp; try (with_reducible rfl))
  (try simp only [pS, pB, pZ, pC])
  refine tk 25 96 ?_ rfl (by kernel_rfl) (fun _ _ _ h => h) (by rfl) (by assumption) ?_ ?_
  rotate_left
  ·(intro w' hSw; (try dsimp only at hSw); go_simp; try (with_reducible rfl))
  (try simp only [pS, pB, pZ, pC])
  refine tk 26 97 ?_ rfl (by kernel_rfl) (fun _ _ _ h => h) (by rfl) (by assumption) ?_ ?_
  rotate_left
  ·(intro w' hSw; (try dsimp only at hSw); go_simp; try (with_reducible rfl))
  (try simp only [pS, pB, pZ, pC])
  have PW5 := below_up hb1 (P11.trans (Q5.mono P11.size)) hb1.size
  refine wpAnyH_ready (rs := [27]) (by kernel_rfl) (by simp) (AllReadyH.cons (o := ⟨some 98, _, _, _, _, _⟩) rfl (fun K hK => ?_) AllReadyH.nil)
  go_simp
  (refine (HLV.out _ PW5).mono ?_; rintro e w16 ⟨rfl, hb16⟩)
  refine hK.out _ _ ?_ (fun hHeld => ?_)
  ·first | done | ((try dsimp only); exact Q5.trans (hb16.mono Q5.size))
  clear hK K
  (try simp only [pS, pB, pZ, pC])
  have PW6 := below_up PW5 hb16 PW5.size
  refine tk 28 99 ?_ rfl (by kernel_rfl) (fun _ _ _ h => h) (by rfl) (by assumption) ?_ ?_
  rotate_left
  ·(intro w' hSw; (try dsimp only at hSw); go_simp; try (with_reducible rfl))
  (try simp only [pS, pB, pZ, pC])
  refine tk 29 6 ?_ rfl (by kernel_rfl) (fun _ _ _ h => h) (by rfl) (by assumption) ?_ ?_
  rotate_left
  ·(intro w' hSw; (try dsimp only at hSw); go_simp; try (with_reducible rfl))
  (try simp only [pS, pB, pZ, pC])
  refine wpAnyH_done (by kernel_rfl) ?_ _
  go_wp2_with fail
  go_ret
  exact ⟨rfl, PW6⟩
end Go.Proofs.YtbeaijjaecaidaaGreatDoor
