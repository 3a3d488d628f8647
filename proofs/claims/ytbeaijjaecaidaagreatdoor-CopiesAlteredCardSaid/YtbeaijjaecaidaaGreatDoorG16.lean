/- The maker's claims. Filings as rows of cells, and as they are generated. -/
import Derived.Test.YtbeaijjaecaidaaGreatDoorG15
import Derived.Test.YtbeaijjaecaidaaGreatDoorG13
import Derived.Test.YtbeaijjaecaidaaGreatDoorE01
namespace Go.Proofs.YtbeaijjaecaidaaGreatDoor
open Go.RowKit Go.Shelf
attribute [local go_sem] Oper.semAt_some
def TA : List TypeId := [144, 41]
theorem TA_sub : ∀ t ∈ TA, t ∈ TS := by decide
theorem mkc_next {w W : World} {u rv : Value} {cl : List Cl} {refs : List Int} {t : F} {a b c d : Value} (O : OwnM TS (List.range w.heap.size) W w.heap.size 169 5 u (cl.flatMap Cl.cells)) (RR : RepM TS (u.ownBlock.toList ++ List.range w.heap.size) W rv (.s 1 (valD (ints refs))))
  (RF : RepML TS (u.ownBlock.toList ++ List.range w.heap.size) W [a, b, c, d] t.cells) (_ : True) : OwnM TS (List.range w.heap.size) (W.alloc (.cells #[rv, a, b, c, d] 169)) w.heap.size 169 5 u (cl.flatMap Cl.cells) ∧
   RepML TS (u.ownBlock.toList ++ List.range w.heap.size) (W.alloc (.cells #[rv, a, b, c, d] 169)) #[rv, a, b, c, d].toList (Cl.cells ⟨refs, t⟩) :=
 ⟨O.step (World.grownBy_alloc W _ none) (fun _ e => by cases e) (fun i hi => .inl hi), RepML.step (RepL.cons RR RF) (World.grownBy_alloc W _ none) (fun _ e => by cases e) (fun i hi => .inl hi)⟩
theorem refs_nil (k : Nat) : RefsOk [] k := fun j h => by simp at h
theorem refs_one {k : Nat} {r : Int} (h0 : 0 ≤ r) (h1 : r < (k : Int)) : RefsOk [r] k := fun j h => by
 have : j = 0 := by simp at h; omega
 subst this
 exact ⟨h0, h1, fun h => absurd h (Nat.lt_irrefl _)⟩
theorem refs_two {k : Nat} (h : k = 2) : RefsOk [0, 1] k := fun j hj => by
 subst h
 have : j = 0 ∨ j = 1 := by simp at hj; omega
 rcases this with rfl | rfl
 ·exact ⟨(by omega : (0 : Int) ≤ 0), (by omega : (0 : Int) < ((2 : Nat) : Int)), fun h => absurd h (Nat.lt_irrefl _)⟩
 ·exact ⟨(by omega : (0 : Int) ≤ 1), (by omega : (1 : Int) < ((2 : Nat) : Int)), fun _ => (by omega : (0 : Int) < 1)⟩
theorem mkc_ok {cl : List Cl} {k : Nat} {refs : List Int} {t : F} (hk : cl.length = k) (h : ∀ i (h : i < cl.length), RefsOk cl[i].refs i ∧ Feat cl[i].body) (hr : RefsOk refs k) (hf : Feat t) : ∀ i (h : i < (cl ++ [Cl.mk refs t]).length), RefsOk (cl ++ [Cl.mk refs t])[i].refs i ∧ Feat (cl ++ [Cl.mk refs t])[i].body := by
 intro i hi
 by_cases hlt : i < cl.length
 ·rw [List.getElem_append_left hlt]
  exact h i hlt
 ·have : i = k := by simp at hi; omega
  subst this
  rw [List.getElem_append_right (by omega)]
  simp only [hk, Nat.sub_self, List.getElem_cons_zero]
  exact ⟨hr, hf⟩
set_option maxRecDepth 100000 in
set_option maxHeartbeats 16000000 in
theorem mkclaims_any {w : World} {base g : Nat} {A : Option Addr} {n c : Nat} {day : Int} {fv : Value} (h : Mk w base g A n c day fv) :
  Calls Tryz.prog 139 #[.pointer (some ⟨g, 0, none⟩)] w fun e w' => (∃ u cl, e = .returned u ∧ RepM TA (List.range w.heap.size) w' u (.s 5 (cl.flatMap Cl.cells)) ∧ GenCl cl) ∧ w.grownBy w' (some g) ∧ Mk w' base g A n c day fv := by
 have hlt := h.lt
 have hbase := h.base
 have HM := Lib.hid h
 clear h
 go_enter Tryz.func139, Tryz.ntmps139
 go_wp2_with fail
 refine (next_any HM.out 3 (by omega) (by omega)).mono ?_
 rintro e w1 ⟨⟨r, rfl, hr0, hr1⟩, G1, M1⟩
 obtain ⟨m, rfl⟩ : ∃ m : Nat, r = (m : Int) := ⟨r.toNat, by omega⟩
 have hm : m < 3 := by omega
 clear hr0 hr1 HM
 go_wp2_with fail
 have O1 : OwnM TS (List.range w.heap.size) w1 w.heap.size 169 5 (.slice none 0 0) (([] : List Cl).flatMap Cl.cells) := OwnM.nil ..
 go_loopw [3, 5] (fun u j wr => ∃ (k : Nat) (cl : List Cl), j = .int .i64 (k : Int) ∧ k ≤ m + 1 ∧ cl.length = k ∧ (∀ i (h : i < cl.length), RefsOk cl[i].refs i ∧ Feat cl[i].body) ∧ OwnM TS (List.range w.heap.size) wr w.heap.size 169 5 u (cl.flatMap Cl.cells) ∧ w.grownBy wr (some g) ∧ Mk wr base g A n c day fv) (fun _ j _ => m + 1 - (intOf j).toNat)
 case atStart => exact ⟨0, [], rfl, Nat.zero_le _, rfl, fun i h => by simp at h, O1, G1, M1⟩
 case round =>
  obtain ⟨k, cl, rfl, hk, hcl, hok, hO, hG, hM⟩ := hrel
  have HOK := Lib.hid hok
  clear O1 G1 M1 hok
  by_cases hlt2 : k < m + 1
  ·have hM' := Lib.hid (mkfeature_any hM)
   have hs := hM.lt
   have HO := Lib.hid hO
   have hul := hO.lt
   go_wp2_with fail
   refine hM'.out.mono ?_
   rintro e w2 ⟨⟨a, b, c', d, t, rfl, hrep, hft⟩, g2, M2⟩
   have RF := hrep (u3.ownBlock.toList ++ List.range w.heap.size) (fun i hi => by
    have h1 := hG.size
    rcases List.mem_append.1 hi with hi | hi
    ·exact (hul _ (Option.mem_toList.1 hi)).2
    ·have := List.mem_range.1 hi
     omega)
   obtain ⟨A1, n1, q1, A2, n2, q2, rfl, rfl, rfl, rfl⟩ := node_form RF.out
   have O := HO.out.step g2 (fun i e _ => by injection e with e; subst e; exact ⟨.inl (hM.hidden (by decide)), fun e2 => by have := (hul _ e2).1; omega⟩) (fun i hi => .inl hi)
   have G := grown_up hG g2 (fun _ e _ => e)
   have HTF : Hid True := trivial
   clear hrep HO hM' hG hO g2
   generalize t.op = op at *
   generalize t.n = tn at *
   have X := Blk.new w2 169 #[.slice none 0 0, .int .i64 op, .int .i64 tn, .slice A1 n1 q1, .slice A2 n2 q2]
   have g3 := World.grownBy_alloc w2 (.cells #[.slice none 0 0, .int .i64 op, .int .i64 tn, .slice A1 n1 q1, .slice A2 n2 q2] 169) none
   have M := M2.step g3 (fun _ e => by cases e)
   have HCB : Hid (∀ i, u3.ownBlock = some i → i ≠ w2.heap.size) := fun i e => by have := (O.lt i e).2; omega
   have RF := RF.step g3 (fun _ e => by cases e) (fun i hi => .inl hi)
   have O := O.step g3 (fun _ e => by cases e) (fun i hi => .inl hi)
   have RR : RepM TS (u3.ownBlock.toList ++ List.range w.heap.size) (w2.alloc (.cells #[.slice none 0 0, .int .i64 op, .int .i64 tn, .slice A1 n1 q1, .slice A2 n2 q2] 169)) (.slice none 0 0) (.s 1 (valD (ints []))) := Rep.nil 1
   have hcb1 := G.size
   have hcb2 := M2.lt
   have G := grown_up G g3 (fun _ e => by cases e)
   clear M2 g3
   go_upto_region 7 with fail
   generalize w2.alloc (.cells #[.slice none 0 0, .int .i64 op, .int .i64 tn, .slice A1 n1 q1, .slice A2 n2 q2] 169) = w3 at *
   generalize w2.heap.size = cb at *
   have hcbl := X.lt
   by_cases hk0 : k = 0
   ·have e0 : decide (0 < (k : Int)) = false := by simp; omega
    have e2 : ((k : Int) == 2) = false := by simp; omega
    go_upto_region 11 with fail
    obtain ⟨O8, N8⟩ := mkc_next O RR RF HTF.out
    have Y8 := Blk.new w3 169 #[.slice none 0 0, .int .i64 op, .int .i64 tn, .slice A1 n1 q1, .slice A2 n2 q2]
    have G8 := grown_up G (World.grownBy_alloc w3 (.cells #[.slice none 0 0, .int .i64 op, .int .i64 tn, .slice A1 n1 q1, .slice A2 n2 q2] 169) none) (fun _ e => by cases e)
    have M8 := M.step (World.grownBy_alloc w3 (.cells #[.slice none 0 0, .int .i64 op, .int .i64 tn, .slice A1 n1 q1, .slice A2 n2 q2] 169) none) (fun _ e => by cases e)
    have hlt8 := O8.lt
    have hc5 := X.c5
    have HRO := Lib.hid (refs_nil k)
    clear O RR RF G M X
    go_wp2_with (at_builtin; refine wpList_appM Tryz.underlying33 Tryz.info169 rfl (by omega) (by omega) O8 Y8 rfl (by kernel_rfl) N8 (by rw [flat_length (fun x _ => x.cells_length)]; omega) (by omega) (Nat.le_trans G8.size (Nat.le_refl _)) rfl _ _ rfl rfl rfl ?_; intro v9 w9 o9 g9 l9)
    have G9 := grown_up G8 g9 (fun q e hq => by have := (hlt8 q e).1; omega)
    have M9 := M8.step g9 (fun q e => by have := (hlt8 q e).1; omega)
    go_roundw
    case rel => exact ⟨k + 1, cl ++ [⟨[], t⟩], by go_num, by omega, by simp [hcl], mkc_ok hcl HOK.out HRO.out hft, by rw [List.flatMap_append, List.flatMap_cons, List.flatMap_nil, List.append_nil]; exact o9, G9, M9⟩
    case measure => simp [intOf]; omega
   ·have e0 : decide (0 < (k : Int)) = true := by simp; omega
    go_wp2_with fail
    refine (next_any M 2 (by omega) (by omega)).mono ?_
    rintro e w4 ⟨⟨r2, rfl, hr20, hr21⟩, gn, Mn⟩
    have X := X.grown gn (fun e => by injection e with e; omega)
    have RF := RF.step gn (fun i e _ => .inl (by injection e with e; subst e; exact M.hidden (by decide))) (fun i hi => .inl hi)
    have RR := RR.step gn (fun i e _ => .inl (by injection e with e; subst e; exact M.hidden (by decide))) (fun i hi => .inl hi)
    have O := O.step gn (fun i e _ => by injection e with e; subst e; exact ⟨.inl (M.hidden (by decide)), fun e2 => by have := (O.lt _ e2).1; omega⟩) (fun i hi => .inl hi)
    have G := grown_up G gn (fun _ e _ => e)
    have M := Mn
    have hcbl := X.lt
    clear gn Mn
    by_cases h2 : r2 = 0
    ·subst h2
     go_wp2_with fail
     refine (next_any M (k : Int) (by omega) (by omega)).mono ?_
     rintro e w5 ⟨⟨r3, rfl, hr30, hr31⟩, gn, Mn⟩
     have X := X.grown gn (fun e => by injection e with e; omega)
     have RF := RF.step gn (fun i e _ => .inl (by injection e with e; subst e; exact M.hidden (by decide))) (fun i hi => .inl hi)
     have RR := RR.step gn (fun i e _ => .inl (by injection e with e; subst e; exact M.hidden (by decide))) (fun i hi => .inl hi)
     have O := O.step gn (fun i e _ => by injection e with e; subst e; exact ⟨.inl (M.hidden (by decide)), fun e2 => by have := (O.lt _ e2).1; omega⟩) (fun i hi => .inl hi)
     have G := grown_up G gn (fun _ e _ => e)
     have M := Mn
     have hcbl := X.lt
     clear gn Mn
     have hc6 := (X.alloc (.cells #[.int .i64 r3] 3)).c5
     have hf6 : (w5.alloc (.cells #[.int .i64 r3] 3)).frozen? ⟨cb, 0, none⟩ = false := (X.alloc (.cells #[.int .i64 r3] 3)).frozen 0
     have HX := Lib.hid X
     have HRF := Lib.hid RF
     have HO := Lib.hid O
     have HG := Lib.hid G
     have HM := Lib.hid M
     clear X RF O G M RR
     go_upto_region 9 with fail
     have gs := grown_set w5 cb 0 (.slice (some ⟨w5.heap.size, 0, none⟩) 1 1)
     have ga := World.grownBy_alloc (w5.setCell ⟨cb, 0, none⟩ (.slice (some ⟨w5.heap.size, 0, none⟩) 1 1)) (.cells #[.int .i64 r3] 3) none
     have X := (HX.out.set 0 (.slice (some ⟨w5.heap.size, 0, none⟩) 1 1)).alloc (.cells #[.int .i64 r3] 3)
     simp only [List.setIfInBounds_toArray, List.set_cons_zero] at X
     have RF := (HRF.out.step gs (fun i e _ => .inl (by injection e with e; subst e; exact HX.out.hidden (by decide))) (fun i hi => .inl hi)).step ga (fun _ e => by cases e) (fun i hi => .inl hi)
     have O := (HO.out.step gs (fun i e _ => by injection e with e; subst e; exact ⟨.inl (HX.out.hidden (by decide)), fun e2 => HCB.out _ e2 rfl⟩) (fun i hi => .inl hi)).step ga (fun _ e => by cases e) (fun i hi => .inl hi)
     have G := grown_up (grown_up HG.out gs (fun i e hi => by injection e with e; omega)) ga (fun _ e => by cases e)
     have M := (HM.out.step gs (fun i e => by injection e with e; omega)).step ga (fun _ e => by cases e)
     have RR : RepM TS (u3.ownBlock.toList ++ List.range w.heap.size) ((w5.setCell ⟨cb, 0, none⟩ (.slice (some ⟨w5.heap.size, 0, none⟩) 1 1)).alloc (.cells #[.int .i64 r3] 3)) (.slice (some ⟨w5.heap.size, 0, none⟩) 1 1) (.s 1 (valD (ints [r3]))) := RepM.of_blk (Blk.newAt (by simp [World.setCell])) (by decide) (fun hi => by
      have h1 := HG.out.size
      rcases List.mem_append.1 hi with hi | hi
      ·have := (HO.out.lt _ (Option.mem_toList.1 hi)).2
       omega
      ·have := List.mem_range.1 hi
       omega) rfl (RepL.of_plain _ _ (ints [r3]))
     clear HX hc6 hf6 HRF HO HG HM gs ga
     generalize (w5.setCell ⟨cb, 0, none⟩ (.slice (some ⟨w5.heap.size, 0, none⟩) 1 1)).alloc (.cells #[.int .i64 r3] 3) = w6 at *
     generalize w5.heap.size = rbw6 at *
     by_cases hk2 : k = 2
     ·have e2 : ((k : Int) == 2) = true := by simp; omega
      go_wp2_with fail
      refine (next_any M 4 (by omega) (by omega)).mono ?_
      rintro e w7 ⟨⟨r4, rfl, hr40, hr41⟩, gn, Mn⟩
      have X := X.grown gn (fun e => by injection e with e; omega)
      have RF := RF.step gn (fun i e _ => .inl (by injection e with e; subst e; exact M.hidden (by decide))) (fun i hi => .inl hi)
      have RR := RR.step gn (fun i e _ => .inl (by injection e with e; subst e; exact M.hidden (by decide))) (fun i hi => .inl hi)
      have O := O.step gn (fun i e _ => by injection e with e; subst e; exact ⟨.inl (M.hidden (by decide)), fun e2 => by have := (O.lt _ e2).1; omega⟩) (fun i hi => .inl hi)
      have G := grown_up G gn (fun _ e _ => e)
      have M := Mn
      have hcbl := X.lt
      clear gn Mn
      by_cases h4 : r4 = 0
      ·subst h4
       go_upto_region 10 with fail
       have hc6 := (X.alloc (.cells #[.int .i64 0, .int .i64 1] 3)).c5
       have hf6 : (w7.alloc (.cells #[.int .i64 0, .int .i64 1] 3)).frozen? ⟨cb, 0, none⟩ = false := (X.alloc (.cells #[.int .i64 0, .int .i64 1] 3)).frozen 0
       have HX := Lib.hid X
       have HRF := Lib.hid RF
       have HO := Lib.hid O
       have HG := Lib.hid G
       have HM := Lib.hid M
       clear X RF O G M RR
       go_upto_region 11 with fail
       have gs := grown_set w7 cb 0 (.slice (some ⟨w7.heap.size, 0, none⟩) 2 2)
       have ga := World.grownBy_alloc (w7.setCell ⟨cb, 0, none⟩ (.slice (some ⟨w7.heap.size, 0, none⟩) 2 2)) (.cells #[.int .i64 0, .int .i64 1] 3) none
       have X := (HX.out.set 0 (.slice (some ⟨w7.heap.size, 0, none⟩) 2 2)).alloc (.cells #[.int .i64 0, .int .i64 1] 3)
       simp only [List.setIfInBounds_toArray, List.set_cons_zero] at X
       have RF := (HRF.out.step gs (fun i e _ => .inl (by injection e with e; subst e; exact HX.out.hidden (by decide))) (fun i hi => .inl hi)).step ga (fun _ e => by cases e) (fun i hi => .inl hi)
       have O := (HO.out.step gs (fun i e _ => by injection e with e; subst e; exact ⟨.inl (HX.out.hidden (by decide)), fun e2 => HCB.out _ e2 rfl⟩) (fun i hi => .inl hi)).step ga (fun _ e => by cases e) (fun i hi => .inl hi)
       have G := grown_up (grown_up HG.out gs (fun i e hi => by injection e with e; omega)) ga (fun _ e => by cases e)
       have M := (HM.out.step gs (fun i e => by injection e with e; omega)).step ga (fun _ e => by cases e)
       have RR : RepM TS (u3.ownBlock.toList ++ List.range w.heap.size) ((w7.setCell ⟨cb, 0, none⟩ (.slice (some ⟨w7.heap.size, 0, none⟩) 2 2)).alloc (.cells #[.int .i64 0, .int .i64 1] 3)) (.slice (some ⟨w7.heap.size, 0, none⟩) 2 2) (.s 1 (valD (ints [0, 1]))) := RepM.of_blk (Blk.newAt (by simp [World.setCell])) (by decide) (fun hi => by
        have h1 := HG.out.size
        rcases List.mem_append.1 hi with hi | hi
        ·have := (HO.out.lt _ (Option.mem_toList.1 hi)).2
         omega
        ·have := List.mem_range.1 hi
         omega) rfl (RepL.of_plain _ _ (ints [0, 1]))
       clear HX hc6 hf6 HRF HO HG HM gs ga
       generalize (w7.setCell ⟨cb, 0, none⟩ (.slice (some ⟨w7.heap.size, 0, none⟩) 2 2)).alloc (.cells #[.int .i64 0, .int .i64 1] 3) = w7a at *
       generalize w7.heap.size = rbw7a at *
       obtain ⟨O8, N8⟩ := mkc_next O RR RF HTF.out
       have Y8 := Blk.new w7a 169 #[.slice (some ⟨rbw7a, 0, none⟩) 2 2, .int .i64 op, .int .i64 tn, .slice A1 n1 q1, .slice A2 n2 q2]
       have G8 := grown_up G (World.grownBy_alloc w7a (.cells #[.slice (some ⟨rbw7a, 0, none⟩) 2 2, .int .i64 op, .int .i64 tn, .slice A1 n1 q1, .slice A2 n2 q2] 169) none) (fun _ e => by cases e)
       have M8 := M.step (World.grownBy_alloc w7a (.cells #[.slice (some ⟨rbw7a, 0, none⟩) 2 2, .int .i64 op, .int .i64 tn, .slice A1 n1 q1, .slice A2 n2 q2] 169) none) (fun _ e => by cases e)
       have hlt8 := O8.lt
       have hc5 := X.c5
       have HRO := Lib.hid (refs_two hk2)
       clear O RR RF G M X
       go_wp2_with (at_builtin; refine wpList_appM Tryz.underlying33 Tryz.info169 rfl (by omega) (by omega) O8 Y8 rfl (by kernel_rfl) N8 (by rw [flat_length (fun x _ => x.cells_length)]; omega) (by omega) (Nat.le_trans G8.size (Nat.le_refl _)) rfl _ _ rfl rfl rfl ?_; intro v9 w9 o9 g9 l9)
       have G9 := grown_up G8 g9 (fun q e hq => by have := (hlt8 q e).1; omega)
       have M9 := M8.step g9 (fun q e => by have := (hlt8 q e).1; omega)
       go_roundw
       case rel => exact ⟨k + 1, cl ++ [⟨[0, 1], t⟩], by go_num, by omega, by simp [hcl], mkc_ok hcl HOK.out HRO.out hft, by rw [List.flatMap_append, List.flatMap_cons, List.flatMap_nil, List.append_nil]; exact o9, G9, M9⟩
       case measure => simp [intOf]; omega
      ·have e4 : (r4 == 0) = false := by simpa using h4
       go_upto_region 11 with fail
       obtain ⟨O8, N8⟩ := mkc_next O RR RF HTF.out
       have Y8 := Blk.new w7 169 #[.slice (some ⟨rbw6, 0, none⟩) 1 1, .int .i64 op, .int .i64 tn, .slice A1 n1 q1, .slice A2 n2 q2]
       have G8 := grown_up G (World.grownBy_alloc w7 (.cells #[.slice (some ⟨rbw6, 0, none⟩) 1 1, .int .i64 op, .int .i64 tn, .slice A1 n1 q1, .slice A2 n2 q2] 169) none) (fun _ e => by cases e)
       have M8 := M.step (World.grownBy_alloc w7 (.cells #[.slice (some ⟨rbw6, 0, none⟩) 1 1, .int .i64 op, .int .i64 tn, .slice A1 n1 q1, .slice A2 n2 q2] 169) none) (fun _ e => by cases e)
       have hlt8 := O8.lt
       have hc5 := X.c5
       have HRO := Lib.hid (refs_one hr30 hr31)
       clear O RR RF G M X
       go_wp2_with (at_builtin; refine wpList_appM Tryz.underlying33 Tryz.info169 rfl (by omega) (by omega) O8 Y8 rfl (by kernel_rfl) N8 (by rw [flat_length (fun x _ => x.cells_length)]; omega) (by omega) (Nat.le_trans G8.size (Nat.le_refl _)) rfl _ _ rfl rfl rfl ?_; intro v9 w9 o9 g9 l9)
       have G9 := grown_up G8 g9 (fun q e hq => by have := (hlt8 q e).1; omega)
       have M9 := M8.step g9 (fun q e => by have := (hlt8 q e).1; omega)
       go_roundw
       case rel => exact ⟨k + 1, cl ++ [⟨[r3], t⟩], by go_num, by omega, by simp [hcl], mkc_ok hcl HOK.out HRO.out hft, by rw [List.flatMap_append, List.flatMap_cons, List.flatMap_nil, List.append_nil]; exact o9, G9, M9⟩
       case measure => simp [intOf]; omega
     ·have e2 : ((k : Int) == 2) = false := by simp; omega
      go_upto_region 11 with fail
      obtain ⟨O8, N8⟩ := mkc_next O RR RF HTF.out
      have Y8 := Blk.new w6 169 #[.slice (some ⟨rbw6, 0, none⟩) 1 1, .int .i64 op, .int .i64 tn, .slice A1 n1 q1, .slice A2 n2 q2]
      have G8 := grown_up G (World.grownBy_alloc w6 (.cells #[.slice (some ⟨rbw6, 0, none⟩) 1 1, .int .i64 op, .int .i64 tn, .slice A1 n1 q1, .slice A2 n2 q2] 169) none) (fun _ e => by cases e)
      have M8 := M.step (World.grownBy_alloc w6 (.cells #[.slice (some ⟨rbw6, 0, none⟩) 1 1, .int .i64 op, .int .i64 tn, .slice A1 n1 q1, .slice A2 n2 q2] 169) none) (fun _ e => by cases e)
      have hlt8 := O8.lt
      have hc5 := X.c5
      have HRO := Lib.hid (refs_one hr30 hr31)
      clear O RR RF G M X
      go_wp2_with (at_builtin; refine wpList_appM Tryz.underlying33 Tryz.info169 rfl (by omega) (by omega) O8 Y8 rfl (by kernel_rfl) N8 (by rw [flat_length (fun x _ => x.cells_length)]; omega) (by omega) (Nat.le_trans G8.size (Nat.le_refl _)) rfl _ _ rfl rfl rfl ?_; intro v9 w9 o9 g9 l9)
      have G9 := grown_up G8 g9 (fun q e hq => by have := (hlt8 q e).1; omega)
      have M9 := M8.step g9 (fun q e => by have := (hlt8 q e).1; omega)
      go_roundw
      case rel => exact ⟨k + 1, cl ++ [⟨[r3], t⟩], by go_num, by omega, by simp [hcl], mkc_ok hcl HOK.out HRO.out hft, by rw [List.flatMap_append, List.flatMap_cons, List.flatMap_nil, List.append_nil]; exact o9, G9, M9⟩
      case measure => simp [intOf]; omega
    ·have e3 : (r2 == 0) = false := by simpa using h2
     go_upto_region 9 with fail
     by_cases hk2 : k = 2
     ·have e2 : ((k : Int) == 2) = true := by simp; omega
      go_wp2_with fail
      refine (next_any M 4 (by omega) (by omega)).mono ?_
      rintro e w7 ⟨⟨r4, rfl, hr40, hr41⟩, gn, Mn⟩
      have X := X.grown gn (fun e => by injection e with e; omega)
      have RF := RF.step gn (fun i e _ => .inl (by injection e with e; subst e; exact M.hidden (by decide))) (fun i hi => .inl hi)
      have RR := RR.step gn (fun i e _ => .inl (by injection e with e; subst e; exact M.hidden (by decide))) (fun i hi => .inl hi)
      have O := O.step gn (fun i e _ => by injection e with e; subst e; exact ⟨.inl (M.hidden (by decide)), fun e2 => by have := (O.lt _ e2).1; omega⟩) (fun i hi => .inl hi)
      have G := grown_up G gn (fun _ e _ => e)
      have M := Mn
      have hcbl := X.lt
      clear gn Mn
      by_cases h4 : r4 = 0
      ·subst h4
       go_upto_region 10 with fail
       have hc6 := (X.alloc (.cells #[.int .i64 0, .int .i64 1] 3)).c5
       have hf6 : (w7.alloc (.cells #[.int .i64 0, .int .i64 1] 3)).frozen? ⟨cb, 0, none⟩ = false := (X.alloc (.cells #[.int .i64 0, .int .i64 1] 3)).frozen 0
       have HX := Lib.hid X
       have HRF := Lib.hid RF
       have HO := Lib.hid O
       have HG := Lib.hid G
       have HM := Lib.hid M
       clear X RF O G M RR
       go_upto_region 11 with fail
       have gs := grown_set w7 cb 0 (.slice (some ⟨w7.heap.size, 0, none⟩) 2 2)
       have ga := World.grownBy_alloc (w7.setCell ⟨cb, 0, none⟩ (.slice (some ⟨w7.heap.size, 0, none⟩) 2 2)) (.cells #[.int .i64 0, .int .i64 1] 3) none
       have X := (HX.out.set 0 (.slice (some ⟨w7.heap.size, 0, none⟩) 2 2)).alloc (.cells #[.int .i64 0, .int .i64 1] 3)
       simp only [List.setIfInBounds_toArray, List.set_cons_zero] at X
       have RF := (HRF.out.step gs (fun i e _ => .inl (by injection e with e; subst e; exact HX.out.hidden (by decide))) (fun i hi => .inl hi)).step ga (fun _ e => by cases e) (fun i hi => .inl hi)
       have O := (HO.out.step gs (fun i e _ => by injection e with e; subst e; exact ⟨.inl (HX.out.hidden (by decide)), fun e2 => HCB.out _ e2 rfl⟩) (fun i hi => .inl hi)).step ga (fun _ e => by cases e) (fun i hi => .inl hi)
       have G := grown_up (grown_up HG.out gs (fun i e hi => by injection e with e; omega)) ga (fun _ e => by cases e)
       have M := (HM.out.step gs (fun i e => by injection e with e; omega)).step ga (fun _ e => by cases e)
       have RR : RepM TS (u3.ownBlock.toList ++ List.range w.heap.size) ((w7.setCell ⟨cb, 0, none⟩ (.slice (some ⟨w7.heap.size, 0, none⟩) 2 2)).alloc (.cells #[.int .i64 0, .int .i64 1] 3)) (.slice (some ⟨w7.heap.size, 0, none⟩) 2 2) (.s 1 (valD (ints [0, 1]))) := RepM.of_blk (Blk.newAt (by simp [World.setCell])) (by decide) (fun hi => by
        have h1 := HG.out.size
        rcases List.mem_append.1 hi with hi | hi
        ·have := (HO.out.lt _ (Option.mem_toList.1 hi)).2
         omega
        ·have := List.mem_range.1 hi
         omega) rfl (RepL.of_plain _ _ (ints [0, 1]))
       clear HX hc6 hf6 HRF HO HG HM gs ga
       generalize (w7.setCell ⟨cb, 0, none⟩ (.slice (some ⟨w7.heap.size, 0, none⟩) 2 2)).alloc (.cells #[.int .i64 0, .int .i64 1] 3) = w7a at *
       generalize w7.heap.size = rbw7a at *
       obtain ⟨O8, N8⟩ := mkc_next O RR RF HTF.out
       have Y8 := Blk.new w7a 169 #[.slice (some ⟨rbw7a, 0, none⟩) 2 2, .int .i64 op, .int .i64 tn, .slice A1 n1 q1, .slice A2 n2 q2]
       have G8 := grown_up G (World.grownBy_alloc w7a (.cells #[.slice (some ⟨rbw7a, 0, none⟩) 2 2, .int .i64 op, .int .i64 tn, .slice A1 n1 q1, .slice A2 n2 q2] 169) none) (fun _ e => by cases e)
       have M8 := M.step (World.grownBy_alloc w7a (.cells #[.slice (some ⟨rbw7a, 0, none⟩) 2 2, .int .i64 op, .int .i64 tn, .slice A1 n1 q1, .slice A2 n2 q2] 169) none) (fun _ e => by cases e)
       have hlt8 := O8.lt
       have hc5 := X.c5
       have HRO := Lib.hid (refs_two hk2)
       clear O RR RF G M X
       go_wp2_with (at_builtin; refine wpList_appM Tryz.underlying33 Tryz.info169 rfl (by omega) (by omega) O8 Y8 rfl (by kernel_rfl) N8 (by rw [flat_length (fun x _ => x.cells_length)]; omega) (by omega) (Nat.le_trans G8.size (Nat.le_refl _)) rfl _ _ rfl rfl rfl ?_; intro v9 w9 o9 g9 l9)
       have G9 := grown_up G8 g9 (fun q e hq => by have := (hlt8 q e).1; omega)
       have M9 := M8.step g9 (fun q e => by have := (hlt8 q e).1; omega)
       go_roundw
       case rel => exact ⟨k + 1, cl ++ [⟨[0, 1], t⟩], by go_num, by omega, by simp [hcl], mkc_ok hcl HOK.out HRO.out hft, by rw [List.flatMap_append, List.flatMap_cons, List.flatMap_nil, List.append_nil]; exact o9, G9, M9⟩
       case measure => simp [intOf]; omega
      ·have e4 : (r4 == 0) = false := by simpa using h4
       go_upto_region 11 with fail
       obtain ⟨O8, N8⟩ := mkc_next O RR RF HTF.out
       have Y8 := Blk.new w7 169 #[.slice none 0 0, .int .i64 op, .int .i64 tn, .slice A1 n1 q1, .slice A2 n2 q2]
       have G8 := grown_up G (World.grownBy_alloc w7 (.cells #[.slice none 0 0, .int .i64 op, .int .i64 tn, .slice A1 n1 q1, .slice A2 n2 q2] 169) none) (fun _ e => by cases e)
       have M8 := M.step (World.grownBy_alloc w7 (.cells #[.slice none 0 0, .int .i64 op, .int .i64 tn, .slice A1 n1 q1, .slice A2 n2 q2] 169) none) (fun _ e => by cases e)
       have hlt8 := O8.lt
       have hc5 := X.c5
       have HRO := Lib.hid (refs_nil k)
       clear O RR RF G M X
       go_wp2_with (at_builtin; refine wpList_appM Tryz.underlying33 Tryz.info169 rfl (by omega) (by omega) O8 Y8 rfl (by kernel_rfl) N8 (by rw [flat_length (fun x _ => x.cells_length)]; omega) (by omega) (Nat.le_trans G8.size (Nat.le_refl _)) rfl _ _ rfl rfl rfl ?_; intro v9 w9 o9 g9 l9)
       have G9 := grown_up G8 g9 (fun q e hq => by have := (hlt8 q e).1; omega)
       have M9 := M8.step g9 (fun q e => by have := (hlt8 q e).1; omega)
       go_roundw
       case rel => exact ⟨k + 1, cl ++ [⟨[], t⟩], by go_num, by omega, by simp [hcl], mkc_ok hcl HOK.out HRO.out hft, by rw [List.flatMap_append, List.flatMap_cons, List.flatMap_nil, List.append_nil]; exact o9, G9, M9⟩
       case measure => simp [intOf]; omega
     ·have e2 : ((k : Int) == 2) = false := by simp; omega
      go_upto_region 11 with fail
      obtain ⟨O8, N8⟩ := mkc_next O RR RF HTF.out
      have Y8 := Blk.new w4 169 #[.slice none 0 0, .int .i64 op, .int .i64 tn, .slice A1 n1 q1, .slice A2 n2 q2]
      have G8 := grown_up G (World.grownBy_alloc w4 (.cells #[.slice none 0 0, .int .i64 op, .int .i64 tn, .slice A1 n1 q1, .slice A2 n2 q2] 169) none) (fun _ e => by cases e)
      have M8 := M.step (World.grownBy_alloc w4 (.cells #[.slice none 0 0, .int .i64 op, .int .i64 tn, .slice A1 n1 q1, .slice A2 n2 q2] 169) none) (fun _ e => by cases e)
      have hlt8 := O8.lt
      have hc5 := X.c5
      have HRO := Lib.hid (refs_nil k)
      clear O RR RF G M X
      go_wp2_with (at_builtin; refine wpList_appM Tryz.underlying33 Tryz.info169 rfl (by omega) (by omega) O8 Y8 rfl (by kernel_rfl) N8 (by rw [flat_length (fun x _ => x.cells_length)]; omega) (by omega) (Nat.le_trans G8.size (Nat.le_refl _)) rfl _ _ rfl rfl rfl ?_; intro v9 w9 o9 g9 l9)
      have G9 := grown_up G8 g9 (fun q e hq => by have := (hlt8 q e).1; omega)
      have M9 := M8.step g9 (fun q e => by have := (hlt8 q e).1; omega)
      go_roundw
      case rel => exact ⟨k + 1, cl ++ [⟨[], t⟩], by go_num, by omega, by simp [hcl], mkc_ok hcl HOK.out HRO.out hft, by rw [List.flatMap_append, List.flatMap_cons, List.flatMap_nil, List.append_nil]; exact o9, G9, M9⟩
      case measure => simp [intOf]; omega
  ·obtain rfl : k = m + 1 := by omega
   have HO := Lib.hid hO
   go_wp2_with fail
   go_ret
   exact ⟨⟨u3, cl, rfl, HO.out.rep TA_sub (by decide) (fun i hi => List.mem_range.1 hi), ⟨by omega, HOK.out⟩⟩, hG, hM⟩
end Go.Proofs.YtbeaijjaecaidaaGreatDoor
namespace Go.Proofs.YtbeaijjaecaidaaGreatDoor
open Go.RowKit Go.Shelf
def Fil.cells (f : Fil) : List D :=
 [.v (.int .i64 0), .v (.int .i64 f.day), .v (.int .i64 f.known), .v (.int .i64 f.file), .v (.int .i64 f.office), .v (.int .i64 f.party), .v (.int .i64 f.other), .v (.int .i64 0), .v (.int .i64 0), .v (.int .i64 0), .v (.int .i64 0),
  .s 4 (f.d.flatMap F.cells), .s 5 (f.c.flatMap Cl.cells), .v (.slice none 0 0), .s 2 (prD f.e), .v (.int .i64 0), .v (.int .i64 0), .v (.slice none 0 0), .v (.slice none 0 0)]
theorem Fil.cells_length (f : Fil) : f.cells.length = 19 := rfl
def FilM (ts : List TypeId) (H : List Nat) (W : World) (f : Fil) (dv cv ev : Value) : Prop := RepM ts H W dv (.s 4 (f.d.flatMap F.cells)) ∧ RepM ts H W cv (.s 5 (f.c.flatMap Cl.cells)) ∧ RepM ts H W ev (.s 2 (prD f.e))
theorem FilM.row {ts : List TypeId} {H : List Nat} {W : World} {f : Fil} {dv cv ev : Value} (h : FilM ts H W f dv cv ev) : RepML ts H W (f.vals dv cv ev).toList f.cells :=
 RepL.cons (.v _) (RepL.cons (.v _) (RepL.cons (.v _) (RepL.cons (.v _) (RepL.cons (.v _) (RepL.cons (.v _) (RepL.cons (.v _) (RepL.cons (.v _) (RepL.cons (.v _) (RepL.cons (.v _) (RepL.cons (.v _)
  (RepL.cons h.1 (RepL.cons h.2.1 (RepL.cons (.v _) (RepL.cons h.2.2 (RepL.cons (.v _) (RepL.cons (.v _) (RepL.cons (.v _) (RepL.cons (.v _) (RepL.nil _ _)))))))))))))))))))
theorem FilM.inv {W : World} {B : Nat} {vs : List Value} {f : Fil} (h : RepL W B vs f.cells) : ∃ dv cv ev, vs = (f.vals dv cv ev).toList ∧ Rep W B dv (.s 4 (f.d.flatMap F.cells)) ∧ Rep W B cv (.s 5 (f.c.flatMap Cl.cells)) ∧ Rep W B ev (.s 2 (prD f.e)) := by
 unfold Fil.cells at h
 obtain ⟨u0, v0, rfl, h0, h⟩ := h.inv
 obtain ⟨u1, v1, rfl, h1, h⟩ := h.inv
 obtain ⟨u2, v2, rfl, h2, h⟩ := h.inv
 obtain ⟨u3, v3, rfl, h3, h⟩ := h.inv
 obtain ⟨u4, v4, rfl, h4, h⟩ := h.inv
 obtain ⟨u5, v5, rfl, h5, h⟩ := h.inv
 obtain ⟨u6, v6, rfl, h6, h⟩ := h.inv
 obtain ⟨u7, v7, rfl, h7, h⟩ := h.inv
 obtain ⟨u8, v8, rfl, h8, h⟩ := h.inv
 obtain ⟨u9, v9, rfl, h9, h⟩ := h.inv
 obtain ⟨u10, v10, rfl, h10, h⟩ := h.inv
 obtain ⟨u11, v11, rfl, h11, h⟩ := h.inv
 obtain ⟨u12, v12, rfl, h12, h⟩ := h.inv
 obtain ⟨u13, v13, rfl, h13, h⟩ := h.inv
 obtain ⟨u14, v14, rfl, h14, h⟩ := h.inv
 obtain ⟨u15, v15, rfl, h15, h⟩ := h.inv
 obtain ⟨u16, v16, rfl, h16, h⟩ := h.inv
 obtain ⟨u17, v17, rfl, h17, h⟩ := h.inv
 obtain ⟨u18, v18, rfl, h18, h⟩ := h.inv
 obtain rfl := h.inv_nil
 rw [h0.plain, h1.plain, h2.plain, h3.plain, h4.plain, h5.plain, h6.plain, h7.plain, h8.plain, h9.plain, h10.plain, h13.plain, h15.plain, h16.plain, h17.plain, h18.plain]
 exact ⟨u11, u12, u14, rfl, h11, h12, h14⟩
theorem fil_at {ts : List TypeId} {H : List Nat} {W : World} {base : Nat} {v : Value} {l : List Fil} (h : OwnM ts H W base 41 19 v (l.flatMap Fil.cells)) (k : Nat) (hk : k < l.length) :
  ∃ b c dv cv ev, v = .slice (some ⟨b, 0, none⟩) l.length c ∧ l.length ≤ c ∧ v.ownBlock = some b ∧ W.rangeAt b (k * 19) (l[k].vals dv cv ev).toList ∧ FilM ts (v.ownBlock.toList ++ H) W l[k] dv cv ev := by
 obtain ⟨n, xs, h1, h2⟩ := h
 have hfl := flat_length (l := l) (f := Fil.cells) (k := 19) (fun x _ => x.cells_length)
 have h21 := h2.1
 have h11 := h1.1
 obtain rfl : n = l.length := by omega
 have hp := flat_part (l := l) (f := Fil.cells) (k := 19) (i := k) (a := l[k]) (fun x _ => x.cells_length) (List.getElem?_eq_getElem hk)
 have hr2 := (RepL.drop h2 (k * 19)).take 19
 rw [hp] at hr2
 obtain ⟨dv, cv, ev, e, r1, r2, r3⟩ := FilM.inv hr2
 rcases h1.2 with ⟨_, hn⟩ | ⟨g, cap, cur, rfl, hg, hb, hnc, hcap, hcur, hx⟩
 ·omega
 ·refine ⟨g, cap, dv, cv, ev, rfl, hnc, rfl, fun j u hu => ?_, r1, r2, r3⟩
  rw [← e, List.getElem?_take] at hu
  by_cases hj : j < 19
  ·rw [if_pos hj, List.getElem?_drop] at hu
   rw [h1.cellAt (k * 19 + j) (by omega)]
   exact hu
  ·rw [if_neg hj] at hu
   cases hu
def GenTx (d : List F) (c : List Cl) : Prop := d.length ≤ 2 ∧ (∀ f ∈ d, Feat f) ∧ GenCl c
def GenA (i : Nat) (f : Fil) : Prop := f.file = 5 * (i : Int) ∧ (0 ≤ f.office ∧ f.office ≤ 1) ∧ (1 ≤ f.party ∧ f.party ≤ 2) ∧ (f.other = -1 ∨ ∃ j : Nat, j < i ∧ f.other = 5 * (j : Int)) ∧ GenTx f.d f.c ∧ f.e.length ≤ 2 ∧
 (∀ p ∈ f.e, (∃ j : Nat, j < i ∧ p.1 = 5 * (j : Int)) ∧ 0 ≤ p.2 ∧ p.2 ≤ 100001) ∧ (f.e.map Prod.fst).Nodup
def GenL (l : List Fil) : Prop := l.length ≤ 14 ∧ ∀ i (h : i < l.length), GenA i l[i] ∧ 0 ≤ l[i].day ∧ l[i].day ≤ 100000 ∧ 0 ≤ l[i].known ∧ l[i].known ≤ 100
end Go.Proofs.YtbeaijjaecaidaaGreatDoor
