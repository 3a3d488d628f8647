/- Trees of logs in the reference: Half, Root, Path. logtree.Check of any log: what follows from an entry and its path. logtree.Check of any log, with a path of the right length; copies of any log. head.formed and head.Check of any head. copies.Check of copies of any log. Bytes of which exactly one is changed have another sum. -/
import Derived.Test.YtbeaijjaecaidaaGreatDoorG18
import Derived.Test.YtbeaijjaecaidaaGreatDoorE01
namespace Go.Proofs.YtbeaijjaecaidaaGreatDoor
open Go.RowKit Go.Shelf
attribute [local go_sem] Oper.semAt_some
theorem half_step {n k : Nat} (hn : n ≤ 16) (hk : k = 1 ∨ ((k = 2 ∨ k = 4 ∨ k = 8 ∨ k = 16) ∧ k < n)) (h : 2 * k < n) : (2 * k = 2 ∨ 2 * k = 4 ∨ 2 * k = 8 ∨ 2 * k = 16) ∧ 2 * k < n := by omega
theorem half_done {n k : Nat} (hn : n ≤ 16) (h2 : 2 ≤ n) (hk : k = 1 ∨ ((k = 2 ∨ k = 4 ∨ k = 8 ∨ k = 16) ∧ k < n)) (h : ¬ 2 * k < n) : k = halfN n := by
 unfold halfN
 split
 ·omega
 ·split
  ·omega
  ·split <;> omega
set_option maxHeartbeats 1000000 in
theorem refhalf_any (n : Nat) (h2 : 2 ≤ n) (hn : n ≤ 16) (w : World) :
  Calls Tryz.prog 69 #[.int .i64 (n : Int)] w fun e w' => e = .returned (.int .i64 (halfN n : Int)) ∧ w' = w := by
 go_enter Tryz.func69, Tryz.ntmps69
 go_wp2_with fail
 go_loopw [3] (fun j W => ∃ k : Nat, j = .int .i64 (k : Int) ∧ (k = 1 ∨ ((k = 2 ∨ k = 4 ∨ k = 8 ∨ k = 16) ∧ k < n)) ∧ w = W) (fun j _ => n - (intOf j).toNat)
 case atStart => exact ⟨1, rfl, .inl rfl, rfl⟩
 case round =>
  obtain ⟨k, rfl, hk, rfl⟩ := hrel
  have hw2 : IntKind.i64.wrap (2 * (k : Int)) = ((2 * k : Nat) : Int) := by rw [IntKind.wrap_i64]; omega
  by_cases hlt : 2 * k < n
  ·have hs := half_step hn hk hlt
   have hd : decide (((2 * k : Nat) : Int) < (n : Int)) = true := decide_eq_true (by omega)
   generalize h2k : 2 * k = k2 at *
   go_wp2_with fail
   go_roundw
   case rel => exact ⟨k2, by go_num, .inr hs, trivial⟩
   case measure => simp [intOf]; omega
  ·have hd : decide (((2 * k : Nat) : Int) < (n : Int)) = false := decide_eq_false (by omega)
   have hf := half_done hn h2 hk hlt
   generalize h2k : 2 * k = k2 at *
   go_wp2_with fail
   go_ret
   exact ⟨by rw [hf]; rfl, rfl⟩
set_option maxRecDepth 100000 in
set_option maxHeartbeats 2000000 in
theorem exec_suffix {t e : TypeId} (ht : Tryz.prog.underlying t = some (.slice e)) (hs : ∀ w, (sizeOf e).run Tryz.prog w = .ok 1 w) (d : Option Tmp) (ty : TypeId) (pos : String) (after : Array Edge) (gd : Option (Nat × Bool)) (r : Operand → Value) (x y : Operand) (b o n c m : Nat)
  (h0 : r x = .slice (some ⟨b, o, none⟩) n c) (h1 : r y = .int .i64 (m : Int)) (hm : m ≤ n) (hmc : m < c) (w : World) :
  (execOp r ⟨d, .slice t x (some y) none none, ty, pos, after, gd⟩).run Tryz.prog w = .ok (.value (.slice (some ⟨b, o + m, none⟩) (n - m) (c - m))) w := by
 simp only [execOp]
 go_simp
 intro h
 omega
theorem sizeU64 (w : World) : (sizeOf 27).run Tryz.prog w = .ok 1 w := by kernel_rfl
set_option maxRecDepth 100000 in
set_option maxHeartbeats 4000000 in
theorem refroot_any (f : Nat) : ∀ (l : List Nat) (b o c : Nat) (w : World), l.length ≤ f → l.length ≤ 16 → 1 ≤ l.length → l.length ≤ c → Words l → (∀ (k : Nat) (hk : k < l.length), w.cell? ⟨b, o + k, none⟩ = some (.int .u64 (l[k] : Int))) →
  Calls Tryz.prog 28 #[.slice (some ⟨b, o, none⟩) l.length c] w fun e w' => e = .returned (.int .u64 (rootF f l : Int)) ∧ Below w.heap.size w w' := by
 induction f with
 | zero => intro l b o c w h0 _ h1; omega
 | succ f ih =>
  intro l b o c w hf h16 h1 hc hw hcell
  by_cases e1 : l.length = 1
  ·have hh : rootF (f + 1) l = leafN l[0] := by
    rw [rootF, if_neg (by omega), if_pos e1]
    simp [List.getD, e1]
   rw [hh, e1]
   exact refroot_one l[0] (hw _ (List.getElem_mem _)) b o c w (hcell 0 (by omega))
  ·have hb := halfN_bd (n := l.length) (by omega)
   have e2 : rootF (f + 1) l = nodeN (rootF f (l.take (halfN l.length))) (rootF f (l.drop (halfN l.length))) := by
    rw [rootF]; rw [if_neg (by omega), if_neg e1]
   have hlt : (l.take (halfN l.length)).length = halfN l.length := by rw [List.length_take]; omega
   have hld : (l.drop (halfN l.length)).length = l.length - halfN l.length := List.length_drop
   have HA := Lib.hid (fun (W : World) (hW : Below w.heap.size w W) => ih (l.take (halfN l.length)) b o c W (by omega) (by omega) (by omega) (by omega) (fun x hx => hw x (List.mem_of_mem_take hx)) (fun k hk => by
    rw [List.getElem_take]
    have h9 := hcell k (by omega)
    exact (hW.cell (World.block_lt_of_cell? _ _ h9)).trans h9))
   have HB := Lib.hid (fun (W : World) (hW : Below w.heap.size w W) => ih (l.drop (halfN l.length)) b (o + halfN l.length) (c - halfN l.length) W (by omega) (by omega) (by omega) (by omega) (fun x hx => hw x (List.mem_of_mem_drop hx)) (fun k hk => by
    rw [List.getElem_drop, Nat.add_assoc]
    have h9 := hcell (halfN l.length + k) (by omega)
    exact (hW.cell (World.block_lt_of_cell? _ _ h9)).trans h9))
   rw [hlt] at HA
   rw [hld] at HB
   have HN := Lib.hid (fun (W : World) => refnode_any (rootF f (l.take (halfN l.length))) (rootF f (l.drop (halfN l.length))) (root_lt _ _) (root_lt _ _) W)
   rw [← e2] at HN
   have HH := Lib.hid (fun (W : World) => refhalf_any l.length (by omega) h16 W)
   have ez : ((l.length : Int) == 0) = false := by rw [beq_eq_false_iff_ne]; omega
   have eo : ((l.length : Int) == 1) = false := by rw [beq_eq_false_iff_ne]; omega
   clear e2 hlt hld hcell hw ih
   generalize rootF (f + 1) l = R at *
   generalize rootF f (l.take (halfN l.length)) = RA at *
   generalize rootF f (l.drop (halfN l.length)) = RB at *
   generalize halfN l.length = k at *
   generalize l.length = n at *
   go_enter Tryz.func28, Tryz.ntmps28
   go_wp2_with fail
   refine (HH.out _).mono ?_
   rintro e w1 ⟨rfl, rfl⟩
   go_upto_region 6 with fail
   refine wp_region_held_drew (S := (fun V => Below w1.heap.size w1 V)) (by kernel_rfl) ?_ (fun hHeld => ?_)
   ·first | done | ((try dsimp only); exact (Below.refl _ _).drew)
   have PW := (Below.refl w1.heap.size w1).drew
   generalize w1.drew = wd at *
   refine tk 0 18 ?_ rfl ?_ ?_
   rotate_left
   ·(intro w' hSw; (try dsimp only at hSw); go_simp; try (with_reducible rfl))
   (try simp only [pS, pB, pZ, pC])
   refine tk 1 19 ?_ rfl ?_ ?_
   rotate_left
   ·(intro w' hSw; (try dsimp only at hSw); go_simp; try (with_reducible rfl))
   (try simp only [pS, pB, pZ, pC])
   refine tk 2 20 ?_ rfl ?_ ?_
   rotate_left
   ·(intro w' hSw; (try dsimp only at hSw); (refine exec_prefix Tryz.underlying42 sizeU64 _ _ _ _ _ _ (.tmp 18) (.tmp 19) b o n c k ?_ ?_ ?_ _; rfl; rfl; omega); try (with_reducible rfl))
   (try simp only [pS, pB, pZ, pC])
   refine tk 4 22 ?_ rfl ?_ ?_
   rotate_left
   ·(intro w' hSw; (try dsimp only at hSw); go_simp; try (with_reducible rfl))
   (try simp only [pS, pB, pZ, pC])
   refine tk 5 23 ?_ rfl ?_ ?_
   rotate_left
   ·(intro w' hSw; (try dsimp only at hSw); go_simp; try (with_reducible rfl))
   (try simp only [pS, pB, pZ, pC])
   refine tk 6 24 ?_ rfl ?_ ?_
   rotate_left
   ·(intro w' hSw; (try dsimp only at hSw); (refine exec_suffix Tryz.underlying42 sizeU64 _ _ _ _ _ _ (.tmp 22) (.tmp 23) b o n c k ?_ ?_ ?_ ?_ _; rfl; rfl; omega; omega); try (with_reducible rfl))
   (try simp only [pS, pB, pZ, pC])
   refine rd 3 (some 21) (by kernel_rfl) rfl fun K hK => ?_
   go_simp
   (refine (HA.out _ PW).mono ?_; rintro e w2 ⟨rfl, hb2⟩)
   refine hK.out _ _ ?_ (fun hHeld => ?_)
   ·first | done | ((try dsimp only); exact PW.trans (hb2.mono PW.size))
   clear hK K
   (try simp only [pS, pB, pZ, pC])
   have P2 := PW.trans (hb2.mono PW.size)
   refine rd 7 (some 25) (by kernel_rfl) rfl fun K hK => ?_
   go_simp
   (refine (HB.out _ P2).mono ?_; rintro e w3 ⟨rfl, hb3⟩)
   refine hK.out _ _ ?_ (fun hHeld => ?_)
   ·first | done | ((try dsimp only); exact P2.trans (hb3.mono P2.size))
   clear hK K
   (try simp only [pS, pB, pZ, pC])
   have P3 := P2.trans (hb3.mono P2.size)
   refine rd 8 (some 26) (by kernel_rfl) rfl fun K hK => ?_
   go_simp
   (refine (HN.out _).mono ?_; rintro e w4 ⟨rfl, hb4⟩)
   refine hK.out _ _ ?_ (fun hHeld => ?_)
   ·first | done | ((try dsimp only); exact P3.trans (hb4.mono P3.size))
   clear hK K
   (try simp only [pS, pB, pZ, pC])
   have P4 := P3.trans (hb4.mono P3.size)
   refine tk 9 2 ?_ rfl ?_ ?_
   rotate_left
   ·(intro w' hSw; (try dsimp only at hSw); go_simp; try (with_reducible rfl))
   (try simp only [pS, pB, pZ, pC])
   refine wpAnyH_done (by kernel_rfl) ?_ _
   go_wp2_with fail
   go_ret
   exact ⟨rfl, P4⟩
theorem OwnM.mono {ts : List TypeId} {H : List Nat} {w : World} {base base' : Nat} {e : TypeId} {size : Nat} {v : Value} {ds : List D} (h : OwnM ts H w base e size v ds) (hb : base' ≤ base) : OwnM ts H w base' e size v ds := by
 obtain ⟨n, xs, h1, h2⟩ := h
 refine ⟨n, xs, ⟨h1.1, ?_⟩, h2⟩
 rcases h1.2 with h | ⟨g, cap, cur, q1, q2, q3⟩
 ·exact .inl h
 ·exact .inr ⟨g, cap, cur, q1, Nat.le_trans hb q2, q3⟩
set_option maxRecDepth 100000 in
set_option maxHeartbeats 4000000 in
theorem refpath_any (f : Nat) : ∀ (l : List Nat) (i b o c : Nat) (w : World), f ≤ 100 → l.length ≤ f → l.length ≤ 16 → i < l.length → l.length ≤ c → Words l → (∀ (k : Nat) (hk : k < l.length), w.cell? ⟨b, o + k, none⟩ = some (.int .u64 (l[k] : Int))) →
  Calls Tryz.prog 42 #[.slice (some ⟨b, o, none⟩) l.length c, .int .i64 (i : Int)] w fun e w' => ∃ u, e = .returned u ∧ OwnU w' w.heap.size u (pathF f l i) ∧ Below w.heap.size w w' := by
 induction f with
 | zero => intro l i b o c w _ h0 _ h1; omega
 | succ f ih =>
  intro l i b o c w hf100 hf h16 hi hc hw hcell
  by_cases e1 : l.length = 1
  ·have hh : pathF (f + 1) l i = [] := by rw [pathF, if_pos e1]
   rw [hh, e1]
   refine (refpath_one (some ⟨b, o, none⟩) c (i : Int) w).mono ?_
   rintro e w' ⟨rfl, rfl⟩
   exact ⟨_, rfl, OwnU.nil _ _, Below.refl _ _⟩
  ·have hb := halfN_bd (n := l.length) (by omega)
   have e2 : pathF (f + 1) l i = if i < halfN l.length then pathF f (l.take (halfN l.length)) i ++ [rootF f (l.drop (halfN l.length))] else pathF f (l.drop (halfN l.length)) (i - halfN l.length) ++ [rootF f (l.take (halfN l.length))] := by
    rw [pathF]; rw [if_neg e1]
   have hlt : (l.take (halfN l.length)).length = halfN l.length := by rw [List.length_take]; omega
   have hld : (l.drop (halfN l.length)).length = l.length - halfN l.length := List.length_drop
   have hcA : ∀ (W : World), Below w.heap.size w W → ∀ (k : Nat) (hk : k < (l.take (halfN l.length)).length), W.cell? ⟨b, o + k, none⟩ = some (.int .u64 ((l.take (halfN l.length))[k] : Int)) := fun W hW k hk => by
    rw [List.getElem_take]
    have h9 := hcell k (by omega)
    exact (hW.cell (World.block_lt_of_cell? _ _ h9)).trans h9
   have hcB : ∀ (W : World), Below w.heap.size w W → ∀ (k : Nat) (hk : k < (l.drop (halfN l.length)).length), W.cell? ⟨b, o + halfN l.length + k, none⟩ = some (.int .u64 ((l.drop (halfN l.length))[k] : Int)) := fun W hW k hk => by
    rw [List.getElem_drop, Nat.add_assoc]
    have h9 := hcell (halfN l.length + k) (by omega)
    exact (hW.cell (World.block_lt_of_cell? _ _ h9)).trans h9
   have hwA : Words (l.take (halfN l.length)) := fun x hx => hw x (List.mem_of_mem_take hx)
   have hwB : Words (l.drop (halfN l.length)) := fun x hx => hw x (List.mem_of_mem_drop hx)
   have HH := Lib.hid (fun (W : World) => refhalf_any l.length (by omega) h16 W)
   have eo : ((l.length : Int) == 1) = false := by rw [beq_eq_false_iff_ne]; omega
   have HPL := path_len f
   by_cases hk : i < halfN l.length
   ·have HA := Lib.hid (fun (W : World) (hW : Below w.heap.size w W) => ih (l.take (halfN l.length)) i b o c W (by omega) (by omega) (by omega) (by omega) (by omega) hwA (hcA W hW))
    have HB := Lib.hid (fun (W : World) (hW : Below w.heap.size w W) => refroot_any f (l.drop (halfN l.length)) b (o + halfN l.length) (c - halfN l.length) W (by omega) (by omega) (by omega) (by omega) hwB (hcB W hW))
    rw [hlt] at HA
    rw [hld] at HB
    rw [if_pos hk] at e2
    have HE := Lib.hid e2
    have hpl := HPL (l.take (halfN l.length)) i
    have hdk : decide ((i : Int) < (halfN l.length : Int)) = true := decide_eq_true (by omega)
    clear e2 hlt hld hcell hw ih hcA hcB hwA hwB HPL
    generalize pathF (f + 1) l i = PP at *
    generalize pathF f (l.take (halfN l.length)) i = PA at *
    generalize rootF f (l.drop (halfN l.length)) = RB at *
    generalize halfN l.length = k at *
    generalize l.length = n at *
    go_enter Tryz.func42, Tryz.ntmps42
    go_wp2_with fail
    refine (HH.out _).mono ?_
    rintro e w1 ⟨rfl, rfl⟩
    go_upto_region 5 with fail
    refine wp_region_held_drew (S := (fun V => Below w1.heap.size w1 V)) (by kernel_rfl) ?_ (fun hHeld => ?_)
    ·first | done | ((try dsimp only); exact (Below.refl _ _).drew)
    have PW := (Below.refl w1.heap.size w1).drew
    generalize w1.drew = wd at *
    refine tk 0 15 ?_ rfl ?_ ?_
    rotate_left
    ·(intro w' hSw; (try dsimp only at hSw); go_simp; try (with_reducible rfl))
    (try simp only [pS, pB, pZ, pC])
    refine tk 1 16 ?_ rfl ?_ ?_
    rotate_left
    ·(intro w' hSw; (try dsimp only at hSw); go_simp; try (with_reducible rfl))
    (try simp only [pS, pB, pZ, pC])
    refine tk 2 17 ?_ rfl ?_ ?_
    rotate_left
    ·(intro w' hSw; (try dsimp only at hSw); (refine exec_prefix Tryz.underlying42 sizeU64 _ _ _ _ _ _ (.tmp 15) (.tmp 16) b o n c k ?_ ?_ ?_ _; rfl; rfl; omega); try (with_reducible rfl))
    (try simp only [pS, pB, pZ, pC])
    refine tk 3 18 ?_ rfl ?_ ?_
    rotate_left
    ·(intro w' hSw; (try dsimp only at hSw); go_simp; try (with_reducible rfl))
    (try simp only [pS, pB, pZ, pC])
    refine tk 5 20 ?_ rfl ?_ ?_
    rotate_left
    ·(intro w' hSw; (try dsimp only at hSw); go_simp; try (with_reducible rfl))
    (try simp only [pS, pB, pZ, pC])
    refine tk 6 21 ?_ rfl ?_ ?_
    rotate_left
    ·(intro w' hSw; (try dsimp only at hSw); go_simp; try (with_reducible rfl))
    (try simp only [pS, pB, pZ, pC])
    refine tk 7 22 ?_ rfl ?_ ?_
    rotate_left
    ·(intro w' hSw; (try dsimp only at hSw); (refine exec_suffix Tryz.underlying42 sizeU64 _ _ _ _ _ _ (.tmp 20) (.tmp 21) b o n c k ?_ ?_ ?_ ?_ _; rfl; rfl; omega; omega); try (with_reducible rfl))
    (try simp only [pS, pB, pZ, pC])
    refine rd 4 (some 19) (by kernel_rfl) rfl fun K hK => ?_
    go_simp
    (refine (HA.out _ PW).mono ?_; rintro e w2 ⟨u2, rfl, o2, hb2⟩)
    refine hK.out _ _ ?_ (fun hHeld => ?_)
    ·first | done | ((try dsimp only); exact PW.trans (hb2.mono PW.size))
    clear hK K
    (try simp only [pS, pB, pZ, pC])
    have P2 := PW.trans (hb2.mono PW.size)
    refine rd 8 (some 23) (by kernel_rfl) rfl fun K hK => ?_
    go_simp
    (refine (HB.out _ P2).mono ?_; rintro e w3 ⟨rfl, hb3⟩)
    refine hK.out _ _ ?_ (fun hHeld => ?_)
    ·first | done | ((try dsimp only); exact P2.trans (hb3.mono P2.size))
    clear hK K
    (try simp only [pS, pB, pZ, pC])
    have P3 := P2.trans (hb3.mono P2.size)
    obtain ⟨Au, nu, cu, rfl, hnu, _⟩ := OwnM.slice o2
    refine rd 9 (some 24) (by kernel_rfl) rfl fun K hK => ?_
    go_simp
    skip
    refine hK.out _ _ ?_ (fun hHeld => ?_)
    ·first | done | ((try dsimp only); exact P3.alloc P3.size _)
    clear hK K
    (try simp only [pS, pB, pZ, pC])
    have P4 := P3.alloc P3.size (.cells #[.int .u64 (RB : Int)] 27)
    have RA := Blk.new w3 27 #[.int .u64 (RB : Int)]
    have Q4 := hb3.alloc hb3.size (.cells #[.int .u64 (RB : Int)] 27)
    have OA := OwnM.mono (OwnM.step o2 (grown_of_below (row := none) Q4) (fun _ e => by cases e) (H' := []) (fun _ hi => .inl hi)) PW.size
    have NA : RepML [] ((Value.slice Au nu cu).ownBlock.toList ++ []) (w3.alloc (.cells #[.int .u64 (RB : Int)] 27)) #[Value.int .u64 (RB : Int)].toList (valD [Value.int .u64 (RB : Int)]) := RepL.of_plain _ _ _
    have hvd := valD_length (us PA)
    have hus := us_length PA
    clear o2 hnu
    refine rd 10 (some 25) (by kernel_rfl) rfl fun K hK => ?_
    rw [if_pos (by rfl)]
    refine wp_appM Tryz.underlying42 Tryz.info27 rfl (by omega) (by omega) OA RA rfl (by kernel_rfl) NA (by omega) (by omega) P4.size _ _ rfl rfl rfl (fun v9 w9 o9 g9 l9 => ?_)
    have P9 := P4.grown g9 P4.size (fun k e => (OA.lt k e).1)
    refine hK.out _ _ ?_ (fun hHeld => ?_)
    ·exact P9
    clear hK K
    (try simp only [pS, pB, pZ, pC])
    refine tk 11 4 ?_ rfl ?_ ?_
    rotate_left
    ·(intro w' hSw; (try dsimp only at hSw); go_simp; try (with_reducible rfl))
    (try simp only [pS, pB, pZ, pC])
    refine wpAnyH_done (by kernel_rfl) ?_ _
    have O9 : OwnU w9 w1.heap.size v9 (PA ++ [RB]) := by
     unfold OwnU us valD
     rw [List.map_append, List.map_append]
     exact o9
    rw [← HE.out] at O9
    have HO9 := Lib.hid O9
    clear O9 o9 OA NA RA P4 g9 l9 hHeld
    go_wp2_with fail
    go_ret
    exact ⟨_, rfl, HO9.out, P9⟩
   ·have HA := Lib.hid (fun (W : World) (hW : Below w.heap.size w W) => ih (l.drop (halfN l.length)) (i - halfN l.length) b (o + halfN l.length) (c - halfN l.length) W (by omega) (by omega) (by omega) (by omega) (by omega) hwB (hcB W hW))
    have HB := Lib.hid (fun (W : World) (hW : Below w.heap.size w W) => refroot_any f (l.take (halfN l.length)) b o c W (by omega) (by omega) (by omega) (by omega) hwA (hcA W hW))
    rw [hld] at HA
    rw [hlt] at HB
    rw [if_neg hk] at e2
    have HE := Lib.hid e2
    have hpl := HPL (l.drop (halfN l.length)) (i - halfN l.length)
    have hdk : decide ((i : Int) < (halfN l.length : Int)) = false := decide_eq_false (by omega)
    have hsub : IntKind.i64.wrap ((i : Int) - (halfN l.length : Int)) = ((i - halfN l.length : Nat) : Int) := by rw [IntKind.wrap_i64]; omega
    clear e2 hlt hld hcell hw ih hcA hcB hwA hwB HPL
    generalize pathF (f + 1) l i = PP at *
    generalize i - halfN l.length = j at *
    generalize pathF f (l.drop (halfN l.length)) j = PA at *
    generalize rootF f (l.take (halfN l.length)) = RB at *
    generalize halfN l.length = k at *
    generalize l.length = n at *
    go_enter Tryz.func42, Tryz.ntmps42
    go_wp2_with fail
    refine (HH.out _).mono ?_
    rintro e w1 ⟨rfl, rfl⟩
    go_upto_region 6 with fail
    refine wp_region_held_drew (S := (fun V => Below w1.heap.size w1 V)) (by kernel_rfl) ?_ (fun hHeld => ?_)
    ·first | done | ((try dsimp only); exact (Below.refl _ _).drew)
    have PW := (Below.refl w1.heap.size w1).drew
    generalize w1.drew = wd at *
    refine tk 0 26 ?_ rfl ?_ ?_
    rotate_left
    ·(intro w' hSw; (try dsimp only at hSw); go_simp; try (with_reducible rfl))
    (try simp only [pS, pB, pZ, pC])
    refine tk 1 27 ?_ rfl ?_ ?_
    rotate_left
    ·(intro w' hSw; (try dsimp only at hSw); go_simp; try (with_reducible rfl))
    (try simp only [pS, pB, pZ, pC])
    refine tk 2 28 ?_ rfl ?_ ?_
    rotate_left
    ·(intro w' hSw; (try dsimp only at hSw); (refine exec_suffix Tryz.underlying42 sizeU64 _ _ _ _ _ _ (.tmp 26) (.tmp 27) b o n c k ?_ ?_ ?_ ?_ _; rfl; rfl; omega; omega); try (with_reducible rfl))
    (try simp only [pS, pB, pZ, pC])
    refine tk 3 29 ?_ rfl ?_ ?_
    rotate_left
    ·(intro w' hSw; (try dsimp only at hSw); go_simp; try (with_reducible rfl))
    (try simp only [pS, pB, pZ, pC])
    refine tk 4 30 ?_ rfl ?_ ?_
    rotate_left
    ·(intro w' hSw; (try dsimp only at hSw); go_simp; try (with_reducible rfl))
    (try simp only [pS, pB, pZ, pC])
    refine tk 5 31 ?_ rfl ?_ ?_
    rotate_left
    ·(intro w' hSw; (try dsimp only at hSw); go_simp; try (with_reducible rfl))
    (try simp only [pS, pB, pZ, pC])
    refine tk 7 33 ?_ rfl ?_ ?_
    rotate_left
    ·(intro w' hSw; (try dsimp only at hSw); go_simp; try (with_reducible rfl))
    (try simp only [pS, pB, pZ, pC])
    refine tk 8 34 ?_ rfl ?_ ?_
    rotate_left
    ·(intro w' hSw; (try dsimp only at hSw); go_simp; try (with_reducible rfl))
    (try simp only [pS, pB, pZ, pC])
    refine tk 9 35 ?_ rfl ?_ ?_
    rotate_left
    ·(intro w' hSw; (try dsimp only at hSw); (refine exec_prefix Tryz.underlying42 sizeU64 _ _ _ _ _ _ (.tmp 33) (.tmp 34) b o n c k ?_ ?_ ?_ _; rfl; rfl; omega); try (with_reducible rfl))
    (try simp only [pS, pB, pZ, pC])
    refine rd 6 (some 32) (by kernel_rfl) rfl fun K hK => ?_
    go_simp
    (refine (HA.out _ PW).mono ?_; rintro e w2 ⟨u2, rfl, o2, hb2⟩)
    refine hK.out _ _ ?_ (fun hHeld => ?_)
    ·first | done | ((try dsimp only); exact PW.trans (hb2.mono PW.size))
    clear hK K
    (try simp only [pS, pB, pZ, pC])
    have P2 := PW.trans (hb2.mono PW.size)
    refine rd 10 (some 36) (by kernel_rfl) rfl fun K hK => ?_
    go_simp
    (refine (HB.out _ P2).mono ?_; rintro e w3 ⟨rfl, hb3⟩)
    refine hK.out _ _ ?_ (fun hHeld => ?_)
    ·first | done | ((try dsimp only); exact P2.trans (hb3.mono P2.size))
    clear hK K
    (try simp only [pS, pB, pZ, pC])
    have P3 := P2.trans (hb3.mono P2.size)
    obtain ⟨Au, nu, cu, rfl, hnu, _⟩ := OwnM.slice o2
    refine rd 11 (some 37) (by kernel_rfl) rfl fun K hK => ?_
    go_simp
    skip
    refine hK.out _ _ ?_ (fun hHeld => ?_)
    ·first | done | ((try dsimp only); exact P3.alloc P3.size _)
    clear hK K
    (try simp only [pS, pB, pZ, pC])
    have P4 := P3.alloc P3.size (.cells #[.int .u64 (RB : Int)] 27)
    have RA := Blk.new w3 27 #[.int .u64 (RB : Int)]
    have Q4 := hb3.alloc hb3.size (.cells #[.int .u64 (RB : Int)] 27)
    have OA := OwnM.mono (OwnM.step o2 (grown_of_below (row := none) Q4) (fun _ e => by cases e) (H' := []) (fun _ hi => .inl hi)) PW.size
    have NA : RepML [] ((Value.slice Au nu cu).ownBlock.toList ++ []) (w3.alloc (.cells #[.int .u64 (RB : Int)] 27)) #[Value.int .u64 (RB : Int)].toList (valD [Value.int .u64 (RB : Int)]) := RepL.of_plain _ _ _
    have hvd := valD_length (us PA)
    have hus := us_length PA
    clear o2 hnu
    refine rd 12 (some 38) (by kernel_rfl) rfl fun K hK => ?_
    rw [if_pos (by rfl)]
    refine wp_appM Tryz.underlying42 Tryz.info27 rfl (by omega) (by omega) OA RA rfl (by kernel_rfl) NA (by omega) (by omega) P4.size _ _ rfl rfl rfl (fun v9 w9 o9 g9 l9 => ?_)
    have P9 := P4.grown g9 P4.size (fun k e => (OA.lt k e).1)
    refine hK.out _ _ ?_ (fun hHeld => ?_)
    ·exact P9
    clear hK K
    (try simp only [pS, pB, pZ, pC])
    refine tk 13 4 ?_ rfl ?_ ?_
    rotate_left
    ·(intro w' hSw; (try dsimp only at hSw); go_simp; try (with_reducible rfl))
    (try simp only [pS, pB, pZ, pC])
    refine wpAnyH_done (by kernel_rfl) ?_ _
    have O9 : OwnU w9 w1.heap.size v9 (PA ++ [RB]) := by
     unfold OwnU us valD
     rw [List.map_append, List.map_append]
     exact o9
    rw [← HE.out] at O9
    have HO9 := Lib.hid O9
    clear O9 o9 OA NA RA P4 g9 l9 hHeld
    go_wp2_with fail
    go_ret
    exact ⟨_, rfl, HO9.out, P9⟩
end Go.Proofs.YtbeaijjaecaidaaGreatDoor
namespace Go.Proofs.YtbeaijjaecaidaaGreatDoor
open Go.RowKit Go.Shelf
attribute [local go_sem] Oper.semAt_some
set_option maxHeartbeats 1000000 in
theorem half_any (n : Nat) (h2 : 2 ≤ n) (hn : n ≤ 16) (w : World) :
  Calls Tryz.prog 73 #[.int .i64 (n : Int)] w fun e w' => e = .returned (.int .i64 (halfN n : Int)) ∧ w' = w := by
 go_enter Tryz.func73, Tryz.ntmps73
 go_wp2_with fail
 go_loopw [3] (fun j W => ∃ k : Nat, j = .int .i64 (k : Int) ∧ (k = 1 ∨ ((k = 2 ∨ k = 4 ∨ k = 8 ∨ k = 16) ∧ k < n)) ∧ w = W) (fun j _ => n - (intOf j).toNat)
 case atStart => exact ⟨1, rfl, .inl rfl, rfl⟩
 case round =>
  obtain ⟨k, rfl, hk, rfl⟩ := hrel
  have hw2 : IntKind.i64.wrap (2 * (k : Int)) = ((2 * k : Nat) : Int) := by rw [IntKind.wrap_i64]; omega
  have hw3 : IntKind.i64.wrap ((k : Int) * 2) = ((2 * k : Nat) : Int) := by rw [IntKind.wrap_i64]; omega
  by_cases hlt : 2 * k < n
  ·have hs := half_step hn hk hlt
   have hd : decide (((2 * k : Nat) : Int) < (n : Int)) = true := decide_eq_true (by omega)
   generalize h2k : 2 * k = k2 at *
   go_wp2_with fail
   go_roundw
   case rel => exact ⟨k2, by go_num, .inr hs, trivial⟩
   case measure => simp [intOf]; omega
  ·have hd : decide (((2 * k : Nat) : Int) < (n : Int)) = false := decide_eq_false (by omega)
   have hf := half_done hn h2 hk hlt
   generalize h2k : 2 * k = k2 at *
   go_wp2_with fail
   go_ret
   exact ⟨by rw [hf]; rfl, rfl⟩
theorem setCell_same {w : World} {g : Nat} {t : TypeId} {v : Value} (h : Blk w g t #[v]) : w.setCell ⟨g, 0, none⟩ v = w := by
 unfold Blk at h
 unfold World.setCell
 congr 1
 apply Array.ext_getElem?
 intro i
 rw [Array.getElem?_modify]
 by_cases hi : g = i
 ·subst hi
  rw [if_pos rfl, h]
  simp
 ·rw [if_neg hi]
def Climb (W : World) (bg bh bf h : Nat) : Prop :=
 Blk W bg 4 #[.bool true] ∧ Blk W bh 27 #[.int .u64 (h : Int)] ∧ Blk W bf 196 #[.func (.func 143) #[] #[.pointer (some ⟨bg, 0, none⟩), .pointer (some ⟨bh, 0, none⟩), .pointer (some ⟨bf, 0, none⟩)]]
theorem Climb.keep {W W' : World} {bg bh bf h : Nat} (hc : Climb W bg bh bf h) (hb : Below W.heap.size W W') : Climb W' bg bh bf h := ⟨hc.1.keep hb, hc.2.1.keep hb, hc.2.2.keep hb⟩
def RowU (W : World) (A : Option Addr) (ps : List Nat) : Prop := ∀ (k : Nat) (hk : k < ps.length), ∃ b o, A = some ⟨b, o, none⟩ ∧ W.cell? ⟨b, o + k, none⟩ = some (.int .u64 (ps[k] : Int))
theorem RowU.keep {W W' : World} {A : Option Addr} {ps : List Nat} (h : RowU W A ps) (hb : Below W.heap.size W W') : RowU W' A ps := fun k hk => by
 obtain ⟨b, o, e, hc⟩ := h k hk
 exact ⟨b, o, e, (hb.cell (World.block_lt_of_cell? _ _ hc)).trans hc⟩
theorem RowU.drop {W : World} {A : Option Addr} {ps : List Nat} (h : RowU W A ps) : RowU W A ps.dropLast := fun k hk => by
 rw [List.length_dropLast] at hk
 obtain ⟨b, o, e, hc⟩ := h k (by omega)
 exact ⟨b, o, e, by rw [List.getElem_dropLast]; exact hc⟩
set_option maxRecDepth 100000 in
set_option maxHeartbeats 4000000 in
theorem climb_any (h : Nat) (hh : h < 18446744073709551616) (bg bh bf : Nat) (f : Nat) : ∀ (i n : Nat) (ps : List Nat) (A : Option Addr) (c : Nat) (w : World), i < n → n ≤ 16 → ps.length ≤ 100 → ps.length ≤ c → Words ps → fitF f i n ps.length = true → RowU w A ps → Climb w bg bh bf h →
  Calls Tryz.prog 143 #[.int .i64 (i : Int), .int .i64 (n : Int), .slice A ps.length c, .pointer (some ⟨bg, 0, none⟩), .pointer (some ⟨bh, 0, none⟩), .pointer (some ⟨bf, 0, none⟩)] w fun e w' => e = .returned (.int .u64 (climbF f i n h ps : Int)) ∧ Below w.heap.size w w' := by
 induction f with
 | zero => intro i n ps A c w _ _ _ _ _ hf; simp [fitF] at hf
 | succ f ih =>
  intro i n ps A c w hi hn hp hc hw hf hr hC
  rw [fitF] at hf
  by_cases h1 : n = 1 ∨ ps.length = 0
  ·rw [if_pos h1] at hf
   obtain ⟨hn1, hl0⟩ := of_decide_eq_true hf
   have hps : ps = [] := List.eq_nil_of_length_eq_zero hl0
   subst hps hn1
   have hi0 : i = 0 := by omega
   subst hi0
   rw [climbF, if_pos h1]
   refine (climb_one h hh A c bg bh _ w hC.1 hC.2.1).mono ?_
   rintro e w' ⟨rfl, hb⟩
   rw [setCell_same hC.1] at hb
   exact ⟨rfl, hb⟩
  ·rw [if_neg h1] at hf
   obtain ⟨b, o, rfl, hlast⟩ := hr (ps.length - 1) (by omega)
   have hb := halfN_bd (n := n) (by omega)
   have hld : ps.dropLast.length = ps.length - 1 := List.length_dropLast
   have HH := Lib.hid (fun (W : World) => half_any n (by omega) hn W)
   have hgl : ps.getD (ps.length - 1) 0 = ps[ps.length - 1]'(by omega) := by
    simp [List.getD, show ps.length - 1 < ps.length by omega]
   have hx := hw (ps[ps.length - 1]'(by omega)) (List.getElem_mem _)
   have e2 : climbF (f + 1) i n h ps = if i < halfN n then nodeN (climbF f i (halfN n) h ps.dropLast) (ps[ps.length - 1]'(by omega)) else nodeN (ps[ps.length - 1]'(by omega)) (climbF f (i - halfN n) (n - halfN n) h ps.dropLast) := by
    rw [climbF]; rw [if_neg h1, hgl]
   have hwd := words_drop hw
   have hlc : ∀ W, Below w.heap.size w W → W.cell? ⟨b, o + (ps.length - 1), none⟩ = some (.int .u64 ((ps[ps.length - 1]'(by omega) : Nat) : Int)) := fun W hW => (hW.cell (World.block_lt_of_cell? _ _ hlast)).trans hlast
   have HL := Lib.hid hlc
   have en : ((n : Int) == 1) = false := by rw [beq_eq_false_iff_ne]; omega
   have el : decide (((ps.length - 1 : Nat) : Int) < 0) = false := decide_eq_false (by omega)
   have hls : IntKind.i64.wrap ((ps.length : Int) - 1) = ((ps.length - 1 : Nat) : Int) := by rw [IntKind.wrap_i64]; omega
   have HCb := Lib.hid (fun (W : World) (hW : Below w.heap.size w W) => (hC.keep hW).2.2.c1)
   by_cases hk : i < halfN n
   ·rw [if_pos hk] at hf e2
    have HI := Lib.hid (fun (W : World) (hW : Below w.heap.size w W) => ih i (halfN n) ps.dropLast (some ⟨b, o, none⟩) c W hk (by omega) (by omega) (by omega) hwd (by rw [hld]; exact hf) (hr.drop.keep hW) (hC.keep hW))
    rw [hld] at HI
    have HN := Lib.hid (fun (W : World) => node_any (climbF f i (halfN n) h ps.dropLast) (ps[ps.length - 1]'(by omega)) (climb_lt _ _ _ _ _) hx W)
    rw [← e2] at HN
    have hdk : decide ((i : Int) < (halfN n : Int)) = true := decide_eq_true (by omega)
    have hm1 : ps.length - 1 < ps.length := by omega
    clear e2 hld hr hC hw hwd ih hlc hlast hgl hx hf
    generalize climbF (f + 1) i n h ps = R at *
    generalize climbF f i (halfN n) h ps.dropLast = RA at *
    generalize ps[ps.length - 1]'(by omega) = x at *
    generalize halfN n = k at *
    generalize ps.length - 1 = m at *
    generalize ps.length = q at *
    go_enter Tryz.func143, Tryz.ntmps143
    go_wp2_with fail
    refine (HH.out _).mono ?_
    rintro e w1 ⟨rfl, rfl⟩
    go_upto_region 7 with fail
    refine wp_region_held_drew (S := (fun V => Below w1.heap.size w1 V)) (by kernel_rfl) ?_ (fun hHeld => ?_)
    ·first | done | ((try dsimp only); exact (Below.refl _ _).drew)
    have PW := (Below.refl w1.heap.size w1).drew
    generalize w1.drew = wd at *
    refine tk 0 37 ?_ rfl ?_ ?_
    rotate_left
    ·(intro w' hSw; (try dsimp only at hSw); (have hc := HCb.out _ hSw; go_simp); try (with_reducible rfl))
    (try simp only [pS, pB, pZ, pC])
    refine tk 1 38 ?_ rfl ?_ ?_
    rotate_left
    ·(intro w' hSw; (try dsimp only at hSw); go_simp; try (with_reducible rfl))
    (try simp only [pS, pB, pZ, pC])
    refine tk 2 39 ?_ rfl ?_ ?_
    rotate_left
    ·(intro w' hSw; (try dsimp only at hSw); go_simp; try (with_reducible rfl))
    (try simp only [pS, pB, pZ, pC])
    refine tk 3 40 ?_ rfl ?_ ?_
    rotate_left
    ·(intro w' hSw; (try dsimp only at hSw); go_simp; try (with_reducible rfl))
    (try simp only [pS, pB, pZ, pC])
    refine tk 4 41 ?_ rfl ?_ ?_
    rotate_left
    ·(intro w' hSw; (try dsimp only at hSw); go_simp; try (with_reducible rfl))
    (try simp only [pS, pB, pZ, pC])
    refine tk 5 42 ?_ rfl ?_ ?_
    rotate_left
    ·(intro w' hSw; (try dsimp only at hSw); (refine exec_prefix Tryz.underlying42 sizeU64 _ _ _ _ _ _ (.tmp 40) (.tmp 41) b o q c m ?_ ?_ ?_ _; rfl; rfl; omega); try (with_reducible rfl))
    (try simp only [pS, pB, pZ, pC])
    refine tk 7 44 ?_ rfl ?_ ?_
    rotate_left
    ·(intro w' hSw; (try dsimp only at hSw); go_simp; try (with_reducible rfl))
    (try simp only [pS, pB, pZ, pC])
    refine tk 8 45 ?_ rfl ?_ ?_
    rotate_left
    ·(intro w' hSw; (try dsimp only at hSw); go_simp; try (with_reducible rfl))
    (try simp only [pS, pB, pZ, pC])
    refine tk 9 46 ?_ rfl ?_ ?_
    rotate_left
    ·(intro w' hSw; (try dsimp only at hSw); go_simp; try (with_reducible rfl))
    (try simp only [pS, pB, pZ, pC])
    refine tk 10 47 ?_ rfl ?_ ?_
    rotate_left
    ·(intro w' hSw; (try dsimp only at hSw); (have hc := HL.out _ hSw; go_simp); try (with_reducible rfl))
    (try simp only [pS, pB, pZ, pC])
    refine rd 6 (some 43) (by kernel_rfl) rfl fun K hK => ?_
    go_simp
    (refine (HI.out _ PW).mono ?_; rintro e w2 ⟨rfl, hb2⟩)
    refine hK.out _ _ ?_ (fun hHeld => ?_)
    ·first | done | ((try dsimp only); exact PW.trans (hb2.mono PW.size))
    clear hK K
    (try simp only [pS, pB, pZ, pC])
    have P2 := PW.trans (hb2.mono PW.size)
    refine rd 11 (some 48) (by kernel_rfl) rfl fun K hK => ?_
    go_simp
    (refine (HN.out _).mono ?_; rintro e w3 ⟨rfl, hb3⟩)
    refine hK.out _ _ ?_ (fun hHeld => ?_)
    ·first | done | ((try dsimp only); exact P2.trans (hb3.mono P2.size))
    clear hK K
    (try simp only [pS, pB, pZ, pC])
    have P3 := P2.trans (hb3.mono P2.size)
    refine tk 12 9 ?_ rfl ?_ ?_
    rotate_left
    ·(intro w' hSw; (try dsimp only at hSw); go_simp; try (with_reducible rfl))
    (try simp only [pS, pB, pZ, pC])
    refine wpAnyH_done (by kernel_rfl) ?_ _
    go_wp2_with fail
    go_ret
    exact ⟨rfl, P3⟩
   ·rw [if_neg hk] at hf e2
    have HI := Lib.hid (fun (W : World) (hW : Below w.heap.size w W) => ih (i - halfN n) (n - halfN n) ps.dropLast (some ⟨b, o, none⟩) c W (by omega) (by omega) (by omega) (by omega) hwd (by rw [hld]; exact hf) (hr.drop.keep hW) (hC.keep hW))
    rw [hld] at HI
    have HN := Lib.hid (fun (W : World) => node_any (ps[ps.length - 1]'(by omega)) (climbF f (i - halfN n) (n - halfN n) h ps.dropLast) hx (climb_lt _ _ _ _ _) W)
    rw [← e2] at HN
    have hdk : decide ((i : Int) < (halfN n : Int)) = false := decide_eq_false (by omega)
    have hm1 : ps.length - 1 < ps.length := by omega
    have hsi : IntKind.i64.wrap ((i : Int) - (halfN n : Int)) = ((i - halfN n : Nat) : Int) := by rw [IntKind.wrap_i64]; omega
    have hsn : IntKind.i64.wrap ((n : Int) - (halfN n : Int)) = ((n - halfN n : Nat) : Int) := by rw [IntKind.wrap_i64]; omega
    clear e2 hld hr hC hw hwd ih hlc hlast hgl hx hf
    generalize climbF (f + 1) i n h ps = R at *
    generalize i - halfN n = i2 at *
    generalize n - halfN n = n2 at *
    generalize climbF f i2 n2 h ps.dropLast = RA at *
    generalize ps[ps.length - 1]'(by omega) = x at *
    generalize halfN n = k at *
    generalize ps.length - 1 = m at *
    generalize ps.length = q at *
    go_enter Tryz.func143, Tryz.ntmps143
    go_wp2_with fail
    refine (HH.out _).mono ?_
    rintro e w1 ⟨rfl, rfl⟩
    go_upto_region 8 with fail
    refine wp_region_held_drew (S := (fun V => Below w1.heap.size w1 V)) (by kernel_rfl) ?_ (fun hHeld => ?_)
    ·first | done | ((try dsimp only); exact (Below.refl _ _).drew)
    have PW := (Below.refl w1.heap.size w1).drew
    generalize w1.drew = wd at *
    refine tk 0 49 ?_ rfl ?_ ?_
    rotate_left
    ·(intro w' hSw; (try dsimp only at hSw); go_simp; try (with_reducible rfl))
    (try simp only [pS, pB, pZ, pC])
    refine tk 1 50 ?_ rfl ?_ ?_
    rotate_left
    ·(intro w' hSw; (try dsimp only at hSw); go_simp; try (with_reducible rfl))
    (try simp only [pS, pB, pZ, pC])
    refine tk 2 51 ?_ rfl ?_ ?_
    rotate_left
    ·(intro w' hSw; (try dsimp only at hSw); go_simp; try (with_reducible rfl))
    (try simp only [pS, pB, pZ, pC])
    refine tk 3 52 ?_ rfl ?_ ?_
    rotate_left
    ·(intro w' hSw; (try dsimp only at hSw); (have hc := HL.out _ hSw; go_simp); try (with_reducible rfl))
    (try simp only [pS, pB, pZ, pC])
    refine tk 4 53 ?_ rfl ?_ ?_
    rotate_left
    ·(intro w' hSw; (try dsimp only at hSw); (have hc := HCb.out _ hSw; go_simp); try (with_reducible rfl))
    (try simp only [pS, pB, pZ, pC])
    refine tk 5 54 ?_ rfl ?_ ?_
    rotate_left
    ·(intro w' hSw; (try dsimp only at hSw); go_simp; try (with_reducible rfl))
    (try simp only [pS, pB, pZ, pC])
    refine tk 6 55 ?_ rfl ?_ ?_
    rotate_left
    ·(intro w' hSw; (try dsimp only at hSw); go_simp; try (with_reducible rfl))
    (try simp only [pS, pB, pZ, pC])
    refine tk 7 56 ?_ rfl ?_ ?_
    rotate_left
    ·(intro w' hSw; (try dsimp only at hSw); go_simp; try (with_reducible rfl))
    (try simp only [pS, pB, pZ, pC])
    refine tk 8 57 ?_ rfl ?_ ?_
    rotate_left
    ·(intro w' hSw; (try dsimp only at hSw); go_simp; try (with_reducible rfl))
    (try simp only [pS, pB, pZ, pC])
    refine tk 9 58 ?_ rfl ?_ ?_
    rotate_left
    ·(intro w' hSw; (try dsimp only at hSw); go_simp; try (with_reducible rfl))
    (try simp only [pS, pB, pZ, pC])
    refine tk 10 59 ?_ rfl ?_ ?_
    rotate_left
    ·(intro w' hSw; (try dsimp only at hSw); go_simp; try (with_reducible rfl))
    (try simp only [pS, pB, pZ, pC])
    refine tk 11 60 ?_ rfl ?_ ?_
    rotate_left
    ·(intro w' hSw; (try dsimp only at hSw); go_simp; try (with_reducible rfl))
    (try simp only [pS, pB, pZ, pC])
    refine tk 12 61 ?_ rfl ?_ ?_
    rotate_left
    ·(intro w' hSw; (try dsimp only at hSw); go_simp; try (with_reducible rfl))
    (try simp only [pS, pB, pZ, pC])
    refine tk 13 62 ?_ rfl ?_ ?_
    rotate_left
    ·(intro w' hSw; (try dsimp only at hSw); (refine exec_prefix Tryz.underlying42 sizeU64 _ _ _ _ _ _ (.tmp 60) (.tmp 61) b o q c m ?_ ?_ ?_ _; rfl; rfl; omega); try (with_reducible rfl))
    (try simp only [pS, pB, pZ, pC])
    refine rd 14 (some 63) (by kernel_rfl) rfl fun K hK => ?_
    go_simp
    (refine (HI.out _ PW).mono ?_; rintro e w2 ⟨rfl, hb2⟩)
    refine hK.out _ _ ?_ (fun hHeld => ?_)
    ·first | done | ((try dsimp only); exact PW.trans (hb2.mono PW.size))
    clear hK K
    (try simp only [pS, pB, pZ, pC])
    have P2 := PW.trans (hb2.mono PW.size)
    refine rd 15 (some 64) (by kernel_rfl) rfl fun K hK => ?_
    go_simp
    (refine (HN.out _).mono ?_; rintro e w3 ⟨rfl, hb3⟩)
    refine hK.out _ _ ?_ (fun hHeld => ?_)
    ·first | done | ((try dsimp only); exact P2.trans (hb3.mono P2.size))
    clear hK K
    (try simp only [pS, pB, pZ, pC])
    have P3 := P2.trans (hb3.mono P2.size)
    refine tk 16 9 ?_ rfl ?_ ?_
    rotate_left
    ·(intro w' hSw; (try dsimp only at hSw); go_simp; try (with_reducible rfl))
    (try simp only [pS, pB, pZ, pC])
    refine wpAnyH_done (by kernel_rfl) ?_ _
    go_wp2_with fail
    go_ret
    exact ⟨rfl, P3⟩
end Go.Proofs.YtbeaijjaecaidaaGreatDoor
namespace Go.Proofs.YtbeaijjaecaidaaGreatDoor
open Go.RowKit Go.Shelf
attribute [local go_sem] Oper.semAt_some
set_option maxRecDepth 100000 in
set_option maxHeartbeats 2000000 in
theorem logcheck_gen (root : Nat) (i n h : Nat) (hi : i < n) (hn : n ≤ 16) (hh : h < 18446744073709551616) (ps : List Nat) (hp : ps.length ≤ 100) (hw : Words ps) (f : Nat) (hf : fitF f i n ps.length = true) (A : Option Addr) (c : Nat) (hc : ps.length ≤ c) (w : World) (hr : RowU w A ps) :
  Calls Tryz.prog 98 #[.int .u64 (root : Int), .int .i64 (i : Int), .int .i64 (n : Int), .int .u64 (h : Int), .slice A ps.length c] w fun e w' => e = .returned (.int .i64 (if root = climbF f i n h ps then 0 else 10)) ∧ Below w.heap.size w w' := by
 have X0 := (Blk.new w 27 #[.int .u64 (h : Int)]).alloc (.cells #[.bool true] 4)
 have G0 := Blk.new (w.alloc (.cells #[.int .u64 (h : Int)] 27)) 4 #[.bool true]
 rw [World.size_alloc] at G0
 have P0 := (below_new w (.cells #[.int .u64 (h : Int)] 27)).alloc (by simp) (.cells #[.bool true] 4)
 have X1 := X0.alloc (.cells #[.func (.func 143) #[] #[.pointer (some ⟨w.heap.size + 1, 0, none⟩), .pointer (some ⟨w.heap.size, 0, none⟩), .pointer (some ⟨w.heap.size + 1 + 1, 0, none⟩)]] 196)
 have G1 := G0.alloc (.cells #[.func (.func 143) #[] #[.pointer (some ⟨w.heap.size + 1, 0, none⟩), .pointer (some ⟨w.heap.size, 0, none⟩), .pointer (some ⟨w.heap.size + 1 + 1, 0, none⟩)]] 196)
 have P1 := P0.alloc (by simp; omega) (.cells #[.func (.func 143) #[] #[.pointer (some ⟨w.heap.size + 1, 0, none⟩), .pointer (some ⟨w.heap.size, 0, none⟩), .pointer (some ⟨w.heap.size + 1 + 1, 0, none⟩)]] 196)
 have F1 := Blk.new ((w.alloc (.cells #[.int .u64 (h : Int)] 27)).alloc (.cells #[.bool true] 4)) 196 #[.func (.func 143) #[] #[.pointer (some ⟨w.heap.size + 1, 0, none⟩), .pointer (some ⟨w.heap.size, 0, none⟩), .pointer (some ⟨w.heap.size + 1 + 1, 0, none⟩)]]
 rw [World.size_alloc, World.size_alloc] at F1
 have HC := Lib.hid (climb_any h hh (w.heap.size + 1) w.heap.size (w.heap.size + 1 + 1) f i n ps A c _ hi hn hp hc hw hf (hr.keep P1) ⟨G1, X1, F1⟩)
 generalize climbF f i n h ps = R at *
 have e1 : decide ((n : Int) < 1) = false := decide_eq_false (by omega)
 have e2 : decide ((65536 : Int) < (n : Int)) = false := decide_eq_false (by omega)
 have e3 : decide ((i : Int) < 0) = false := decide_eq_false (by omega)
 have e4 : decide ((n : Int) ≤ (i : Int)) = false := decide_eq_false (by omega)
 clear hh X0 G0 P0 F1 hw hf hr hp hc
 by_cases hR : root = R
 ·have hne : ((R : Int) != (root : Int)) = false := by rw [hR]; simp
  rw [if_pos hR]
  go_enter Tryz.func98, Tryz.ntmps98
  go_wp2_with fail
  refine HC.out.mono ?_
  rintro e w1 ⟨rfl, hb1⟩
  have G2 := G1.keep hb1
  have hc2 := G2.c1
  have P2 := P1.trans (hb1.mono P1.size)
  clear G1 X1 P1 hb1
  go_wp2_with fail
  go_ret
  exact ⟨rfl, P2⟩
 ·have hne : ((R : Int) != (root : Int)) = true := by
   simp only [bne_iff_ne, ne_eq]
   omega
  rw [if_neg hR]
  go_enter Tryz.func98, Tryz.ntmps98
  go_wp2_with fail
  refine HC.out.mono ?_
  rintro e w1 ⟨rfl, hb1⟩
  have G2 := G1.keep hb1
  have hc2 := G2.c1
  have P2 := P1.trans (hb1.mono P1.size)
  clear G1 X1 P1 hb1
  go_wp2_with fail
  go_ret
  exact ⟨rfl, P2⟩
end Go.Proofs.YtbeaijjaecaidaaGreatDoor
namespace Go.Proofs.YtbeaijjaecaidaaGreatDoor
open Go.RowKit Go.Shelf
attribute [local go_sem] Oper.semAt_some
def inB (n hi : Int) : Bool := decide (0 ≤ n) && decide (n ≤ hi)
set_option maxHeartbeats 1000000 in
theorem hdin_gen (n hi : Int) (w : World) :
  Calls Tryz.prog 142 #[.int .i64 n, .int .i64 hi] w fun e w' => e = .returned (.bool (inB n hi)) ∧ w' = w := by
 by_cases h0 : 0 ≤ n
 ·have d0 : decide (0 ≤ n) = true := decide_eq_true h0
  by_cases h1 : n ≤ hi
  ·have d1 : decide (n ≤ hi) = true := decide_eq_true h1
   have e : inB n hi = true := by unfold inB; rw [d0, d1]; rfl
   rw [e]
   exact hdin_any n hi h0 h1 w
  ·have d1 : decide (n ≤ hi) = false := decide_eq_false h1
   have e : inB n hi = false := by unfold inB; rw [d0, d1]; rfl
   rw [e]
   go_enter Tryz.func142, Tryz.ntmps142
   go_wp2_with fail
   go_ret
   exact ⟨rfl, rfl⟩
 ·have d0 : decide (0 ≤ n) = false := decide_eq_false h0
  have e : inB n hi = false := by unfold inB; rw [d0]; rfl
  rw [e]
  go_enter Tryz.func142, Tryz.ntmps142
  go_wp2_with fail
  go_ret
  exact ⟨rfl, rfl⟩
def hdB (o t d s sl : Int) : Bool := inB o 11 && (inB t 1099511627776 && (inB d 131072 && (inB s 4096 && inB sl s)))
set_option maxRecDepth 100000 in
set_option maxHeartbeats 4000000 in
theorem hdformed_gen (o t d s : Int) (l m : Nat) (sl : Int) (sg : Nat) (g : Nat) (w : World) (hg : Blk w g 49 #[.int .i64 o, .int .i64 t, .int .i64 d, .int .i64 s, .int .u64 (l : Int), .int .u64 (m : Int), .int .i64 sl, .int .u64 (sg : Int)]) :
  Calls Tryz.prog 97 #[.slice (some ⟨g, 0, none⟩) 1 1] w fun e w' => e = .returned (.bool (hdB o t d s sl)) ∧ Below w.heap.size w w' := by
 have H1 := Lib.hid (fun W => hdin_gen o 11 W)
 have H2 := Lib.hid (fun W => hdin_gen t 1099511627776 W)
 have H3 := Lib.hid (fun W => hdin_gen d 131072 W)
 have H4 := Lib.hid (fun W => hdin_gen s 4096 W)
 have H5 := Lib.hid (fun W => hdin_gen sl s W)
 unfold hdB
 generalize inB o 11 = b1 at *
 generalize inB t 1099511627776 = b2 at *
 generalize inB d 131072 = b3 at *
 generalize inB s 4096 = b4 at *
 generalize inB sl s = b5 at *
 go_enter Tryz.func97, Tryz.ntmps97
 go_wp2_with fail
 go_loopw [8] (fun i wr => (i = .int .i64 0 ∧ w = wr) ∨ (i = .int .i64 1 ∧ (b1 && (b2 && (b3 && (b4 && b5)))) = true ∧ Below w.heap.size w wr)) (fun i _ => 1 - (intOf i).toNat)
 case atStart => exact .inl ⟨rfl, rfl⟩
 case round =>
  rcases hrel with ⟨rfl, rfl⟩ | ⟨rfl, hT, hB⟩
  ·have hc := hg.c8
   have P0 := below_new w (.cells #[.int .i64 o, .int .i64 t, .int .i64 d, .int .i64 s, .int .u64 (l : Int), .int .u64 (m : Int), .int .i64 sl, .int .u64 (sg : Int)] 49)
   go_wp2_with fail
   refine (H1.out _).mono ?_
   rintro e w' ⟨rfl, rfl⟩
   cases b1 with
   | false =>
    go_wp2_with fail
    go_ret
    exact ⟨by simp, P0⟩
   | true =>
    go_wp2_with fail
    refine (H2.out _).mono ?_
    rintro e w' ⟨rfl, rfl⟩
    cases b2 with
    | false =>
     go_wp2_with fail
     go_ret
     exact ⟨by simp, P0⟩
    | true =>
     go_wp2_with fail
     refine (H3.out _).mono ?_
     rintro e w' ⟨rfl, rfl⟩
     cases b3 with
     | false =>
      go_wp2_with fail
      go_ret
      exact ⟨by simp, P0⟩
     | true =>
      go_wp2_with fail
      refine (H4.out _).mono ?_
      rintro e w' ⟨rfl, rfl⟩
      cases b4 with
      | false =>
       go_wp2_with fail
       go_ret
       exact ⟨by simp, P0⟩
      | true =>
       go_wp2_with fail
       refine (H5.out _).mono ?_
       rintro e w' ⟨rfl, rfl⟩
       cases b5 with
       | false =>
        go_wp2_with fail
        go_ret
        exact ⟨by simp, P0⟩
       | true =>
        go_wp2_with fail
        go_roundw
        case rel => exact .inr ⟨rfl, rfl, P0⟩
        case measure => simp [intOf]
  ·have HT := Lib.hid hT
   clear hT
   go_wp2_with fail
   go_ret
   exact ⟨by rw [HT.out]; rfl, hB⟩
def hdC (key : Nat) (h : Hd) : Int := if hdB h.office h.tick h.day h.size h.sld = true then (if h.sign = sigN key h then 0 else 23) else 1
theorem okHd_of {o t d s sl : Int} (h : hdB o t d s sl = true) : OkHd o t d s sl := by
 simp only [hdB, inB, Bool.and_eq_true, decide_eq_true_eq] at h
 unfold OkHd
 omega
set_option maxRecDepth 100000 in
set_option maxHeartbeats 2000000 in
theorem hdcheck_gen (key : Nat) (hk : key < 18446744073709551616) (h : Hd) (hl : h.log < 18446744073709551616) (hm : h.map < 18446744073709551616) (w : World) :
  Calls Tryz.prog 47 #[.int .u64 (key : Int), .agg h.vals] w fun e w' => e = .returned (.int .i64 (hdC key h)) ∧ Below w.heap.size w w' := by
 unfold hdC
 by_cases hb : hdB h.office h.tick h.day h.size h.sld = true
 ·rw [if_pos hb]
  exact hdcheck_any key hk h hl hm (okHd_of hb) w
 ·rw [if_neg hb]
  obtain ⟨o, t, d, s, l, m, sl, sg⟩ := h
  unfold Hd.vals
  dsimp only at hb ⊢
  have hb2 : hdB o t d s sl = false := by simpa using hb
  have Y0 := Blk.new (w.alloc (.cells #[.int .i64 o, .int .i64 t, .int .i64 d, .int .i64 s, .int .u64 (l : Int), .int .u64 (m : Int), .int .i64 sl, .int .u64 (sg : Int)] 49)) 49 #[.int .i64 o, .int .i64 t, .int .i64 d, .int .i64 s, .int .u64 (l : Int), .int .u64 (m : Int), .int .i64 sl, .int .u64 (sg : Int)]
  rw [World.size_alloc] at Y0
  have P1 := (below_new w (.cells #[.int .i64 o, .int .i64 t, .int .i64 d, .int .i64 s, .int .u64 (l : Int), .int .u64 (m : Int), .int .i64 sl, .int .u64 (sg : Int)] 49)).alloc (by simp) (.cells #[.int .i64 o, .int .i64 t, .int .i64 d, .int .i64 s, .int .u64 (l : Int), .int .u64 (m : Int), .int .i64 sl, .int .u64 (sg : Int)] 49)
  have HF := Lib.hid (hdformed_gen o t d s l m sl sg (w.heap.size + 1) _ Y0)
  rw [hb2] at HF
  clear hb hb2 hk hl hm Y0
  go_enter Tryz.func47, Tryz.ntmps47
  go_wp2_with fail
  refine HF.out.mono ?_
  rintro e w1 ⟨rfl, hb1⟩
  have P2 := below_up P1 hb1 P1.size
  clear P1 hb1 HF
  go_wp2_with fail
  go_ret
  exact ⟨rfl, P2⟩
end Go.Proofs.YtbeaijjaecaidaaGreatDoor
namespace Go.Proofs.YtbeaijjaecaidaaGreatDoor
open Go.RowKit Go.Shelf
attribute [local go_sem] Oper.semAt_some
def logG (h : Hd) (f : Fil) (salt : Nat) (ps : List Nat) (i n : Nat) : Int := if h.log = climbF 16 i n (commitN (encA f) salt) ps then 0 else 10
set_option maxRecDepth 100000 in
set_option maxHeartbeats 2000000 in
theorem clogged_gen {C : Array Value} {h : Hd} {f : Fil} {dv cv ev : Value} {salt : Nat} {A : Option Addr} {cp : Nat} {i n : Nat} {ps : List Nat} (hC : IsCop C h (i : Int) f dv cv ev salt (.slice A ps.length cp)) (hok : OkFil f) (hs1 : h.size = (n : Int)) (hin : i < n) (hn16 : n ≤ 16) (hp : ps.length ≤ 100) (hpc : ps.length ≤ cp) (hpw : Words ps) (hfit : fitF 16 i n ps.length = true) (hkt : f.known ≤ h.tick) (hsalt : salt < 18446744073709551616) (w : World) (hG : w.cell? ⟨0, 0, none⟩ = some (.int .i64 655)) (h0 : 0 < w.heap.size) (B : Nat) (hBw : B ≤ w.heap.size) (hf : FilAt w B f dv cv ev) (hps : RowU w A ps) :
  Calls Tryz.prog 48 #[.agg C] w fun e w' => e = .returned (.int .i64 (logG h f salt ps i n)) ∧ Below w.heap.size w w' := by
 have HE := Lib.hid (fun (W : World) (hW : Below w.heap.size w W) => aenc_own f hok dv cv ev W ((hW.cell (p := ⟨0, 0, none⟩) h0).trans hG) (Nat.lt_of_lt_of_le h0 hW.size) B (Nat.le_trans hBw hW.size) (hf.keep (fun p hp => hW.cell (Nat.lt_of_lt_of_le hp hBw)) (Nat.le_refl _)))
 have HPS := Lib.hid (fun (W : World) (hW : Below w.heap.size w W) => hps.keep hW)
 have X0 := Blk.new w 51 C
 have P0 := below_new w (.cells C 51)
 have hcc := hC.size
 have hk : decide (h.tick < f.known) = false := decide_eq_false (by omega)
 have hlen := encA_len hok
 have hbb := Lib.hid (encA_bytes f)
 have hLE : logG h f salt ps i n = if h.log = climbF 16 i n (commitN (encA f) salt) ps then 0 else 10 := rfl
 have HLE := Lib.hid hLE
 clear hLE
 generalize logG h f salt ps i n = le at *
 clear hok hf hG hps
 generalize encA f = bs at *
 have hc := hC.cells X0
 rw [hs1] at hc
 go_enter Tryz.func48, Tryz.ntmps48
 go_wp2_with (refine wpList_loadCA hC X0 _ rfl rfl rfl ?_)
 refine (HE.out _ P0).mono ?_
 rintro e w1 ⟨u, rfl, o1, hb1⟩
 have X1 := X0.keep hb1
 have P1 := below_up P0 hb1 P0.size
 have R1 := o1.rep
 have hclt : commitN bs salt < 18446744073709551616 := lab_lt _ _
 clear hc P0 hb1 o1
 go_upto_region 6 with fail
 refine wp_region_held_drew (S := (fun W => Below w1.heap.size w1 W)) (by kernel_rfl) ?_ (fun hHeld => ?_)
 ·first | done | ((try dsimp only); exact (Below.refl _ _).drew)
 generalize w1.drew = wb at *
 refine tk 0 21 ?_ rfl ?_ ?_
 rotate_left
 ·(intro w' hSw; (try dsimp only at hSw); go_simp; try (with_reducible rfl))
 (try simp only [pS, pB, pZ, pC])
 refine tk 1 22 ?_ rfl ?_ ?_
 rotate_left
 ·(intro w' hSw; (try dsimp only at hSw); go_simp; try (with_reducible rfl))
 (try simp only [pS, pB, pZ, pC])
 refine tk 2 23 ?_ rfl ?_ ?_
 rotate_left
 ·(intro w' hSw; (try dsimp only at hSw); (have hc := hC.cells (X1.keep hSw); rw [hs1] at hc; go_simp); try (with_reducible rfl))
 (try simp only [pS, pB, pZ, pC])
 refine tk 3 24 ?_ rfl ?_ ?_
 rotate_left
 ·(intro w' hSw; (try dsimp only at hSw); go_simp; try (with_reducible rfl))
 (try simp only [pS, pB, pZ, pC])
 refine tk 4 25 ?_ rfl ?_ ?_
 rotate_left
 ·(intro w' hSw; (try dsimp only at hSw); (have hc := hC.cells (X1.keep hSw); rw [hs1] at hc; go_simp); try (with_reducible rfl))
 (try simp only [pS, pB, pZ, pC])
 refine tk 5 26 ?_ rfl ?_ ?_
 rotate_left
 ·(intro w' hSw; (try dsimp only at hSw); go_simp; try (with_reducible rfl))
 (try simp only [pS, pB, pZ, pC])
 refine tk 6 27 ?_ rfl ?_ ?_
 rotate_left
 ·(intro w' hSw; (try dsimp only at hSw); go_simp; try (with_reducible rfl))
 (try simp only [pS, pB, pZ, pC])
 refine tk 7 28 ?_ rfl ?_ ?_
 rotate_left
 ·(intro w' hSw; (try dsimp only at hSw); (have hc := hC.cells (X1.keep hSw); rw [hs1] at hc; go_simp); try (with_reducible rfl))
 (try simp only [pS, pB, pZ, pC])
 refine tk 8 29 ?_ rfl ?_ ?_
 rotate_left
 ·(intro w' hSw; (try dsimp only at hSw); go_simp; try (with_reducible rfl))
 (try simp only [pS, pB, pZ, pC])
 refine tk 9 30 ?_ rfl ?_ ?_
 rotate_left
 ·(intro w' hSw; (try dsimp only at hSw); go_simp; try (with_reducible rfl))
 (try simp only [pS, pB, pZ, pC])
 refine tk 10 31 ?_ rfl ?_ ?_
 rotate_left
 ·(intro w' hSw; (try dsimp only at hSw); (have hc := hC.cells (X1.keep hSw); rw [hs1] at hc; go_simp); try (with_reducible rfl))
 (try simp only [pS, pB, pZ, pC])
 refine tk 12 33 ?_ rfl ?_ ?_
 rotate_left
 ·(intro w' hSw; (try dsimp only at hSw); go_simp; try (with_reducible rfl))
 (try simp only [pS, pB, pZ, pC])
 refine tk 13 34 ?_ rfl ?_ ?_
 rotate_left
 ·(intro w' hSw; (try dsimp only at hSw); (have hc := hC.cells (X1.keep hSw); rw [hs1] at hc; go_simp); try (with_reducible rfl))
 (try simp only [pS, pB, pZ, pC])
 refine rd 11 (some 32) (by kernel_rfl) rfl fun K hK => ?_
 go_simp
 (refine (commit_any u bs hbb.out (by omega) salt hsalt _ (R1.keep (fun p hp => hHeld.cell hp) hHeld.size)).mono ?_; rintro e w2 ⟨rfl, hb2⟩)
 refine hK.out _ _ ?_ (fun hHeld => ?_)
 ·first | done | ((try dsimp only); exact hHeld.trans (hb2.mono hHeld.size))
 clear hK K
 (try simp only [pS, pB, pZ, pC])
 refine rd 14 (some 35) (by kernel_rfl) rfl fun K hK => ?_
 go_simp
 (refine (logcheck_gen h.log i n _ hin hn16 hclt ps hp hpw 16 hfit A cp hpc _ (HPS.out _ (P1.trans (hHeld.mono P1.size)))).mono ?_; rintro e w2 ⟨rfl, hb2⟩; rw [← HLE.out])
 refine hK.out _ _ ?_ (fun hHeld => ?_)
 ·first | done | ((try dsimp only); exact hHeld.trans (hb2.mono hHeld.size))
 clear hK K
 (try simp only [pS, pB, pZ, pC])
 refine tk 15 2 ?_ rfl ?_ ?_
 rotate_left
 ·(intro w' hSw; (try dsimp only at hSw); go_simp; try (with_reducible rfl))
 (try simp only [pS, pB, pZ, pC])
 refine wpAnyH_done (by kernel_rfl) ?_ _
 have HB := Lib.hid (below_up P1 hHeld P1.size)
 clear hHeld
 go_wp2_with fail
 go_ret
 exact ⟨rfl, HB.out⟩
set_option maxRecDepth 100000 in
set_option maxHeartbeats 2000000 in
theorem ccheck1_gen {C : Array Value} {h : Hd} {i : Int} {f : Fil} {dv cv ev : Value} {salt : Nat} {p : Value} (hC : IsCop C h i f dv cv ev salt p) (key : Nat) (hk : key < 18446744073709551616) (hl : h.log < 18446744073709551616) (hm : h.map < 18446744073709551616) (kb cb : Nat) (w : World)
  (hb : Blk w kb 27 #[.int .u64 (key : Int)]) (hx : Blk w cb 51 C) :
  Calls Tryz.prog 46 #[.pointer (some ⟨kb, 0, none⟩), .pointer (some ⟨cb, 0, none⟩)] w fun e w' => e = .returned (.int .i64 (hdC key h)) ∧ Below w.heap.size w w' := by
 have HK := Lib.hid (fun W => hdcheck_gen key hk h hl hm W)
 have hc := hb.c1
 clear hk hl hm hb
 go_enter Tryz.func46, Tryz.ntmps46
 go_wp2_with (refine wpList_loadCH hC hx _ rfl rfl rfl ?_)
 refine (HK.out _).mono ?_
 rintro e w1 ⟨rfl, hb1⟩
 go_wp2_with fail
 go_ret
 exact ⟨rfl, hb1⟩
set_option maxRecDepth 100000 in
set_option maxHeartbeats 2000000 in
theorem ccheck_gen {C : Array Value} {h : Hd} {f : Fil} {dv cv ev : Value} {salt : Nat} {A : Option Addr} {cp : Nat} {i n : Nat} {ps : List Nat} (hC : IsCop C h (i : Int) f dv cv ev salt (.slice A ps.length cp)) (hok : OkFil f) (key : Nat) (hk : key < 18446744073709551616) (hs1 : hdC key h = 0 → h.size = (n : Int)) (hin : i < n) (hn16 : n ≤ 16) (hp : ps.length ≤ 100) (hpc : ps.length ≤ cp) (hpw : Words ps) (hfit : fitF 16 i n ps.length = true) (hkt : hdC key h = 0 → f.known ≤ h.tick) (hsalt : salt < 18446744073709551616) (hlog : h.log < 18446744073709551616) (hm : h.map < 18446744073709551616)
  (w : World) (hG : w.cell? ⟨0, 0, none⟩ = some (.int .i64 655)) (h0 : 0 < w.heap.size) (B : Nat) (hBw : B ≤ w.heap.size) (hf : FilAt w B f dv cv ev) (hps : RowU w A ps) :
  Calls Tryz.prog 13 #[.int .u64 (key : Int), .agg C] w fun e w' => e = .returned (.int .i64 (first3 (filE f h.office) (hdC key h) (logG h f salt ps i n))) ∧ Below w.heap.size w w' := by
 have HK : ∀ W, Below w.heap.size w W → W.cell? ⟨0, 0, none⟩ = some (.int .i64 655) ∧ 0 < W.heap.size ∧ B ≤ W.heap.size ∧ FilAt W B f dv cv ev := fun W hW => ⟨(hW.cell (p := ⟨0, 0, none⟩) h0).trans hG, Nat.lt_of_lt_of_le h0 hW.size, Nat.le_trans hBw hW.size, hf.keep (fun p hp => hW.cell (Nat.lt_of_lt_of_le hp hBw)) (Nat.le_refl _)⟩
 have H1 := Lib.hid (fun (W : World) (hW : Below w.heap.size w W) => cfiling_any hC hok W (HK W hW).1 (HK W hW).2.1 B (HK W hW).2.2.1 (HK W hW).2.2.2)
 have H3 := Lib.hid (fun (h2 : hdC key h = 0) (W : World) (hW : Below w.heap.size w W) => clogged_gen hC hok (hs1 h2) hin hn16 hp hpc hpw hfit (hkt h2) hsalt W (HK W hW).1 (HK W hW).2.1 B (HK W hW).2.2.1 (HK W hW).2.2.2 (hps.keep hW))
 have H2 := Lib.hid (fun (W : World) (kb cb : Nat) hb hx => ccheck1_gen hC key hk hlog hm kb cb W hb hx)
 have X0 := (Blk.new (w.alloc (.cells #[.int .u64 (key : Int)] 27)) 51 C)
 rw [World.size_alloc] at X0
 have K0 := (Blk.new w 27 #[.int .u64 (key : Int)]).alloc (.cells C 51)
 have P0 := (below_new w (.cells #[.int .u64 (key : Int)] 27)).alloc (by simp) (.cells C 51)
 have hcs := hC.size
 clear HK hC hok hk hs1 hkt hsalt hlog hm hG hf hps hfit hpw hp hpc hin hn16
 generalize filE f h.office = e1 at *
 generalize hdC key h = e2 at *
 generalize logG h f salt ps i n = e3 at *
 go_enter Tryz.func13, Tryz.ntmps13
 go_wp2_with (refine wpList_loadC X0 hcs _ rfl rfl rfl ?_)
 have hF := Blk.new ((w.alloc (.cells #[.int .u64 (key : Int)] 27)).alloc (.cells C 51)) 97 #[.func (.func 45) #[.agg C] #[], .func (.func 46) #[] #[.pointer (some ⟨w.heap.size, 0, none⟩), .pointer (some ⟨w.heap.size + 1, 0, none⟩)], .func (.func 48) #[.agg C] #[]]
 have PF := P0.alloc (by simp; omega) (.cells #[.func (.func 45) #[.agg C] #[], .func (.func 46) #[] #[.pointer (some ⟨w.heap.size, 0, none⟩), .pointer (some ⟨w.heap.size + 1, 0, none⟩)], .func (.func 48) #[.agg C] #[]] 97)
 have XF := X0.alloc (.cells #[.func (.func 45) #[.agg C] #[], .func (.func 46) #[] #[.pointer (some ⟨w.heap.size, 0, none⟩), .pointer (some ⟨w.heap.size + 1, 0, none⟩)], .func (.func 48) #[.agg C] #[]] 97)
 have KF := K0.alloc (.cells #[.func (.func 45) #[.agg C] #[], .func (.func 46) #[] #[.pointer (some ⟨w.heap.size, 0, none⟩), .pointer (some ⟨w.heap.size + 1, 0, none⟩)], .func (.func 48) #[.agg C] #[]] 97)
 rw [World.size_alloc, World.size_alloc] at hF
 refine (first3_any C _ _ e1 e2 e3 _ _ hF (fun W hW => H1.out W (PF.trans (hW.mono (PF.size)))) (fun _ W hW => H2.out W _ _ (KF.keep hW) (XF.keep hW)) (fun _ h2 W hW => H3.out h2 W (PF.trans (hW.mono (PF.size))))).mono ?_
 rintro e w2 ⟨rfl, hb2⟩
 have P2 := PF.trans (hb2.mono PF.size)
 clear hF PF XF KF hb2 H1 H2 H3 X0 K0 P0
 go_wp2_with fail
 go_ret
 exact ⟨rfl, P2⟩
end Go.Proofs.YtbeaijjaecaidaaGreatDoor
namespace Go.Proofs.YtbeaijjaecaidaaGreatDoor
open Go.RowKit Go.Shelf
theorem lw_app : ∀ (a b : List Nat), lw (a ++ b) = lw a + 256 ^ a.length * lw b
 | [], b => by simp [lw]
 | x :: a, b => by
  rw [List.cons_append, lw, lw, lw_app a b, List.length_cons, Nat.pow_succ, Nat.mul_add, Nat.add_assoc]
  congr 2
  rw [← Nat.mul_assoc, Nat.mul_comm 256]
theorem lw_one {p t : List Nat} {x y : Nat} (h : lw (p ++ x :: t) = lw (p ++ y :: t)) : x = y := by
 rw [lw_app, lw_app] at h
 have h1 : 256 ^ p.length * lw (x :: t) = 256 ^ p.length * lw (y :: t) := by omega
 have h2 := Nat.eq_of_mul_eq_mul_left (Nat.pow_pos (by omega)) h1
 rw [lw, lw] at h2
 omega
theorem words_one {x y : Nat} (hxy : x ≠ y) (q : List Nat) : ∀ (m : Nat) (p : List Nat), p.length = m → ∃ P a b Q, wordsL (p ++ x :: q) = P ++ a :: Q ∧ wordsL (p ++ y :: q) = P ++ b :: Q ∧ a ≠ b := by
 intro m
 induction m using Nat.strongRecOn with
 | _ m ih =>
  intro p hp
  rw [words_cons (l := p ++ x :: q) (by simp), words_cons (l := p ++ y :: q) (by simp)]
  by_cases h8 : p.length < 8
  ·have e : ∀ z : Nat, (p ++ z :: q).take 8 = p ++ z :: q.take (7 - p.length) := fun z => by
    rw [List.take_append, List.take_of_length_le (by omega)]
    congr 1
    rw [show 8 - p.length = (7 - p.length) + 1 by omega, List.take_succ_cons]
   have d : ∀ z : Nat, (p ++ z :: q).drop 8 = q.drop (7 - p.length) := fun z => by
    rw [List.drop_append, List.drop_of_length_le (by omega), List.nil_append]
    rw [show 8 - p.length = (7 - p.length) + 1 by omega, List.drop_succ_cons]
   refine ⟨[], _, _, wordsL (q.drop (7 - p.length)), by rw [d x]; rfl, by rw [d y]; rfl, fun h => ?_⟩
   rw [e x, e y] at h
   exact hxy (lw_one h)
  ·have e : ∀ z : Nat, (p ++ z :: q).take 8 = p.take 8 := fun z => by
    rw [List.take_append, show 8 - p.length = 0 by omega, List.take_zero, List.append_nil]
   have d : ∀ z : Nat, (p ++ z :: q).drop 8 = p.drop 8 ++ z :: q := fun z => by
    rw [List.drop_append, show 8 - p.length = 0 by omega, List.drop_zero]
   obtain ⟨P, a, b, Q, h1, h2, h3⟩ := ih (p.drop 8).length (by rw [List.length_drop]; omega) (p.drop 8) rfl
   refine ⟨lw (p.take 8) :: P, a, b, Q, ?_, ?_, h3⟩
   ·rw [e, d, h1]; rfl
   ·rw [e, d, h2]; rfl
def diffN : List Nat → List Nat → Nat
 | a :: l, b :: m => (if a = b then 0 else 1) + diffN l m
 | _, _ => 0
theorem diffN_zero : ∀ {l m : List Nat}, l.length = m.length → diffN l m = 0 → l = m
 | [], [], _, _ => rfl
 | [], _ :: _, h, _ => by simp at h
 | _ :: _, [], h, _ => by simp at h
 | a :: l, b :: m, h, hd => by
  rw [diffN] at hd
  by_cases e : a = b
  ·rw [if_pos e] at hd
   obtain rfl := diffN_zero (l := l) (m := m) (by simpa using h) (by omega)
   rw [e]
  ·rw [if_neg e] at hd
   omega
theorem diffN_one : ∀ {l m : List Nat}, l.length = m.length → diffN l m = 1 → ∃ p x y q, l = p ++ x :: q ∧ m = p ++ y :: q ∧ x ≠ y
 | [], [], _, h => by cases h
 | [], _ :: _, h, _ => by simp at h
 | _ :: _, [], h, _ => by simp at h
 | a :: l, b :: m, h, hd => by
  rw [diffN] at hd
  by_cases e : a = b
  ·rw [if_pos e] at hd
   obtain ⟨p, x, y, q, h1, h2, h3⟩ := diffN_one (l := l) (m := m) (by simpa using h) (by omega)
   exact ⟨a :: p, x, y, q, by rw [h1]; rfl, by rw [h2, e]; rfl, h3⟩
  ·rw [if_neg e] at hd
   obtain rfl := diffN_zero (l := l) (m := m) (by simpa using h) (by omega)
   exact ⟨[], a, b, l, rfl, rfl, e⟩
theorem diffN_step : ∀ {l m : List Nat} {k : Nat} (hk : k < l.length) (hm : k < m.length), diffN (l.take (k + 1)) (m.take (k + 1)) = diffN (l.take k) (m.take k) + (if l[k] = m[k] then 0 else 1)
 | [], _, _, hk, _ => by simp at hk
 | _ :: _, [], _, _, hm => by simp at hm
 | a :: l, b :: m, 0, _, _ => by simp [diffN]
 | a :: l, b :: m, k + 1, hk, hm => by
  rw [List.take_succ_cons, List.take_succ_cons, List.take_succ_cons, List.take_succ_cons, diffN, diffN, diffN_step (by simpa using hk) (by simpa using hm)]
  simp only [List.getElem_cons_succ]
  omega
theorem bytes_one {s : ByteArray} {l m : List Nat} (hl : Bytes l) (hm : Bytes m) (hlen : l.length = m.length) (hn : l.length < 18446744073709551616) (h1 : diffN l m = 1) : bytesN s l ≠ bytesN s m := by
 obtain ⟨p, x, y, q, rfl, rfl, hxy⟩ := diffN_one hlen h1
 obtain ⟨P, a, b, Q, e1, e2, hab⟩ := words_one hxy q p.length p rfl
 have w1 := words_ok hl
 have w2 := words_ok hm
 intro h
 unfold bytesN at h
 rw [e1] at w1
 rw [e2] at w2
 rw [e1, e2, ← hlen, List.append_assoc, List.append_assoc, List.cons_append, List.cons_append] at h
 refine hab (sum_one (w1 a (by simp)) (w2 b (by simp)) (fun z hz => ?_) h)
 rcases List.mem_append.1 hz with hz | hz
 ·exact w1 z (by simp [hz])
 ·rw [List.mem_singleton.1 hz]; exact hn
theorem commit_bytes {bs cs : List Nat} {s : Nat} (hs : bytesN sSealed bs ≠ bytesN sSealed cs) : commitN bs s ≠ commitN cs s := fun h =>
 hs (lab_one (p := [s]) (q := []) (bytesN_lt _ _) (bytesN_lt _ _) wds_nil h)
end Go.Proofs.YtbeaijjaecaidaaGreatDoor
