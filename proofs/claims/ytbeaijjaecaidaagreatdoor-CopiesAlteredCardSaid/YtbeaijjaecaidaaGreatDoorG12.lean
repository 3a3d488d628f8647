/- Sum of the reference. Sums with labels in the reference: bytes, commitments, nodes, keys, signatures. Heads: signature, Sign. Heads signed by the reference. Heads as they should be, in the program: formed and Check. head.Check: in the program. Logs of one entry: the root, the path, the check of a path, in the program and in the reference. logtree.Check of a log of one entry. A log of one entry in the program: New, Add, Root. A drawing region in which some operations may come up in any order: each keeps an invariant. -/
import Derived.Test.YtbeaijjaecaidaaGreatDoorE11
import Derived.Test.YtbeaijjaecaidaaGreatDoorE02
import Derived.Test.YtbeaijjaecaidaaGreatDoorE01
import Derived.Lib.ConvBytes
import Derived.Deep.RegionHeld
import Derived.Deep.DrawnRows
import Derived.Deep.DeepCutAuto
import Derived.Outline
namespace Go.Proofs.YtbeaijjaecaidaaGreatDoor
open Go.RowKit Go.Shelf
theorem below_bytesWorld (w : World) (e : TypeId) (s : ByteArray) : Below w.heap.size w (Lib.bytesWorld w e s) :=
 ⟨rfl, rfl, rfl, by rw [Lib.bytesWorld_size]; omega, fun i hi => Lib.bytesWorld_at_old w e s i hi⟩
theorem rep_bytesWorld (w : World) (e : TypeId) (s : ByteArray) (c : Nat) (hc : s.size ≤ c) : Rep (Lib.bytesWorld w e s) (Lib.bytesWorld w e s).heap.size (.slice (some ⟨w.heap.size, 0, none⟩) s.size c) (.s 1 (valD (bys (sb s)))) := by
 refine Rep.mk (by rw [valD_length, bys_length, sb_length, Nat.mul_one]) hc (by rw [Lib.bytesWorld_size]; omega) (RepL.of_plain _ _ (bys (sb s))) (fun j u hu => ?_)
 have hj : j < (sb s).length := by
  rcases Nat.lt_or_ge j (sb s).length with h | h
  ·exact h
  ·rw [List.getElem?_eq_none (by rw [bys_length]; exact h)] at hu
   cases hu
 rw [bys_get (sb s) j hj] at hu
 cases hu
 have hj2 : j < s.size := by rw [← sb_length]; exact hj
 rw [Nat.zero_add, Lib.bytesWorld_cell w e s j hj2]
 congr 3
 have h3 : s.data.toList[j]? = some (s[j]'hj2) := by
  rw [Array.getElem?_toList]
  exact Array.getElem?_eq_getElem hj2
 rw [sb_get s j hj2 hj, List.getD_eq_getElem?_getD, h3]
 rfl
theorem run_take (s : Nat) (l : List Nat) (k : Nat) (h : k < l.length) : mixN (runN s (l.take k)) l[k] = runN s (l.take (k + 1)) := by
 rw [List.take_add_one, List.getElem?_eq_getElem h, Option.toList_some, run_snoc]
set_option maxRecDepth 100000 in
set_option maxHeartbeats 1000000 in
theorem refsum_any (s : ByteArray) (hsz : s.size ≤ 1000000) (v : Value) (l : List Int) (w : World) (hr : Rep w w.heap.size v (.s 1 (valD (ints l)))) (hl : l.length ≤ 1000000000) :
  Calls Tryz.prog 67 #[.string s, v] w fun e w' => e = .returned (.int .u64 (sumN (wordsL (sb s)) s.size (u64L l) : Int)) ∧ Below w.heap.size w w' := by
 obtain ⟨A, c, rfl, hc, hcell⟩ := hr.row
 rw [ints_length] at hc ⊢
 have HCELL := Lib.hid hcell
 clear hr hcell
 go_enter Tryz.func67, Tryz.ntmps67
 have hcv := Lib.run_convert_string_bytes (P := Tryz.prog) w 9 55 5 s Tryz.underlying9 Tryz.underlying55 Tryz.underlying5
 have hR := rep_bytesWorld w 5 s (grownCap w s.size 0 5) (grownCap_ge w _ _ _)
 have hB := below_bytesWorld w 5 s
 have hsl := sb_length s
 have HW := Lib.hid (refwords_any _ (sb s) (sb_bytes s) (by omega) _ hR)
 clear hR
 go_wp2_with fail
 clear hcv
 generalize Lib.bytesWorld w 5 s = w0 at *
 refine HW.out.mono ?_
 rintro e w1 ⟨u, rfl, hrow, hb1⟩
 have hB1 := below_up hB hb1 hB.size
 have hwo := words_ok (sb_bytes s)
 have hwl := words_length (sb s)
 have HRO := Lib.hid hrow
 obtain ⟨Au, cu, rfl⟩ := own_slice hrow
 have hcellU : ∀ k (hk : k < (wordsL (sb s)).length), ∃ g, Au = some ⟨g, 0, none⟩ ∧ w1.cell? ⟨g, 0 + k, none⟩ = some (.int .u64 (((wordsL (sb s))[k] : Nat) : Int)) := fun k hk => by
  rcases hrow.2 with ⟨e, hn⟩ | ⟨g, cap, cur, e, _⟩
  ·omega
  ·cases e
   refine ⟨g, rfl, ?_⟩
   rw [Nat.zero_add, hrow.cellAt k (by omega)]
   unfold w64s
   rw [List.getElem?_map, List.getElem?_eq_getElem hk]
   rfl
 have HCU := Lib.hid hcellU
 have HWO := Lib.hid hwo
 clear hrow hcellU hwo HW
 generalize hwl0 : wordsL (sb s) = wl at *
 have HWL := Lib.hid hwl0
 clear hwl0
 go_wp2_with fail
 go_loopw [5, 7] (fun x i wr => ∃ k : Nat, i = .int .i64 (k : Int) ∧ k ≤ wl.length ∧ x = .int .u64 (runN 0 (wl.take k) : Int) ∧ w1 = wr) (fun _ i _ => wl.length - (intOf i).toNat)
 case atStart => exact ⟨0, rfl, Nat.zero_le _, rfl, rfl⟩
 case round =>
  obtain ⟨k, rfl, hk, rfl, rfl⟩ := hrel
  have hrl := run_lt (wl.take k) 0 (by decide)
  by_cases hlt : k < wl.length
  ·obtain ⟨g, rfl, hcw⟩ := HCU.out k hlt
   rw [Nat.zero_add] at hcw
   have hwk := HWO.out _ (List.getElem_mem hlt)
   have HT := Lib.hid (run_take 0 wl k hlt)
   generalize wl[k] = x at *
   generalize runN 0 (wl.take k) = S at *
   go_wp2_with (go_at_call 119; refine (refmix_any _ _ _ hrl hwk).mono ?_; rintro e w' ⟨rfl, rfl⟩)
   go_roundw
   case rel => exact ⟨k + 1, by go_num, by omega, by rw [HT.out], trivial⟩
   case measure => simp [intOf]; omega
  ·obtain rfl : k = wl.length := by omega
   rw [List.take_length] at hrl ⊢
   generalize hS : runN 0 wl = S at *
   have HS0 := Lib.hid (mix_lt (mixN S s.size) l.length)
   have HM1 := mix_lt S s.size
   have HE : sumN wl s.size (u64L l) = mixN (runN (mixN (mixN S s.size) l.length) (u64L l)) 0 := by
    unfold sumN
    rw [hS]
    unfold u64L
    rw [List.length_map]
   have HE := Lib.hid HE
   clear hS
   go_wp2_with (go_at_call 119; refine (refmix_any _ _ _ (by first | exact hrl | exact HM1) (by omega)).mono ?_; rintro e w' ⟨rfl, rfl⟩)
   generalize mixN (mixN S s.size) l.length = S0 at *
   go_loopw [5, 8] (fun x i wr => ∃ k : Nat, i = .int .i64 (k : Int) ∧ k ≤ l.length ∧ x = .int .u64 (runN S0 ((u64L l).take k) : Int) ∧ w1 = wr) (fun _ i _ => l.length - (intOf i).toNat)
   case atStart => exact ⟨0, rfl, Nat.zero_le _, rfl, rfl⟩
   case round =>
    obtain ⟨k, rfl, hk, rfl, rfl⟩ := hrel
    have HR := Lib.hid (run_lt ((u64L l).take k) S0 HS0.out)
    by_cases hlt : k < l.length
    ·obtain ⟨b, o, rfl, hb, hcw⟩ := HCELL.out k _ (ints_get l k hlt)
     have hcr := (hB1.cell (p := ⟨b, o + k, none⟩) hb).trans hcw
     have hu := wrap_u64' l[k]
     have HU := Lib.hid (u64_lt l[k])
     have HT := Lib.hid (run_step (s := S0) hlt)
     clear hcw
     generalize l[k] = n at *
     generalize runN S0 ((u64L l).take k) = S at *
     go_wp2_with (go_at_call 119; refine (refmix_any _ _ _ HR.out HU.out).mono ?_; rintro e w' ⟨rfl, rfl⟩)
     go_roundw
     case rel => exact ⟨k + 1, by go_num, by omega, by rw [HT.out], trivial⟩
     case measure => simp [intOf]; omega
    ·obtain rfl : k = l.length := by omega
     have hlt0 := HR.out
     rw [show List.take l.length (u64L l) = u64L l from List.take_of_length_le (by unfold u64L; rw [List.length_map]; exact Nat.le_refl _)] at hlt0 ⊢
     generalize runN S0 (u64L l) = S at *
     go_wp2_with (go_at_call 119; refine (refmix_any S 0 _ hlt0 (by decide)).mono ?_; rintro e w' ⟨rfl, rfl⟩)
     go_ret
     refine ⟨?_, hB1⟩
     show Ending.returned (.int .u64 ((mixN S 0 : Nat) : Int)) = _
     rw [HWL.out, HE.out]
end Go.Proofs.YtbeaijjaecaidaaGreatDoor
namespace Go.Proofs.YtbeaijjaecaidaaGreatDoor
open Go.RowKit Go.Shelf
theorem refsum_fresh (s : ByteArray) (hsz : s.size ≤ 1000000) (l : List Int) (m : List Nat) (n : Nat) (cs : Array Value) (w : World) (H : Nat) (hH : w.heap.size = H) (hcs : cs = (ints l).toArray) (hn : l.length = n) (hm : u64L l = m) (hl : l.length ≤ 1000000000) :
  Calls Tryz.prog 67 #[.string s, .slice (some ⟨H, 0, none⟩) n n] (w.alloc (.cells cs 3)) fun e w' => e = .returned (.int .u64 (labN s m : Int)) ∧ Below w.heap.size w w' := by
 subst hcs hH
 have hr := Rep.fresh_plain (w := w) (n := n) (e := 3) (cs := (ints l).toArray) (by simp [ints_length, hn])
 refine (refsum_any s hsz _ l _ hr hl).mono ?_
 rintro e w' ⟨rfl, hb⟩
 rw [sum_vals hm]
 exact ⟨rfl, ((Below.refl w.heap.size w).alloc (Nat.le_refl _) _).trans (hb.mono (by simp))⟩
set_option maxHeartbeats 1000000 in
theorem refleaf_any (h : Nat) (hh : h < 18446744073709551616) (w : World) :
  Calls Tryz.prog 68 #[.int .u64 (h : Int)] w fun e w' => e = .returned (.int .u64 (leafN h : Int)) ∧ Below w.heap.size w w' := by
 have HU := Lib.hid (u64_wordI hh)
 clear hh
 have HX : IntKind.i64.wrap (h : Int) = wordI h := rfl
 go_enter Tryz.func68, Tryz.ntmps68
 go_wp2_with (go_at_call 67; refine (refsum_fresh sLeaf (by decide) [wordI h] [h] 1 _ w _ rfl rfl rfl (by unfold u64L; rw [List.map_cons, List.map_nil, HU.out]) (Nat.le_of_ble_eq_true rfl)).mono ?_; rintro e w' ⟨rfl, hb⟩)
 go_ret
 exact ⟨rfl, hb⟩
set_option maxHeartbeats 1000000 in
theorem refkey_any (s : Nat) (hh : s < 18446744073709551616) (w : World) :
  Calls Tryz.prog 94 #[.int .u64 (s : Int)] w fun e w' => e = .returned (.int .u64 (keyN s : Int)) ∧ Below w.heap.size w w' := by
 have HU := Lib.hid (u64_wordI hh)
 clear hh
 have HX : IntKind.i64.wrap (s : Int) = wordI s := rfl
 go_enter Tryz.func94, Tryz.ntmps94
 go_wp2_with (go_at_call 67; refine (refsum_fresh sKey (by decide) [wordI s] [s] 1 _ w _ rfl rfl rfl (by unfold u64L; rw [List.map_cons, List.map_nil, HU.out]) (Nat.le_of_ble_eq_true rfl)).mono ?_; rintro e w' ⟨rfl, hb⟩)
 go_ret
 exact ⟨rfl, hb⟩
set_option maxHeartbeats 1000000 in
theorem refnode_any (a b : Nat) (ha : a < 18446744073709551616) (hb : b < 18446744073709551616) (w : World) :
  Calls Tryz.prog 70 #[.int .u64 (a : Int), .int .u64 (b : Int)] w fun e w' => e = .returned (.int .u64 (nodeN a b : Int)) ∧ Below w.heap.size w w' := by
 have HA := Lib.hid (u64_wordI ha)
 have HB := Lib.hid (u64_wordI hb)
 clear ha hb
 have HX : IntKind.i64.wrap (a : Int) = wordI a := rfl
 have HY : IntKind.i64.wrap (b : Int) = wordI b := rfl
 go_enter Tryz.func70, Tryz.ntmps70
 go_wp2_with (go_at_call 67; refine (refsum_fresh sNode (by decide) [wordI a, wordI b] [a, b] 2 _ w _ rfl rfl rfl (by unfold u64L; rw [List.map_cons, List.map_cons, List.map_nil, HA.out, HB.out]) (Nat.le_of_ble_eq_true rfl)).mono ?_; rintro e w' ⟨rfl, hb⟩)
 go_ret
 exact ⟨rfl, hb⟩
set_option maxRecDepth 100000 in
set_option maxHeartbeats 1000000 in
theorem refbytesum_any (s : ByteArray) (hsz : s.size ≤ 1000000) (v : Value) (bs : List Nat) (hbb : Bytes bs) (hn : bs.length ≤ 900000000) (w : World) (hr : Rep w w.heap.size v (.s 1 (valD (bys bs)))) :
  Calls Tryz.prog 123 #[.string s, v] w fun e w' => e = .returned (.int .u64 (bytesN s bs : Int)) ∧ Below w.heap.size w w' := by
 have HW := Lib.hid (refwords_any v bs hbb (by omega) w hr)
 obtain ⟨A, c, rfl, hc, _⟩ := hr.row
 rw [bys_length] at hc HW ⊢
 obtain ⟨i0, hi, hz0, hz1, hz2⟩ := info_parts Tryz.info3
 have HV := Lib.hid (bytes_val s bs hbb (by omega))
 have hwl := words_length bs
 clear hr hbb
 go_enter Tryz.func123, Tryz.ntmps123
 go_wp2_with fail
 refine HW.out.mono ?_
 rintro e w1 ⟨u, rfl, hrow, hb1⟩
 obtain ⟨Au, cu, rfl⟩ := own_slice hrow
 have hcellU : ∀ k (hk : k < (wordsL bs).length), ∃ g, Au = some ⟨g, 0, none⟩ ∧ g < w1.heap.size ∧ w1.cell? ⟨g, k, none⟩ = some (.int .u64 (((wordsL bs)[k] : Nat) : Int)) := fun k hk => by
  rcases hrow.2 with ⟨e, hn⟩ | ⟨g, cap, cur, e, _⟩
  ·omega
  ·cases e
   refine ⟨g, rfl, (hrow.lt g rfl).2, ?_⟩
   rw [hrow.cellAt k (by omega)]
   unfold w64s
   rw [List.getElem?_map, List.getElem?_eq_getElem hk]
   rfl
 have HCU := Lib.hid hcellU
 clear hrow hcellU HW
 generalize wordsL bs = wl at *
 have hs1 := hb1.size
 go_wp2_with fail
 go_loopw [6, 7] (fun x i wr => ∃ k : Nat, i = .int .i64 (k : Int) ∧ k ≤ wl.length ∧ wr.ownsRow w1.heap.size 3 1 x k (ints ((wl.take k).map wordI)) ∧ Below w1.heap.size w1 wr) (fun _ i _ => wl.length - (intOf i).toNat)
 case atStart => exact ⟨0, rfl, Nat.zero_le _, World.ownsRow_nil _ _ _ _, Below.refl _ _⟩
 case round =>
  obtain ⟨k, rfl, hk, hown, hb⟩ := hrel
  have hfl : k + 1 ≤ maxLen := by unfold maxLen; omega
  have hfb : (k + 1) * 8 ≤ 140737488355328 := by omega
  by_cases hlt : k < wl.length
  ·obtain ⟨g, rfl, hg, hcw⟩ := HCU.out k hlt
   have hcr := (hb.cell (p := ⟨g, k, none⟩) hg).trans hcw
   have HT : ints ((wl.take (k + 1)).map wordI) = ints ((wl.take k).map wordI) ++ [.int .i64 (wordI wl[k])] := by
    rw [List.take_add_one, List.getElem?_eq_getElem hlt, Option.toList_some, List.map_append]
    unfold ints
    rw [List.map_append]
    rfl
   have HT := Lib.hid HT
   clear hcw
   generalize wl[k] = x at *
   have HX : IntKind.i64.wrap (x : Int) = wordI x := rfl
   have HS : w1.heap.size ≤ (wr.alloc (.cells #[.int .i64 (wordI x)] 3)).heap.size := Nat.le_trans (Nat.le_succ_of_le hb.size) (Nat.le_of_eq (by simp))
   go_wp2_with (at_builtin; refine wpList_append_own _ rfl _ _ 22 rfl w1.heap.size 3 i0 (.int .i64 0) 1 8 Tryz.underlying22 hi hz0 hz1 hz2 rfl (by decide) _ _ _ rfl (hown.alloc _) ⟨wr.heap.size, 0, none⟩ 1 1 [.int .i64 (wordI x)] rfl rfl (cell_one_new _ _ _) (by intro u hu; rw [List.mem_singleton.mp hu]; rfl) hfl hfb HS ?_; intro v1 w2 hown1 hg1 _)
   have HB : Below w1.heap.size w1 w2 := (hb.alloc hb.size _).grown hg1 HS (owns_ge hown)
   rw [← HT.out] at hown1
   go_roundw
   case rel => exact ⟨k + 1, by go_num, by omega, hown1, HB⟩
   case measure => simp [intOf]; omega
  ·obtain rfl : k = wl.length := by omega
   rw [List.take_length] at hown
   have HS : w1.heap.size ≤ (wr.alloc (.cells #[.int .i64 (bs.length : Int)] 3)).heap.size := Nat.le_trans (Nat.le_succ_of_le hb.size) (Nat.le_of_eq (by simp))
   go_wp2_with (at_builtin; refine wpList_append_own _ rfl _ _ 22 rfl w1.heap.size 3 i0 (.int .i64 0) 1 8 Tryz.underlying22 hi hz0 hz1 hz2 rfl (by decide) _ _ _ rfl (hown.alloc _) ⟨wr.heap.size, 0, none⟩ 1 1 [.int .i64 (bs.length : Int)] rfl rfl (cell_one_new _ _ _) (by intro u hu; rw [List.mem_singleton.mp hu]; rfl) hfl hfb HS ?_; intro v1 w2 hown1 hg1 _)
   have HB : Below w1.heap.size w1 w2 := (hb.alloc hb.size _).grown hg1 HS (owns_ge hown)
   have HI : ints (wl.map wordI) ++ [Value.int .i64 (bs.length : Int)] = ints (wl.map wordI ++ [(bs.length : Int)]) := by unfold ints; rw [List.map_append]; rfl
   rw [HI] at hown1
   refine (refsum_any s hsz v1 (wl.map wordI ++ [(bs.length : Int)]) w2 (Rep.of_own_plain hown1) (by rw [List.length_append, List.length_map]; simp; omega)).mono ?_
   rintro e w3 ⟨rfl, hb3⟩
   rw [HV.out]
   have hBB := below_up (below_up hb1 HB hb1.size) hb3 (Nat.le_trans hb1.size HB.size)
   go_wp2_with fail
   go_ret
   exact ⟨rfl, hBB⟩
set_option maxHeartbeats 1000000 in
theorem refcommit_any (v : Value) (bs : List Nat) (hbb : Bytes bs) (hn : bs.length ≤ 900000000) (salt : Nat) (hs : salt < 18446744073709551616) (w : World) (hr : Rep w w.heap.size v (.s 1 (valD (bys bs)))) :
  Calls Tryz.prog 72 #[v, .int .u64 (salt : Int)] w fun e w' => e = .returned (.int .u64 (commitN bs salt : Int)) ∧ Below w.heap.size w w' := by
 have HA := Lib.hid (u64_wordI hs)
 have HB := Lib.hid (u64_wordI (bytesN_lt sSealed bs))
 clear hs
 have HX : IntKind.i64.wrap (salt : Int) = wordI salt := rfl
 have HY : IntKind.i64.wrap (bytesN sSealed bs : Int) = wordI (bytesN sSealed bs) := rfl
 obtain ⟨A, c, rfl, hc, hcell⟩ := hr.row
 have HR := Lib.hid hr
 clear hr hcell
 go_enter Tryz.func72, Tryz.ntmps72
 go_wp2_with (go_at_call 123; refine (refbytesum_any sSealed (by decide) _ bs hbb hn w HR.out).mono ?_; rintro e w1 ⟨rfl, hb1⟩)
 go_wp2_with (go_at_call 67; refine (refsum_fresh sSeal (by decide) [wordI salt, wordI (bytesN sSealed bs)] [salt, bytesN sSealed bs] 2 _ w1 _ rfl rfl rfl (by unfold u64L; rw [List.map_cons, List.map_cons, List.map_nil, HA.out, HB.out]) (Nat.le_of_ble_eq_true rfl)).mono ?_; rintro e w' ⟨rfl, hb⟩)
 go_ret
 exact ⟨rfl, hb1.trans (hb.mono hb1.size)⟩
end Go.Proofs.YtbeaijjaecaidaaGreatDoor
namespace Go.Proofs.YtbeaijjaecaidaaGreatDoor
open Go.RowKit Go.Shelf
attribute [local go_sem ↓] Go.wp_at_zero Go.wp_at_succ
structure Hd where
 office : Int
 tick : Int
 day : Int
 size : Int
 log : Nat
 map : Nat
 sld : Int
 sign : Nat
def Hd.vals (h : Hd) : Array Value := #[.int .i64 h.office, .int .i64 h.tick, .int .i64 h.day, .int .i64 h.size, .int .u64 (h.log : Int), .int .u64 (h.map : Int), .int .i64 h.sld, .int .u64 (h.sign : Int)]
def sigN (key : Nat) (h : Hd) : Nat := labN sSign [key, u64 h.office, u64 h.tick, u64 h.day, u64 h.size, h.log, h.map, u64 h.sld]
set_option maxRecDepth 100000 in
set_option maxHeartbeats 1000000 in
theorem signature_any (key : Nat) (hk : key < 18446744073709551616) (o t d s : Int) (l m : Nat) (hl : l < 18446744073709551616) (hm : m < 18446744073709551616) (sl : Int) (sg : Nat) (w : World) :
  Calls Tryz.prog 66 #[.int .u64 (key : Int), .agg #[.int .i64 o, .int .i64 t, .int .i64 d, .int .i64 s, .int .u64 (l : Int), .int .u64 (m : Int), .int .i64 sl, .int .u64 (sg : Int)]] w fun e w' => e = .returned (.int .u64 (sigN key ⟨o, t, d, s, l, m, sl, sg⟩ : Int)) ∧ Below w.heap.size w w' := by
 have HA := Lib.hid (u64_wordI hk)
 have HB := Lib.hid (u64_wordI hl)
 have HC := Lib.hid (u64_wordI hm)
 clear hk hl hm
 have HX : IntKind.i64.wrap (key : Int) = wordI key := rfl
 have HY : IntKind.i64.wrap (l : Int) = wordI l := rfl
 have HZ : IntKind.i64.wrap (m : Int) = wordI m := rfl
 go_enter Tryz.func66, Tryz.ntmps66
 go_wp2_with (go_at_call 43; refine (sum_fresh sSign (by decide) [wordI key, o, t, d, s, wordI l, wordI m, sl] [key, u64 o, u64 t, u64 d, u64 s, l, m, u64 sl] 8 _ (w.alloc (.cells #[.int .i64 o, .int .i64 t, .int .i64 d, .int .i64 s, .int .u64 (l : Int), .int .u64 (m : Int), .int .i64 sl, .int .u64 (sg : Int)] 49)) _ (by simp) rfl rfl (by unfold u64L; simp only [List.map_cons, List.map_nil, HA.out, HB.out, HC.out]) (Nat.le_of_ble_eq_true rfl)).mono ?_; rintro e w' ⟨rfl, hb⟩)
 go_ret
 exact ⟨rfl, below_up (below_new _ _) hb (by simp)⟩
end Go.Proofs.YtbeaijjaecaidaaGreatDoor
namespace Go.Proofs.YtbeaijjaecaidaaGreatDoor
open Go.RowKit Go.Shelf
set_option maxRecDepth 100000 in
set_option maxHeartbeats 1000000 in
theorem refsignature_any (key : Nat) (hk : key < 18446744073709551616) (o t d s : Int) (l m : Nat) (hl : l < 18446744073709551616) (hm : m < 18446744073709551616) (sl : Int) (sg : Nat) (w : World) :
  Calls Tryz.prog 93 #[.int .u64 (key : Int), .agg #[.int .i64 o, .int .i64 t, .int .i64 d, .int .i64 s, .int .u64 (l : Int), .int .u64 (m : Int), .int .i64 sl, .int .u64 (sg : Int)]] w fun e w' => e = .returned (.int .u64 (sigN key ⟨o, t, d, s, l, m, sl, sg⟩ : Int)) ∧ Below w.heap.size w w' := by
 have HA := Lib.hid (u64_wordI hk)
 have HB := Lib.hid (u64_wordI hl)
 have HC := Lib.hid (u64_wordI hm)
 clear hk hl hm
 have HX : IntKind.i64.wrap (key : Int) = wordI key := rfl
 have HY : IntKind.i64.wrap (l : Int) = wordI l := rfl
 have HZ : IntKind.i64.wrap (m : Int) = wordI m := rfl
 go_enter Tryz.func93, Tryz.ntmps93
 go_wp2_with (go_at_call 67; refine (refsum_fresh sSign (by decide) [wordI key, o, t, d, s, wordI l, wordI m, sl] [key, u64 o, u64 t, u64 d, u64 s, l, m, u64 sl] 8 _ (w.alloc (.cells #[.int .i64 o, .int .i64 t, .int .i64 d, .int .i64 s, .int .u64 (l : Int), .int .u64 (m : Int), .int .i64 sl, .int .u64 (sg : Int)] 29)) _ (by simp) rfl rfl (by unfold u64L; simp only [List.map_cons, List.map_nil, HA.out, HB.out, HC.out]) (Nat.le_of_ble_eq_true rfl)).mono ?_; rintro e w' ⟨rfl, hb⟩)
 go_ret
 exact ⟨rfl, below_up (below_new _ _) hb (by simp)⟩
set_option maxRecDepth 100000 in
set_option maxHeartbeats 1000000 in
theorem refsign_any (sec : Nat) (hk : sec < 18446744073709551616) (o t d s : Int) (l m : Nat) (hl : l < 18446744073709551616) (hm : m < 18446744073709551616) (sl : Int) (sg : Nat) (w : World) :
  Calls Tryz.prog 40 #[.int .u64 (sec : Int), .agg #[.int .i64 o, .int .i64 t, .int .i64 d, .int .i64 s, .int .u64 (l : Int), .int .u64 (m : Int), .int .i64 sl, .int .u64 (sg : Int)]] w fun e w' =>
   e = .returned (.agg #[.int .i64 o, .int .i64 t, .int .i64 d, .int .i64 s, .int .u64 (l : Int), .int .u64 (m : Int), .int .i64 sl, .int .u64 (sigN (keyN sec) ⟨o, t, d, s, l, m, sl, sg⟩ : Int)]) ∧ Below w.heap.size w w' := by
 have HK := Lib.hid hk
 have HL := Lib.hid hl
 have HM := Lib.hid hm
 clear hk hl hm
 go_enter Tryz.func40, Tryz.ntmps40
 go_upto_region 1 with fail
 have B0 := (Blk.new w 29 #[.int .i64 o, .int .i64 t, .int .i64 d, .int .i64 s, .int .u64 (l : Int), .int .u64 (m : Int), .int .i64 sl, .int .u64 (sg : Int)]).alloc (.cells #[.int .i64 0, .int .i64 0, .int .i64 0, .int .i64 0, .int .u64 0, .int .u64 0, .int .i64 0, .int .u64 0] 29)
 have B1 := Blk.new (w.alloc (.cells #[.int .i64 o, .int .i64 t, .int .i64 d, .int .i64 s, .int .u64 (l : Int), .int .u64 (m : Int), .int .i64 sl, .int .u64 (sg : Int)] 29)) 29 #[.int .i64 0, .int .i64 0, .int .i64 0, .int .i64 0, .int .u64 0, .int .u64 0, .int .i64 0, .int .u64 0]
 rw [World.size_alloc] at B1
 have HB := (below_new w (.cells #[.int .i64 o, .int .i64 t, .int .i64 d, .int .i64 s, .int .u64 (l : Int), .int .u64 (m : Int), .int .i64 sl, .int .u64 (sg : Int)] 29)).alloc (by simp) (.cells #[.int .i64 0, .int .i64 0, .int .i64 0, .int .i64 0, .int .u64 0, .int .u64 0, .int .i64 0, .int .u64 0] 29)
 generalize (w.alloc (.cells #[.int .i64 o, .int .i64 t, .int .i64 d, .int .i64 s, .int .u64 (l : Int), .int .u64 (m : Int), .int .i64 sl, .int .u64 (sg : Int)] 29)).alloc (.cells #[.int .i64 0, .int .i64 0, .int .i64 0, .int .i64 0, .int .u64 0, .int .u64 0, .int .i64 0, .int .u64 0] 29) = W0 at *
 go_cut [] (fun wx => Blk wx w.heap.size 29 #[.int .i64 o, .int .i64 t, .int .i64 d, .int .i64 s, .int .u64 (l : Int), .int .u64 (m : Int), .int .i64 sl, .int .u64 (sigN (keyN sec) ⟨o, t, d, s, l, m, sl, sg⟩ : Int)] ∧ Blk wx (w.heap.size + 1) 29 #[.int .i64 0, .int .i64 0, .int .i64 0, .int .i64 0, .int .u64 0, .int .u64 0, .int .i64 0, .int .u64 0] ∧ Below w.heap.size w wx)
 case first =>
  refine wp_region_held_drew (S := (fun _ => True)) (by kernel_rfl) ?_ (fun hHeld => ?_)
  ·first | done | ((try dsimp only); (try trivial))
  have HB' := HB.drew
  have B0' := B0.drew
  have B1' := B1.drew
  clear HB B0 B1
  generalize W0.drew = W1 at *
  refine tk 0 5 ?_ rfl ?_ ?_
  rotate_left
  ·(intro w' hSw; (try dsimp only at hSw); go_simp; try (with_reducible rfl))
  (try simp only [pS, pB, pZ, pC])
  refine rd2 1 (some 6) 2 (some 7) (by kernel_rfl) rfl rfl (fun K hK => ?_) fun K hK => ?_
  ·skip
   go_simp
   (refine (refkey_any sec HK.out _).mono ?_; rintro e w1 ⟨rfl, hb1⟩)
   refine hK.out _ _ ?_ (fun hHeld => ?_)
   ·first | done | ((try dsimp only); (try trivial))
   clear hK K
   (try simp only [pS, pB, pZ, pC])
   have B2 := B0'.keep hb1
   have C2 := B1'.keep hb1
   have HB2 := HB'.trans (hb1.mono HB'.size)
   have hc := B2.c8
   refine rd 2 (some 7) (by kernel_rfl) rfl fun K hK => ?_
   go_simp
   skip
   refine hK.out _ _ ?_ (fun hHeld => ?_)
   ·first | done | ((try dsimp only); (try trivial))
   clear hK K
   (try simp only [pS, pB, pZ, pC])
   refine rd 3 (some 8) (by kernel_rfl) rfl fun K hK => ?_
   go_simp
   (refine (refsignature_any (keyN sec) (lab_lt _ _) o t d s l m HL.out HM.out sl sg _).mono ?_; rintro e w2 ⟨rfl, hb2⟩)
   refine hK.out _ _ ?_ (fun hHeld => ?_)
   ·first | done | ((try dsimp only); (try trivial))
   clear hK K
   (try simp only [pS, pB, pZ, pC])
   have B3 := B2.keep hb2
   have C3 := C2.keep hb2
   have HB3 := HB2.trans (hb2.mono HB2.size)
   have hc := B3.c8
   have hf := B3.f8
   refine tk 4 9 ?_ rfl ?_ ?_
   rotate_left
   ·(intro w' hSw; (try dsimp only at hSw); go_simp; try (with_reducible rfl))
   (try simp only [pS, pB, pZ, pC])
   refine rd 5 none (by kernel_rfl) rfl fun K hK => ?_
   go_simp
   skip
   refine hK.out _ _ ?_ (fun hHeld => ?_)
   ·first | done | ((try dsimp only); (try trivial))
   clear hK K
   (try simp only [pS, pB, pZ, pC])
   refine wpAnyH_done (by kernel_rfl) ?_ _
   go_wp2_with fail
   go_meet
   exact ⟨B3.set 7 _, C3.far (by simp) _, HB3.setCell (Nat.le_refl _) _⟩
  ·have hc := B0'.c8
   go_simp
   skip
   refine hK.out _ _ ?_ (fun hHeld => ?_)
   ·first | done | ((try dsimp only); (try trivial))
   clear hK K
   (try simp only [pS, pB, pZ, pC])
   refine rd 1 (some 6) (by kernel_rfl) rfl fun K hK => ?_
   go_simp
   (refine (refkey_any sec HK.out _).mono ?_; rintro e w1 ⟨rfl, hb1⟩)
   refine hK.out _ _ ?_ (fun hHeld => ?_)
   ·first | done | ((try dsimp only); (try trivial))
   clear hK K
   (try simp only [pS, pB, pZ, pC])
   have B2 := B0'.keep hb1
   have C2 := B1'.keep hb1
   have HB2 := HB'.trans (hb1.mono HB'.size)
   refine rd 3 (some 8) (by kernel_rfl) rfl fun K hK => ?_
   go_simp
   (refine (refsignature_any (keyN sec) (lab_lt _ _) o t d s l m HL.out HM.out sl sg _).mono ?_; rintro e w2 ⟨rfl, hb2⟩)
   refine hK.out _ _ ?_ (fun hHeld => ?_)
   ·first | done | ((try dsimp only); (try trivial))
   clear hK K
   (try simp only [pS, pB, pZ, pC])
   have B3 := B2.keep hb2
   have C3 := C2.keep hb2
   have HB3 := HB2.trans (hb2.mono HB2.size)
   have hc := B3.c8
   have hf := B3.f8
   refine tk 4 9 ?_ rfl ?_ ?_
   rotate_left
   ·(intro w' hSw; (try dsimp only at hSw); go_simp; try (with_reducible rfl))
   (try simp only [pS, pB, pZ, pC])
   refine rd 5 none (by kernel_rfl) rfl fun K hK => ?_
   go_simp
   skip
   refine hK.out _ _ ?_ (fun hHeld => ?_)
   ·first | done | ((try dsimp only); (try trivial))
   clear hK K
   (try simp only [pS, pB, pZ, pC])
   refine wpAnyH_done (by kernel_rfl) ?_ _
   go_wp2_with fail
   go_meet
   exact ⟨B3.set 7 _, C3.far (by simp) _, HB3.setCell (Nat.le_refl _) _⟩
 case rest =>
  obtain ⟨B3, C3, HB3⟩ := hcut
  obtain ⟨wx, rfl⟩ : ∃ z : World, z = wc := ⟨_, rfl⟩
  clear B0 B1 HB
  have hc := B3.c8
  have hd := C3.c8
  have he := C3.f8
  go_wp2_with fail
  have C4 : Blk _ (w.heap.size + 1) 29 #[.int .i64 o, .int .i64 t, .int .i64 d, .int .i64 s, .int .u64 (l : Int), .int .u64 (m : Int), .int .i64 sl, .int .u64 (sigN (keyN sec) ⟨o, t, d, s, l, m, sl, sg⟩ : Int)] := ((((((((C3.set 0 (.int .i64 o)).set 1 (.int .i64 t)).set 2 (.int .i64 d)).set 3 (.int .i64 s)).set 4 (.int .u64 (l : Int))).set 5 (.int .u64 (m : Int))).set 6 (.int .i64 sl)).set 7 (.int .u64 (sigN (keyN sec) ⟨o, t, d, s, l, m, sl, sg⟩ : Int)))
  have HB4 := ((((((((HB3.setCell (p := ⟨w.heap.size + 1, 0, none⟩) (Nat.le_succ _) (.int .i64 o)).setCell (p := ⟨w.heap.size + 1, 1, none⟩) (Nat.le_succ _) (.int .i64 t)).setCell (p := ⟨w.heap.size + 1, 2, none⟩) (Nat.le_succ _) (.int .i64 d)).setCell (p := ⟨w.heap.size + 1, 3, none⟩) (Nat.le_succ _) (.int .i64 s)).setCell (p := ⟨w.heap.size + 1, 4, none⟩) (Nat.le_succ _) (.int .u64 (l : Int))).setCell (p := ⟨w.heap.size + 1, 5, none⟩) (Nat.le_succ _) (.int .u64 (m : Int))).setCell (p := ⟨w.heap.size + 1, 6, none⟩) (Nat.le_succ _) (.int .i64 sl)).setCell (p := ⟨w.heap.size + 1, 7, none⟩) (Nat.le_succ _) (.int .u64 (sigN (keyN sec) ⟨o, t, d, s, l, m, sl, sg⟩ : Int)))
  clear hc hd he
  revert C4 HB4
  generalize World.setCell _ _ _ = wz
  intro C4 HB4
  obtain ⟨c0, c1, c2, c3, c4, c5, c6, c7⟩ := C4.c8
  exact bodyPost_ret (v := .agg #[.int .i64 o, .int .i64 t, .int .i64 d, .int .i64 s, .int .u64 (l : Int), .int .u64 (m : Int), .int .i64 sl, .int .u64 (sigN (keyN sec) ⟨o, t, d, s, l, m, sl, sg⟩ : Int)]) (by simp [results, Tryz.results40, go_sem, c0, c1, c2, c3, c4, c5, c6, c7]) rfl ⟨rfl, HB4⟩
end Go.Proofs.YtbeaijjaecaidaaGreatDoor
namespace Go.Proofs.YtbeaijjaecaidaaGreatDoor
open Go.RowKit Go.Shelf
attribute [local go_sem] Oper.semAt_some
def OkHd (o t d s sl : Int) : Prop := (0 ≤ o ∧ o ≤ 11) ∧ (0 ≤ t ∧ t ≤ 1099511627776) ∧ (0 ≤ d ∧ d ≤ 131072) ∧ (0 ≤ s ∧ s ≤ 4096) ∧ (0 ≤ sl ∧ sl ≤ s)
set_option maxHeartbeats 1000000 in
theorem hdin_any (n hi : Int) (h0 : 0 ≤ n) (h1 : n ≤ hi) (w : World) :
  Calls Tryz.prog 142 #[.int .i64 n, .int .i64 hi] w fun e w' => e = .returned (.bool true) ∧ w' = w := by
 have d0 : decide (0 ≤ n) = true := decide_eq_true h0
 have d1 : decide (n ≤ hi) = true := decide_eq_true h1
 go_enter Tryz.func142, Tryz.ntmps142
 go_wp2_with fail
 go_ret
 exact ⟨rfl, rfl⟩
set_option maxRecDepth 100000 in
set_option maxHeartbeats 2000000 in
theorem hdformed_any (o t d s : Int) (l m : Nat) (sl : Int) (sg : Nat) (hok : OkHd o t d s sl) (g : Nat) (w : World) (hg : Blk w g 49 #[.int .i64 o, .int .i64 t, .int .i64 d, .int .i64 s, .int .u64 (l : Int), .int .u64 (m : Int), .int .i64 sl, .int .u64 (sg : Int)]) :
  Calls Tryz.prog 97 #[.slice (some ⟨g, 0, none⟩) 1 1] w fun e w' => e = .returned (.bool true) ∧ Below w.heap.size w w' := by
 obtain ⟨⟨h1, h2⟩, ⟨h3, h4⟩, ⟨h5, h6⟩, ⟨h7, h8⟩, h9, h10⟩ := hok
 have H1 := Lib.hid (fun W => hdin_any o 11 h1 h2 W)
 have H2 := Lib.hid (fun W => hdin_any t 1099511627776 h3 h4 W)
 have H3 := Lib.hid (fun W => hdin_any d 131072 h5 h6 W)
 have H4 := Lib.hid (fun W => hdin_any s 4096 h7 h8 W)
 have H5 := Lib.hid (fun W => hdin_any sl s h9 h10 W)
 clear h1 h2 h3 h4 h5 h6 h7 h8 h9 h10
 go_enter Tryz.func97, Tryz.ntmps97
 go_wp2_with fail
 go_loopw [8] (fun i wr => (i = .int .i64 0 ∧ w = wr) ∨ (i = .int .i64 1 ∧ Below w.heap.size w wr)) (fun i _ => 1 - (intOf i).toNat)
 case atStart => exact .inl ⟨rfl, rfl⟩
 case round =>
  rcases hrel with ⟨rfl, rfl⟩ | ⟨rfl, hB⟩
  ·have hc := hg.c8
   have P0 := below_new w (.cells #[.int .i64 o, .int .i64 t, .int .i64 d, .int .i64 s, .int .u64 (l : Int), .int .u64 (m : Int), .int .i64 sl, .int .u64 (sg : Int)] 49)
   go_wp2_with fail
   refine (H1.out _).mono ?_
   rintro e w' ⟨rfl, rfl⟩
   go_wp2_with fail
   refine (H2.out _).mono ?_
   rintro e w' ⟨rfl, rfl⟩
   go_wp2_with fail
   refine (H3.out _).mono ?_
   rintro e w' ⟨rfl, rfl⟩
   go_wp2_with fail
   refine (H4.out _).mono ?_
   rintro e w' ⟨rfl, rfl⟩
   go_wp2_with fail
   refine (H5.out _).mono ?_
   rintro e w' ⟨rfl, rfl⟩
   go_wp2_with fail
   go_roundw
   case rel => exact .inr ⟨rfl, P0⟩
   case measure => simp [intOf]
  ·go_wp2_with fail
   go_ret
   exact ⟨rfl, hB⟩
end Go.Proofs.YtbeaijjaecaidaaGreatDoor
namespace Go.Proofs.YtbeaijjaecaidaaGreatDoor
open Go.RowKit Go.Shelf
attribute [local go_sem] Oper.semAt_some
set_option maxRecDepth 100000 in
set_option maxHeartbeats 2000000 in
theorem hdcheck_ok (key : Nat) (hk : key < 18446744073709551616) (o t d s : Int) (l m : Nat) (hl : l < 18446744073709551616) (hm : m < 18446744073709551616) (sl : Int) (sg : Nat) (hok : OkHd o t d s sl) (hs : sg = sigN key ⟨o, t, d, s, l, m, sl, sg⟩) (w : World) :
  Calls Tryz.prog 47 #[.int .u64 (key : Int), .agg #[.int .i64 o, .int .i64 t, .int .i64 d, .int .i64 s, .int .u64 (l : Int), .int .u64 (m : Int), .int .i64 sl, .int .u64 (sg : Int)]] w fun e w' => e = .returned (.int .i64 0) ∧ Below w.heap.size w w' := by
 have hne : ((sg : Int) != (sigN key ⟨o, t, d, s, l, m, sl, sg⟩ : Int)) = false := by rw [← hs]; simp
 have X0 := Blk.new w 49 #[.int .i64 o, .int .i64 t, .int .i64 d, .int .i64 s, .int .u64 (l : Int), .int .u64 (m : Int), .int .i64 sl, .int .u64 (sg : Int)]
 have P0 := below_new w (.cells #[.int .i64 o, .int .i64 t, .int .i64 d, .int .i64 s, .int .u64 (l : Int), .int .u64 (m : Int), .int .i64 sl, .int .u64 (sg : Int)] 49)
 have Y0 := Blk.new (w.alloc (.cells #[.int .i64 o, .int .i64 t, .int .i64 d, .int .i64 s, .int .u64 (l : Int), .int .u64 (m : Int), .int .i64 sl, .int .u64 (sg : Int)] 49)) 49 #[.int .i64 o, .int .i64 t, .int .i64 d, .int .i64 s, .int .u64 (l : Int), .int .u64 (m : Int), .int .i64 sl, .int .u64 (sg : Int)]
 rw [World.size_alloc] at Y0
 have HF := Lib.hid (hdformed_any o t d s l m sl sg hok (w.heap.size + 1) _ Y0)
 have HS := Lib.hid (fun W => signature_any key hk o t d s l m hl hm sl sg W)
 have X1 := X0.alloc (.cells #[.int .i64 o, .int .i64 t, .int .i64 d, .int .i64 s, .int .u64 (l : Int), .int .u64 (m : Int), .int .i64 sl, .int .u64 (sg : Int)] 49)
 have P1 := P0.alloc P0.size (.cells #[.int .i64 o, .int .i64 t, .int .i64 d, .int .i64 s, .int .u64 (l : Int), .int .u64 (m : Int), .int .i64 sl, .int .u64 (sg : Int)] 49)
 generalize sigN key ⟨o, t, d, s, l, m, sl, sg⟩ = sn at *
 clear hs hok hk hl hm X0 P0 Y0
 go_enter Tryz.func47, Tryz.ntmps47
 go_wp2_with fail
 refine HF.out.mono ?_
 rintro e w1 ⟨rfl, hb1⟩
 have X2 := X1.keep hb1
 have P2 := below_up P1 hb1 P1.size
 clear X1 P1 hb1 HF
 go_upto_region 3 with fail
 refine wp_region_held_drew (S := (fun w' => Blk w' w.heap.size 49 #[.int .i64 o, .int .i64 t, .int .i64 d, .int .i64 s, .int .u64 (l : Int), .int .u64 (m : Int), .int .i64 sl, .int .u64 (sg : Int)] ∧ Below w.heap.size w w')) (by kernel_rfl) ?_ (fun hHeld => ?_)
 ·first | done | ((try dsimp only); exact ⟨X2, P2.drew⟩)
 clear X2 P2
 generalize w1.drew = wb at *
 refine tk 0 11 ?_ rfl ?_ ?_
 rotate_left
 ·(intro w' hSw; (try dsimp only at hSw); go_simp; try (with_reducible rfl))
 (try simp only [pS, pB, pZ, pC])
 refine tk 1 12 ?_ rfl ?_ ?_
 rotate_left
 ·(intro w' hSw; (try dsimp only at hSw); (have hc := hSw.1.c8; go_simp); try (with_reducible rfl))
 (try simp only [pS, pB, pZ, pC])
 refine tk 2 13 ?_ rfl ?_ ?_
 rotate_left
 ·(intro w' hSw; (try dsimp only at hSw); go_simp; try (with_reducible rfl))
 (try simp only [pS, pB, pZ, pC])
 refine tk 3 14 ?_ rfl ?_ ?_
 rotate_left
 ·(intro w' hSw; (try dsimp only at hSw); (have hc := hSw.1.c8; go_simp); try (with_reducible rfl))
 (try simp only [pS, pB, pZ, pC])
 refine rd 4 (some 15) (by kernel_rfl) rfl fun K hK => ?_
 go_simp
 (refine (HS.out _).mono ?_; rintro e w2 ⟨rfl, hb2⟩)
 refine hK.out _ _ ?_ (fun hHeld => ?_)
 ·first | done | ((try dsimp only); exact ⟨hHeld.1.keep hb2, below_up hHeld.2 hb2 hHeld.2.size⟩)
 clear hK K
 (try simp only [pS, pB, pZ, pC])
 refine tk 5 16 ?_ rfl ?_ ?_
 rotate_left
 ·(intro w' hSw; (try dsimp only at hSw); go_simp; try (with_reducible rfl))
 (try simp only [pS, pB, pZ, pC])
 refine tk 6 10 ?_ rfl ?_ ?_
 rotate_left
 ·(intro w' hSw; (try dsimp only at hSw); go_simp; try (with_reducible rfl))
 (try simp only [pS, pB, pZ, pC])
 refine wpAnyH_done (by kernel_rfl) ?_ _
 have HB := Lib.hid hHeld.2
 clear hHeld
 go_wp2_with fail
 go_ret
 exact ⟨rfl, HB.out⟩
set_option maxRecDepth 100000 in
set_option maxHeartbeats 2000000 in
theorem hdcheck_bad (key : Nat) (hk : key < 18446744073709551616) (o t d s : Int) (l m : Nat) (hl : l < 18446744073709551616) (hm : m < 18446744073709551616) (sl : Int) (sg : Nat) (hok : OkHd o t d s sl) (hs : sg ≠ sigN key ⟨o, t, d, s, l, m, sl, sg⟩) (w : World) :
  Calls Tryz.prog 47 #[.int .u64 (key : Int), .agg #[.int .i64 o, .int .i64 t, .int .i64 d, .int .i64 s, .int .u64 (l : Int), .int .u64 (m : Int), .int .i64 sl, .int .u64 (sg : Int)]] w fun e w' => e = .returned (.int .i64 23) ∧ Below w.heap.size w w' := by
 have hne : ((sg : Int) != (sigN key ⟨o, t, d, s, l, m, sl, sg⟩ : Int)) = true := by
  simp only [bne_iff_ne, ne_eq]
  intro e
  exact hs (by exact_mod_cast e)
 have X0 := Blk.new w 49 #[.int .i64 o, .int .i64 t, .int .i64 d, .int .i64 s, .int .u64 (l : Int), .int .u64 (m : Int), .int .i64 sl, .int .u64 (sg : Int)]
 have P0 := below_new w (.cells #[.int .i64 o, .int .i64 t, .int .i64 d, .int .i64 s, .int .u64 (l : Int), .int .u64 (m : Int), .int .i64 sl, .int .u64 (sg : Int)] 49)
 have Y0 := Blk.new (w.alloc (.cells #[.int .i64 o, .int .i64 t, .int .i64 d, .int .i64 s, .int .u64 (l : Int), .int .u64 (m : Int), .int .i64 sl, .int .u64 (sg : Int)] 49)) 49 #[.int .i64 o, .int .i64 t, .int .i64 d, .int .i64 s, .int .u64 (l : Int), .int .u64 (m : Int), .int .i64 sl, .int .u64 (sg : Int)]
 rw [World.size_alloc] at Y0
 have HF := Lib.hid (hdformed_any o t d s l m sl sg hok (w.heap.size + 1) _ Y0)
 have HS := Lib.hid (fun W => signature_any key hk o t d s l m hl hm sl sg W)
 have X1 := X0.alloc (.cells #[.int .i64 o, .int .i64 t, .int .i64 d, .int .i64 s, .int .u64 (l : Int), .int .u64 (m : Int), .int .i64 sl, .int .u64 (sg : Int)] 49)
 have P1 := P0.alloc P0.size (.cells #[.int .i64 o, .int .i64 t, .int .i64 d, .int .i64 s, .int .u64 (l : Int), .int .u64 (m : Int), .int .i64 sl, .int .u64 (sg : Int)] 49)
 generalize sigN key ⟨o, t, d, s, l, m, sl, sg⟩ = sn at *
 clear hs hok hk hl hm X0 P0 Y0
 go_enter Tryz.func47, Tryz.ntmps47
 go_wp2_with fail
 refine HF.out.mono ?_
 rintro e w1 ⟨rfl, hb1⟩
 have X2 := X1.keep hb1
 have P2 := below_up P1 hb1 P1.size
 clear X1 P1 hb1 HF
 go_upto_region 3 with fail
 refine wp_region_held_drew (S := (fun w' => Blk w' w.heap.size 49 #[.int .i64 o, .int .i64 t, .int .i64 d, .int .i64 s, .int .u64 (l : Int), .int .u64 (m : Int), .int .i64 sl, .int .u64 (sg : Int)] ∧ Below w.heap.size w w')) (by kernel_rfl) ?_ (fun hHeld => ?_)
 ·first | done | ((try dsimp only); exact ⟨X2, P2.drew⟩)
 clear X2 P2
 generalize w1.drew = wb at *
 refine tk 0 11 ?_ rfl ?_ ?_
 rotate_left
 ·(intro w' hSw; (try dsimp only at hSw); go_simp; try (with_reducible rfl))
 (try simp only [pS, pB, pZ, pC])
 refine tk 1 12 ?_ rfl ?_ ?_
 rotate_left
 ·(intro w' hSw; (try dsimp only at hSw); (have hc := hSw.1.c8; go_simp); try (with_reducible rfl))
 (try simp only [pS, pB, pZ, pC])
 refine tk 2 13 ?_ rfl ?_ ?_
 rotate_left
 ·(intro w' hSw; (try dsimp only at hSw); go_simp; try (with_reducible rfl))
 (try simp only [pS, pB, pZ, pC])
 refine tk 3 14 ?_ rfl ?_ ?_
 rotate_left
 ·(intro w' hSw; (try dsimp only at hSw); (have hc := hSw.1.c8; go_simp); try (with_reducible rfl))
 (try simp only [pS, pB, pZ, pC])
 refine rd 4 (some 15) (by kernel_rfl) rfl fun K hK => ?_
 go_simp
 (refine (HS.out _).mono ?_; rintro e w2 ⟨rfl, hb2⟩)
 refine hK.out _ _ ?_ (fun hHeld => ?_)
 ·first | done | ((try dsimp only); exact ⟨hHeld.1.keep hb2, below_up hHeld.2 hb2 hHeld.2.size⟩)
 clear hK K
 (try simp only [pS, pB, pZ, pC])
 refine tk 5 16 ?_ rfl ?_ ?_
 rotate_left
 ·(intro w' hSw; (try dsimp only at hSw); go_simp; try (with_reducible rfl))
 (try simp only [pS, pB, pZ, pC])
 refine tk 6 10 ?_ rfl ?_ ?_
 rotate_left
 ·(intro w' hSw; (try dsimp only at hSw); go_simp; try (with_reducible rfl))
 (try simp only [pS, pB, pZ, pC])
 refine wpAnyH_done (by kernel_rfl) ?_ _
 have HB := Lib.hid hHeld.2
 clear hHeld
 go_wp2_with fail
 go_ret
 exact ⟨rfl, HB.out⟩
end Go.Proofs.YtbeaijjaecaidaaGreatDoor
namespace Go.Proofs.YtbeaijjaecaidaaGreatDoor
open Go.RowKit Go.Shelf
attribute [local go_sem] Oper.semAt_some
set_option maxHeartbeats 1000000 in
theorem refroot_one (h : Nat) (hh : h < 18446744073709551616) (b o c : Nat) (w : World) (hc : w.cell? ⟨b, o, none⟩ = some (.int .u64 (h : Int))) :
  Calls Tryz.prog 28 #[.slice (some ⟨b, o, none⟩) 1 c] w fun e w' => e = .returned (.int .u64 (leafN h : Int)) ∧ Below w.heap.size w w' := by
 have HL := Lib.hid (fun W => refleaf_any h hh W)
 clear hh
 go_enter Tryz.func28, Tryz.ntmps28
 go_wp2_with fail
 refine (HL.out _).mono ?_
 rintro e w' ⟨rfl, hb⟩
 go_wp2_with fail
 go_ret
 exact ⟨rfl, hb⟩
set_option maxHeartbeats 1000000 in
theorem refpath_one (A : Option Addr) (c : Nat) (i : Int) (w : World) :
  Calls Tryz.prog 42 #[.slice A 1 c, .int .i64 i] w fun e w' => e = .returned (.slice none 0 0) ∧ w' = w := by
 go_enter Tryz.func42, Tryz.ntmps42
 go_wp2_with fail
 go_ret
 exact ⟨rfl, rfl⟩
set_option maxHeartbeats 1000000 in
theorem climb_one (h : Nat) (hh : h < 18446744073709551616) (A : Option Addr) (c bg bh : Nat) (f : Value) (w : World) (hg : Blk w bg 4 #[.bool true]) (hb : Blk w bh 27 #[.int .u64 (h : Int)]) :
  Calls Tryz.prog 143 #[.int .i64 0, .int .i64 1, .slice A 0 c, .pointer (some ⟨bg, 0, none⟩), .pointer (some ⟨bh, 0, none⟩), f] w fun e w' => e = .returned (.int .u64 (leafN h : Int)) ∧ Below (w.heap.size) (w.setCell ⟨bg, 0, none⟩ (.bool true)) w' := by
 have HL := Lib.hid (fun W => leaf_any h hh W)
 have hc := hg.c1
 have hd := hb.c1
 have hne : bh ≠ bg := hb.ne hg (by decide)
 have hd2 := (hb.far (p := ⟨bg, 0, none⟩) hne (.bool true)).c1
 clear hh hg hb
 go_enter Tryz.func143, Tryz.ntmps143
 go_wp2_with fail
 refine (HL.out _).mono ?_
 rintro e w' ⟨rfl, hb⟩
 go_wp2_with fail
 go_ret
 exact ⟨rfl, by simpa using hb⟩
end Go.Proofs.YtbeaijjaecaidaaGreatDoor
namespace Go.Proofs.YtbeaijjaecaidaaGreatDoor
open Go.RowKit Go.Shelf
attribute [local go_sem] Oper.semAt_some
set_option maxRecDepth 100000 in
set_option maxHeartbeats 2000000 in
theorem logcheck_ok (root h : Nat) (hh : h < 18446744073709551616) (hr : root = leafN h) (A : Option Addr) (c : Nat) (w : World) :
  Calls Tryz.prog 98 #[.int .u64 (root : Int), .int .i64 0, .int .i64 1, .int .u64 (h : Int), .slice A 0 c] w fun e w' => e = .returned (.int .i64 0) ∧ Below w.heap.size w w' := by
 have hne : ((leafN h : Int) != (root : Int)) = false := by rw [hr]; simp
 have X0 := (Blk.new w 27 #[.int .u64 (h : Int)]).alloc (.cells #[.bool true] 4)
 have G0 := Blk.new (w.alloc (.cells #[.int .u64 (h : Int)] 27)) 4 #[.bool true]
 rw [World.size_alloc] at G0
 have P0 := (below_new w (.cells #[.int .u64 (h : Int)] 27)).alloc (by simp) (.cells #[.bool true] 4)
 have X1 := X0.alloc (.cells #[.func (.func 143) #[] #[.pointer (some ⟨w.heap.size + 1, 0, none⟩), .pointer (some ⟨w.heap.size, 0, none⟩), .pointer (some ⟨w.heap.size + 1 + 1, 0, none⟩)]] 196)
 have G1 := G0.alloc (.cells #[.func (.func 143) #[] #[.pointer (some ⟨w.heap.size + 1, 0, none⟩), .pointer (some ⟨w.heap.size, 0, none⟩), .pointer (some ⟨w.heap.size + 1 + 1, 0, none⟩)]] 196)
 have P1 := P0.alloc (by simp; omega) (.cells #[.func (.func 143) #[] #[.pointer (some ⟨w.heap.size + 1, 0, none⟩), .pointer (some ⟨w.heap.size, 0, none⟩), .pointer (some ⟨w.heap.size + 1 + 1, 0, none⟩)]] 196)
 have HC := Lib.hid (fun (W : World) (hg : Blk W (w.heap.size + 1) 4 #[.bool true]) (hx : Blk W w.heap.size 27 #[.int .u64 (h : Int)]) => climb_one h hh A c (w.heap.size + 1) w.heap.size (.pointer (some ⟨w.heap.size + 1 + 1, 0, none⟩)) W hg hx)
 generalize leafN h = lf at *
 clear hr hh X0 G0 P0
 go_enter Tryz.func98, Tryz.ntmps98
 go_wp2_with fail
 refine (HC.out _ G1 X1).mono ?_
 rintro e w1 ⟨rfl, hb1⟩
 have G2 := (G1.set1 (.bool true)).under hb1 (by simp)
 have hc2 := G2.c1
 have P2 := (P1.setCell (p := ⟨w.heap.size + 1, 0, none⟩) (by simp) (.bool true)).trans (hb1.mono P1.size)
 clear G1 X1 P1 hb1
 go_wp2_with fail
 go_ret
 exact ⟨rfl, P2⟩
set_option maxRecDepth 100000 in
set_option maxHeartbeats 2000000 in
theorem logcheck_bad (root h : Nat) (hh : h < 18446744073709551616) (hr : root ≠ leafN h) (A : Option Addr) (c : Nat) (w : World) :
  Calls Tryz.prog 98 #[.int .u64 (root : Int), .int .i64 0, .int .i64 1, .int .u64 (h : Int), .slice A 0 c] w fun e w' => e = .returned (.int .i64 10) ∧ Below w.heap.size w w' := by
 have hne : ((leafN h : Int) != (root : Int)) = true := by
  simp only [bne_iff_ne, ne_eq]
  intro e
  exact hr (by exact_mod_cast e.symm)
 have X0 := (Blk.new w 27 #[.int .u64 (h : Int)]).alloc (.cells #[.bool true] 4)
 have G0 := Blk.new (w.alloc (.cells #[.int .u64 (h : Int)] 27)) 4 #[.bool true]
 rw [World.size_alloc] at G0
 have P0 := (below_new w (.cells #[.int .u64 (h : Int)] 27)).alloc (by simp) (.cells #[.bool true] 4)
 have X1 := X0.alloc (.cells #[.func (.func 143) #[] #[.pointer (some ⟨w.heap.size + 1, 0, none⟩), .pointer (some ⟨w.heap.size, 0, none⟩), .pointer (some ⟨w.heap.size + 1 + 1, 0, none⟩)]] 196)
 have G1 := G0.alloc (.cells #[.func (.func 143) #[] #[.pointer (some ⟨w.heap.size + 1, 0, none⟩), .pointer (some ⟨w.heap.size, 0, none⟩), .pointer (some ⟨w.heap.size + 1 + 1, 0, none⟩)]] 196)
 have P1 := P0.alloc (by simp; omega) (.cells #[.func (.func 143) #[] #[.pointer (some ⟨w.heap.size + 1, 0, none⟩), .pointer (some ⟨w.heap.size, 0, none⟩), .pointer (some ⟨w.heap.size + 1 + 1, 0, none⟩)]] 196)
 have HC := Lib.hid (fun (W : World) (hg : Blk W (w.heap.size + 1) 4 #[.bool true]) (hx : Blk W w.heap.size 27 #[.int .u64 (h : Int)]) => climb_one h hh A c (w.heap.size + 1) w.heap.size (.pointer (some ⟨w.heap.size + 1 + 1, 0, none⟩)) W hg hx)
 generalize leafN h = lf at *
 clear hr hh X0 G0 P0
 go_enter Tryz.func98, Tryz.ntmps98
 go_wp2_with fail
 refine (HC.out _ G1 X1).mono ?_
 rintro e w1 ⟨rfl, hb1⟩
 have G2 := (G1.set1 (.bool true)).under hb1 (by simp)
 have hc2 := G2.c1
 have P2 := (P1.setCell (p := ⟨w.heap.size + 1, 0, none⟩) (by simp) (.bool true)).trans (hb1.mono P1.size)
 clear G1 X1 P1 hb1
 go_wp2_with fail
 go_ret
 exact ⟨rfl, P2⟩
end Go.Proofs.YtbeaijjaecaidaaGreatDoor
namespace Go.Proofs.YtbeaijjaecaidaaGreatDoor
open Go.RowKit Go.Shelf
attribute [local go_sem] Oper.semAt_some
end Go.Proofs.YtbeaijjaecaidaaGreatDoor
namespace Go.Proofs.YtbeaijjaecaidaaGreatDoor
open Go.RowKit Go.Shelf
theorem mem_ready {md : Region.Mode} {ops : Array Oper} {L : Array Bool} {i : Nat} : i ∈ Region.ready md ops L ↔ i < ops.size ∧ L.getD i true = false ∧ ((ops[i]?).map (·.after.all fun e => !Region.binds md e || L.getD e.on false)).getD false = true := by
 unfold Region.ready
 simp only [List.mem_filter, List.mem_range, Bool.and_eq_true, Bool.not_eq_true']
theorem anyH_bag0 {P : Program} {md : Region.Mode} {ops : Array Oper} {Q : Exit → Act → World → Prop} {S : World → Prop} (J : List Nat) (hnd : J.Nodup) (I : Nat → World → Prop) (a : Act) (L0 L1 : Array Bool) (f0 : Nat)
  (hJ0 : ∀ j ∈ J, L0[j]? = some false)
  (hA : ∀ j ∈ J, ∃ o, ops[j]? = some o ∧ o.after.all (fun e => !Region.binds md e || L0.getD e.on false) = true)
  (hB : ∀ i, L0.getD i true = false → i ∉ J → ∀ j ∈ J, ∃ o, ops[i]? = some o ∧ ∃ e ∈ o.after, Region.binds md e = true ∧ (e.on = j ∨ (L0.getD e.on false = false ∧ e.on ∉ J)))
  (h1 : ∀ i ∈ J, L1[i]? = some true) (h2 : ∀ i, i ∉ J → L1[i]? = L0[i]?)
  (hJ : ∀ j ∈ J, ∀ (m : Nat) (w : World) (K : Act → World → Prop), I (m + 1) w → S w → (∀ w', I m w' → S w' → K a w') → wpOp P ops Q j K a w)
  (hend : ∀ w, I 0 w → S w → wpAnyH P md ops Q S f0 L1 a w) :
  ∀ (m : Nat) (L : Array Bool), (J.filter (fun j => !L.getD j true)).length = m → (∀ i, i ∉ J → L[i]? = L0[i]?) → (∀ j ∈ J, j < L.size) → ∀ w, I m w → S w → wpAnyH P md ops Q S (f0 + m) L a w := by
 intro m
 induction m with
 | zero =>
  intro L hm hL hsz w hI hS
  have e : L = L1 := by
   refine Array.ext_getElem? fun i => ?_
   by_cases hi : i ∈ J
   ·rw [h1 i hi]
    have h3 : ¬ (!L.getD i true) = true := fun h4 => by
     have h5 : i ∈ J.filter (fun j => !L.getD j true) := List.mem_filter.2 ⟨hi, h4⟩
     have := List.length_pos_of_mem h5
     omega
    have hlt := hsz i hi
    rw [Array.getElem?_eq_getElem hlt]
    rw [Array.getD_eq_getD_getElem?, Array.getElem?_eq_getElem hlt] at h3
    simpa using h3
   ·rw [hL i hi, h2 i hi]
  rw [e]
  exact hend w hI hS
 | succ m ih =>
  intro L hm hL hsz w hI hS
  obtain ⟨j0, hj0⟩ : ∃ j, j ∈ J.filter (fun j => !L.getD j true) := by
   cases hf : J.filter (fun j => !L.getD j true) with
   | nil => rw [hf] at hm; simp at hm
   | cons x l => exact ⟨x, by simp⟩
  obtain ⟨hj0J, hj0u⟩ := List.mem_filter.1 hj0
  simp only [Bool.not_eq_true'] at hj0u
  have hget : ∀ i, i ∉ J → ∀ d, L.getD i d = L0.getD i d := fun i hi d => by rw [Array.getD_eq_getD_getElem?, Array.getD_eq_getD_getElem?, hL i hi]
  show (Region.ready md ops L = [] → Q .normal a w) ∧ ∀ i ∈ Region.ready md ops L, wpOp P ops Q i (fun a' w' => S w' ∧ wpAnyH P md ops Q S (f0 + m) (L.setIfInBounds i true) a' w') a w
  refine ⟨fun hr => ?_, fun i hi => ?_⟩
  ·exfalso
   obtain ⟨o, ho, hall⟩ := hA j0 hj0J
   have : j0 ∈ Region.ready md ops L := mem_ready.2 ⟨(Array.getElem?_eq_some_iff.1 ho).1, hj0u, by
    rw [ho]
    simp only [Option.map_some, Option.getD_some, Array.all_eq_true_iff_forall_mem] at hall ⊢
    intro e he
    have h3 := hall e he
    simp only [Bool.or_eq_true] at h3 ⊢
    rcases h3 with h3 | h3
    ·exact .inl h3
    ·refine .inr ?_
     by_cases heJ : e.on ∈ J
     ·rw [Array.getD_eq_getD_getElem?, hJ0 _ heJ] at h3
      simp at h3
     ·rw [hget _ heJ]
      exact h3⟩
   rw [hr] at this
   simp at this
  ·obtain ⟨hi1, hi2, hi3⟩ := mem_ready.1 hi
   have hiJ : i ∈ J := by
    refine Classical.byContradiction fun hiJ => ?_
    obtain ⟨o, ho, e, he, hb, hor⟩ := hB i (by rw [← hget i hiJ]; exact hi2) hiJ j0 hj0J
    rw [ho] at hi3
    simp only [Option.map_some, Option.getD_some, Array.all_eq_true_iff_forall_mem] at hi3
    have h3 := hi3 e he
    rw [hb] at h3
    simp only [Bool.not_true, Bool.false_or] at h3
    rcases hor with rfl | ⟨h4, h5⟩
    ·have hlt := hsz _ hj0J
     rw [Array.getD_eq_getD_getElem?, Array.getElem?_eq_getElem hlt] at h3 hj0u
     simp at h3 hj0u
     rw [h3] at hj0u
     cases hj0u
    ·rw [hget _ h5, h4] at h3
     cases h3
   refine hJ i hiJ m w _ hI hS (fun w' hI' hS' => ⟨hS', ih (L.setIfInBounds i true) ?_ (fun k hk => ?_) (fun k hk => by rw [Array.size_setIfInBounds]; exact hsz k hk) w' hI' hS'⟩)
   ·have hlt := hsz i hiJ
    have e : J.filter (fun j => !(L.setIfInBounds i true).getD j true) = (J.filter (fun j => !L.getD j true)).erase i := by
     rw [List.Nodup.erase_eq_filter (List.Pairwise.filter _ hnd : List.Nodup _), List.filter_filter]
     refine List.filter_congr fun k hk => ?_
     by_cases hki : k = i
     ·subst hki
      simp [Array.getD_eq_getD_getElem?, hlt]
     ·have : (k != i) = true := by simpa using hki
      rw [this, Bool.true_and, Array.getD_eq_getD_getElem?, Array.getD_eq_getD_getElem?, Array.getElem?_setIfInBounds_ne (Ne.symm hki)]
    rw [e, List.length_erase_of_mem (List.mem_filter.2 ⟨hiJ, by simpa using hi2⟩), hm]
    rfl
   ·rw [Array.getElem?_setIfInBounds_ne (fun e : i = k => hk (e ▸ hiJ))]
    exact hL k hk
def bagOk (md : Region.Mode) (ops : Array Oper) (L0 : Array Bool) (J : List Nat) : Bool :=
 J.all (fun j => (L0[j]? == some false) && (match ops[j]? with | some o => o.after.all (fun e => !Region.binds md e || L0.getD e.on false) | none => false)) &&
  (List.range L0.size).all (fun i => L0.getD i true || J.contains i || J.all (fun j => match ops[i]? with | some o => o.after.any (fun e => Region.binds md e && (e.on == j || (!L0.getD e.on false && !J.contains e.on))) | none => false))
theorem foldl_out : ∀ (J : List Nat) (L : Array Bool) (i : Nat), i ∉ J → (J.foldl (fun L j => L.setIfInBounds j true) L)[i]? = L[i]?
 | [], _, _, _ => rfl
 | j :: J, L, i, h => by
  simp only [List.mem_cons, not_or] at h
  rw [List.foldl_cons, foldl_out J _ i h.2, Array.getElem?_setIfInBounds_ne (Ne.symm h.1)]
theorem foldl_in : ∀ (J : List Nat) (L : Array Bool) (i : Nat), i ∈ J → i < L.size → (J.foldl (fun L j => L.setIfInBounds j true) L)[i]? = some true
 | [], _, _, h, _ => by cases h
 | j :: J, L, i, h, hi => by
  rw [List.foldl_cons]
  by_cases h2 : i ∈ J
  ·exact foldl_in J _ i h2 (by rw [Array.size_setIfInBounds]; exact hi)
  ·have : i = j := by simpa [h2] using h
   subst this
   rw [foldl_out J _ i h2, Array.getElem?_setIfInBounds_self_of_lt hi]
theorem anyH_bag {P : Program} {md : Region.Mode} {ops : Array Oper} {Q : Exit → Act → World → Prop} {S : World → Prop} {L0 : Array Bool} (J : List Nat) (hnd : J.Nodup) (hok : bagOk md ops L0 J = true) (I : Nat → World → Prop) (a : Act) (f0 : Nat)
  (hJ : ∀ j ∈ J, ∀ (m : Nat) (w : World) (K : Act → World → Prop), I (m + 1) w → S w → (∀ w', I m w' → S w' → K a w') → wpOp P ops Q j K a w)
  (hend : ∀ w, I 0 w → S w → wpAnyH P md ops Q S f0 (J.foldl (fun L j => L.setIfInBounds j true) L0) a w) (w : World) (hI : I J.length w) (hS : S w) : wpAnyH P md ops Q S (f0 + J.length) L0 a w := by
 unfold bagOk at hok
 simp only [Bool.and_eq_true, List.all_eq_true, beq_iff_eq, List.mem_range, Bool.or_eq_true] at hok
 have hlt : ∀ j ∈ J, j < L0.size := fun j hj => (Array.getElem?_eq_some_iff.1 (hok.1 j hj).1).1
 refine anyH_bag0 J hnd I a L0 _ f0 (fun j hj => (hok.1 j hj).1) (fun j hj => ?_) (fun i hi hn j hj => ?_) (fun i hi => foldl_in J L0 i hi (hlt i hi)) (fun i hi => foldl_out J L0 i hi) hJ hend J.length L0 ?_ (fun _ _ => rfl) hlt w hI hS
 ·have h := (hok.1 j hj).2
  cases ho : ops[j]? with
  | none => rw [ho] at h; cases h
  | some o => rw [ho] at h; exact ⟨o, rfl, h⟩
 ·have hil : i < L0.size := by
   refine Classical.byContradiction fun h => ?_
   rw [Array.getD_eq_getD_getElem?, Array.getElem?_eq_none (by omega)] at hi
   cases hi
  rcases hok.2 i hil with (h | h) | h
  ·rw [h] at hi; cases hi
  ·exact absurd (by simpa using h) hn
  ·have h := h j hj
   cases ho : ops[i]? with
   | none => rw [ho] at h; cases h
   | some o =>
    rw [ho] at h
    dsimp only at h; rw [← Array.any_toList, List.any_eq_true] at h
    obtain ⟨e, he, h⟩ := h
    simp only [Bool.and_eq_true, Bool.or_eq_true, beq_iff_eq, Bool.not_eq_true'] at h
    refine ⟨o, rfl, e, by simpa using he, h.1, ?_⟩
    rcases h.2 with h | ⟨h1, h2⟩
    ·exact .inl h
    ·exact .inr ⟨h1, by simpa using h2⟩
 ·congr 1
  refine List.filter_eq_self.2 fun j hj => ?_
  have h := (hok.1 j hj).1
  rw [Array.getD_eq_getD_getElem?, h]
  rfl
end Go.Proofs.YtbeaijjaecaidaaGreatDoor
