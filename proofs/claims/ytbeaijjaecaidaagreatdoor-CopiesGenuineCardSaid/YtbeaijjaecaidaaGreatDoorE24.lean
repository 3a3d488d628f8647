/- The law CopiesGenuine, walked. -/
import Derived.Test.YtbeaijjaecaidaaGreatDoorE23
import Derived.Test.YtbeaijjaecaidaaGreatDoorE22
import Derived.Test.YtbeaijjaecaidaaGreatDoorE01
namespace Go.Proofs.YtbeaijjaecaidaaGreatDoor
open Go.RowKit Go.Shelf
attribute [local go_sem] Oper.semAt_some
set_option maxRecDepth 100000 in
set_option maxHeartbeats 16000000 in
theorem genuine_walk (A : Option Addr) (n c : Nat) (secret : Int) (w : World) (hG : w.cell? ⟨0, 0, none⟩ = some (.int .i64 655)) (h0 : 0 < w.heap.size) (hA : IntsAt w A n) (hA2 : ∀ a, A = some a → a.block < w.heap.size) :
  Calls Tryz.prog 6 #[.slice A n c, .int .i64 secret] w fun e w' => e = .returned (.bool true) ∧ Below w.heap.size w w' := by
 have HLG := Lib.hid (log_any A n c 4 (by omega) w hA hA2)
 clear hA hA2
 have HLV := Lib.hid (fun (W : World) (hW : Below w.heap.size w W) => lives_any W ((hW.cell (p := ⟨0, 0, none⟩) h0).trans hG) (Nat.lt_of_lt_of_le h0 hW.size))
 have hsl := u64_lt secret
 have hwS := wrap_u64' secret
 obtain ⟨sec, hsec⟩ : ∃ s, u64 secret = s := ⟨_, rfl⟩
 rw [hsec] at hsl hwS
 clear hsec
 go_enter Tryz.func6, Tryz.ntmps6
 go_wp2_with fail
 refine HLG.out.mono ?_
 rintro e w1 ⟨Ao, co, fl, rfl, hco, hlog, hrow, hb1⟩
 have HROW := Lib.hid hrow
 have HLOG := Lib.hid hlog
 have hl14 := hlog.len
 clear hrow hlog
 have HG1 := (hb1.cell (p := ⟨0, 0, none⟩) h0).trans hG
 have H01 := Nat.lt_of_lt_of_le h0 hb1.size
 go_wp2_with fail
 refine (treenew_any w1).mono ?_
 rintro e w2 ⟨rfl, hT2, hb2⟩
 go_wp2_with fail
 refine (key_any sec hsl w2).mono ?_
 rintro e w3 ⟨rfl, hb3⟩
 have hT3 := hT2.below hb3
 have P3 := below_up hb2 hb3 hb2.size
 have hs3 : w1.heap.size + 2 ≤ w3.heap.size := by
  have := hT3.lt
  omega
 clear hT2 hb2 hb3 HLG
 have hkl : keyN sec < 18446744073709551616 := lab_lt _ _
 have HKey := Lib.hid (Eq.refl (keyN sec))
 have HKW := Lib.hid (fun (V : World) (hV : Below w1.heap.size w1 V) => (⟨(hV.cell (p := ⟨0, 0, none⟩) H01).trans HG1, Nat.lt_of_lt_of_le H01 hV.size, hV.size⟩ : V.cell? ⟨0, 0, none⟩ = some (.int .i64 655) ∧ 0 < V.heap.size ∧ w1.heap.size ≤ V.heap.size))
 clear HG1 H01
 go_wp2_with fail
 go_loopw [8, 9] (fun t j W => ∃ (k m : Nat) (v : Value), j = .int .i64 (k : Int) ∧ t = .int .i64 (tickN (fl.take k)) ∧ k ≤ fl.length ∧ m ≤ 5000 * k ∧ TreeAt W (w1.heap.size + 2) (w1.heap.size + 1) w1.heap.size m v (entG (fl.take k)) ∧ Below w1.heap.size w1 W ∧ w1.heap.size + 2 ≤ W.heap.size) (fun _ j _ => fl.length - (intOf j).toNat)
 case atStart => exact ⟨0, 0, _, rfl, rfl, by omega, by omega, hT3, P3, hs3⟩
 case round =>
  obtain ⟨k, m, v, rfl, rfl, hk, hm, hT, hB, hS⟩ := hrel
  obtain ⟨W, rfl⟩ : ∃ z : World, z = wr := ⟨_, rfl⟩
  clear hT3 P3 hs3
  by_cases hlt : k < fl.length
  ·have hd : decide (k < fl.length) = true := decide_eq_true (by omega)
   obtain ⟨b, o, dv, cv, ev, rfl, hbo, hr, hf⟩ := HROW.out k hlt
   have hok1 := HLOG.out.ok _ (List.getElem_mem hlt)
   have hrg : W.rangeAt b (o + k * 19) (fl[k].vals dv cv ev).toList := fun j u hu => (hB.cell (p := ⟨b, o + k * 19 + j, none⟩) hbo).trans (hr j u hu)
   have HEN := Lib.hid (fun (V : World) (hV : Below w1.heap.size w1 V) => aenc_own fl[k] hok1 dv cv ev V (HKW.out V hV).1 (HKW.out V hV).2.1 w1.heap.size (HKW.out V hV).2.2 (hf.keep (fun p hp => hV.cell hp) (Nat.le_refl _)))
   have HC2 := Lib.hid (fun (V : World) (hV : Below w1.heap.size w1 V) => ((hV.cell (p := ⟨b, o + k * 19 + 2, none⟩) hbo).trans (hr 2 _ rfl) : V.cell? ⟨b, o + k * 19 + 2, none⟩ = some (.int .i64 fl[k].known)))
   have hlen := encA_len hok1
   have hbb := Lib.hid (encA_bytes fl[k])
   obtain ⟨k1, hk1⟩ : ∃ x, k + 1 = x := ⟨_, rfl⟩
   have hk1l : k1 ≤ fl.length := by omega
   have hst0 := entG_step hlt
   have htk0 := tickN_step hlt
   rw [hk1] at hst0 htk0
   have hstep := Lib.hid hst0
   have htk := Lib.hid htk0
   clear hst0 htk0
   have hw3 : IntKind.i64.wrap ((k : Int) + 3) = ((k + 3 : Nat) : Int) := by rw [IntKind.wrap_i64]; omega
   have hw4 : IntKind.u64.wrap ((k + 3 : Nat) : Int) = ((k + 3 : Nat) : Int) := by rw [IntKind.wrap_u64]; omega
   have hw1 : IntKind.i64.wrap ((k : Int) + 1) = (k1 : Int) := by rw [IntKind.wrap_i64]; omega
   have hcl := commit_lt (encA fl[k]) (k + 3)
   have hEL := entG_len hk
   clear hr hf hok1
   generalize hk3 : k + 3 = k3 at *
   generalize hce : commitN (encA fl[k]) k3 = ce at *
   have HCE := Lib.hid hce
   clear hce
   go_wp2_with (refine wpList_load_mid rfl 41 _ rfl b (o + k * 19) (by go_simp) _ _ hrg Tryz.underlying41 rfl (by kernel_rfl) ?_)
   refine (HEN.out _ hB).mono ?_
   rintro e w4 ⟨u, rfl, o4, hb4⟩
   have P4 := below_up hB hb4 hB.size
   have T4 := hT.below hb4
   have R4 := o4.rep
   have S4 := Nat.le_trans hS hb4.size
   clear hrg HEN hT hB hb4 o4 hS
   go_wp2_with fail
   refine (commit_any u (encA fl[k]) hbb.out (by omega) k3 (by omega) _ R4).mono ?_
   rw [HCE.out]
   rintro e w5 ⟨rfl, hb5⟩
   have P5 := below_up P4 hb5 P4.size
   have T5 := T4.below hb5
   have S5 := Nat.le_trans S4 hb5.size
   clear P4 T4 R4 hb5 S4 HCE hbb hlen
   go_wp2_with fail
   refine (treeadd_any (w1.heap.size + 2) (w1.heap.size + 1) w1.heap.size m v (entG (fl.take k)) (by omega) ce w1.heap.size (by omega) w5 T5 S5).mono ?_
   rintro e w6 ⟨rfl, ⟨v', T6⟩, hb6⟩
   rw [← hstep.out] at T6
   have P6 := P5.trans hb6
   have S6 := Nat.le_trans S5 hb6.size
   have hc2 := HC2.out _ P6
   clear P5 T5 hb6 S5 HC2 hstep
   have hEL1 := entG_len (fl := fl) (k := k1) hk1l
   have hEW := entG_words (fl.take k1)
   have hTB := tick_bd HLOG.out.ok k1
   have hTO := Lib.hid (fun (j : Nat) (hj : j < k1) => tick_of (fl := fl) hj hk1l)
   have HFIT := Lib.hid (fun (j : Nat) (hj : j < k1) => genuine_fit (fl := fl) hj hk1l hl14)
   have htq := htk.out
   generalize fl[k].known = kn at *
   generalize tickN (fl.take k) = tq0 at *
   generalize ht1 : tickN (fl.take k1) = t1 at *
   have HT1 := Lib.hid ht1
   clear ht1
   have hmx : (if tq0 < kn then kn else tq0) = t1 := htq.symm
   clear htk htq hEL
   generalize hhs1 : entG (fl.take k1) = hs at *
   have HHS1 := Lib.hid hhs1
   clear hhs1
   have HEW := Lib.hid hEW
   clear hEW
   go_wp2_with fail
   refine (treeRoot_any (w1.heap.size + 2) (w1.heap.size + 1) w1.heap.size v' hs (by omega) HEW.out k1 m w6 (by omega) (by omega) (by omega) T6).mono ?_
   rintro e w7 ⟨rfl, T7, g7⟩
   have P7 := P6.grown g7 P6.size (fun k e => by injection e with e; omega)
   have S7 := Nat.le_trans S6 g7.size
   have hRl := rootS_lt hs 0 k1
   generalize rootS hs 0 k1 = R at *
   clear P6 T6 g7 S6 hc2
   go_wp2_with fail
   first | rw [hmx] | skip
   refine (sign_any sec hsl 4 t1 0 (k1 : Int) R 0 hRl (by omega) 1 0 _).mono ?_
   rintro e w8 ⟨rfl, hb8⟩
   have P8 := below_up P7 hb8 P7.size
   have T8 := T7.below hb8
   have S8 := Nat.le_trans S7 hb8.size
   have Z8 := Blk.new w8 49 #[.int .i64 0, .int .i64 0, .int .i64 0, .int .i64 0, .int .u64 0, .int .u64 0, .int .i64 0, .int .u64 0]
   have PZ := P8.alloc P8.size (.cells #[.int .i64 0, .int .i64 0, .int .i64 0, .int .i64 0, .int .u64 0, .int .u64 0, .int .i64 0, .int .u64 0] 49)
   have TZ := T8.below (below_new w8 (.cells #[.int .i64 0, .int .i64 0, .int .i64 0, .int .i64 0, .int .u64 0, .int .u64 0, .int .i64 0, .int .u64 0] 49))
   have hvb : ∀ q, v'.ownBlock = some q → q < w8.heap.size := fun q e => (T8.2.1.lt q e).2
   clear P7 T7 hb8 S7
   go_upto_region 17 with (refine wpList_storeW (T := 49) (n := 8) (by kernel_rfl) Z8 rfl _ _ rfl rfl rfl _ rfl rfl (by kernel_rfl) ?_; intro w9 H9 g9)
   have P9 := PZ.grown g9 PZ.size (fun k e => by injection e with e; have := P8.size; omega)
   have T9 := TZ.step g9 (fun q e => by injection e with e; subst e; exact ⟨by omega, by omega, fun e2 => absurd (hvb _ e2) (Nat.lt_irrefl _)⟩)
   have H9' : Blk w9 w8.heap.size 49 (hdG sec t1 k1 R).vals := H9
   have hhs : (hdG sec t1 k1 R).vals.size = 8 := rfl
   have HGD := Lib.hid (hdG_good sec (R := R) hTB (show 1 ≤ k1 by omega) (show k1 ≤ 16 by omega))
   have HHS : (hdG sec t1 k1 R).size = (k1 : Int) := rfl
   have HHL : (hdG sec t1 k1 R).log = R := rfl
   have HHT : (hdG sec t1 k1 R).tick = t1 := rfl
   have HHM : (hdG sec t1 k1 R).map = 0 := rfl
   have HHO : (hdG sec t1 k1 R).office = 4 := rfl
   generalize hdG sec t1 k1 R = hh at *
   clear P8 T8 Z8 PZ TZ H9 g9 hvb hmx hTB
   (try simp only [Act.put])
   go_wp2_with fail
   go_loopw [17] (fun j V => ∃ q mm : Nat, j = .int .i64 (q : Int) ∧ q ≤ k1 ∧ mm ≤ m + 20 + 300 * q ∧ TreeAt V (w1.heap.size + 2) (w1.heap.size + 1) w1.heap.size mm v' hs ∧ Blk V w8.heap.size 49 hh.vals ∧ Below w1.heap.size w1 V ∧ w1.heap.size + 2 ≤ V.heap.size) (fun j _ => k1 - (intOf j).toNat)
   case atStart => exact ⟨0, _, rfl, by omega, by omega, T9, H9', P9, by have := H9'.lt; omega⟩
   case round =>
    clear T9 H9' P9
    obtain ⟨q, mm, rfl, hq, hmm, hT, hH, hB, hS⟩ := hrel
    obtain ⟨V, rfl⟩ : ∃ z : World, z = wr := ⟨_, rfl⟩
    by_cases hlt2 : q < k1
    ·have hd2 : decide (q ≤ k) = true := decide_eq_true (by omega)
     obtain ⟨b', o', dvq, cvq, evq, eA, hbo', hr', hf'⟩ := HROW.out q (by omega)
     injection eA with eA
     injection eA with e1 e2
     subst e1 e2
     have hok2 := HLOG.out.ok _ (List.getElem_mem (show q < fl.length by omega))
     have hoff2 := HLOG.out.office _ (List.getElem_mem (show q < fl.length by omega))
     have hone := hf'.one
     obtain ⟨hft1, hft2⟩ := HFIT.out q hlt2
     have hkt := hTO.out q hlt2
     have hok2 : OkFil fl[q] := hok2
     generalize fl[q] = f at hr' hf' hok2 hoff2 hone hft1 hft2 hkt
     have hpl := pathS_len hs 0 k1 q
     have hpw := pathS_words hs 0 k1 q
     have hw5 : IntKind.i64.wrap ((q : Int) + 3) = ((q + 3 : Nat) : Int) := by rw [IntKind.wrap_i64]; omega
     have hw6 : IntKind.u64.wrap ((q + 3 : Nat) : Int) = ((q + 3 : Nat) : Int) := by rw [IntKind.wrap_u64]; omega
     have hq3 : q + 3 < 18446744073709551616 := by omega
     have HFK := Lib.hid (fun (V : World) (hV : Below w1.heap.size w1 V) => hf'.keep (W' := V) (fun p hp => hV.cell hp) (Nat.le_refl _))
     have HRG := Lib.hid (fun (V : World) (hV : Below w1.heap.size w1 V) => (fun j u hu => (hV.cell (p := ⟨b, o + q * 19 + j, none⟩) hbo').trans (hr' j u hu) : V.rangeAt b (o + q * 19) (f.vals dvq cvq evq).toList))
     have HMK := Lib.hid (fun (base : Nat) (pv : Value) (V : World) (hV : Below w1.heap.size w1 V) hpv => make_gen hh f hok2 dvq cvq evq (q + 3) hq3 q k1 hlt2 (by omega) (pathS hs 0 k1 q) (by omega) hpw hft2 HHS (by rw [HHT]; exact hkt) (by rw [HHO]; exact hoff2) (by rw [HHL]; exact hft1.symm) base pv V (HKW.out V hV).1 (HKW.out V hV).2.1 w1.heap.size (HKW.out V hV).2.2 (HFK.out V hV) hpv)
     have HCK := Lib.hid (fun (A : Option Addr) (c : Nat) (hc : (pathS hs 0 k1 q).length ≤ c) (V : World) (hV : Below w1.heap.size w1 V) (hR : RowU V A (pathS hs 0 k1 q)) => ccheck_gen (cop_is hh (q : Int) f dvq cvq evq (q + 3) (.slice A (pathS hs 0 k1 q).length c)) hok2 (keyN sec) hkl (fun _ => HHS) hlt2 (by omega) (by omega) hc hpw hft2 (fun _ => by rw [HHT]; exact hkt) hq3 (by rw [HHL]; exact hRl) (by rw [HHM]; omega) V (HKW.out V hV).1 (HKW.out V hV).2.1 w1.heap.size (HKW.out V hV).2.2 (HFK.out V hV) hR)
     rw [fil_good f (o := hh.office) (by rw [HHO]; exact hoff2), HGD.out, show logG hh f (q + 3) (pathS hs 0 k1 q) q k1 = 0 from if_pos (by rw [HHL]; exact hft1.symm)] at HCK
     have HCS := Lib.hid (fun (A : Option Addr) (c : Nat) => (cop_is hh (q : Int) f dvq cvq evq (q + 3) (.slice A (pathS hs 0 k1 q).length c)).size)
     have HC1 := Lib.hid (fun (A : Option Addr) (c : Nat) => cop_one hh (q : Int) f (q + 3) A (pathS hs 0 k1 q).length c hone)
     have hfs : (f.vals dvq cvq evq).size = 19 := rfl
     have HPR := Lib.hid (treeproof_any (w1.heap.size + 2) (w1.heap.size + 1) w1.heap.size v' hs (by omega) HEW.out k1 q mm V hlt2 (by omega) (by omega) hT)
     have hne8 : w8.heap.size ≠ w1.heap.size := by omega
     clear hok2 hoff2 hone hft1 hft2 hkt hpw hr' hf' hT
     generalize q + 3 = q3 at *
     generalize pathS hs 0 k1 q = ps at *
     generalize hcf : (fun (A : Option Addr) (c : Nat) => cop hh (q : Int) f dvq cvq evq q3 (.slice A ps.length c)) = CF at *
     have hcf2 : ∀ A c, cop hh (q : Int) f dvq cvq evq q3 (.slice A ps.length c) = CF A c := fun A c => by rw [← hcf]
     simp only [hcf2] at HMK HCK HCS HC1
     clear hcf hcf2
     generalize f.vals dvq cvq evq = fv at *
     go_wp2_with fail
     refine HPR.out.mono ?_
     rintro e w10 ⟨u, rfl, o10, T10, g10⟩
     have P10 := hB.grown g10 hB.size (fun k e => by injection e with e; omega)
     have H10 := hH.grown g10 (fun e => hne8 (by injection e))
     have S10 := Nat.le_trans hS g10.size
     clear HPR hB hH g10 hS
     obtain ⟨Au, cu, rfl⟩ := own_slice o10
     have hlq : q < fl.length := by omega
     go_upto_region 23 with fail
     go_cut [20, 21] (fun p e wx => ∃ g A c, p = .pointer (some ⟨g, 0, none⟩) ∧ e = .int .i64 0 ∧ Blk wx g 51 (CF A c) ∧ wx.ownsRow w10.heap.size 27 1 (.slice A ps.length c) ps.length (us ps) ∧ Below w10.heap.size w10 wx)
     case first =>
      refine wp_region_held_drew (S := (fun V => Below w10.heap.size w10 V)) (by kernel_rfl) ?_ (fun hHeld => ?_)
      ·first | done | ((try dsimp only); exact (Below.refl _ _).drew)
      have Q0 := (Below.refl w10.heap.size w10).drew
      have O0 := o10.drew
      generalize w10.drew = wd at *
      refine wpAnyH_take (i := 0) (oi := ⟨some 98, _, _, _, _, _⟩) (v := _) rfl (by kernel_rfl) (by kernel_rfl) (by kernel_rfl) (fun _ _ _ h => h) (yieldsHv hhs _ rfl rfl (fun V h => H10.keep h) rfl) (by assumption) ?_
      (try simp only [pS, pB, pZ, pC])
      refine tk 1 99 ?_ rfl ?_ ?_
      rotate_left
      ·(intro w' hSw; (try dsimp only at hSw); go_simp; try (with_reducible rfl))
      (try simp only [pS, pB, pZ, pC])
      refine tk 2 100 ?_ rfl ?_ ?_
      rotate_left
      ·(intro w' hSw; (try dsimp only at hSw); go_simp; try (with_reducible rfl))
      (try simp only [pS, pB, pZ, pC])
      refine tk 3 101 ?_ rfl ?_ ?_
      rotate_left
      ·(intro w' hSw; (try dsimp only at hSw); go_simp; try (with_reducible rfl))
      (try simp only [pS, pB, pZ, pC])
      refine tk 4 102 ?_ rfl ?_ ?_
      rotate_left
      ·(intro w' hSw; (try dsimp only at hSw); go_simp; try (with_reducible rfl))
      (try simp only [pS, pB, pZ, pC])
      refine wpAnyH_take (i := 5) (oi := ⟨some 103, _, _, _, _, _⟩) (v := _) rfl (by kernel_rfl) (by kernel_rfl) (by kernel_rfl) (fun _ _ _ h => h) (yieldsAt (cs := fv) hfs _ rfl rfl (fun V (h : Below w10.heap.size w10 V) => HRG.out V (P10.trans (h.mono P10.size))) rfl) (by assumption) ?_
      (try simp only [pS, pB, pZ, pC])
      refine tk 6 104 ?_ rfl ?_ ?_
      rotate_left
      ·(intro w' hSw; (try dsimp only at hSw); go_simp; try (with_reducible rfl))
      (try simp only [pS, pB, pZ, pC])
      refine tk 7 105 ?_ rfl ?_ ?_
      rotate_left
      ·(intro w' hSw; (try dsimp only at hSw); go_simp; try (with_reducible rfl))
      (try simp only [pS, pB, pZ, pC])
      refine tk 8 106 ?_ rfl ?_ ?_
      rotate_left
      ·(intro w' hSw; (try dsimp only at hSw); go_simp; try (with_reducible rfl))
      (try simp only [pS, pB, pZ, pC])
      refine tk 9 107 ?_ rfl ?_ ?_
      rotate_left
      ·(intro w' hSw; (try dsimp only at hSw); go_simp; try (with_reducible rfl))
      (try simp only [pS, pB, pZ, pC])
      have hge : w10.heap.size ≤ wd.heap.size := Q0.size
      refine rd2 10 (some 108) 14 (some 20) (by kernel_rfl) rfl rfl (fun K hK => ?_) fun K hK => ?_
      ·skip
       go_simp
       (refine (HMK.out _ _ _ (P10.trans (Q0.mono P10.size)) O0).mono ?_; rintro e w12 ⟨A12, c12, rfl, o12, hb12⟩)
       refine hK.out _ _ ?_ (fun hHeld => ?_)
       ·first | done | ((try dsimp only); exact Q0.trans (hb12.mono Q0.size))
       clear hK K
       (try simp only [pS, pB, pZ, pC])
       have Q12 := Q0.trans (hb12.mono Q0.size)
       have hcs := HCS.out A12 c12
       have hC1 := HC1.out A12 c12
       clear hb12
       refine tk 11 97 ?_ rfl ?_ ?_
       rotate_left
       ·(intro w' hSw; (try dsimp only at hSw); go_simp; try (with_reducible rfl))
       (try simp only [pS, pB, pZ, pC])
       refine tk 12 109 ?_ rfl ?_ ?_
       rotate_left
       ·(intro w' hSw; (try dsimp only at hSw); go_simp; try (with_reducible rfl))
       (try simp only [pS, pB, pZ, pC])
       refine tk 13 110 ?_ rfl ?_ ?_
       rotate_left
       ·(intro w' hSw; (try dsimp only at hSw); go_simp; try (with_reducible rfl))
       (try simp only [pS, pB, pZ, pC])
       refine rd 14 (some 20) (by kernel_rfl) rfl fun K hK => ?_
       go_simp
       skip
       refine hK.out _ _ ?_ (fun hHeld => ?_)
       ·first | done | ((try dsimp only); exact Q12.alloc Q12.size _)
       clear hK K
       (try simp only [pS, pB, pZ, pC])
       have Q14 := Q12.alloc Q12.size (.cells #[.int .i64 0, .int .i64 0, .int .i64 0, .int .i64 0, .int .u64 0, .int .u64 0, .int .i64 0, .int .u64 0, .int .i64 0, .int .i64 0, .int .i64 0, .int .i64 0, .int .i64 0, .int .i64 0, .int .i64 0, .int .i64 0, .int .i64 0, .int .i64 0, .int .i64 0, .int .i64 0, .slice none 0 0, .slice none 0 0, .slice none 0 0, .slice none 0 0, .int .i64 0, .int .i64 0, .slice none 0 0, .slice none 0 0, .int .u64 0, .slice none 0 0] 51)
       have Y14 := Blk.new w12 51 #[.int .i64 0, .int .i64 0, .int .i64 0, .int .i64 0, .int .u64 0, .int .u64 0, .int .i64 0, .int .u64 0, .int .i64 0, .int .i64 0, .int .i64 0, .int .i64 0, .int .i64 0, .int .i64 0, .int .i64 0, .int .i64 0, .int .i64 0, .int .i64 0, .int .i64 0, .int .i64 0, .slice none 0 0, .slice none 0 0, .slice none 0 0, .slice none 0 0, .int .i64 0, .int .i64 0, .slice none 0 0, .slice none 0 0, .int .u64 0, .slice none 0 0]
       have o14 := o12.alloc (.cells #[.int .i64 0, .int .i64 0, .int .i64 0, .int .i64 0, .int .u64 0, .int .u64 0, .int .i64 0, .int .u64 0, .int .i64 0, .int .i64 0, .int .i64 0, .int .i64 0, .int .i64 0, .int .i64 0, .int .i64 0, .int .i64 0, .int .i64 0, .int .i64 0, .int .i64 0, .int .i64 0, .slice none 0 0, .slice none 0 0, .slice none 0 0, .slice none 0 0, .int .i64 0, .int .i64 0, .slice none 0 0, .slice none 0 0, .int .u64 0, .slice none 0 0] 51)
       have hg12 : w10.heap.size ≤ w12.heap.size := Q12.size
       refine rd 15 none (by kernel_rfl) rfl fun K hK => ?_
       rw [if_pos (by rfl)]
       refine wp_storeW (T := 51) (n := 30) (by kernel_rfl) Y14 rfl _ _ rfl rfl (CF A12 c12) rfl hcs hC1 (fun w15 Y15 g15 => ?_)
       have Q15 := Q14.grown g15 Q14.size (fun k e => by injection e with e; omega)
       refine hK.out _ _ ?_ (fun hHeld => ?_)
       ·exact Q15
       clear hK K
       refine tk 16 21 ?_ rfl ?_ ?_
       rotate_left
       ·(intro w' hSw; (try dsimp only at hSw); go_simp; try (with_reducible rfl))
       refine wpAnyH_done (by kernel_rfl) ?_ _
       go_wp2_with fail
       go_meet
       exact ⟨_, A12, c12, rfl, rfl, Y15, own_mono (o14.kept g15 (by
           cases hv9 : (Value.slice A12 ps.length c12).ownBlock with
           | none => exact .inl rfl
           | some b => exact .inr (fun e => by injection e with e; have := (o12.lt b hv9).2; omega))) (by omega), Q15⟩
      ·skip
       go_simp
       skip
       refine hK.out _ _ ?_ (fun hHeld => ?_)
       ·first | done | ((try dsimp only); exact Q0.alloc Q0.size _)
       clear hK K
       (try simp only [pS, pB, pZ, pC])
       have Q1 := Q0.alloc Q0.size (.cells #[.int .i64 0, .int .i64 0, .int .i64 0, .int .i64 0, .int .u64 0, .int .u64 0, .int .i64 0, .int .u64 0, .int .i64 0, .int .i64 0, .int .i64 0, .int .i64 0, .int .i64 0, .int .i64 0, .int .i64 0, .int .i64 0, .int .i64 0, .int .i64 0, .int .i64 0, .int .i64 0, .slice none 0 0, .slice none 0 0, .slice none 0 0, .slice none 0 0, .int .i64 0, .int .i64 0, .slice none 0 0, .slice none 0 0, .int .u64 0, .slice none 0 0] 51)
       have O1 := O0.alloc (.cells #[.int .i64 0, .int .i64 0, .int .i64 0, .int .i64 0, .int .u64 0, .int .u64 0, .int .i64 0, .int .u64 0, .int .i64 0, .int .i64 0, .int .i64 0, .int .i64 0, .int .i64 0, .int .i64 0, .int .i64 0, .int .i64 0, .int .i64 0, .int .i64 0, .int .i64 0, .int .i64 0, .slice none 0 0, .slice none 0 0, .slice none 0 0, .slice none 0 0, .int .i64 0, .int .i64 0, .slice none 0 0, .slice none 0 0, .int .u64 0, .slice none 0 0] 51)
       have Y1 := Blk.new wd 51 #[.int .i64 0, .int .i64 0, .int .i64 0, .int .i64 0, .int .u64 0, .int .u64 0, .int .i64 0, .int .u64 0, .int .i64 0, .int .i64 0, .int .i64 0, .int .i64 0, .int .i64 0, .int .i64 0, .int .i64 0, .int .i64 0, .int .i64 0, .int .i64 0, .int .i64 0, .int .i64 0, .slice none 0 0, .slice none 0 0, .slice none 0 0, .slice none 0 0, .int .i64 0, .int .i64 0, .slice none 0 0, .slice none 0 0, .int .u64 0, .slice none 0 0]
       have hwz : (wd.alloc (.cells #[.int .i64 0, .int .i64 0, .int .i64 0, .int .i64 0, .int .u64 0, .int .u64 0, .int .i64 0, .int .u64 0, .int .i64 0, .int .i64 0, .int .i64 0, .int .i64 0, .int .i64 0, .int .i64 0, .int .i64 0, .int .i64 0, .int .i64 0, .int .i64 0, .int .i64 0, .int .i64 0, .slice none 0 0, .slice none 0 0, .slice none 0 0, .slice none 0 0, .int .i64 0, .int .i64 0, .slice none 0 0, .slice none 0 0, .int .u64 0, .slice none 0 0] 51)).heap.size = wd.heap.size + 1 := World.size_alloc ..
       refine rd 10 (some 108) (by kernel_rfl) rfl fun K hK => ?_
       go_simp
       (refine (HMK.out _ _ _ (P10.trans (Q1.mono P10.size)) O1).mono ?_; rintro e w12 ⟨A12, c12, rfl, o12, hb12⟩)
       refine hK.out _ _ ?_ (fun hHeld => ?_)
       ·first | done | ((try dsimp only); exact Q1.trans (hb12.mono Q1.size))
       clear hK K
       (try simp only [pS, pB, pZ, pC])
       have Q12 := Q1.trans (hb12.mono Q1.size)
       have Y14 := Y1.keep hb12
       have hcs := HCS.out A12 c12
       have hC1 := HC1.out A12 c12
       clear hb12 Y1
       refine tk 11 97 ?_ rfl ?_ ?_
       rotate_left
       ·(intro w' hSw; (try dsimp only at hSw); go_simp; try (with_reducible rfl))
       (try simp only [pS, pB, pZ, pC])
       refine tk 12 109 ?_ rfl ?_ ?_
       rotate_left
       ·(intro w' hSw; (try dsimp only at hSw); go_simp; try (with_reducible rfl))
       (try simp only [pS, pB, pZ, pC])
       refine tk 13 110 ?_ rfl ?_ ?_
       rotate_left
       ·(intro w' hSw; (try dsimp only at hSw); go_simp; try (with_reducible rfl))
       (try simp only [pS, pB, pZ, pC])
       refine rd 15 none (by kernel_rfl) rfl fun K hK => ?_
       rw [if_pos (by rfl)]
       refine wp_storeW (T := 51) (n := 30) (by kernel_rfl) Y14 rfl _ _ rfl rfl (CF A12 c12) rfl hcs hC1 (fun w15 Y15 g15 => ?_)
       have Q15 := Q12.grown g15 Q12.size (fun k e => by injection e with e; omega)
       refine hK.out _ _ ?_ (fun hHeld => ?_)
       ·exact Q15
       clear hK K
       refine tk 16 21 ?_ rfl ?_ ?_
       rotate_left
       ·(intro w' hSw; (try dsimp only at hSw); go_simp; try (with_reducible rfl))
       refine wpAnyH_done (by kernel_rfl) ?_ _
       go_wp2_with fail
       go_meet
       exact ⟨_, A12, c12, rfl, rfl, Y15, own_mono (o12.kept g15 (by
           cases hv9 : (Value.slice A12 ps.length c12).ownBlock with
           | none => exact .inl rfl
           | some b => exact .inr (fun e => by injection e with e; have := (o12.lt b hv9).1; omega))) (by omega), Q15⟩
     case rest =>
      obtain ⟨g, A12, c12, rfl, rfl, Y12, o12, Q12⟩ := hcut
      obtain ⟨w12, rfl⟩ : ∃ z : World, z = wc := ⟨_, rfl⟩
      have P12 := below_up P10 Q12 P10.size
      have T12 := T10.below Q12
      have H12 := H10.keep Q12
      have S12 := Nat.le_trans S10 Q12.size
      have hcs := HCS.out A12 c12
      have HCX := Lib.hid (HCK.out A12 c12 (own_cap o12) w12 P12 (own_rowU o12))
      clear HMK HCK HCS HC1 HRG HFK P10 T10 H10 S10 Q12 o10 o12
      generalize CF A12 c12 = C at *
      go_wp2_with (refine wpList_loadC Y12 hcs _ rfl rfl rfl ?_)
      refine HCX.out.mono ?_
      rintro e w13 ⟨he, hb13⟩
      rw [show first3 0 0 0 = 0 from rfl] at he
      subst he
      have P13 := below_up P12 hb13 P12.size
      have T13 := T12.below hb13
      have H13 := H12.keep hb13
      have S13 := Nat.le_trans S12 hb13.size
      clear P12 T12 H12 S12 Y12 HCX hb13
      go_wp2_with fail
      go_roundw
      case rel => exact ⟨q + 1, mm + 16 * k1, by go_num, by omega, by omega, T13, H13, P13, S13⟩
      case measure => simp [intOf]; omega
    ·have hd2 : decide (q ≤ k) = false := decide_eq_false (by omega)
     go_wp2_with fail
     go_roundw
     case rel => exact ⟨k1, mm, v', by first | rfl | go_num, by rw [HT1.out], by omega, by omega, by rw [HHS1.out]; exact hT, hB, hS⟩
     case measure => simp [intOf]; omega
  ·have hd : decide (k < fl.length) = false := decide_eq_false (by omega)
   have P9 := below_up hb1 hB hb1.size
   go_wp2_with fail
   refine (HLV.out _ P9).mono ?_
   rintro e w5 ⟨rfl, hb5⟩
   have P5 := below_up P9 hb5 P9.size
   go_wp2_with fail
   go_ret
   exact ⟨rfl, P5⟩
end Go.Proofs.YtbeaijjaecaidaaGreatDoor
