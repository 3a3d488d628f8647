/- The law CopiesAltered, walked. -/
import Derived.Test.YtbeaijjaecaidaaGreatDoorG23
import Derived.Test.YtbeaijjaecaidaaGreatDoorE01
namespace Go.Proofs.YtbeaijjaecaidaaGreatDoor
open Go.RowKit Go.Shelf
attribute [local go_sem] Oper.semAt_some
set_option maxRecDepth 100000 in
set_option maxHeartbeats 16000000 in
theorem altered_walk (A : Option Addr) (n c : Nat) (at_ by_ secret : Int) (w : World) (hG : w.cell? ⟨0, 0, none⟩ = some (.int .i64 655)) (h0 : 0 < w.heap.size) (hA : IntsAt w A n) (hA2 : ∀ a, A = some a → a.block < w.heap.size) (hat : -9223372036854775808 ≤ at_ ∧ at_ ≤ 9223372036854775807) (hby : -9223372036854775808 ≤ by_ ∧ by_ ≤ 9223372036854775807) :
  Calls Tryz.prog 3 #[.slice A n c, .int .i64 at_, .int .i64 by_, .int .i64 secret] w fun e w' => e = .returned (.bool true) ∧ Below w.heap.size w w' := by
 have HLG := Lib.hid (log_any A n c 2 (by omega) w hA hA2)
 clear hA hA2
 have HLV := Lib.hid (fun (W : World) (hW : Below w.heap.size w W) => lives_any W ((hW.cell (p := ⟨0, 0, none⟩) h0).trans hG) (Nat.lt_of_lt_of_le h0 hW.size))
 go_enter Tryz.func3, Tryz.ntmps3
 go_wp2_with fail
 refine HLG.out.mono ?_
 rintro e w1 ⟨Ao, co, fl, rfl, hco, hlog, hrow, hb1⟩
 by_cases hz : fl.length = 0
 ·have ez : ((fl.length : Int) == 0) = true := by rw [hz]; rfl
  clear hrow
  go_wp2_with fail
  refine (HLV.out _ hb1).mono ?_
  rintro e w2 ⟨rfl, hb2⟩
  have P2 := below_up hb1 hb2 hb1.size
  go_wp2_with fail
  go_ret
  exact ⟨rfl, P2⟩
 ·have ez : ((fl.length : Int) == 0) = false := by rw [beq_eq_false_iff_ne]; omega
  have HROW := Lib.hid hrow
  have HLOG := Lib.hid hlog
  have hl14 := hlog.len
  clear hrow hlog
  go_wp2_with fail
  refine (around_any at_ (fl.length : Int) _ hat.1 hat.2 (by omega) (by omega)).mono ?_
  rintro e w2 ⟨rfl, rfl⟩
  obtain ⟨i, hk, hi⟩ : ∃ k : Nat, arN at_ (fl.length : Int) = (k : Int) ∧ k < fl.length := by
   have h1 := arN_nonneg at_ (fl.length : Int) (by omega)
   have h2 := arN_lt at_ (fl.length : Int) (by omega)
   exact ⟨(arN at_ (fl.length : Int)).toNat, by omega, by omega⟩
  rw [hk]
  have hsl := u64_lt secret
  have hwS := wrap_u64' secret
  have HOF := Lib.hid (of_gen (u64 secret) hsl fl hl14 HLOG.out.ok Ao co hco w1 w1.heap.size (Nat.le_refl _) HROW.out i hi)
  clear hk ez hz
  go_wp2_with fail
  refine HOF.out.mono ?_
  rintro e w2 ⟨C, dv, cv, ev, Ap, cp, rfl, hC, hC1, hf, hpc, hpath, hb2⟩
  have hACC : Acc w1 (keyN (u64 secret)) i fl.length ⟨C, hOf (u64 secret) fl fl[i].office, fl[i], dv, cv, ev, saltN i, Ap, cp, psOf fl i⟩ := by
   have hok := HLOG.out.ok _ (List.getElem_mem hi)
   have hoff := HLOG.out.office _ (List.getElem_mem hi)
   have hft := of_fit hi hl14
   have h3 := tick_le (b := 1099511627776) fl 0 (by omega) (fun f hf => (HLOG.out.ok f hf).2.1.2)
   have h2 := (tick_ge fl 0).1
   have hpl := path_len 16 (logN fl) i
   refine ⟨hC, hC1, hf.one, hf, hok, HLOG.out.day _ (List.getElem_mem hi), by show (psOf fl i).length ≤ 100; unfold psOf; omega, hpc, path_words _ _ _, hft.2, lab_lt _ _, ⟨hd_sign _ _ _ _ _, by show 0 ≤ fl[i].office ∧ fl[i].office ≤ 11; omega, ?_, by show (0 : Int) ≤ 9 ∧ (9 : Int) ≤ 131072; omega, by show 0 ≤ (fl.length : Int) ∧ (fl.length : Int) ≤ 4096; omega, by show (0 : Int) ≤ 0 ∧ (0 : Int) ≤ 4096; omega, root_lt _ _, by show 5 < 18446744073709551616; omega, lab_lt _ _⟩, of_head _ hl14 (by omega) HLOG.out.ok (by omega), rfl, of_tick _ hi, rfl, hft.1.symm⟩
   show 0 ≤ tickN (fl.take fl.length) ∧ tickN (fl.take fl.length) ≤ 1099511627776
   rw [List.take_length]
   exact ⟨h2, h3⟩
  have HKEY := Lib.hid (fun (W : World) => key_any (u64 secret) hsl W)
  have hklt : keyN (u64 secret) < 18446744073709551616 := lab_lt _ _
  have hn16 : fl.length ≤ 16 := by omega
  clear HOF HLOG HROW hf
  generalize hOf (u64 secret) fl fl[i].office = h at *
  generalize psOf fl i = ps at *
  generalize saltN i = s at *
  generalize fl[i] = f at *
  generalize keyN (u64 secret) = key at *
  generalize fl.length = nl at *
  have hcs := hC.size
  have hone := hACC.one
  have HG1 := (hb1.cell (p := ⟨0, 0, none⟩) h0).trans hG
  have H01 := Nat.lt_of_lt_of_le h0 hb1.size
  have HKW : ∀ W, Below w2.heap.size w2 W → W.cell? ⟨0, 0, none⟩ = some (.int .i64 655) ∧ 0 < W.heap.size ∧ w1.heap.size ≤ W.heap.size ∧ (∀ f dv cv ev, FilAt w1 w1.heap.size f dv cv ev → FilAt W w1.heap.size f dv cv ev) := fun W hW => by
   have h2 := hb2.trans (hW.mono hb2.size)
   exact ⟨(h2.cell (p := ⟨0, 0, none⟩) H01).trans HG1, Nat.lt_of_lt_of_le H01 h2.size, h2.size, fun f dv cv ev hf => hf.keep (fun p hp => h2.cell hp) (Nat.le_refl _)⟩
  have hKW := Lib.hid HKW
  have RC := Lib.hid (fun (W : World) => real_any hC hone W)
  have CC := Lib.hid (fun (W : World) (hW : Below w2.heap.size w2 W) => ccheck_gen (cop_is h (i : Int) f dv cv ev s (.slice Ap ps.length cp)) hACC.ok key hklt (fun _ => hACC.size) hi hn16 hACC.len hpc hACC.wds hACC.fit (fun _ => hACC.tick) hACC.salt hACC.good.log hACC.good.map W (HKW W hW).1 (HKW W hW).2.1 w1.heap.size (HKW W hW).2.2.1 ((HKW W hW).2.2.2 _ _ _ _ hACC.fil) (hpath.row.keep hW))
  have hfine : first3 (filE f h.office) (hdC key h) (logG h f s ps i nl) = 0 := hACC.fine
  rw [hfine] at CC
  have HACC := Lib.hid hACC
  have HPATH := Lib.hid hpath
  have HC := Lib.hid hC
  clear hACC hfine hC hpath HKW HG1 H01 hone
  have Z1 := Blk.new w2 44 #[.int .i64 0, .int .i64 0, .int .i64 0, .int .i64 0, .int .u64 0, .int .u64 0, .int .i64 0, .int .u64 0, .int .i64 0, .int .i64 0, .int .i64 0, .int .i64 0, .int .i64 0, .int .i64 0, .int .i64 0, .int .i64 0, .int .i64 0, .int .i64 0, .int .i64 0, .int .i64 0, .slice none 0 0, .slice none 0 0, .slice none 0 0, .slice none 0 0, .int .i64 0, .int .i64 0, .slice none 0 0, .slice none 0 0, .int .u64 0, .slice none 0 0]
  go_upto_region 6 with (refine wpList_storeW (T := 44) (n := 30) (by kernel_rfl) Z1 rfl _ _ rfl rfl rfl C rfl hcs hC1 ?_; intro w3 X3 g3)
  have P3 := (below_new w2 (.cells #[.int .i64 0, .int .i64 0, .int .i64 0, .int .i64 0, .int .u64 0, .int .u64 0, .int .i64 0, .int .u64 0, .int .i64 0, .int .i64 0, .int .i64 0, .int .i64 0, .int .i64 0, .int .i64 0, .int .i64 0, .int .i64 0, .int .i64 0, .int .i64 0, .int .i64 0, .int .i64 0, .slice none 0 0, .slice none 0 0, .slice none 0 0, .slice none 0 0, .int .i64 0, .int .i64 0, .slice none 0 0, .slice none 0 0, .int .u64 0, .slice none 0 0] 44)).grown g3 (by simp) (fun k e => by injection e with e; omega)
  clear Z1 g3
  go_wp2_with fail
  refine (HKEY.out _).mono ?_
  rintro e w4 ⟨rfl, hb4⟩
  have X4 := X3.keep hb4
  have P4 := below_up P3 hb4 P3.size
  clear X3 P3 hb4
  generalize hC1d : cop h (i : Int) f dv cv ev s (.slice Ap ps.length cp) = C1 at *
  clear hC1d
  go_wp2_with (refine wpList_loadK X4 hcs _ rfl rfl rfl ?_)
  refine (RC.out _).mono ?_
  rintro e w5 ⟨rfl, hb5⟩
  have X5 := X4.keep hb5
  have P5 := below_up P4 hb5 P4.size
  clear X4 P4 hb5
  go_wp2_with fail
  refine (CC.out _ P5).mono ?_
  rintro e w6 ⟨rfl, hb6⟩
  have X6 := X5.keep hb6
  have P6 := below_up P5 hb6 P5.size
  clear X5 P5 hb6 CC RC
  go_wp2_with fail
  refine (around_any by_ 1073741824 _ hby.1 hby.2 (by omega) (by omega)).mono ?_
  rintro e w7 ⟨rfl, rfl⟩
  obtain ⟨m, hm, hmlt⟩ : ∃ k : Nat, arN by_ 1073741824 = (k : Int) ∧ k < 1073741824 := by
   have h1 := arN_nonneg by_ 1073741824 (by omega)
   have h2 := arN_lt by_ 1073741824 (by omega)
   exact ⟨(arN by_ 1073741824).toNat, by omega, by omega⟩
  rw [hm]
  have hw1 : IntKind.i64.wrap (1 + (m : Int)) = ((m + 1 : Nat) : Int) := by rw [IntKind.wrap_i64]; omega
  have hm1 : 1 ≤ m + 1 := by omega
  have hm2 : m + 1 ≤ 1073741824 := by omega
  clear hm hmlt hat hby
  generalize m + 1 = nn at *
  have hwn : IntKind.u64.wrap (nn : Int) = (nn : Int) := by rw [IntKind.wrap_u64]; omega
  have hcell28 := HC.out.salt
  have Z7 := Blk.new w6 44 #[.int .i64 0, .int .i64 0, .int .i64 0, .int .i64 0, .int .u64 0, .int .u64 0, .int .i64 0, .int .u64 0, .int .i64 0, .int .i64 0, .int .i64 0, .int .i64 0, .int .i64 0, .int .i64 0, .int .i64 0, .int .i64 0, .int .i64 0, .int .i64 0, .int .i64 0, .int .i64 0, .slice none 0 0, .slice none 0 0, .slice none 0 0, .slice none 0 0, .int .i64 0, .int .i64 0, .slice none 0 0, .slice none 0 0, .int .u64 0, .slice none 0 0]
  have XZ := X6.alloc (.cells #[.int .i64 0, .int .i64 0, .int .i64 0, .int .i64 0, .int .u64 0, .int .u64 0, .int .i64 0, .int .u64 0, .int .i64 0, .int .i64 0, .int .i64 0, .int .i64 0, .int .i64 0, .int .i64 0, .int .i64 0, .int .i64 0, .int .i64 0, .int .i64 0, .int .i64 0, .int .i64 0, .slice none 0 0, .slice none 0 0, .slice none 0 0, .slice none 0 0, .int .i64 0, .int .i64 0, .slice none 0 0, .slice none 0 0, .int .u64 0, .slice none 0 0] 44)
  have PZ := P6.alloc P6.size (.cells #[.int .i64 0, .int .i64 0, .int .i64 0, .int .i64 0, .int .u64 0, .int .u64 0, .int .i64 0, .int .u64 0, .int .i64 0, .int .i64 0, .int .i64 0, .int .i64 0, .int .i64 0, .int .i64 0, .int .i64 0, .int .i64 0, .int .i64 0, .int .i64 0, .int .i64 0, .int .i64 0, .slice none 0 0, .slice none 0 0, .slice none 0 0, .slice none 0 0, .int .i64 0, .int .i64 0, .slice none 0 0, .slice none 0 0, .int .u64 0, .slice none 0 0] 44)
  have hlt6 := X6.lt
  go_upto_region 12 with (first | (refine wpList_loadK X6 hcs _ rfl rfl rfl ?_) | (refine wpList_storeW (T := 44) (n := 30) (by kernel_rfl) Z7 rfl _ _ rfl rfl rfl C rfl hcs hC1 ?_; intro w7 Y7 g7))
  have X7 := XZ.grown g7 (fun e => by injection e with e; omega)
  have P7 := PZ.grown g7 PZ.size (fun k e => by injection e with e; have := P6.size; omega)
  clear XZ PZ Z7 g7
  have hc28 := Y7.cellAt 28 _ HC.out.salt
  have hf28 := Y7.frozen 28
  have hw28 : IntKind.u64.wrap ((s : Int) + (nn : Int)) = (((s + nn) % 18446744073709551616 : Nat) : Int) := by rw [IntKind.wrap_u64]; omega
  have BAD := Lib.hid (HACC.out.badSalt hm1 hm2)
  have hds : (C.setIfInBounds 28 (.int .u64 (((s + nn) % 18446744073709551616 : Nat) : Int))).size = 30 := by simp [hcs]
  have hd1 : (C.setIfInBounds 28 (.int .u64 (((s + nn) % 18446744073709551616 : Nat) : Int))).all (·.oneCell') = true := one_set hC1 rfl
  generalize (s + nn) % 18446744073709551616 = s1 at *
  go_upto_region 13 with fail
  have Y8 := Y7.set 28 (.int .u64 (s1 : Int))
  have X8 := X7.far (p := ⟨w6.heap.size, 28, none⟩) (Nat.ne_of_lt hlt6) (.int .u64 (s1 : Int))
  have P8 := P7.setCell (p := ⟨w6.heap.size, 28, none⟩) (Nat.le_of_lt hlt6) (.int .u64 (s1 : Int))
  clear Y7 X7 P7 hc28 hf28 hw28 hcell28
  generalize hD : C.setIfInBounds 28 (.int .u64 (s1 : Int)) = D at *
  generalize w7.setCell ⟨w6.heap.size, 28, none⟩ (.int .u64 (s1 : Int)) = w8 at *
  clear hD
  have hb8 : w2.heap.size + 1 ≤ w8.heap.size := X8.lt
  have L8 : Lst w1 w8 (w2.heap.size + 1) key i nl (.slice none 0 0) [] := ⟨OwnM.nil _ _ _ _ _ _, fun e he => (by cases he), fun e he => (by cases he)⟩
  have RA9 := Blk.new w8 44 D
  have ga9 := World.grownBy_alloc w8 (.cells D 44) none
  have LA9 := L8.step ga9 (fun _ e => by cases e)
  have XA9 := X8.alloc (.cells D 44)
  have PA9 := P8.alloc P8.size (.cells D 44)
  have NA9 : RepML [] (((Value.slice none 0 0)).ownBlock.toList ++ []) (w8.alloc (.cells D 44)) D.toList (valD D.toList) := RepL.of_plain _ _ _
  have hln9 : (valD (([] : List El).flatMap fun e => e.C.toList)).length ≤ 100000 := by rw [valD_length]; simp
  have OA9 := LA9.own
  have hsA9 : w2.heap.size + 1 ≤ (w8.alloc (.cells D 44)).heap.size := Nat.le_trans hb8 ga9.size
  go_upto_region 14 with (first | (refine wpList_loadK Y8 hds _ rfl rfl rfl ?_) | (refine wpList_rowK D hds rfl ?_) | (at_builtin; refine wpList_appM Tryz.underlying53 Tryz.info44 rfl (by omega) (by omega) OA9 RA9 (by rw [hds]) hd1 NA9 hln9 (by omega) hsA9 rfl _ _ rfl rfl rfl ?_; intro v9 w9 o9 g9 l9))
  have L9 := LA9.app BAD.out (HPATH.out.step (grown_of_below (row := none) PA9) (fun _ e => by cases e) (fun _ hi => .inl hi)) g9 (ownV_app o9)
  have X9 := XA9.grown g9 (fun e => by have := (OwnM.lt OA9 _ e.symm).1; omega)
  have P9 := PA9.grown g9 PA9.size (fun k e => by have := (OwnM.lt OA9 k e).1; omega)
  have hb9 : w2.heap.size + 1 ≤ w9.heap.size := Nat.le_trans hsA9 g9.size
  clear RA9 ga9 LA9 XA9 PA9 NA9 hln9 hsA9 L8 X8 P8 Y8 o9 l9 hb8 hds hd1
  have hlt9 := X9.lt
  have hHr := HC.out.hrange X9
  clear hlt6 hlt9
  go_upto_region 15 with (first | (refine wpList_load_mid rfl 29 _ rfl w2.heap.size 0 rfl h.vals.toList _ hHr Tryz.underlying29 rfl (by kernel_rfl) ?_) | (refine wpList_row8 h.vals rfl rfl rfl rfl rfl rfl rfl rfl rfl ?_))
  have hvg : ∀ b, v9.ownBlock = some b → b < w9.heap.size := fun b e => (OwnM.lt L9.own b e).2
  have hx9 : w2.heap.size < w9.heap.size := X9.lt
  have gaH := World.grownBy_alloc w9 (.cells (rep8 h.vals) 29) none
  have LH0 := L9.step gaH (fun _ e => by cases e)
  have XH0 := X9.alloc (.cells (rep8 h.vals) 29)
  have PH0 := P9.alloc P9.size (.cells (rep8 h.vals) 29)
  have BH0 := Blk.new w9 29 (rep8 h.vals)
  have HX0 := rep8_row h nn
  have hGD : GoodH key h := HACC.out.good
  have HGD := Lib.hid hGD
  obtain ⟨hgsg, hgo, hgt, hgd, hgz, hgl, hglg, hgm, hgs⟩ := hGD
  clear hgsg
  have e0 : (w9.alloc (.cells (rep8 h.vals) 29)).heap.size = w9.heap.size + 1 := World.size_alloc ..
  clear gaH L9 X9 P9 hHr
  (try simp only [Act.put])
  generalize rep8 h.vals = Y0 at *
  generalize w9.alloc (.cells Y0 29) = wh0 at *
  have hwk0 : IntKind.i64.wrap (h.office + (nn : Int)) = h.office + (nn : Int) := by rw [IntKind.wrap_i64]; omega
  have hv0 : bentV h nn 0 = .int .i64 (h.office + (nn : Int)) := rfl
  have hck0 : wh0.cell? ⟨w9.heap.size, 0, none⟩ = some (.int .i64 h.office) := BH0.cellAt 0 _ (HX0.at_ 0 0 _ (by omega) rfl)
  have hfk0 := BH0.frozen 0
  go_upto_region 16 with fail
  have BH1 : Blk (wh0.setCell ⟨w9.heap.size, 0, none⟩ (.int .i64 (h.office + (nn : Int)))) w9.heap.size 29 (Y0.setIfInBounds 0 (.int .i64 (h.office + (nn : Int)))) := BH0.set 0 (.int .i64 (h.office + (nn : Int)))
  have HX1 : HdRow (Y0.setIfInBounds 0 (.int .i64 (h.office + (nn : Int)))) h nn 1 := by
   rw [← hv0]
   exact HX0.step (by omega)
  have LH1 := LH0.step (grown_set wh0 w9.heap.size 0 (.int .i64 (h.office + (nn : Int)))) (fun g e => by injection e with e; subst e; exact ⟨fun e2 => absurd (hvg _ e2) (Nat.lt_irrefl _), fun _ => BH0.hidden (by decide)⟩)
  have XH1 := XH0.far (p := ⟨w9.heap.size, 0, none⟩) (Nat.ne_of_lt hx9) (.int .i64 (h.office + (nn : Int)))
  have PH1 := PH0.setCell (p := ⟨w9.heap.size, 0, none⟩) (Nat.le_of_lt hx9) (.int .i64 (h.office + (nn : Int)))
  have e1 : (wh0.setCell ⟨w9.heap.size, 0, none⟩ (.int .i64 (h.office + (nn : Int)))).heap.size = w9.heap.size + 1 := by rw [← e0]; simp [World.setCell]
  clear BH0 HX0 LH0 XH0 PH0 e0 hck0 hfk0 hwk0 hv0
  (try simp only [Act.put])
  generalize Y0.setIfInBounds 0 (.int .i64 (h.office + (nn : Int))) = Y1 at *
  generalize wh0.setCell ⟨w9.heap.size, 0, none⟩ (.int .i64 (h.office + (nn : Int))) = wh1 at *
  have hwk1 : IntKind.i64.wrap (h.tick + (nn : Int)) = h.tick + (nn : Int) := by rw [IntKind.wrap_i64]; omega
  have hv1 : bentV h nn 1 = .int .i64 (h.tick + (nn : Int)) := rfl
  have hck1 : wh1.cell? ⟨w9.heap.size, 9, none⟩ = some (.int .i64 h.tick) := BH1.cellAt 9 _ (HX1.at_ 1 1 _ (by omega) rfl)
  have hfk1 := BH1.frozen 9
  go_upto_region 17 with fail
  have BH2 : Blk (wh1.setCell ⟨w9.heap.size, 9, none⟩ (.int .i64 (h.tick + (nn : Int)))) w9.heap.size 29 (Y1.setIfInBounds 9 (.int .i64 (h.tick + (nn : Int)))) := BH1.set 9 (.int .i64 (h.tick + (nn : Int)))
  have HX2 : HdRow (Y1.setIfInBounds 9 (.int .i64 (h.tick + (nn : Int)))) h nn 2 := by
   rw [← hv1]
   exact HX1.step (by omega)
  have LH2 := LH1.step (grown_set wh1 w9.heap.size 9 (.int .i64 (h.tick + (nn : Int)))) (fun g e => by injection e with e; subst e; exact ⟨fun e2 => absurd (hvg _ e2) (Nat.lt_irrefl _), fun _ => BH1.hidden (by decide)⟩)
  have XH2 := XH1.far (p := ⟨w9.heap.size, 9, none⟩) (Nat.ne_of_lt hx9) (.int .i64 (h.tick + (nn : Int)))
  have PH2 := PH1.setCell (p := ⟨w9.heap.size, 9, none⟩) (Nat.le_of_lt hx9) (.int .i64 (h.tick + (nn : Int)))
  have e2 : (wh1.setCell ⟨w9.heap.size, 9, none⟩ (.int .i64 (h.tick + (nn : Int)))).heap.size = w9.heap.size + 1 := by rw [← e1]; simp [World.setCell]
  clear BH1 HX1 LH1 XH1 PH1 e1 hck1 hfk1 hwk1 hv1
  (try simp only [Act.put])
  generalize Y1.setIfInBounds 9 (.int .i64 (h.tick + (nn : Int))) = Y2 at *
  generalize wh1.setCell ⟨w9.heap.size, 9, none⟩ (.int .i64 (h.tick + (nn : Int))) = wh2 at *
  have hwk2 : IntKind.i64.wrap (h.day + (nn : Int)) = h.day + (nn : Int) := by rw [IntKind.wrap_i64]; omega
  have hv2 : bentV h nn 2 = .int .i64 (h.day + (nn : Int)) := rfl
  have hck2 : wh2.cell? ⟨w9.heap.size, 18, none⟩ = some (.int .i64 h.day) := BH2.cellAt 18 _ (HX2.at_ 2 2 _ (by omega) rfl)
  have hfk2 := BH2.frozen 18
  go_upto_region 18 with fail
  have BH3 : Blk (wh2.setCell ⟨w9.heap.size, 18, none⟩ (.int .i64 (h.day + (nn : Int)))) w9.heap.size 29 (Y2.setIfInBounds 18 (.int .i64 (h.day + (nn : Int)))) := BH2.set 18 (.int .i64 (h.day + (nn : Int)))
  have HX3 : HdRow (Y2.setIfInBounds 18 (.int .i64 (h.day + (nn : Int)))) h nn 3 := by
   rw [← hv2]
   exact HX2.step (by omega)
  have LH3 := LH2.step (grown_set wh2 w9.heap.size 18 (.int .i64 (h.day + (nn : Int)))) (fun g e => by injection e with e; subst e; exact ⟨fun e2 => absurd (hvg _ e2) (Nat.lt_irrefl _), fun _ => BH2.hidden (by decide)⟩)
  have XH3 := XH2.far (p := ⟨w9.heap.size, 18, none⟩) (Nat.ne_of_lt hx9) (.int .i64 (h.day + (nn : Int)))
  have PH3 := PH2.setCell (p := ⟨w9.heap.size, 18, none⟩) (Nat.le_of_lt hx9) (.int .i64 (h.day + (nn : Int)))
  have e3 : (wh2.setCell ⟨w9.heap.size, 18, none⟩ (.int .i64 (h.day + (nn : Int)))).heap.size = w9.heap.size + 1 := by rw [← e2]; simp [World.setCell]
  clear BH2 HX2 LH2 XH2 PH2 e2 hck2 hfk2 hwk2 hv2
  (try simp only [Act.put])
  generalize Y2.setIfInBounds 18 (.int .i64 (h.day + (nn : Int))) = Y3 at *
  generalize wh2.setCell ⟨w9.heap.size, 18, none⟩ (.int .i64 (h.day + (nn : Int))) = wh3 at *
  have hwk3 : IntKind.i64.wrap (h.size + (nn : Int)) = h.size + (nn : Int) := by rw [IntKind.wrap_i64]; omega
  have hv3 : bentV h nn 3 = .int .i64 (h.size + (nn : Int)) := rfl
  have hck3 : wh3.cell? ⟨w9.heap.size, 27, none⟩ = some (.int .i64 h.size) := BH3.cellAt 27 _ (HX3.at_ 3 3 _ (by omega) rfl)
  have hfk3 := BH3.frozen 27
  go_upto_region 19 with fail
  have BH4 : Blk (wh3.setCell ⟨w9.heap.size, 27, none⟩ (.int .i64 (h.size + (nn : Int)))) w9.heap.size 29 (Y3.setIfInBounds 27 (.int .i64 (h.size + (nn : Int)))) := BH3.set 27 (.int .i64 (h.size + (nn : Int)))
  have HX4 : HdRow (Y3.setIfInBounds 27 (.int .i64 (h.size + (nn : Int)))) h nn 4 := by
   rw [← hv3]
   exact HX3.step (by omega)
  have LH4 := LH3.step (grown_set wh3 w9.heap.size 27 (.int .i64 (h.size + (nn : Int)))) (fun g e => by injection e with e; subst e; exact ⟨fun e2 => absurd (hvg _ e2) (Nat.lt_irrefl _), fun _ => BH3.hidden (by decide)⟩)
  have XH4 := XH3.far (p := ⟨w9.heap.size, 27, none⟩) (Nat.ne_of_lt hx9) (.int .i64 (h.size + (nn : Int)))
  have PH4 := PH3.setCell (p := ⟨w9.heap.size, 27, none⟩) (Nat.le_of_lt hx9) (.int .i64 (h.size + (nn : Int)))
  have e4 : (wh3.setCell ⟨w9.heap.size, 27, none⟩ (.int .i64 (h.size + (nn : Int)))).heap.size = w9.heap.size + 1 := by rw [← e3]; simp [World.setCell]
  clear BH3 HX3 LH3 XH3 PH3 e3 hck3 hfk3 hwk3 hv3
  (try simp only [Act.put])
  generalize Y3.setIfInBounds 27 (.int .i64 (h.size + (nn : Int))) = Y4 at *
  generalize wh3.setCell ⟨w9.heap.size, 27, none⟩ (.int .i64 (h.size + (nn : Int))) = wh4 at *
  obtain ⟨z4, hz4⟩ : ∃ z : Nat, z = (h.log + nn) % 18446744073709551616 := ⟨_, rfl⟩
  have hwk4 : IntKind.u64.wrap ((h.log : Int) + (nn : Int)) = (z4 : Int) := by rw [IntKind.wrap_u64]; omega
  have hv4 : bentV h nn 4 = .int .u64 (z4 : Int) := by rw [hz4]; rfl
  clear hz4
  have hck4 : wh4.cell? ⟨w9.heap.size, 36, none⟩ = some (.int .u64 (h.log : Int)) := BH4.cellAt 36 _ (HX4.at_ 4 4 _ (by omega) rfl)
  have hfk4 := BH4.frozen 36
  go_upto_region 20 with fail
  have BH5 : Blk (wh4.setCell ⟨w9.heap.size, 36, none⟩ (.int .u64 (z4 : Int))) w9.heap.size 29 (Y4.setIfInBounds 36 (.int .u64 (z4 : Int))) := BH4.set 36 (.int .u64 (z4 : Int))
  have HX5 : HdRow (Y4.setIfInBounds 36 (.int .u64 (z4 : Int))) h nn 5 := by
   rw [← hv4]
   exact HX4.step (by omega)
  have LH5 := LH4.step (grown_set wh4 w9.heap.size 36 (.int .u64 (z4 : Int))) (fun g e => by injection e with e; subst e; exact ⟨fun e2 => absurd (hvg _ e2) (Nat.lt_irrefl _), fun _ => BH4.hidden (by decide)⟩)
  have XH5 := XH4.far (p := ⟨w9.heap.size, 36, none⟩) (Nat.ne_of_lt hx9) (.int .u64 (z4 : Int))
  have PH5 := PH4.setCell (p := ⟨w9.heap.size, 36, none⟩) (Nat.le_of_lt hx9) (.int .u64 (z4 : Int))
  have e5 : (wh4.setCell ⟨w9.heap.size, 36, none⟩ (.int .u64 (z4 : Int))).heap.size = w9.heap.size + 1 := by rw [← e4]; simp [World.setCell]
  clear BH4 HX4 LH4 XH4 PH4 e4 hck4 hfk4 hwk4 hv4
  (try simp only [Act.put])
  generalize Y4.setIfInBounds 36 (.int .u64 (z4 : Int)) = Y5 at *
  generalize wh4.setCell ⟨w9.heap.size, 36, none⟩ (.int .u64 (z4 : Int)) = wh5 at *
  obtain ⟨z5, hz5⟩ : ∃ z : Nat, z = (h.map + nn) % 18446744073709551616 := ⟨_, rfl⟩
  have hwk5 : IntKind.u64.wrap ((h.map : Int) + (nn : Int)) = (z5 : Int) := by rw [IntKind.wrap_u64]; omega
  have hv5 : bentV h nn 5 = .int .u64 (z5 : Int) := by rw [hz5]; rfl
  clear hz5
  have hck5 : wh5.cell? ⟨w9.heap.size, 45, none⟩ = some (.int .u64 (h.map : Int)) := BH5.cellAt 45 _ (HX5.at_ 5 5 _ (by omega) rfl)
  have hfk5 := BH5.frozen 45
  go_upto_region 21 with fail
  have BH6 : Blk (wh5.setCell ⟨w9.heap.size, 45, none⟩ (.int .u64 (z5 : Int))) w9.heap.size 29 (Y5.setIfInBounds 45 (.int .u64 (z5 : Int))) := BH5.set 45 (.int .u64 (z5 : Int))
  have HX6 : HdRow (Y5.setIfInBounds 45 (.int .u64 (z5 : Int))) h nn 6 := by
   rw [← hv5]
   exact HX5.step (by omega)
  have LH6 := LH5.step (grown_set wh5 w9.heap.size 45 (.int .u64 (z5 : Int))) (fun g e => by injection e with e; subst e; exact ⟨fun e2 => absurd (hvg _ e2) (Nat.lt_irrefl _), fun _ => BH5.hidden (by decide)⟩)
  have XH6 := XH5.far (p := ⟨w9.heap.size, 45, none⟩) (Nat.ne_of_lt hx9) (.int .u64 (z5 : Int))
  have PH6 := PH5.setCell (p := ⟨w9.heap.size, 45, none⟩) (Nat.le_of_lt hx9) (.int .u64 (z5 : Int))
  have e6 : (wh5.setCell ⟨w9.heap.size, 45, none⟩ (.int .u64 (z5 : Int))).heap.size = w9.heap.size + 1 := by rw [← e5]; simp [World.setCell]
  clear BH5 HX5 LH5 XH5 PH5 e5 hck5 hfk5 hwk5 hv5
  (try simp only [Act.put])
  generalize Y5.setIfInBounds 45 (.int .u64 (z5 : Int)) = Y6 at *
  generalize wh5.setCell ⟨w9.heap.size, 45, none⟩ (.int .u64 (z5 : Int)) = wh6 at *
  have hwk6 : IntKind.i64.wrap (h.sld + (nn : Int)) = h.sld + (nn : Int) := by rw [IntKind.wrap_i64]; omega
  have hv6 : bentV h nn 6 = .int .i64 (h.sld + (nn : Int)) := rfl
  have hck6 : wh6.cell? ⟨w9.heap.size, 54, none⟩ = some (.int .i64 h.sld) := BH6.cellAt 54 _ (HX6.at_ 6 6 _ (by omega) rfl)
  have hfk6 := BH6.frozen 54
  go_upto_region 22 with fail
  have BH7 : Blk (wh6.setCell ⟨w9.heap.size, 54, none⟩ (.int .i64 (h.sld + (nn : Int)))) w9.heap.size 29 (Y6.setIfInBounds 54 (.int .i64 (h.sld + (nn : Int)))) := BH6.set 54 (.int .i64 (h.sld + (nn : Int)))
  have HX7 : HdRow (Y6.setIfInBounds 54 (.int .i64 (h.sld + (nn : Int)))) h nn 7 := by
   rw [← hv6]
   exact HX6.step (by omega)
  have LH7 := LH6.step (grown_set wh6 w9.heap.size 54 (.int .i64 (h.sld + (nn : Int)))) (fun g e => by injection e with e; subst e; exact ⟨fun e2 => absurd (hvg _ e2) (Nat.lt_irrefl _), fun _ => BH6.hidden (by decide)⟩)
  have XH7 := XH6.far (p := ⟨w9.heap.size, 54, none⟩) (Nat.ne_of_lt hx9) (.int .i64 (h.sld + (nn : Int)))
  have PH7 := PH6.setCell (p := ⟨w9.heap.size, 54, none⟩) (Nat.le_of_lt hx9) (.int .i64 (h.sld + (nn : Int)))
  have e7 : (wh6.setCell ⟨w9.heap.size, 54, none⟩ (.int .i64 (h.sld + (nn : Int)))).heap.size = w9.heap.size + 1 := by rw [← e6]; simp [World.setCell]
  clear BH6 HX6 LH6 XH6 PH6 e6 hck6 hfk6 hwk6 hv6
  (try simp only [Act.put])
  generalize Y6.setIfInBounds 54 (.int .i64 (h.sld + (nn : Int))) = Y7 at *
  generalize wh6.setCell ⟨w9.heap.size, 54, none⟩ (.int .i64 (h.sld + (nn : Int))) = wh7 at *
  obtain ⟨z7, hz7⟩ : ∃ z : Nat, z = (h.sign + nn) % 18446744073709551616 := ⟨_, rfl⟩
  have hwk7 : IntKind.u64.wrap ((h.sign : Int) + (nn : Int)) = (z7 : Int) := by rw [IntKind.wrap_u64]; omega
  have hv7 : bentV h nn 7 = .int .u64 (z7 : Int) := by rw [hz7]; rfl
  clear hz7
  have hck7 : wh7.cell? ⟨w9.heap.size, 63, none⟩ = some (.int .u64 (h.sign : Int)) := BH7.cellAt 63 _ (HX7.at_ 7 7 _ (by omega) rfl)
  have hfk7 := BH7.frozen 63
  go_upto_region 23 with fail
  have BH8 : Blk (wh7.setCell ⟨w9.heap.size, 63, none⟩ (.int .u64 (z7 : Int))) w9.heap.size 29 (Y7.setIfInBounds 63 (.int .u64 (z7 : Int))) := BH7.set 63 (.int .u64 (z7 : Int))
  have HX8 : HdRow (Y7.setIfInBounds 63 (.int .u64 (z7 : Int))) h nn 8 := by
   rw [← hv7]
   exact HX7.step (by omega)
  have LH8 := LH7.step (grown_set wh7 w9.heap.size 63 (.int .u64 (z7 : Int))) (fun g e => by injection e with e; subst e; exact ⟨fun e2 => absurd (hvg _ e2) (Nat.lt_irrefl _), fun _ => BH7.hidden (by decide)⟩)
  have XH8 := XH7.far (p := ⟨w9.heap.size, 63, none⟩) (Nat.ne_of_lt hx9) (.int .u64 (z7 : Int))
  have PH8 := PH7.setCell (p := ⟨w9.heap.size, 63, none⟩) (Nat.le_of_lt hx9) (.int .u64 (z7 : Int))
  have e8 : (wh7.setCell ⟨w9.heap.size, 63, none⟩ (.int .u64 (z7 : Int))).heap.size = w9.heap.size + 1 := by rw [← e7]; simp [World.setCell]
  clear BH7 HX7 LH7 XH7 PH7 e7 hck7 hfk7 hwk7 hv7
  (try simp only [Act.put])
  generalize Y7.setIfInBounds 63 (.int .u64 (z7 : Int)) = Y8 at *
  generalize wh7.setCell ⟨w9.heap.size, 63, none⟩ (.int .u64 (z7 : Int)) = wh8 at *
  clear hgo hgt hgd hgz hgl hglg hgm hgs HGD
  go_wp2_with fail
  go_loopw [14, 17] (fun v j W => ∃ (k : Nat) (es : List El), j = .int .i64 (k : Int) ∧ k ≤ 8 ∧ es.length = k + 1 ∧ Lst w1 W (w2.heap.size + 1) key i nl v es ∧ Blk W w2.heap.size 44 C ∧ Blk W w9.heap.size 29 Y8 ∧ Below w2.heap.size w2 W) (fun _ j _ => 8 - (intOf j).toNat)
  case atStart => exact ⟨0, _, rfl, by omega, by simp, LH8, XH8, BH8, PH8⟩
  case round => as_aux_lemma =>
   obtain ⟨k, es, rfl, hk8, hel, L20, X20, B20, P20⟩ := hrel
   obtain ⟨w20, rfl⟩ : ∃ z : World, z = wr := ⟨_, rfl⟩
   obtain ⟨Av, nv, cvv, rfl, _, _⟩ := OwnM.slice L20.own
   by_cases hlt : k < 8
   ·have hd : decide ((k : Int) < 8) = true := decide_eq_true (by omega)
    have hx20 : w2.heap.size < w20.heap.size := X20.lt
    have hvo : ∀ b, (Value.slice Av nv cvv).ownBlock = some b → b < w20.heap.size := fun b e => (OwnM.lt L20.own b e).2
    have Z20 := Blk.new w20 44 #[.int .i64 0, .int .i64 0, .int .i64 0, .int .i64 0, .int .u64 0, .int .u64 0, .int .i64 0, .int .u64 0, .int .i64 0, .int .i64 0, .int .i64 0, .int .i64 0, .int .i64 0, .int .i64 0, .int .i64 0, .int .i64 0, .int .i64 0, .int .i64 0, .int .i64 0, .int .i64 0, .slice none 0 0, .slice none 0 0, .slice none 0 0, .slice none 0 0, .int .i64 0, .int .i64 0, .slice none 0 0, .slice none 0 0, .int .u64 0, .slice none 0 0]
    have ga20 := World.grownBy_alloc w20 (.cells #[.int .i64 0, .int .i64 0, .int .i64 0, .int .i64 0, .int .u64 0, .int .u64 0, .int .i64 0, .int .u64 0, .int .i64 0, .int .i64 0, .int .i64 0, .int .i64 0, .int .i64 0, .int .i64 0, .int .i64 0, .int .i64 0, .int .i64 0, .int .i64 0, .int .i64 0, .int .i64 0, .slice none 0 0, .slice none 0 0, .slice none 0 0, .slice none 0 0, .int .i64 0, .int .i64 0, .slice none 0 0, .slice none 0 0, .int .u64 0, .slice none 0 0] 44) none
    have LZ := L20.step ga20 (fun _ e => by cases e)
    have XZ := X20.alloc (.cells #[.int .i64 0, .int .i64 0, .int .i64 0, .int .i64 0, .int .u64 0, .int .u64 0, .int .i64 0, .int .u64 0, .int .i64 0, .int .i64 0, .int .i64 0, .int .i64 0, .int .i64 0, .int .i64 0, .int .i64 0, .int .i64 0, .int .i64 0, .int .i64 0, .int .i64 0, .int .i64 0, .slice none 0 0, .slice none 0 0, .slice none 0 0, .slice none 0 0, .int .i64 0, .int .i64 0, .slice none 0 0, .slice none 0 0, .int .u64 0, .slice none 0 0] 44)
    have BZ := B20.alloc (.cells #[.int .i64 0, .int .i64 0, .int .i64 0, .int .i64 0, .int .u64 0, .int .u64 0, .int .i64 0, .int .u64 0, .int .i64 0, .int .i64 0, .int .i64 0, .int .i64 0, .int .i64 0, .int .i64 0, .int .i64 0, .int .i64 0, .int .i64 0, .int .i64 0, .int .i64 0, .int .i64 0, .slice none 0 0, .slice none 0 0, .slice none 0 0, .slice none 0 0, .int .i64 0, .int .i64 0, .slice none 0 0, .slice none 0 0, .int .u64 0, .slice none 0 0] 44)
    have PZ := P20.alloc P20.size (.cells #[.int .i64 0, .int .i64 0, .int .i64 0, .int .i64 0, .int .u64 0, .int .u64 0, .int .i64 0, .int .u64 0, .int .i64 0, .int .i64 0, .int .i64 0, .int .i64 0, .int .i64 0, .int .i64 0, .int .i64 0, .int .i64 0, .int .i64 0, .int .i64 0, .int .i64 0, .int .i64 0, .slice none 0 0, .slice none 0 0, .slice none 0 0, .slice none 0 0, .int .i64 0, .int .i64 0, .slice none 0 0, .slice none 0 0, .int .u64 0, .slice none 0 0] 44)
    go_upto_region 27 with (first | (refine wpList_loadK X20 hcs _ rfl rfl rfl ?_) | (refine wpList_storeW (T := 44) (n := 30) (by kernel_rfl) Z20 rfl _ _ rfl rfl rfl C rfl hcs hC1 ?_; intro w21 Y21 g21))
    have hb20 : w9.heap.size < w20.heap.size := B20.lt
    have L21 := LZ.step g21 (fun g e => by injection e with e; subst e; exact ⟨fun e2 => absurd (hvo _ e2) (Nat.lt_irrefl _), fun _ => Z20.hidden (by decide)⟩)
    have X21 := XZ.grown g21 (fun e => by injection e with e; omega)
    have B21 := BZ.grown g21 (fun e => by injection e with e; omega)
    have P21 := PZ.grown g21 PZ.size (fun k e => by injection e with e; omega)
    clear Z20 ga20 LZ XZ BZ PZ g21 L20 X20 B20 P20
    have hrg := HX8.range B21 hlt
    have hth : w21.there w20.heap.size 0 (hdBent h nn k).vals.size := fun j hj => ⟨by rw [Nat.zero_add, Y21.cell j]; have : j < 8 := hj; simp [hcs]; omega, Y21.frozen _⟩
    have hone8 : (hdBent h nn k).vals.all (·.oneCell') = true := by simp [Hd.vals, Value.oneCell']
    have hsz8 : (hdBent h nn k).vals.size = 8 := rfl
    have hD := HC.out.setHead (hdBent h nn k)
    have hds := hD.size
    have hd1 := one_sets (hdBent h nn k).vals.toList 0 hC1 (fun v hv => Array.all_eq_true_iff_forall_mem.1 hone8 v (by simpa using hv))
    have BAD := Lib.hid (HACC.out.badHead hm1 hm2 k hD)
    generalize (hdBent h nn k).vals = hv at *
    go_upto_region 28 with (first | (refine wpList_load_mid rfl 29 _ rfl w9.heap.size (k * 8) (by go_simp) hv.toList _ hrg Tryz.underlying29 rfl (by rw [Array.length_toList, hsz8]; kernel_rfl) ?_; rw [Array.toArray_toList]) | (refine wpList_store_mid rfl 29 _ _ rfl w20.heap.size 0 hv rfl rfl hth (by rw [hsz8]; kernel_rfl) hone8 ?_))
    have Y22 := Blk.sets hv.toList 0 Y21
    have hgs := grown_sets w20.heap.size hv.toList 0 w21
    have L22 := L21.step hgs (fun g e => by injection e with e; subst e; exact ⟨fun e2 => absurd (hvo _ e2) (Nat.lt_irrefl _), fun _ => Y21.hidden (by decide)⟩)
    have X22 := X21.grown hgs (fun e => by injection e with e; omega)
    have B22 := B21.grown hgs (fun e => by injection e with e; omega)
    have P22 := P21.grown hgs P21.size (fun k e => by injection e with e; omega)
    clear Y21 L21 X21 B21 P21 hgs hrg hth hone8 hsz8 hvo
    (try simp only [Act.put])
    generalize setsA C 0 hv.toList = D2 at *
    generalize w21.setCells w20.heap.size 0 hv.toList = w22 at *
    have hb22 : w2.heap.size + 1 ≤ w22.heap.size := X22.lt
    have hbK : w9.heap.size < w22.heap.size := B22.lt
    have B23a := B22.alloc (.cells D2 44)
    have HLb23 := L22
    have RA23 := Blk.new w22 44 D2
    have ga23 := World.grownBy_alloc w22 (.cells D2 44) none
    have LA23 := L22.step ga23 (fun _ e => by cases e)
    have XA23 := X22.alloc (.cells D2 44)
    have PA23 := P22.alloc P22.size (.cells D2 44)
    have NA23 : RepML [] (((Value.slice Av nv cvv)).ownBlock.toList ++ []) (w22.alloc (.cells D2 44)) D2.toList (valD D2.toList) := RepL.of_plain _ _ _
    have hln23 : (valD ((es : List El).flatMap fun e => e.C.toList)).length ≤ 100000 := by rw [valD_length]; rw [flat_length (k := 30) (fun e he => by rw [Array.length_toList]; exact (HLb23.bad e he).cop.size)]; omega
    have OA23 := LA23.own
    have hsA23 : w2.heap.size + 1 ≤ (w22.alloc (.cells D2 44)).heap.size := Nat.le_trans hb22 ga23.size
    go_upto_region 25 with (first | (refine wpList_loadK Y22 hds _ rfl rfl rfl ?_) | (refine wpList_rowK D2 hds rfl ?_) | (at_builtin; refine wpList_appM Tryz.underlying53 Tryz.info44 rfl (by omega) (by omega) OA23 RA23 (by rw [hds]) hd1 NA23 hln23 (by omega) hsA23 rfl _ _ rfl rfl rfl ?_; intro v23 w23 o23 g23 l23))
    have L23 := LA23.app BAD.out (HPATH.out.step (grown_of_below (row := none) PA23) (fun _ e => by cases e) (fun _ hi => .inl hi)) g23 (ownV_app o23)
    have X23 := XA23.grown g23 (fun e => by have := (OwnM.lt OA23 _ e.symm).1; omega)
    have P23 := PA23.grown g23 PA23.size (fun k e => by have := (OwnM.lt OA23 k e).1; omega)
    have hb23 : w2.heap.size + 1 ≤ w23.heap.size := Nat.le_trans hsA23 g23.size
    clear RA23 ga23 LA23 XA23 PA23 NA23 hln23 hsA23 L22 X22 P22 Y22 o23 l23 hb22 hds hd1
    have B23 := B23a.grown g23 (fun e => by
     obtain ⟨cs, hb⟩ := OwnM.blk OA23 _ e.symm
     exact (hb.ne B23a (by decide)) rfl)
    clear B23a B22 OA23 g23 HLb23 hbK
    go_wp2_with fail
    go_roundw
    case rel => exact ⟨k + 1, es ++ [_], by go_num, by omega, by simp [hel], L23, X23, B23, P23⟩
    case measure => simp [intOf]; omega
   ·have hd : decide ((k : Int) < 8) = false := decide_eq_false (by omega)
    clear B20 HX8
    have hel9 : es.length ≤ 9 := by omega
    clear hel
    have hc29 : w20.cell? ⟨w2.heap.size, 29, none⟩ = some (.slice Ap ps.length cp) := X20.cellAt 29 _ HC.out.path
    go_wp2_with fail
    clear hc29
    have hpl := HACC.out.len
    have hpl : ps.length ≤ 100 := hpl
    obtain ⟨i0, hinf, hz0, hz1, hz2⟩ := info_parts Tryz.info27
    go_loopw [14, 19] (fun v j W => ∃ (k : Nat) (es : List El), j = .int .i64 (k : Int) ∧ k ≤ ps.length ∧ es.length ≤ 9 + k ∧ Lst w1 W (w2.heap.size + 1) key i nl v es ∧ Blk W w2.heap.size 44 C ∧ Below w2.heap.size w2 W) (fun _ j _ => ps.length - (intOf j).toNat)
    case atStart => exact ⟨0, _, rfl, by omega, by omega, L20, X20, P20⟩
    case round => as_aux_lemma =>
     clear L20 X20 P20
     obtain ⟨k, es, rfl, hkp, hel, L30, X30, P30⟩ := hrel
     obtain ⟨w30, rfl⟩ : ∃ z : World, z = wr := ⟨_, rfl⟩
     obtain ⟨Av, nv, cvv, rfl, _, _⟩ := OwnM.slice L30.own
     have hc29 : w30.cell? ⟨w2.heap.size, 29, none⟩ = some (.slice Ap ps.length cp) := X30.cellAt 29 _ HC.out.path
     by_cases hlt : k < ps.length
     ·have hd : decide (k < ps.length) = true := decide_eq_true (by omega)
      have hx30 : w2.heap.size < w30.heap.size := X30.lt
      have hvo : ∀ b, (Value.slice Av nv cvv).ownBlock = some b → b < w30.heap.size := fun b e => (OwnM.lt L30.own b e).2
      have Z30 := Blk.new w30 44 #[.int .i64 0, .int .i64 0, .int .i64 0, .int .i64 0, .int .u64 0, .int .u64 0, .int .i64 0, .int .u64 0, .int .i64 0, .int .i64 0, .int .i64 0, .int .i64 0, .int .i64 0, .int .i64 0, .int .i64 0, .int .i64 0, .int .i64 0, .int .i64 0, .int .i64 0, .int .i64 0, .slice none 0 0, .slice none 0 0, .slice none 0 0, .slice none 0 0, .int .i64 0, .int .i64 0, .slice none 0 0, .slice none 0 0, .int .u64 0, .slice none 0 0]
      have ga30 := World.grownBy_alloc w30 (.cells #[.int .i64 0, .int .i64 0, .int .i64 0, .int .i64 0, .int .u64 0, .int .u64 0, .int .i64 0, .int .u64 0, .int .i64 0, .int .i64 0, .int .i64 0, .int .i64 0, .int .i64 0, .int .i64 0, .int .i64 0, .int .i64 0, .int .i64 0, .int .i64 0, .int .i64 0, .int .i64 0, .slice none 0 0, .slice none 0 0, .slice none 0 0, .slice none 0 0, .int .i64 0, .int .i64 0, .slice none 0 0, .slice none 0 0, .int .u64 0, .slice none 0 0] 44) none
      have LZ := L30.step ga30 (fun _ e => by cases e)
      have XZ := X30.alloc (.cells #[.int .i64 0, .int .i64 0, .int .i64 0, .int .i64 0, .int .u64 0, .int .u64 0, .int .i64 0, .int .u64 0, .int .i64 0, .int .i64 0, .int .i64 0, .int .i64 0, .int .i64 0, .int .i64 0, .int .i64 0, .int .i64 0, .int .i64 0, .int .i64 0, .int .i64 0, .int .i64 0, .slice none 0 0, .slice none 0 0, .slice none 0 0, .slice none 0 0, .int .i64 0, .int .i64 0, .slice none 0 0, .slice none 0 0, .int .u64 0, .slice none 0 0] 44)
      have PZ := P30.alloc P30.size (.cells #[.int .i64 0, .int .i64 0, .int .i64 0, .int .i64 0, .int .u64 0, .int .u64 0, .int .i64 0, .int .u64 0, .int .i64 0, .int .i64 0, .int .i64 0, .int .i64 0, .int .i64 0, .int .i64 0, .int .i64 0, .int .i64 0, .int .i64 0, .int .i64 0, .int .i64 0, .int .i64 0, .slice none 0 0, .slice none 0 0, .slice none 0 0, .slice none 0 0, .int .i64 0, .int .i64 0, .slice none 0 0, .slice none 0 0, .int .u64 0, .slice none 0 0] 44)
      go_upto_region 33 with (first | (refine wpList_loadK X30 hcs _ rfl rfl rfl ?_) | (refine wpList_storeW (T := 44) (n := 30) (by kernel_rfl) Z30 rfl _ _ rfl rfl rfl C rfl hcs hC1 ?_; intro w31 Y31 g31))
      have L31 := LZ.step g31 (fun g e => by injection e with e; subst e; exact ⟨fun e2 => absurd (hvo _ e2) (Nat.lt_irrefl _), fun _ => Z30.hidden (by decide)⟩)
      have X31 := XZ.grown g31 (fun e => by injection e with e; omega)
      have P31 := PZ.grown g31 PZ.size (fun k e => by injection e with e; omega)
      have hy31 : w30.heap.size < w31.heap.size := Y31.lt
      have Y31h : Hidden TK w31 w30.heap.size := Y31.hidden (by decide)
      clear Z30 ga30 LZ XZ PZ g31 L30 X30 P30 hc29
      obtain ⟨b, o, hApe, _⟩ := HPATH.out.row 0 (by omega)
      have HNW := Lib.hid (fun (j : Nat) (u : Value) (hu : (us ps)[j]? = some u) => (by
       have hj : j < ps.length := by have := lt_of_some hu; rw [us_length] at this; exact this
       obtain ⟨b2, o2, e2, h2⟩ := HPATH.out.row j hj
       rw [hApe] at e2
       injection e2 with e2
       injection e2 with e3 e4
       subst e3 e4
       rw [us_get hj] at hu
       injection hu with hu
       subst hu
       rw [Addr.add_lit]
       exact ((P31.alloc P31.size (.cells #[] 27)).cell (World.block_lt_of_cell? _ _ h2)).trans h2 : (w31.alloc (.cells #[] 27)).cell? ((⟨b, o, none⟩ : Addr).add j) = some u))
      have HO := World.ownsRow_made w31 #[] 0 (base := w31.heap.size) (e := 27) (size := 1) (Nat.le_refl _) (Nat.zero_le _) rfl
      have hcx : (w31.alloc (.cells #[] 27)).cell? ⟨w2.heap.size, 29, none⟩ = some (.slice (some ⟨b, o, none⟩) ps.length cp) := by rw [← hApe]; exact (X31.alloc _).cellAt 29 _ HC.out.path
      go_upto_region 34 with (at_builtin; refine wpList_append_own _ rfl _ _ 42 rfl w31.heap.size 27 i0 (.int .u64 0) 1 8 Tryz.underlying42 hinf hz0 hz1 hz2 rfl (by decide) (.slice (some ⟨w31.heap.size, 0, none⟩) 0 0) 0 [] rfl HO ⟨b, o, none⟩ ps.length cp (us ps) rfl (by rw [us_length, Nat.mul_one]) HNW.out (fun u hu => by obtain ⟨x, _, rfl⟩ := List.mem_map.1 hu; rfl) (by unfold maxLen; omega) (by omega) (by simp) ?_; intro v32 w32 hown1 hg1 _; rw [Nat.zero_add, List.nil_append] at hown1; obtain ⟨A32, c32, rfl⟩ := own_slice hown1; have Y32 := (Y31.alloc (.cells #[] 27)).grown hg1 (by intro e; injection e with e; have e : w30.heap.size = w31.heap.size := e; omega); have hcy : w32.cell? ⟨w30.heap.size, 29, none⟩ = some (.slice Ap ps.length cp) := Y32.cellAt 29 _ HC.out.path; have hfy := Y32.frozen 29)
      obtain ⟨g32, cur32, rfl, hg32, hbk, hcap⟩ := own_blk hown1 (by omega)
      have G33 := grown_up (grown_up (World.grownBy_alloc w31 (.cells #[] 27) (some w30.heap.size)) hg1 (fun k e hk => by injection e with e; have e : w31.heap.size = k := e; omega)) (grown_set w32 w30.heap.size 29 (.slice (some ⟨g32, 0, none⟩) ps.length c32)) (fun k e _ => e)
      have hng : w30.heap.size ≠ g32 := by omega
      have hown33 := hown1.kept (grown_set w32 w30.heap.size 29 (.slice (some ⟨g32, 0, none⟩) ps.length c32)) (.inr (fun e => by injection e with e; exact hng e.symm))
      have hbk33 := Blk.far (p := ⟨w30.heap.size, 29, none⟩) (show Blk w32 g32 27 cur32 from hbk) hng.symm (.slice (some ⟨g32, 0, none⟩) ps.length c32)
      have Y33 := Y32.set 29 (.slice (some ⟨g32, 0, none⟩) ps.length c32)
      have hds : (C.setIfInBounds 29 (.slice (some ⟨g32, 0, none⟩) ps.length c32)).size = 30 := by simp [hcs]
      have hd1 : (C.setIfInBounds 29 (.slice (some ⟨g32, 0, none⟩) ps.length c32)).all (·.oneCell') = true := one_set hC1 rfl
      have BAD := HACC.out.badPath hm1 hm2 hlt hcap (HC.out.setPath (.slice (some ⟨g32, 0, none⟩) ps.length c32))
      have hc29d : (C.setIfInBounds 29 (.slice (some ⟨g32, 0, none⟩) ps.length c32))[29]? = some (.slice (some ⟨g32, 0, none⟩) ps.length c32) := Array.getElem?_setIfInBounds_self_of_lt (by omega)
      clear hown1 hbk hg1 Y32 Y31 hcy hfy HO HNW hcx
      (try simp only [Act.put])
      generalize C.setIfInBounds 29 (.slice (some ⟨g32, 0, none⟩) ps.length c32) = D3 at *
      generalize w32.setCell ⟨w30.heap.size, 29, none⟩ (.slice (some ⟨g32, 0, none⟩) ps.length c32) = w33 at *
      obtain ⟨z, hz⟩ : ∃ z : Nat, z = (ps[k] + nn) % 18446744073709551616 := ⟨_, rfl⟩
      have hwz : IntKind.u64.wrap ((ps[k] : Int) + (nn : Int)) = (z : Int) := by rw [IntKind.wrap_u64]; omega
      have BAD := Lib.hid BAD
      have hz2 : (ps[k] + nn) % 18446744073709551616 = z := hz.symm
      have BADZ : Hid (El.Bad ⟨D3, h, f, dv, cv, ev, s, some ⟨g32, 0, none⟩, c32, ps.set k z⟩ w1 key i nl) := by rw [← hz2]; exact BAD
      have hckk : w33.cell? ⟨g32, k, none⟩ = some (.int .u64 (ps[k] : Int)) := (hown33.cellAt k (by omega)).trans (us_get hlt)
      clear hz hz2 BAD
      generalize hpk : ps[k] = pk at *
      clear hpk
      refine wp_region_held_drew (S := (fun V => Blk V w30.heap.size 44 D3)) (by kernel_rfl) ?_ (fun hHeld => ?_)
      ·first | done | ((try dsimp only); exact Y33.drew)
      have G33d := grown_up G33 (grown_drew w33 none) (fun _ e => by cases e)
      have hownd := hown33.kept (grown_drew w33 none) (.inr (fun e => by cases e))
      have hbkd : Blk w33.drew g32 27 cur32 := hbk33.drew
      have hckd : w33.drew.cell? ⟨g32, k, none⟩ = some (.int .u64 (pk : Int)) := (World.cell?_drew w33 _).trans hckk
      have Yd := Y33.drew
      clear Y33 G33 hown33 hbk33 hckk
      generalize w33.drew = wd at *
      refine tk 0 187 ?_ rfl ?_ ?_
      rotate_left
      ·(intro w' hSw; (try dsimp only at hSw); go_simp; try (with_reducible rfl))
      (try simp only [pS, pB, pZ, pC])
      refine tk 1 188 ?_ rfl ?_ ?_
      rotate_left
      ·(intro w' hSw; (try dsimp only at hSw); (have hc := hSw.cellAt 29 _ hc29d; go_simp); try (with_reducible rfl))
      (try simp only [pS, pB, pZ, pC])
      refine tk 2 189 ?_ rfl ?_ ?_
      rotate_left
      ·(intro w' hSw; (try dsimp only at hSw); go_simp; try (with_reducible rfl))
      (try simp only [pS, pB, pZ, pC])
      refine tk 3 190 ?_ rfl ?_ ?_
      rotate_left
      ·(intro w' hSw; (try dsimp only at hSw); go_simp; try (with_reducible rfl))
      (try simp only [pS, pB, pZ, pC])
      refine tk 4 191 ?_ rfl ?_ ?_
      rotate_left
      ·(intro w' hSw; (try dsimp only at hSw); (have hc := hSw.cellAt 29 _ hc29d; go_simp); try (with_reducible rfl))
      (try simp only [pS, pB, pZ, pC])
      refine tk 5 192 ?_ rfl ?_ ?_
      rotate_left
      ·(intro w' hSw; (try dsimp only at hSw); go_simp; try (with_reducible rfl))
      (try simp only [pS, pB, pZ, pC])
      refine tk 6 193 ?_ rfl ?_ ?_
      rotate_left
      ·(intro w' hSw; (try dsimp only at hSw); go_simp; try (with_reducible rfl))
      (try simp only [pS, pB, pZ, pC])
      refine tk 8 195 ?_ rfl ?_ ?_
      rotate_left
      ·(intro w' hSw; (try dsimp only at hSw); go_simp; try (with_reducible rfl))
      (try simp only [pS, pB, pZ, pC])
      refine tk 9 196 ?_ rfl ?_ ?_
      rotate_left
      ·(intro w' hSw; (try dsimp only at hSw); go_simp; try (with_reducible rfl))
      (try simp only [pS, pB, pZ, pC])
      refine rd 7 (some 194) (by kernel_rfl) rfl fun K hK => ?_
      go_simp
      skip
      refine hK.out _ _ ?_ (fun hHeld => ?_)
      ·first | done | ((try dsimp only); exact hHeld)
      clear hK K
      (try simp only [pS, pB, pZ, pC])
      refine tk 10 197 ?_ rfl ?_ ?_
      rotate_left
      ·(intro w' hSw; (try dsimp only at hSw); go_simp; try (with_reducible rfl))
      (try simp only [pS, pB, pZ, pC])
      refine tk 11 198 ?_ rfl ?_ ?_
      rotate_left
      ·(intro w' hSw; (try dsimp only at hSw); go_simp; try (with_reducible rfl))
      (try simp only [pS, pB, pZ, pC])
      have hfk := hbkd.frozen k
      refine rd 12 none (by kernel_rfl) rfl fun K hK => ?_
      go_simp
      refine hK.out _ _ ?_ (fun hHeld => ?_)
      ·exact Yd.far (p := ⟨g32, k, none⟩) hng _
      clear hK K hckd hfk hHeld
      (try simp only [Act.put])
      refine wpAnyH_done (by kernel_rfl) ?_ _
      have HPS := Lib.hid (path_set hownd hbkd hcap hlt z)
      have Y34 := Yd.far (p := ⟨g32, k, none⟩) hng (.int .u64 (z : Int))
      have G34 := grown_up G33d (grown_set wd g32 k (.int .u64 (z : Int))) (fun j e hj => by injection e with e; omega)
      have L34 := L31.step G34 (fun g e => by injection e with e; subst e; exact ⟨fun e2 => absurd (hvo _ e2) (Nat.lt_irrefl _), fun _ => Y31h⟩)
      have X34 := X31.grown G34 (fun e => by injection e with e; omega)
      have P34 := P31.grown G34 P31.size (fun k e => by injection e with e; omega)
      clear L31 X31 P31 G34 G33d hownd hbkd Yd hwz hc29d
      generalize wd.setCell ⟨g32, k, none⟩ (.int .u64 (z : Int)) = w34 at *
      have hb34 : w2.heap.size + 1 ≤ w34.heap.size := X34.lt
      have HLb35 := L34
      have RA35 := Blk.new w34 44 D3
      have ga35 := World.grownBy_alloc w34 (.cells D3 44) none
      have LA35 := L34.step ga35 (fun _ e => by cases e)
      have XA35 := X34.alloc (.cells D3 44)
      have PA35 := P34.alloc P34.size (.cells D3 44)
      have NA35 : RepML [] (((Value.slice Av nv cvv)).ownBlock.toList ++ []) (w34.alloc (.cells D3 44)) D3.toList (valD D3.toList) := RepL.of_plain _ _ _
      have hln35 : (valD ((es : List El).flatMap fun e => e.C.toList)).length ≤ 100000 := by rw [valD_length]; rw [flat_length (k := 30) (fun e he => by rw [Array.length_toList]; exact (HLb35.bad e he).cop.size)]; omega
      have OA35 := LA35.own
      have hsA35 : w2.heap.size + 1 ≤ (w34.alloc (.cells D3 44)).heap.size := Nat.le_trans hb34 ga35.size
      go_upto_region 31 with (first | (refine wpList_loadK Y34 hds _ rfl rfl rfl ?_) | (refine wpList_rowK D3 hds rfl ?_) | (at_builtin; refine wpList_appM Tryz.underlying53 Tryz.info44 rfl (by omega) (by omega) OA35 RA35 (by rw [hds]) hd1 NA35 hln35 (by omega) hsA35 rfl _ _ rfl rfl rfl ?_; intro v35 w35 o35 g35 l35))
      have L35 := LA35.app BADZ.out (HPS.out.step ga35 (fun _ e => by cases e) (fun _ hi => .inl hi)) g35 (ownV_app o35)
      have X35 := XA35.grown g35 (fun e => by have := (OwnM.lt OA35 _ e.symm).1; omega)
      have P35 := PA35.grown g35 PA35.size (fun k e => by have := (OwnM.lt OA35 k e).1; omega)
      have hb35 : w2.heap.size + 1 ≤ w35.heap.size := Nat.le_trans hsA35 g35.size
      clear RA35 ga35 LA35 XA35 PA35 NA35 hln35 hsA35 L34 X34 P34 Y34 o35 l35 hb34 hds hd1
      clear OA35 g35 HLb35
      go_wp2_with fail
      go_roundw
      case rel => exact ⟨k + 1, es ++ [_], by go_num, by omega, by simp; omega, L35, X35, P35⟩
      case measure => simp [intOf]; omega
     ·have hd : decide (k < ps.length) = false := decide_eq_false (by omega)
      have hel2 : es.length ≤ 109 := by omega
      clear hel
      have hx30 : w2.heap.size < w30.heap.size := X30.lt
      have hvo : ∀ b, (Value.slice Av nv cvv).ownBlock = some b → b < w30.heap.size := fun b e => (OwnM.lt L30.own b e).2
      have Z30 := Blk.new w30 44 #[.int .i64 0, .int .i64 0, .int .i64 0, .int .i64 0, .int .u64 0, .int .u64 0, .int .i64 0, .int .u64 0, .int .i64 0, .int .i64 0, .int .i64 0, .int .i64 0, .int .i64 0, .int .i64 0, .int .i64 0, .int .i64 0, .int .i64 0, .int .i64 0, .int .i64 0, .int .i64 0, .slice none 0 0, .slice none 0 0, .slice none 0 0, .slice none 0 0, .int .i64 0, .int .i64 0, .slice none 0 0, .slice none 0 0, .int .u64 0, .slice none 0 0]
      have ga30 := World.grownBy_alloc w30 (.cells #[.int .i64 0, .int .i64 0, .int .i64 0, .int .i64 0, .int .u64 0, .int .u64 0, .int .i64 0, .int .u64 0, .int .i64 0, .int .i64 0, .int .i64 0, .int .i64 0, .int .i64 0, .int .i64 0, .int .i64 0, .int .i64 0, .int .i64 0, .int .i64 0, .int .i64 0, .int .i64 0, .slice none 0 0, .slice none 0 0, .slice none 0 0, .slice none 0 0, .int .i64 0, .int .i64 0, .slice none 0 0, .slice none 0 0, .int .u64 0, .slice none 0 0] 44) none
      have LZ := L30.step ga30 (fun _ e => by cases e)
      have XZ := X30.alloc (.cells #[.int .i64 0, .int .i64 0, .int .i64 0, .int .i64 0, .int .u64 0, .int .u64 0, .int .i64 0, .int .u64 0, .int .i64 0, .int .i64 0, .int .i64 0, .int .i64 0, .int .i64 0, .int .i64 0, .int .i64 0, .int .i64 0, .int .i64 0, .int .i64 0, .int .i64 0, .int .i64 0, .slice none 0 0, .slice none 0 0, .slice none 0 0, .slice none 0 0, .int .i64 0, .int .i64 0, .slice none 0 0, .slice none 0 0, .int .u64 0, .slice none 0 0] 44)
      have PZ := P30.alloc P30.size (.cells #[.int .i64 0, .int .i64 0, .int .i64 0, .int .i64 0, .int .u64 0, .int .u64 0, .int .i64 0, .int .u64 0, .int .i64 0, .int .i64 0, .int .i64 0, .int .i64 0, .int .i64 0, .int .i64 0, .int .i64 0, .int .i64 0, .int .i64 0, .int .i64 0, .int .i64 0, .int .i64 0, .slice none 0 0, .slice none 0 0, .slice none 0 0, .slice none 0 0, .int .i64 0, .int .i64 0, .slice none 0 0, .slice none 0 0, .int .u64 0, .slice none 0 0] 44)
      go_upto_region 37 with (first | (refine wpList_loadK X30 hcs _ rfl rfl rfl ?_) | (refine wpList_storeW (T := 44) (n := 30) (by kernel_rfl) Z30 rfl _ _ rfl rfl rfl C rfl hcs hC1 ?_; intro w36 Y36 g36))
      have L36 := LZ.step g36 (fun g e => by injection e with e; subst e; exact ⟨fun e2 => absurd (hvo _ e2) (Nat.lt_irrefl _), fun _ => Z30.hidden (by decide)⟩)
      have X36 := XZ.grown g36 (fun e => by injection e with e; omega)
      have P36 := PZ.grown g36 PZ.size (fun k e => by injection e with e; omega)
      clear Z30 ga30 LZ XZ PZ g36 L30 X30 P30 hc29 hd hlt hkp
      have hday0 : 0 ≤ f.day := HACC.out.ok.1.1
      have hday1 : f.day ≤ 100000 := HACC.out.day
      have hwd : IntKind.i64.wrap (f.day + 1) = f.day + 1 := by rw [IntKind.wrap_i64]; omega
      have hc10 : w36.cell? ⟨w30.heap.size, 10, none⟩ = some (.int .i64 f.day) := Y36.cellAt 10 _ (HC.out.act 1 _ rfl)
      have hf10 := Y36.frozen 10
      have hDd := HC.out.setDay
      have hds : (C.setIfInBounds 10 (.int .i64 (f.day + 1))).size = 30 := hDd.size
      have hd1 : (C.setIfInBounds 10 (.int .i64 (f.day + 1))).all (·.oneCell') = true := one_set hC1 rfl
      have BADD := Lib.hid (fun hl hd => HACC.out.badDay hDd hl hd)
      go_upto_region 38 with fail
      have Y37 := Y36.set 10 (.int .i64 (f.day + 1))
      have gs := grown_set w36 w30.heap.size 10 (.int .i64 (f.day + 1))
      have L37 := L36.step gs (fun g e => by injection e with e; subst e; exact ⟨fun e2 => absurd (hvo _ e2) (Nat.lt_irrefl _), fun _ => Y36.hidden (by decide)⟩)
      have X37 := X36.grown gs (fun e => by injection e with e; omega)
      have P37 := P36.grown gs P36.size (fun k e => by injection e with e; omega)
      clear gs L36 X36 P36 Y36 hc10 hf10 hwd
      (try simp only [Act.put])
      generalize C.setIfInBounds 10 (.int .i64 (f.day + 1)) = D4 at *
      generalize w36.setCell ⟨w30.heap.size, 10, none⟩ (.int .i64 (f.day + 1)) = w37 at *
      have hokd := dayF_ok HACC.out.ok hday1
      have hfil : FilAt w1 w1.heap.size f dv cv ev := HACC.out.fil
      have HE1 := Lib.hid (fun (W : World) (hW : Below w2.heap.size w2 W) => aenc_own f HACC.out.ok dv cv ev W (hKW.out W hW).1 (hKW.out W hW).2.1 w1.heap.size (hKW.out W hW).2.2.1 ((hKW.out W hW).2.2.2 _ _ _ _ hfil))
      have HE2 := Lib.hid (fun (W : World) (hW : Below w2.heap.size w2 W) => aenc_own (dayF f) hokd dv cv ev W (hKW.out W hW).1 (hKW.out W hW).2.1 w1.heap.size (hKW.out W hW).2.2.1 ((hKW.out W hW).2.2.2 _ _ _ _ hfil))
      have hlen1 := encA_len HACC.out.ok
      have hlen2 := encA_len hokd
      clear hokd hfil hday0 hday1
      have HDD := Lib.hid hDd
      clear hDd
      generalize hbs : encA f = bs at *
      generalize hbs2 : encA (dayF f) = bs2 at *
      clear hbs hbs2
      go_wp2_with (refine wpList_loadCA HC.out X37 _ rfl rfl rfl ?_)
      refine (HE1.out _ P37).mono ?_
      rintro e w38 ⟨u1, rfl, o1, hb38⟩
      have X38 := X37.keep hb38
      have Y38 := Y37.keep hb38
      have L38 := L37.step (grown_of_below (row := none) hb38) (fun _ e => by cases e)
      have P38 := below_up P37 hb38 P37.size
      have R1 := o1.rep
      clear X37 Y37 L37 P37 hb38 o1
      go_wp2_with (refine wpList_loadCA HDD.out Y38 _ rfl rfl rfl ?_)
      refine (HE2.out _ P38).mono ?_
      rintro e w39 ⟨u2, rfl, o2, hb39⟩
      have X39 := X38.keep hb39
      have Y39 := Y38.keep hb39
      have L39 := L38.step (grown_of_below (row := none) hb39) (fun _ e => by cases e)
      have P39 := below_up P38 hb39 P38.size
      have R1b := R1.keep (W' := w39) (fun p hp => hb39.cell hp) hb39.size
      have R2 := o2.rep
      clear X38 Y38 L38 P38 hb39 o2 R1 HE1 HE2
      obtain ⟨A1, c1, eu1, hc1, hcl1⟩ := Rep.row R1b
      obtain ⟨A2, c2, eu2, hc2, hcl2⟩ := Rep.row R2
      rw [bys_length] at eu1 eu2
      subst eu1 eu2
      have HCL1 := Lib.hid hcl1
      have HCL2 := Lib.hid hcl2
      clear R1b R2 hcl1 hcl2
      rw [bys_length] at hc1 hc2
      go_upto_region 40 with fail
      have hb39' : w2.heap.size + 1 ≤ w39.heap.size := X39.lt
      go_cut [234] (fun u wx => (∃ bb : Bool, u = .bool bb ∧ (bb = true → bs.length = bs2.length)) ∧ w39 = wx)
      case first => as_aux_lemma =>
       by_cases hnn : bs.length = bs2.length
       ·have e1 : ((bs.length : Int) == (bs2.length : Int)) = true := by rw [hnn]; simp
        go_wp2_with fail
        go_meet
        exact ⟨⟨true, rfl, fun _ => hnn⟩, rfl⟩
       ·have e1 : ((bs.length : Int) == (bs2.length : Int)) = false := by rw [beq_eq_false_iff_ne]; omega
        go_wp2_with fail
        go_meet
        exact ⟨⟨false, rfl, fun h => (Bool.noConfusion h)⟩, rfl⟩
      case rest => as_aux_lemma =>
       obtain ⟨⟨bb, rfl, hbb⟩, rfl⟩ := hcut
       rename_i hKK
       refine hKK _ _ ?_
       clear hKK
       go_cut [14] (fun v wx => ∃ es : List El, es.length ≤ 110 ∧ Lst w1 wx (w2.heap.size + 1) key i nl v es ∧ Blk wx w2.heap.size 44 C ∧ Below w2.heap.size w2 wx)
       case first => as_aux_lemma =>
        cases bb with
        | false =>
         go_wp2_with fail
         go_meet
         exact ⟨es, by omega, L39, X39, P39⟩
        | true =>
         have HLL := Lib.hid (hbb rfl)
         have HBD := Lib.hid (BADD.out HLL.out)
         clear hbb BADD
         go_wp2_with fail
         go_loopw [26, 27] (fun m j W => ∃ k : Nat, j = .int .i64 (k : Int) ∧ m = .int .i64 (diffN (bs.take k) (bs2.take k) : Int) ∧ k ≤ bs.length ∧ Below w39.heap.size w39 W) (fun _ j _ => bs.length - (intOf j).toNat)
         case atStart => exact ⟨0, rfl, rfl, Nat.zero_le _, Below.refl _ _⟩
         case round => as_aux_lemma =>
          obtain ⟨k, rfl, rfl, hk, hB⟩ := hrel
          obtain ⟨w40, rfl⟩ : ∃ z : World, z = wr := ⟨_, rfl⟩
          by_cases hlt : k < bs.length
          ·have hd : decide (k < bs.length) = true := decide_eq_true (by omega)
           have hlt2 : k < bs2.length := by have := HLL.out; omega
           obtain ⟨b3, o3, rfl, _, h3⟩ := HCL1.out k (.int .u8 (bs[k] : Int)) (by simp [bys, hlt])
           obtain ⟨b4, o4, rfl, _, h4⟩ := HCL2.out k (.int .u8 (bs2[k] : Int)) (by simp [bys, hlt2])
           have HA3 := Lib.hid (fun (V : World) (hV : Below w39.heap.size w39 V) => (hV.cell (World.block_lt_of_cell? _ _ h3)).trans h3)
           have HA4 := Lib.hid (fun (V : World) (hV : Below w39.heap.size w39 V) => (hV.cell (World.block_lt_of_cell? _ _ h4)).trans h4)
           have hst := diffN_step hlt hlt2
           have hle := diffN_le (bs.take k) (bs2.take k)
           rw [List.length_take] at hle
           have HST := Lib.hid hst
           have HB := Lib.hid hB
           clear hst h3 h4 hB
           generalize diffN (bs.take k) (bs2.take k) = dn at *
           generalize hx : bs[k] = x at *
           generalize hy : bs2[k] = y at *
           clear hx hy
           go_upto_region 45 with fail
           refine wp_region_held_drew (S := (fun V => Below w39.heap.size w39 V)) (by kernel_rfl) ?_ (fun hHeld => ?_)
           ·first | done | ((try dsimp only); exact HB.out.drew)
           refine tk 0 241 ?_ rfl ?_ ?_
           rotate_left
           ·(intro w' hSw; (try dsimp only at hSw); go_simp; try (with_reducible rfl))
           (try simp only [pS, pB, pZ, pC])
           refine tk 1 242 ?_ rfl ?_ ?_
           rotate_left
           ·(intro w' hSw; (try dsimp only at hSw); go_simp; try (with_reducible rfl))
           (try simp only [pS, pB, pZ, pC])
           refine tk 2 243 ?_ rfl ?_ ?_
           rotate_left
           ·(intro w' hSw; (try dsimp only at hSw); go_simp; try (with_reducible rfl))
           (try simp only [pS, pB, pZ, pC])
           refine tk 3 244 ?_ rfl ?_ ?_
           rotate_left
           ·(intro w' hSw; (try dsimp only at hSw); (have hc := HA3.out _ hSw; go_simp); try (with_reducible rfl))
           (try simp only [pS, pB, pZ, pC])
           refine tk 4 245 ?_ rfl ?_ ?_
           rotate_left
           ·(intro w' hSw; (try dsimp only at hSw); go_simp; try (with_reducible rfl))
           (try simp only [pS, pB, pZ, pC])
           refine tk 5 246 ?_ rfl ?_ ?_
           rotate_left
           ·(intro w' hSw; (try dsimp only at hSw); go_simp; try (with_reducible rfl))
           (try simp only [pS, pB, pZ, pC])
           refine tk 6 247 ?_ rfl ?_ ?_
           rotate_left
           ·(intro w' hSw; (try dsimp only at hSw); go_simp; try (with_reducible rfl))
           (try simp only [pS, pB, pZ, pC])
           refine tk 7 248 ?_ rfl ?_ ?_
           rotate_left
           ·(intro w' hSw; (try dsimp only at hSw); (have hc := HA4.out _ hSw; go_simp); try (with_reducible rfl))
           (try simp only [pS, pB, pZ, pC])
           refine tk 8 249 ?_ rfl ?_ ?_
           rotate_left
           ·(intro w' hSw; (try dsimp only at hSw); go_simp; try (with_reducible rfl))
           (try simp only [pS, pB, pZ, pC])
           refine wpAnyH_done (by kernel_rfl) ?_ _
           clear hHeld HA3 HA4
           by_cases he : x = y
           ·have hne : ((x : Int) != (y : Int)) = false := by rw [he]; simp
            rw [if_pos he] at HST
            go_wp2_with fail
            go_roundw
            case rel => exact ⟨k + 1, by go_num, by rw [HST.out, Nat.add_zero], by omega, HB.out.drew⟩
            case measure => simp [intOf]; omega
           ·have hne : ((x : Int) != (y : Int)) = true := by
             simp only [bne_iff_ne, ne_eq]
             omega
            rw [if_neg he] at HST
            have hwd1 : IntKind.i64.wrap ((dn : Int) + 1) = ((dn + 1 : Nat) : Int) := by rw [IntKind.wrap_i64]; omega
            generalize dn + 1 = dn1 at *
            go_wp2_with fail
            go_roundw
            case rel => exact ⟨k + 1, by go_num, by rw [HST.out], by omega, HB.out.drew⟩
            case measure => simp [intOf]; omega
          ·have hd : decide (k < bs.length) = false := decide_eq_false (by omega)
           have hke : k = bs.length := by omega
           have e5 : diffN (bs.take k) (bs2.take k) = diffN bs bs2 := by rw [hke, List.take_length, HLL.out, List.take_length]
           rw [e5]
           have L40 := L39.step (grown_of_below (row := none) hB) (fun _ e => by cases e)
           have X40 := X39.keep hB
           have P40 := below_up P39 hB P39.size
           have Y40 := Y39.keep hB
           have hb40 : w2.heap.size + 1 ≤ w40.heap.size := X40.lt
           clear L39 X39 P39 Y39 hB e5 hke hk hlt
           by_cases h1 : diffN bs bs2 = 1
           ·have e6 : ((diffN bs bs2 : Int) == 1) = true := by rw [h1]; rfl
            have e7 : (diffN bs bs2 == 1) = true := by rw [h1]; rfl
            have BADZ := Lib.hid (HBD.out h1)
            clear h1 HBD
            generalize diffN bs bs2 = dn at *
            go_upto_region 48 with fail
            have HLb41 := L40
            have RA41 := Blk.new w40 44 D4
            have ga41 := World.grownBy_alloc w40 (.cells D4 44) none
            have LA41 := L40.step ga41 (fun _ e => by cases e)
            have XA41 := X40.alloc (.cells D4 44)
            have PA41 := P40.alloc P40.size (.cells D4 44)
            have NA41 : RepML [] (((Value.slice Av nv cvv)).ownBlock.toList ++ []) (w40.alloc (.cells D4 44)) D4.toList (valD D4.toList) := RepL.of_plain _ _ _
            have hln41 : (valD ((es : List El).flatMap fun e => e.C.toList)).length ≤ 100000 := by rw [valD_length]; rw [flat_length (k := 30) (fun e he => by rw [Array.length_toList]; exact (HLb41.bad e he).cop.size)]; omega
            have OA41 := LA41.own
            have hsA41 : w2.heap.size + 1 ≤ (w40.alloc (.cells D4 44)).heap.size := Nat.le_trans hb40 ga41.size
            go_wp2_with (first | (refine wpList_loadK Y40 hds _ rfl rfl rfl ?_) | (refine wpList_rowK D4 hds rfl ?_) | (at_builtin; refine wpList_appM Tryz.underlying53 Tryz.info44 rfl (by omega) (by omega) OA41 RA41 (by rw [hds]) hd1 NA41 hln41 (by omega) hsA41 rfl _ _ rfl rfl rfl ?_; intro v41 w41 o41 g41 l41))
            have L41 := LA41.app BADZ.out (HPATH.out.step (grown_of_below (row := none) PA41) (fun _ e => by cases e) (fun _ hi => .inl hi)) g41 (ownV_app o41)
            have X41 := XA41.grown g41 (fun e => by have := (OwnM.lt OA41 _ e.symm).1; omega)
            have P41 := PA41.grown g41 PA41.size (fun k e => by have := (OwnM.lt OA41 k e).1; omega)
            have hb41 : w2.heap.size + 1 ≤ w41.heap.size := Nat.le_trans hsA41 g41.size
            clear RA41 ga41 LA41 XA41 PA41 NA41 hln41 hsA41 L40 X40 P40 Y40 o41 l41 hb40 hds hd1
            go_meet
            exact ⟨es ++ [_], by simp; omega, L41, X41, P41⟩
           ·have e6 : ((diffN bs bs2 : Int) == 1) = false := by rw [beq_eq_false_iff_ne]; omega
            have e7 : (diffN bs bs2 == 1) = false := by rw [beq_eq_false_iff_ne]; omega
            generalize diffN bs bs2 = dn at *
            go_wp2_with fail
            go_meet
            exact ⟨es, by omega, L40, X40, P40⟩
       case rest => as_aux_lemma =>
        obtain ⟨es2, hel3, L50, X50, P50⟩ := hcut
        obtain ⟨w50, rfl⟩ : ∃ z : World, z = wc := ⟨_, rfl⟩
        clear L39 X39 Y39 BADD hbb
        have hfl := flat_length (l := es2) (f := fun e : El => e.C.toList) (k := 30) (fun e he => by rw [Array.length_toList]; exact (L50.bad e he).cop.size)
        obtain ⟨Av2, cv2, rfl, hcv2, hrow2⟩ := OwnV.cells L50.own (by omega) hfl
        have HROW2 := Lib.hid hrow2
        have HL50 := Lib.hid L50
        clear hrow2 L50 X50 hfl
        go_wp2_with fail
        go_loopw [28] (fun j W => ∃ k : Nat, j = .int .i64 (k : Int) ∧ k ≤ es2.length ∧ Below w50.heap.size w50 W) (fun j _ => es2.length - (intOf j).toNat)
        case atStart => exact ⟨0, rfl, Nat.zero_le _, Below.refl _ _⟩
        case round => as_aux_lemma =>
         obtain ⟨k, rfl, hk, hB⟩ := hrel
         obtain ⟨w51, rfl⟩ : ∃ z : World, z = wr := ⟨_, rfl⟩
         by_cases hlt : k < es2.length
         ·have hd : decide (k < es2.length) = true := decide_eq_true (by omega)
          have hmem := List.getElem_mem hlt
          have hBd := HL50.out.bad _ hmem
          have hPt := HL50.out.path _ hmem
          obtain ⟨b5, hrg⟩ := row_range HROW2.out (fun e he => (HL50.out.bad e he).cop.size) hlt
          obtain ⟨rfl, hrg⟩ := hrg
          have P51 := below_up P50 hB P50.size
          have hrg2 : w51.rangeAt b5 (k * 30) es2[k].C.toList := fun j u hu => (hB.cell (World.block_lt_of_cell? _ _ (hrg j u hu))).trans (hrg j u hu)
          have RE := Lib.hid (fun (W : World) => real_any hBd.cop hBd.one W)
          have CE := Lib.hid (fun (W : World) (hW : Below w51.heap.size w51 W) => ccheck_gen (cop_is es2[k].h (i : Int) es2[k].f es2[k].dv es2[k].cv es2[k].ev es2[k].s (.slice es2[k].A es2[k].ps.length es2[k].c)) hBd.ok key hklt hBd.size hi hn16 hBd.len hBd.cap hBd.wds hBd.fit hBd.tick hBd.salt hBd.log hBd.map W (hKW.out _ (P51.trans (hW.mono P51.size))).1 (hKW.out _ (P51.trans (hW.mono P51.size))).2.1 w1.heap.size (hKW.out _ (P51.trans (hW.mono P51.size))).2.2.1 ((hKW.out _ (P51.trans (hW.mono P51.size))).2.2.2 _ _ _ _ hBd.fil) ((hPt.row.keep hB).keep hW))
          have hcode := hBd.bad
          have hsz := hBd.cop.size
          generalize first3 (filE es2[k].f es2[k].h.office) (hdC key es2[k].h) (logG es2[k].h es2[k].f es2[k].s es2[k].ps i nl) = code at *
          generalize cop es2[k].h (i : Int) es2[k].f es2[k].dv es2[k].cv es2[k].ev es2[k].s (.slice es2[k].A es2[k].ps.length es2[k].c) = CX at *
          clear hBd hPt hmem hrg
          generalize es2[k].C = CK at *
          have hcz : (code == 0) = false := by rw [beq_eq_false_iff_ne]; exact hcode
          go_wp2_with (refine wpList_load_mid rfl 44 _ rfl b5 (k * 30) (by go_simp) CK.toList _ hrg2 Tryz.underlying44 rfl (by rw [Array.length_toList, hsz]; kernel_rfl) ?_; rw [Array.toArray_toList])
          refine (RE.out _).mono ?_
          rintro e w52 ⟨rfl, hb52⟩
          have B52 := below_up hB hb52 hB.size
          have C52 := CE.out _ hb52
          go_wp2_with fail
          refine C52.mono ?_
          rintro e w53 ⟨rfl, hb53⟩
          have B53 := below_up B52 hb53 B52.size
          clear C52 CE RE hb52 hb53 hB B52 P51 hrg2
          go_wp2_with fail
          go_roundw
          case rel => exact ⟨k + 1, by go_num, by omega, B53⟩
          case measure => simp [intOf]; omega
         ·have hd : decide (k < es2.length) = false := decide_eq_false (by omega)
          have P51 := below_up (hb1.trans (hb2.mono hb1.size)) (P50.trans (hB.mono P50.size)) (Nat.le_trans hb1.size hb2.size)
          go_wp2_with fail
          refine (HLV.out _ P51).mono ?_
          rintro e w52 ⟨rfl, hb52⟩
          have P52 := below_up P51 hb52 P51.size
          go_wp2_with fail
          go_ret
          exact ⟨rfl, P52⟩
end Go.Proofs.YtbeaijjaecaidaaGreatDoor
