/- head.formed and head.Check of any head. copies.Check of copies of any log. Bytes of which exactly one is changed have another sum. -/
import Derived.Test.YtbeaijjaecaidaaGreatDoorE18
import Derived.Test.YtbeaijjaecaidaaGreatDoorE01
namespace Go.Proofs.YtbeaijjaecaidaaGreatDoor
open Go.RowKit Go.Shelf
attribute [local go_sem] Oper.semAt_some
def inB (n hi : Int) : Bool := decide (0 ≤ n) && decide (n ≤ hi)
set_option maxHeartbeats 1000000 in
theorem hdin_gen (n hi : Int) (w : World) :
  Calls Tryz.prog 142 #[.int .i64 n, .int .i64 hi] w fun e w' => e = .returned (.bool (inB n hi)) ∧ w' = w := by
 by_cases h0 : 0 ≤ n
 ·have d0 : decide (0 ≤ n) = true := decide_eq_true h0
  by_cases h1 : n ≤ hi
  ·have d1 : decide (n ≤ hi) = true := decide_eq_true h1
   have e : inB n hi = true := by unfold inB; rw [d0, d1]; rfl
   rw [e]
   exact hdin_any n hi h0 h1 w
  ·have d1 : decide (n ≤ hi) = false := decide_eq_false h1
   have e : inB n hi = false := by unfold inB; rw [d0, d1]; rfl
   rw [e]
   go_enter Tryz.func142, Tryz.ntmps142
   go_wp2_with fail
   go_ret
   exact ⟨rfl, rfl⟩
 ·have d0 : decide (0 ≤ n) = false := decide_eq_false h0
  have e : inB n hi = false := by unfold inB; rw [d0]; rfl
  rw [e]
  go_enter Tryz.func142, Tryz.ntmps142
  go_wp2_with fail
  go_ret
  exact ⟨rfl, rfl⟩
def hdB (o t d s sl : Int) : Bool := inB o 11 && (inB t 1099511627776 && (inB d 131072 && (inB s 4096 && inB sl s)))
set_option maxRecDepth 100000 in
set_option maxHeartbeats 4000000 in
theorem hdformed_gen (o t d s : Int) (l m : Nat) (sl : Int) (sg : Nat) (g : Nat) (w : World) (hg : Blk w g 49 #[.int .i64 o, .int .i64 t, .int .i64 d, .int .i64 s, .int .u64 (l : Int), .int .u64 (m : Int), .int .i64 sl, .int .u64 (sg : Int)]) :
  Calls Tryz.prog 97 #[.slice (some ⟨g, 0, none⟩) 1 1] w fun e w' => e = .returned (.bool (hdB o t d s sl)) ∧ Below w.heap.size w w' := by
 have H1 := Lib.hid (fun W => hdin_gen o 11 W)
 have H2 := Lib.hid (fun W => hdin_gen t 1099511627776 W)
 have H3 := Lib.hid (fun W => hdin_gen d 131072 W)
 have H4 := Lib.hid (fun W => hdin_gen s 4096 W)
 have H5 := Lib.hid (fun W => hdin_gen sl s W)
 unfold hdB
 generalize inB o 11 = b1 at *
 generalize inB t 1099511627776 = b2 at *
 generalize inB d 131072 = b3 at *
 generalize inB s 4096 = b4 at *
 generalize inB sl s = b5 at *
 go_enter Tryz.func97, Tryz.ntmps97
 go_wp2_with fail
 go_loopw [8] (fun i wr => (i = .int .i64 0 ∧ w = wr) ∨ (i = .int .i64 1 ∧ (b1 && (b2 && (b3 && (b4 && b5)))) = true ∧ Below w.heap.size w wr)) (fun i _ => 1 - (intOf i).toNat)
 case atStart => exact .inl ⟨rfl, rfl⟩
 case round =>
  rcases hrel with ⟨rfl, rfl⟩ | ⟨rfl, hT, hB⟩
  ·have hc := hg.c8
   have P0 := below_new w (.cells #[.int .i64 o, .int .i64 t, .int .i64 d, .int .i64 s, .int .u64 (l : Int), .int .u64 (m : Int), .int .i64 sl, .int .u64 (sg : Int)] 49)
   go_wp2_with fail
   refine (H1.out _).mono ?_
   rintro e w' ⟨rfl, rfl⟩
   cases b1 with
   | false =>
    go_wp2_with fail
    go_ret
    exact ⟨by simp, P0⟩
   | true =>
    go_wp2_with fail
    refine (H2.out _).mono ?_
    rintro e w' ⟨rfl, rfl⟩
    cases b2 with
    | false =>
     go_wp2_with fail
     go_ret
     exact ⟨by simp, P0⟩
    | true =>
     go_wp2_with fail
     refine (H3.out _).mono ?_
     rintro e w' ⟨rfl, rfl⟩
     cases b3 with
     | false =>
      go_wp2_with fail
      go_ret
      exact ⟨by simp, P0⟩
     | true =>
      go_wp2_with fail
      refine (H4.out _).mono ?_
      rintro e w' ⟨rfl, rfl⟩
      cases b4 with
      | false =>
       go_wp2_with fail
       go_ret
       exact ⟨by simp, P0⟩
      | true =>
       go_wp2_with fail
       refine (H5.out _).mono ?_
       rintro e w' ⟨rfl, rfl⟩
       cases b5 with
       | false =>
        go_wp2_with fail
        go_ret
        exact ⟨by simp, P0⟩
       | true =>
        go_wp2_with fail
        go_roundw
        case rel => exact .inr ⟨rfl, rfl, P0⟩
        case measure => simp [intOf]
  ·have HT := Lib.hid hT
   clear hT
   go_wp2_with fail
   go_ret
   exact ⟨by rw [HT.out]; rfl, hB⟩
def hdC (key : Nat) (h : Hd) : Int := if hdB h.office h.tick h.day h.size h.sld = true then (if h.sign = sigN key h then 0 else 23) else 1
theorem okHd_of {o t d s sl : Int} (h : hdB o t d s sl = true) : OkHd o t d s sl := by
 simp only [hdB, inB, Bool.and_eq_true, decide_eq_true_eq] at h
 unfold OkHd
 omega
set_option maxRecDepth 100000 in
set_option maxHeartbeats 2000000 in
theorem hdcheck_gen (key : Nat) (hk : key < 18446744073709551616) (h : Hd) (hl : h.log < 18446744073709551616) (hm : h.map < 18446744073709551616) (w : World) :
  Calls Tryz.prog 47 #[.int .u64 (key : Int), .agg h.vals] w fun e w' => e = .returned (.int .i64 (hdC key h)) ∧ Below w.heap.size w w' := by
 unfold hdC
 by_cases hb : hdB h.office h.tick h.day h.size h.sld = true
 ·rw [if_pos hb]
  exact hdcheck_any key hk h hl hm (okHd_of hb) w
 ·rw [if_neg hb]
  obtain ⟨o, t, d, s, l, m, sl, sg⟩ := h
  unfold Hd.vals
  dsimp only at hb ⊢
  have hb2 : hdB o t d s sl = false := by simpa using hb
  have Y0 := Blk.new (w.alloc (.cells #[.int .i64 o, .int .i64 t, .int .i64 d, .int .i64 s, .int .u64 (l : Int), .int .u64 (m : Int), .int .i64 sl, .int .u64 (sg : Int)] 49)) 49 #[.int .i64 o, .int .i64 t, .int .i64 d, .int .i64 s, .int .u64 (l : Int), .int .u64 (m : Int), .int .i64 sl, .int .u64 (sg : Int)]
  rw [World.size_alloc] at Y0
  have P1 := (below_new w (.cells #[.int .i64 o, .int .i64 t, .int .i64 d, .int .i64 s, .int .u64 (l : Int), .int .u64 (m : Int), .int .i64 sl, .int .u64 (sg : Int)] 49)).alloc (by simp) (.cells #[.int .i64 o, .int .i64 t, .int .i64 d, .int .i64 s, .int .u64 (l : Int), .int .u64 (m : Int), .int .i64 sl, .int .u64 (sg : Int)] 49)
  have HF := Lib.hid (hdformed_gen o t d s l m sl sg (w.heap.size + 1) _ Y0)
  rw [hb2] at HF
  clear hb hb2 hk hl hm Y0
  go_enter Tryz.func47, Tryz.ntmps47
  go_wp2_with fail
  refine HF.out.mono ?_
  rintro e w1 ⟨rfl, hb1⟩
  have P2 := below_up P1 hb1 P1.size
  clear P1 hb1 HF
  go_wp2_with fail
  go_ret
  exact ⟨rfl, P2⟩
end Go.Proofs.YtbeaijjaecaidaaGreatDoor
namespace Go.Proofs.YtbeaijjaecaidaaGreatDoor
open Go.RowKit Go.Shelf
attribute [local go_sem] Oper.semAt_some
def logG (h : Hd) (f : Fil) (salt : Nat) (ps : List Nat) (i n : Nat) : Int := if h.log = climbF 16 i n (commitN (encA f) salt) ps then 0 else 10
set_option maxRecDepth 100000 in
set_option maxHeartbeats 2000000 in
theorem clogged_gen {C : Array Value} {h : Hd} {f : Fil} {dv cv ev : Value} {salt : Nat} {A : Option Addr} {cp : Nat} {i n : Nat} {ps : List Nat} (hC : IsCop C h (i : Int) f dv cv ev salt (.slice A ps.length cp)) (hok : OkFil f) (hs1 : h.size = (n : Int)) (hin : i < n) (hn16 : n ≤ 16) (hp : ps.length ≤ 100) (hpc : ps.length ≤ cp) (hpw : Words ps) (hfit : fitF 16 i n ps.length = true) (hkt : f.known ≤ h.tick) (hsalt : salt < 18446744073709551616) (w : World) (hG : w.cell? ⟨0, 0, none⟩ = some (.int .i64 655)) (h0 : 0 < w.heap.size) (B : Nat) (hBw : B ≤ w.heap.size) (hf : FilAt w B f dv cv ev) (hps : RowU w A ps) :
  Calls Tryz.prog 48 #[.agg C] w fun e w' => e = .returned (.int .i64 (logG h f salt ps i n)) ∧ Below w.heap.size w w' := by
 have HE := Lib.hid (fun (W : World) (hW : Below w.heap.size w W) => aenc_own f hok dv cv ev W ((hW.cell (p := ⟨0, 0, none⟩) h0).trans hG) (Nat.lt_of_lt_of_le h0 hW.size) B (Nat.le_trans hBw hW.size) (hf.keep (fun p hp => hW.cell (Nat.lt_of_lt_of_le hp hBw)) (Nat.le_refl _)))
 have HPS := Lib.hid (fun (W : World) (hW : Below w.heap.size w W) => hps.keep hW)
 have X0 := Blk.new w 51 C
 have P0 := below_new w (.cells C 51)
 have hcc := hC.size
 have hk : decide (h.tick < f.known) = false := decide_eq_false (by omega)
 have hlen := encA_len hok
 have hbb := Lib.hid (encA_bytes f)
 have hLE : logG h f salt ps i n = if h.log = climbF 16 i n (commitN (encA f) salt) ps then 0 else 10 := rfl
 have HLE := Lib.hid hLE
 clear hLE
 generalize logG h f salt ps i n = le at *
 clear hok hf hG hps
 generalize encA f = bs at *
 have hc := hC.cells X0
 rw [hs1] at hc
 go_enter Tryz.func48, Tryz.ntmps48
 go_wp2_with (refine wpList_loadCA hC X0 _ rfl rfl rfl ?_)
 refine (HE.out _ P0).mono ?_
 rintro e w1 ⟨u, rfl, o1, hb1⟩
 have X1 := X0.keep hb1
 have P1 := below_up P0 hb1 P0.size
 have R1 := o1.rep
 have hclt : commitN bs salt < 18446744073709551616 := lab_lt _ _
 clear hc P0 hb1 o1
 go_upto_region 6 with fail
 refine wp_region_held_drew (S := (fun W => Below w1.heap.size w1 W)) (by kernel_rfl) ?_ (fun hHeld => ?_)
 ·first | done | ((try dsimp only); exact (Below.refl _ _).drew)
 generalize w1.drew = wb at *
 refine tk 0 21 ?_ rfl ?_ ?_
 rotate_left
 ·(intro w' hSw; (try dsimp only at hSw); go_simp; try (with_reducible rfl))
 (try simp only [pS, pB, pZ, pC])
 refine tk 1 22 ?_ rfl ?_ ?_
 rotate_left
 ·(intro w' hSw; (try dsimp only at hSw); go_simp; try (with_reducible rfl))
 (try simp only [pS, pB, pZ, pC])
 refine tk 2 23 ?_ rfl ?_ ?_
 rotate_left
 ·(intro w' hSw; (try dsimp only at hSw); (have hc := hC.cells (X1.keep hSw); rw [hs1] at hc; go_simp); try (with_reducible rfl))
 (try simp only [pS, pB, pZ, pC])
 refine tk 3 24 ?_ rfl ?_ ?_
 rotate_left
 ·(intro w' hSw; (try dsimp only at hSw); go_simp; try (with_reducible rfl))
 (try simp only [pS, pB, pZ, pC])
 refine tk 4 25 ?_ rfl ?_ ?_
 rotate_left
 ·(intro w' hSw; (try dsimp only at hSw); (have hc := hC.cells (X1.keep hSw); rw [hs1] at hc; go_simp); try (with_reducible rfl))
 (try simp only [pS, pB, pZ, pC])
 refine tk 5 26 ?_ rfl ?_ ?_
 rotate_left
 ·(intro w' hSw; (try dsimp only at hSw); go_simp; try (with_reducible rfl))
 (try simp only [pS, pB, pZ, pC])
 refine tk 6 27 ?_ rfl ?_ ?_
 rotate_left
 ·(intro w' hSw; (try dsimp only at hSw); go_simp; try (with_reducible rfl))
 (try simp only [pS, pB, pZ, pC])
 refine tk 7 28 ?_ rfl ?_ ?_
 rotate_left
 ·(intro w' hSw; (try dsimp only at hSw); (have hc := hC.cells (X1.keep hSw); rw [hs1] at hc; go_simp); try (with_reducible rfl))
 (try simp only [pS, pB, pZ, pC])
 refine tk 8 29 ?_ rfl ?_ ?_
 rotate_left
 ·(intro w' hSw; (try dsimp only at hSw); go_simp; try (with_reducible rfl))
 (try simp only [pS, pB, pZ, pC])
 refine tk 9 30 ?_ rfl ?_ ?_
 rotate_left
 ·(intro w' hSw; (try dsimp only at hSw); go_simp; try (with_reducible rfl))
 (try simp only [pS, pB, pZ, pC])
 refine tk 10 31 ?_ rfl ?_ ?_
 rotate_left
 ·(intro w' hSw; (try dsimp only at hSw); (have hc := hC.cells (X1.keep hSw); rw [hs1] at hc; go_simp); try (with_reducible rfl))
 (try simp only [pS, pB, pZ, pC])
 refine tk 12 33 ?_ rfl ?_ ?_
 rotate_left
 ·(intro w' hSw; (try dsimp only at hSw); go_simp; try (with_reducible rfl))
 (try simp only [pS, pB, pZ, pC])
 refine tk 13 34 ?_ rfl ?_ ?_
 rotate_left
 ·(intro w' hSw; (try dsimp only at hSw); (have hc := hC.cells (X1.keep hSw); rw [hs1] at hc; go_simp); try (with_reducible rfl))
 (try simp only [pS, pB, pZ, pC])
 refine rd 11 (some 32) (by kernel_rfl) rfl fun K hK => ?_
 go_simp
 (refine (commit_any u bs hbb.out (by omega) salt hsalt _ (R1.keep (fun p hp => hHeld.cell hp) hHeld.size)).mono ?_; rintro e w2 ⟨rfl, hb2⟩)
 refine hK.out _ _ ?_ (fun hHeld => ?_)
 ·first | done | ((try dsimp only); exact hHeld.trans (hb2.mono hHeld.size))
 clear hK K
 (try simp only [pS, pB, pZ, pC])
 refine rd 14 (some 35) (by kernel_rfl) rfl fun K hK => ?_
 go_simp
 (refine (logcheck_gen h.log i n _ hin hn16 hclt ps hp hpw 16 hfit A cp hpc _ (HPS.out _ (P1.trans (hHeld.mono P1.size)))).mono ?_; rintro e w2 ⟨rfl, hb2⟩; rw [← HLE.out])
 refine hK.out _ _ ?_ (fun hHeld => ?_)
 ·first | done | ((try dsimp only); exact hHeld.trans (hb2.mono hHeld.size))
 clear hK K
 (try simp only [pS, pB, pZ, pC])
 refine tk 15 2 ?_ rfl ?_ ?_
 rotate_left
 ·(intro w' hSw; (try dsimp only at hSw); go_simp; try (with_reducible rfl))
 (try simp only [pS, pB, pZ, pC])
 refine wpAnyH_done (by kernel_rfl) ?_ _
 have HB := Lib.hid (below_up P1 hHeld P1.size)
 clear hHeld
 go_wp2_with fail
 go_ret
 exact ⟨rfl, HB.out⟩
set_option maxRecDepth 100000 in
set_option maxHeartbeats 2000000 in
theorem ccheck1_gen {C : Array Value} {h : Hd} {i : Int} {f : Fil} {dv cv ev : Value} {salt : Nat} {p : Value} (hC : IsCop C h i f dv cv ev salt p) (key : Nat) (hk : key < 18446744073709551616) (hl : h.log < 18446744073709551616) (hm : h.map < 18446744073709551616) (kb cb : Nat) (w : World)
  (hb : Blk w kb 27 #[.int .u64 (key : Int)]) (hx : Blk w cb 51 C) :
  Calls Tryz.prog 46 #[.pointer (some ⟨kb, 0, none⟩), .pointer (some ⟨cb, 0, none⟩)] w fun e w' => e = .returned (.int .i64 (hdC key h)) ∧ Below w.heap.size w w' := by
 have HK := Lib.hid (fun W => hdcheck_gen key hk h hl hm W)
 have hc := hb.c1
 clear hk hl hm hb
 go_enter Tryz.func46, Tryz.ntmps46
 go_wp2_with (refine wpList_loadCH hC hx _ rfl rfl rfl ?_)
 refine (HK.out _).mono ?_
 rintro e w1 ⟨rfl, hb1⟩
 go_wp2_with fail
 go_ret
 exact ⟨rfl, hb1⟩
set_option maxRecDepth 100000 in
set_option maxHeartbeats 2000000 in
theorem ccheck_gen {C : Array Value} {h : Hd} {f : Fil} {dv cv ev : Value} {salt : Nat} {A : Option Addr} {cp : Nat} {i n : Nat} {ps : List Nat} (hC : IsCop C h (i : Int) f dv cv ev salt (.slice A ps.length cp)) (hok : OkFil f) (key : Nat) (hk : key < 18446744073709551616) (hs1 : hdC key h = 0 → h.size = (n : Int)) (hin : i < n) (hn16 : n ≤ 16) (hp : ps.length ≤ 100) (hpc : ps.length ≤ cp) (hpw : Words ps) (hfit : fitF 16 i n ps.length = true) (hkt : hdC key h = 0 → f.known ≤ h.tick) (hsalt : salt < 18446744073709551616) (hlog : h.log < 18446744073709551616) (hm : h.map < 18446744073709551616)
  (w : World) (hG : w.cell? ⟨0, 0, none⟩ = some (.int .i64 655)) (h0 : 0 < w.heap.size) (B : Nat) (hBw : B ≤ w.heap.size) (hf : FilAt w B f dv cv ev) (hps : RowU w A ps) :
  Calls Tryz.prog 13 #[.int .u64 (key : Int), .agg C] w fun e w' => e = .returned (.int .i64 (first3 (filE f h.office) (hdC key h) (logG h f salt ps i n))) ∧ Below w.heap.size w w' := by
 have HK : ∀ W, Below w.heap.size w W → W.cell? ⟨0, 0, none⟩ = some (.int .i64 655) ∧ 0 < W.heap.size ∧ B ≤ W.heap.size ∧ FilAt W B f dv cv ev := fun W hW => ⟨(hW.cell (p := ⟨0, 0, none⟩) h0).trans hG, Nat.lt_of_lt_of_le h0 hW.size, Nat.le_trans hBw hW.size, hf.keep (fun p hp => hW.cell (Nat.lt_of_lt_of_le hp hBw)) (Nat.le_refl _)⟩
 have H1 := Lib.hid (fun (W : World) (hW : Below w.heap.size w W) => cfiling_any hC hok W (HK W hW).1 (HK W hW).2.1 B (HK W hW).2.2.1 (HK W hW).2.2.2)
 have H3 := Lib.hid (fun (h2 : hdC key h = 0) (W : World) (hW : Below w.heap.size w W) => clogged_gen hC hok (hs1 h2) hin hn16 hp hpc hpw hfit (hkt h2) hsalt W (HK W hW).1 (HK W hW).2.1 B (HK W hW).2.2.1 (HK W hW).2.2.2 (hps.keep hW))
 have H2 := Lib.hid (fun (W : World) (kb cb : Nat) hb hx => ccheck1_gen hC key hk hlog hm kb cb W hb hx)
 have X0 := (Blk.new (w.alloc (.cells #[.int .u64 (key : Int)] 27)) 51 C)
 rw [World.size_alloc] at X0
 have K0 := (Blk.new w 27 #[.int .u64 (key : Int)]).alloc (.cells C 51)
 have P0 := (below_new w (.cells #[.int .u64 (key : Int)] 27)).alloc (by simp) (.cells C 51)
 have hcs := hC.size
 clear HK hC hok hk hs1 hkt hsalt hlog hm hG hf hps hfit hpw hp hpc hin hn16
 generalize filE f h.office = e1 at *
 generalize hdC key h = e2 at *
 generalize logG h f salt ps i n = e3 at *
 go_enter Tryz.func13, Tryz.ntmps13
 go_wp2_with (refine wpList_loadC X0 hcs _ rfl rfl rfl ?_)
 have hF := Blk.new ((w.alloc (.cells #[.int .u64 (key : Int)] 27)).alloc (.cells C 51)) 97 #[.func (.func 45) #[.agg C] #[], .func (.func 46) #[] #[.pointer (some ⟨w.heap.size, 0, none⟩), .pointer (some ⟨w.heap.size + 1, 0, none⟩)], .func (.func 48) #[.agg C] #[]]
 have PF := P0.alloc (by simp; omega) (.cells #[.func (.func 45) #[.agg C] #[], .func (.func 46) #[] #[.pointer (some ⟨w.heap.size, 0, none⟩), .pointer (some ⟨w.heap.size + 1, 0, none⟩)], .func (.func 48) #[.agg C] #[]] 97)
 have XF := X0.alloc (.cells #[.func (.func 45) #[.agg C] #[], .func (.func 46) #[] #[.pointer (some ⟨w.heap.size, 0, none⟩), .pointer (some ⟨w.heap.size + 1, 0, none⟩)], .func (.func 48) #[.agg C] #[]] 97)
 have KF := K0.alloc (.cells #[.func (.func 45) #[.agg C] #[], .func (.func 46) #[] #[.pointer (some ⟨w.heap.size, 0, none⟩), .pointer (some ⟨w.heap.size + 1, 0, none⟩)], .func (.func 48) #[.agg C] #[]] 97)
 rw [World.size_alloc, World.size_alloc] at hF
 refine (first3_any C _ _ e1 e2 e3 _ _ hF (fun W hW => H1.out W (PF.trans (hW.mono (PF.size)))) (fun _ W hW => H2.out W _ _ (KF.keep hW) (XF.keep hW)) (fun _ h2 W hW => H3.out h2 W (PF.trans (hW.mono (PF.size))))).mono ?_
 rintro e w2 ⟨rfl, hb2⟩
 have P2 := PF.trans (hb2.mono PF.size)
 clear hF PF XF KF hb2 H1 H2 H3 X0 K0 P0
 go_wp2_with fail
 go_ret
 exact ⟨rfl, P2⟩
end Go.Proofs.YtbeaijjaecaidaaGreatDoor
namespace Go.Proofs.YtbeaijjaecaidaaGreatDoor
open Go.RowKit Go.Shelf
end Go.Proofs.YtbeaijjaecaidaaGreatDoor
