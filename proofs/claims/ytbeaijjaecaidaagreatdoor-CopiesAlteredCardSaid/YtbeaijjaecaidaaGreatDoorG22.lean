/- ref37.Filings of a script. log: the filings of a script, all by one office. Rows of copies of the reference, and what each of them is. The copy of a filing of any log: in memory, and accepted. Copies of which one part is changed are not accepted: the plain law. The documented examples of copies: lives returns true. Cells stored into the middle of a block; rows of heads. -/
import Derived.Test.YtbeaijjaecaidaaGreatDoorG18
import Derived.Test.YtbeaijjaecaidaaGreatDoorG20
import Derived.Test.YtbeaijjaecaidaaGreatDoorG21
import Derived.Test.YtbeaijjaecaidaaGreatDoorG19
import Derived.Test.YtbeaijjaecaidaaGreatDoorE01
namespace Go.Proofs.YtbeaijjaecaidaaGreatDoor
open Go.RowKit Go.Shelf
attribute [local go_sem] Oper.semAt_some
theorem row_at {ts : List TypeId} {H : List Nat} {W : World} {base : Nat} {e : TypeId} {v : Value} {α : Type} {l : List α} {cells : α → List D} {sz : Nat} (hc : ∀ x ∈ l, (cells x).length = sz) (hsz : 0 < sz) (h : OwnM ts H W base e sz v (l.flatMap cells)) (k : Nat) (hk : k < l.length) :
  ∃ b c vs, v = .slice (some ⟨b, 0, none⟩) l.length c ∧ l.length ≤ c ∧ v.ownBlock = some b ∧ W.rangeAt b (k * sz) vs ∧ RepML ts (v.ownBlock.toList ++ H) W vs (cells l[k]) := by
 obtain ⟨n, xs, h1, h2⟩ := h
 have hfl := flat_length (l := l) (f := cells) (k := sz) hc
 have h21 := h2.1
 have h11 := h1.1
 have hnl : n * sz = l.length * sz := by omega
 obtain rfl : n = l.length := Nat.eq_of_mul_eq_mul_right hsz hnl
 have hp := flat_part (l := l) (f := cells) (k := sz) (i := k) (a := l[k]) hc (List.getElem?_eq_getElem hk)
 have hr2 := (RepL.drop h2 (k * sz)).take sz
 rw [hp] at hr2
 rcases h1.2 with ⟨_, hn⟩ | ⟨g, cap, cur, rfl, hg, hb, hnc, hcap, hcur, hx⟩
 ·omega
 ·refine ⟨g, cap, _, rfl, hnc, rfl, fun j u hu => ?_, hr2⟩
  rw [List.getElem?_take] at hu
  by_cases hj : j < sz
  ·rw [if_pos hj, List.getElem?_drop] at hu
   have hlt : k * sz + j < xs.length := by
    rcases Nat.lt_or_ge (k * sz + j) xs.length with h | h
    ·exact h
    ·rw [List.getElem?_eq_none h] at hu; cases hu
   rw [h1.cellAt (k * sz + j) (by rw [← h1.1]; exact hlt)]
   exact hu
  ·rw [if_neg hj] at hu
   cases hu
theorem FilM.stepH {ts : List TypeId} {H H' : List Nat} {w w' : World} {f : Fil} {dv cv ev : Value} (h : FilM ts H w f dv cv ev) {row : Option Nat} (hg : w.grownBy w' row) (hrow : ∀ i, row = some i → i < w.heap.size → Hidden ts w i ∨ i ∈ H) (hH : ∀ i ∈ H', i ∈ H ∨ w.heap.size ≤ i) : FilM ts H' w' f dv cv ev :=
 ⟨RepM.step h.1 hg hrow hH, RepM.step h.2.1 hg hrow hH, RepM.step h.2.2 hg hrow hH⟩
theorem FilM.weakH {ts : List TypeId} {H : List Nat} {w : World} {f : Fil} {dv cv ev : Value} (h : FilM ts H w f dv cv ev) : FilM ts [] w f dv cv ev :=
 ⟨RepM.weak h.1 (fun _ h => h) (fun _ h => by cases h), RepM.weak h.2.1 (fun _ h => h) (fun _ h => by cases h), RepM.weak h.2.2 (fun _ h => h) (fun _ h => by cases h)⟩
def setO (o : Int) (f : Fil) : Fil := { f with office := o }
theorem filsOf_take {l : List Item} {k : Nat} (hk : k < l.length) : filsOf (l.take (k + 1)) = filsOf (l.take k) ++ filsOf [l[k]] := by
 rw [List.take_add_one, List.getElem?_eq_getElem hk, filsOf_app]
 rfl
theorem filsOf_take_le (l : List Item) (k : Nat) : (filsOf (l.take k)).length ≤ l.length := by
 have h1 := filsOf_le (l.take k)
 have h2 := List.length_take_le' k l
 omega
theorem item_at {W : World} {base : Nat} {v : Value} {l : List Item} (hl : GenS l) (h : OwnM TA [] W base 41 19 v (l.flatMap Item.cells)) (k : Nat) (hk : k < l.length) :
  ∃ b c, v = .slice (some ⟨b, 0, none⟩) l.length c ∧ b < W.heap.size ∧ base ≤ b ∧ ((∃ f dv cv ev, l[k] = .fil f ∧ W.rangeAt b (k * 19) (f.vals dv cv ev).toList ∧ FilM TA [b] W f dv cv ev) ∨ (∃ kd vs, l[k] = .oth kd vs ∧ kd ≠ 0 ∧ W.cell? ⟨b, k * 19, none⟩ = some (.int .i64 kd))) := by
 obtain ⟨b, c, vs, e1, e2, e3, hr, hd⟩ := row_at (cells := Item.cells) (sz := 19) (fun x hx => Item.cells_length (hl.2.1 x hx)) (by omega) h k hk
 have hlt := h.lt b e3
 refine ⟨b, c, e1, hlt.2, hlt.1, ?_⟩
 have hok := hl.2.1 l[k] (List.getElem_mem hk)
 rw [e3] at hd
 cases hit : l[k] with
 | fil f =>
  rw [hit] at hd
  obtain ⟨dv, cv, ev, rfl, r1, r2, r3⟩ := FilM.inv hd
  exact .inl ⟨f, dv, cv, ev, rfl, hr, r1, r2, r3⟩
 | oth kd us =>
  rw [hit] at hd hok
  have e := RepL.plain hd
  subst e
  refine .inr ⟨kd, us, rfl, by have := hok.1; omega, ?_⟩
  have h0 : us.toList[0]? = some (.int .i64 kd) := by rw [Array.getElem?_toList]; exact hok.2.2.2.2.1
  exact hr 0 _ h0
set_option maxRecDepth 100000 in
set_option maxHeartbeats 4000000 in
theorem filings_any (v : Value) (l : List Item) (hl : GenS l) (o : Int) (w : World) (base : Nat) (hrow : OwnM TA [] w base 41 19 v (l.flatMap Item.cells)) :
  Calls Tryz.prog 37 #[v, .int .i64 o] w fun e w' => ∃ u, e = .returned u ∧ OwnM TA [] w' w.heap.size 41 19 u (((filsOf l).map (setO o)).flatMap Fil.cells) ∧ Below w.heap.size w w' := by
 have HI := Lib.hid (fun k hk => item_at hl hrow k hk)
 have hlen := hl.1
 have hcl := hl.cells
 obtain ⟨A, n, c, rfl, hn, hnc⟩ := hrow.slice
 rw [hcl] at hn
 obtain rfl : n = l.length := by omega
 clear hrow hcl hn
 go_enter Tryz.func37, Tryz.ntmps37
 go_wp2_with fail
 go_loopw [5, 6] (fun u j W => ∃ k : Nat, j = .int .i64 (k : Int) ∧ k ≤ l.length ∧ OwnM TA [] W w.heap.size 41 19 u (((filsOf (l.take k)).map (setO o)).flatMap Fil.cells) ∧ Below w.heap.size w W) (fun _ j _ => l.length - (intOf j).toNat)
 case atStart => exact ⟨0, rfl, Nat.zero_le _, OwnM.nil _ _ _ _ _ _, Below.refl _ _⟩
 case round =>
  obtain ⟨k, rfl, hk, hO, hB⟩ := hrel
  obtain ⟨Au, nu, cu, rfl, hnu, _⟩ := hO.slice
  clear hnu
  obtain ⟨W, rfl⟩ : ∃ z : World, z = wr := ⟨_, rfl⟩
  by_cases hlt : k < l.length
  ·obtain ⟨b, cc, e1, hb1, hb2, hit⟩ := HI.out k hlt
   injection e1 with eA _ _
   subst eA
   have hd : decide ((k : Int) < (l.length : Int)) = true := decide_eq_true (by omega)
   have hcellk : ∀ p : Addr, p.block = b → W.cell? p = w.cell? p := fun p hp => hB.cell (by rw [hp]; exact hb1)
   rcases hit with ⟨f, dv, cv, ev, hf, hr, hm⟩ | ⟨kd, us, hf, hkd, hc0⟩
   ·have hr2 : W.rangeAt b (k * 19) (f.vals dv cv ev).toList := fun j u hu => (hcellk _ rfl).trans (hr j u hu)
    have hc0 : W.cell? ⟨b, k * 19, none⟩ = some (.int .i64 0) := hr2 0 _ rfl
    obtain ⟨Ap, cp, Bp, cq, Cp, cr, rfl, rfl, rfl⟩ := hm.weakH.forms
    have Z1 := Blk.new W 41 #[.int .i64 0, .int .i64 0, .int .i64 0, .int .i64 0, .int .i64 0, .int .i64 0, .int .i64 0, .int .i64 0, .int .i64 0, .int .i64 0, .int .i64 0, .slice none 0 0, .slice none 0 0, .slice none 0 0, .slice none 0 0, .int .i64 0, .int .i64 0, .slice none 0 0, .slice none 0 0]
    have P1 := below_new W (.cells #[.int .i64 0, .int .i64 0, .int .i64 0, .int .i64 0, .int .i64 0, .int .i64 0, .int .i64 0, .int .i64 0, .int .i64 0, .int .i64 0, .int .i64 0, .slice none 0 0, .slice none 0 0, .slice none 0 0, .slice none 0 0, .int .i64 0, .int .i64 0, .slice none 0 0, .slice none 0 0] 41)
    have HO := Lib.hid hO
    have HB := Lib.hid hB
    have HM := Lib.hid hm
    clear hO hB hm hcellk hr
    go_upto_region 7 with (first | (refine wpList_load_mid rfl 41 _ rfl b (k * 19) (by go_simp) _ _ hr2 Tryz.underlying41 rfl (by kernel_rfl) ?_) | (refine wpList_storeA Z1 rfl _ _ rfl rfl rfl _ rfl rfl (by kernel_rfl) ?_; intro w2 Y2 g2))
    have hfz := Y2.frozen 4
    have P2 := P1.grown g2 P1.size (fun k e => by injection e with e; omega)
    have hc4 : w2.cell? ⟨W.heap.size, 4, none⟩ = some (.int .i64 f.office) := Y2.cell 4
    go_upto_region 8 with fail
    have Y3 : Blk (w2.setCell ⟨W.heap.size, 4, none⟩ (.int .i64 o)) W.heap.size 41 #[.int .i64 0, .int .i64 f.day, .int .i64 f.known, .int .i64 f.file, .int .i64 o, .int .i64 f.party, .int .i64 f.other, .int .i64 0, .int .i64 0, .int .i64 0, .int .i64 0, .slice Ap f.d.length cp, .slice Bp f.c.length cq, .slice none 0 0, .slice Cp f.e.length cr, .int .i64 0, .int .i64 0, .slice none 0 0, .slice none 0 0] := by
     have := Y2.set 4 (.int .i64 o)
     exact this
    have P3 := P2.setCell (p := ⟨W.heap.size, 4, none⟩) (Nat.le_refl _) (.int .i64 o)
    clear hfz hc4 Z1 P1 P2 g2 Y2
    generalize w2.setCell ⟨W.heap.size, 4, none⟩ (.int .i64 o) = w3 at *
    have P4 := P3.alloc P3.size (.cells #[.int .i64 0, .int .i64 f.day, .int .i64 f.known, .int .i64 f.file, .int .i64 o, .int .i64 f.party, .int .i64 f.other, .int .i64 0, .int .i64 0, .int .i64 0, .int .i64 0, .slice Ap f.d.length cp, .slice Bp f.c.length cq, .slice none 0 0, .slice Cp f.e.length cr, .int .i64 0, .int .i64 0, .slice none 0 0, .slice none 0 0] 41)
    have RA := Blk.new w3 41 #[.int .i64 0, .int .i64 f.day, .int .i64 f.known, .int .i64 f.file, .int .i64 o, .int .i64 f.party, .int .i64 f.other, .int .i64 0, .int .i64 0, .int .i64 0, .int .i64 0, .slice Ap f.d.length cp, .slice Bp f.c.length cq, .slice none 0 0, .slice Cp f.e.length cr, .int .i64 0, .int .i64 0, .slice none 0 0, .slice none 0 0]
    have OA := OwnM.step HO.out (grown_of_below (row := none) P4) (fun _ e => by cases e) (H' := []) (fun _ hi => .inl hi)
    have PB := HB.out.trans (P4.mono HB.out.size)
    have NA := FilM.row (f := setO o f) (FilM.stepH (H' := (Value.slice Au nu cu).ownBlock.toList ++ []) HM.out (grown_of_below (row := none) PB) (fun _ e => by cases e) (fun i hi => by rw [List.append_nil] at hi; exact .inr (HO.out.lt i (Option.mem_toList.1 hi)).1))
    have hfle := filsOf_take_le l k
    have hcf := flat_length (l := (filsOf (l.take k)).map (setO o)) (f := Fil.cells) (k := 19) (fun x _ => x.cells_length)
    rw [List.length_map] at hcf
    have hsz := PB.size
    go_wp2_with (first | (refine wpList_loadA Y3 rfl _ rfl rfl rfl ?_) | (at_builtin; refine wpList_appM Tryz.underlying23 Tryz.info41 rfl (by omega) (by omega) OA RA rfl (by kernel_rfl) NA (by omega) (by omega) hsz rfl _ _ rfl rfl rfl ?_; intro vN wN oN gN lN))
    go_roundw
    case rel => exact ⟨k + 1, by go_num, by omega, by rw [filsOf_take hlt, hf]; simp only [filsOf, List.map_append, List.flatMap_append, List.map_cons, List.map_nil, List.flatMap_cons, List.flatMap_nil, List.append_nil]; exact oN, PB.grown gN PB.size (fun k e => (OA.lt k e).1)⟩
    case measure => simp [intOf]; omega
   ·have hc : W.cell? ⟨b, k * 19, none⟩ = some (.int .i64 kd) := (hcellk _ rfl).trans hc0
    have hk0 : (kd == 0) = false := by rw [beq_eq_false_iff_ne]; exact hkd
    have HO := Lib.hid hO
    have HBB := Lib.hid hB
    clear hO hB hcellk hc0
    go_wp2_with fail
    go_roundw
    case rel => exact ⟨k + 1, by go_num, by omega, by rw [filsOf_take hlt, hf]; simp only [filsOf, List.append_nil]; exact HO.out, HBB.out⟩
    case measure => simp [intOf]; omega
  ·have hd : decide ((k : Int) < (l.length : Int)) = false := decide_eq_false (by omega)
   obtain rfl : k = l.length := by omega
   rw [List.take_length] at hO
   have HO := Lib.hid hO
   clear hO
   go_wp2_with fail
   go_ret
   exact ⟨_, rfl, HO.out, hB⟩
end Go.Proofs.YtbeaijjaecaidaaGreatDoor
namespace Go.Proofs.YtbeaijjaecaidaaGreatDoor
open Go.RowKit Go.Shelf
attribute [local go_sem] Oper.semAt_some
structure LogOk (fl : List Fil) (o : Int) : Prop where
 len : fl.length ≤ 14
 ok : ∀ f ∈ fl, OkFil f
 office : ∀ f ∈ fl, f.office = o
 day : ∀ f ∈ fl, f.day ≤ 100000
theorem logOk_of {l : List Item} (h : GenS l) {o : Int} (ho : 0 ≤ o ∧ o ≤ 11) : LogOk ((filsOf l).map (setO o)) o := by
 have hg := h.2.2
 refine ⟨by rw [List.length_map]; exact hg.1, fun f hf => ?_, fun f hf => ?_, fun f hf => ?_⟩
 ·obtain ⟨f0, hf0, rfl⟩ := List.mem_map.1 hf
  obtain ⟨i, hi, rfl⟩ := List.getElem_of_mem hf0
  obtain ⟨g1, g2, g3, g4, g5⟩ := hg.2 i hi
  have := hg.1
  exact genA_ok g1 (by omega) ⟨g2, g3⟩ ⟨g4, g5⟩ o ho
 ·obtain ⟨f0, _, rfl⟩ := List.mem_map.1 hf
  rfl
 ·obtain ⟨f0, hf0, rfl⟩ := List.mem_map.1 hf
  obtain ⟨i, hi, rfl⟩ := List.getElem_of_mem hf0
  exact (hg.2 i hi).2.2.1
set_option maxRecDepth 100000 in
set_option maxHeartbeats 2000000 in
theorem log_any (A : Option Addr) (n c : Nat) (o : Int) (ho : 0 ≤ o ∧ o ≤ 11) (w : World) (hA : IntsAt w A n) (hA2 : ∀ a, A = some a → a.block < w.heap.size) :
  Calls Tryz.prog 8 #[.slice A n c, .int .i64 o] w fun e w' => ∃ Ao co fl, e = .returned (.slice Ao fl.length co) ∧ fl.length ≤ co ∧ LogOk fl o ∧ FilRow w' w'.heap.size Ao fl ∧ Below w.heap.size w w' := by
 have HS := Lib.hid (script_any A n c w hA hA2)
 clear hA hA2
 go_enter Tryz.func8, Tryz.ntmps8
 go_wp2_with fail
 refine HS.out.mono ?_
 rintro e w1 ⟨u, l, rfl, h1, h2, hb1⟩
 have HF := Lib.hid (filings_any u l h2 o w1 w.heap.size h1)
 have HL := Lib.hid (logOk_of h2 ho)
 clear h1 h2 HS
 go_wp2_with fail
 refine HF.out.mono ?_
 rintro e w2 ⟨v, rfl, h3, hb2⟩
 have hr := RepM.out (ts := []) (H := []) (OwnM.rep h3 (fun _ h => by cases h) (by simp) (fun _ h => by cases h))
 obtain ⟨Ao, co, rfl, hco, hrow⟩ := Rep.filRow hr
 have hb := below_up hb1 hb2 hb1.size
 clear HF h3 hr
 generalize (filsOf l).map (setO o) = fl at *
 have HR := Lib.hid hrow
 clear hrow
 go_wp2_with fail
 go_ret
 exact ⟨Ao, co, fl, rfl, hco, HL.out, HR.out, hb⟩
end Go.Proofs.YtbeaijjaecaidaaGreatDoor
namespace Go.Proofs.YtbeaijjaecaidaaGreatDoor
open Go.RowKit Go.Shelf
attribute [local go_sem] Oper.semAt_some
def OwnV (W : World) (base : Nat) (e : TypeId) (sz : Nat) (v : Value) (vs : List Value) : Prop := OwnM [] [] W base e sz v (valD vs)
theorem OwnV.kept {W W' : World} {base : Nat} {e : TypeId} {sz : Nat} {v : Value} {vs : List Value} (h : OwnV W base e sz v vs) {row : Option Nat} (hg : W.grownBy W' row) (hr : ∀ g, row = some g → v.ownBlock ≠ some g) : OwnV W' base e sz v vs := by
 obtain ⟨n, xs, h1, h2⟩ := h
 have e1 := RepL.plain h2
 subst e1
 refine ⟨n, xs, h1.kept hg ?_, RepL.of_plain _ _ _⟩
 rcases h1.2 with ⟨e, _⟩ | ⟨k, c, cur, e, hk⟩
 ·subst e; exact .inl rfl
 ·subst e
  exact .inr fun e2 => hr k e2.symm rfl
theorem OwnV.cells {W : World} {base : Nat} {e : TypeId} {sz : Nat} {v : Value} {vs : List Value} (h : OwnV W base e sz v vs) (hs : 0 < sz) {m : Nat} (hm : vs.length = m * sz) : ∃ A c, v = .slice A m c ∧ m ≤ c ∧ ∀ (j : Nat) (u : Value), vs[j]? = some u → ∃ b, A = some ⟨b, 0, none⟩ ∧ v.ownBlock = some b ∧ W.cell? ⟨b, j, none⟩ = some u := by
 obtain ⟨n, xs, h1, h2⟩ := h
 have e1 := RepL.plain h2
 subst e1
 have hn : n = m := Nat.eq_of_mul_eq_mul_right hs (h1.1.symm.trans hm)
 subst hn
 rcases h1.2 with ⟨rfl, hz⟩ | ⟨g, cap, cur, rfl, hg, hb, hnc, hcap, hcur, hx⟩
 ·subst hz
  refine ⟨none, 0, rfl, Nat.le_refl _, fun j u hu => ?_⟩
  have h0 : xs = [] := List.eq_nil_of_length_eq_zero (by rw [hm, Nat.zero_mul])
  rw [h0] at hu
  cases hu
 ·refine ⟨some ⟨g, 0, none⟩, cap, rfl, hnc, fun j u hu => ⟨g, rfl, rfl, ?_⟩⟩
  have hj := lt_of_some hu
  rw [h1.cellAt j (by rw [← h1.1]; exact hj)]
  exact hu
theorem ownV_app {W : World} {base : Nat} {e : TypeId} {sz : Nat} {v : Value} {a b : List Value} (h : OwnM [] [] W base e sz v (valD a ++ valD b)) : OwnV W base e sz v (a ++ b) := by
 unfold OwnV valD
 rw [List.map_append]
 exact h
theorem arr30 {vs : Array Value} (h : vs.size = 30) : ∃ a0 a1 a2 a3 a4 a5 a6 a7 a8 a9 a10 a11 a12 a13 a14 a15 a16 a17 a18 a19 a20 a21 a22 a23 a24 a25 a26 a27 a28 a29, vs = #[a0, a1, a2, a3, a4, a5, a6, a7, a8, a9, a10, a11, a12, a13, a14, a15, a16, a17, a18, a19, a20, a21, a22, a23, a24, a25, a26, a27, a28, a29] := by
 obtain ⟨l⟩ := vs
 rw [List.size_toArray] at h
 match l, h with
 | [a0, a1, a2, a3, a4, a5, a6, a7, a8, a9, a10, a11, a12, a13, a14, a15, a16, a17, a18, a19, a20, a21, a22, a23, a24, a25, a26, a27, a28, a29], _ => exact ⟨a0, a1, a2, a3, a4, a5, a6, a7, a8, a9, a10, a11, a12, a13, a14, a15, a16, a17, a18, a19, a20, a21, a22, a23, a24, a25, a26, a27, a28, a29, rfl⟩
set_option maxRecDepth 100000 in
set_option maxHeartbeats 2000000 in
theorem exec_rowK (d : Option Tmp) (ty : TypeId) (pos : String) (after : Array Edge) (gd : Option (Nat × Bool)) (r : Operand → Value) (x : Operand) (C : Array Value) (hs : C.size = 30) (h0 : r x = .agg C) (w : World) :
  (execOp r ⟨d, .buildSlice 53 1 #[(0, x)], ty, pos, after, gd⟩).run Tryz.prog w = .ok (.value (.slice (some ⟨w.heap.size, 0, none⟩) 1 1)) (w.alloc (.cells C 44)) := by
 obtain ⟨a0, a1, a2, a3, a4, a5, a6, a7, a8, a9, a10, a11, a12, a13, a14, a15, a16, a17, a18, a19, a20, a21, a22, a23, a24, a25, a26, a27, a28, a29, rfl⟩ := arr30 hs
 simp only [execOp]
 go_simp
theorem wpList_rowK {ops : Array Oper} {rest : List Oper} {d : Option Tmp} {ty : TypeId} {pos : String} {after : Array Edge} {x : Operand} {a : Act} {w : World} {Q : Exit → Act → World → Prop} (C : Array Value) (hs : C.size = 30) (h0 : a.eval x = .agg C)
  (hK : wpList Tryz.prog ops Q rest (a.put d (.slice (some ⟨w.heap.size, 0, none⟩) 1 1)) (w.alloc (.cells C 44))) : wpList Tryz.prog ops Q (⟨d, .buildSlice 53 1 #[(0, x)], ty, pos, after, none⟩ :: rest) a w :=
 wpList_plain rfl fun _ h2 => by
  unfold Oper.wp
  rw [exec_rowK d ty pos after none a.eval x C hs h0 w, Oper.upon_value]
  exact h2 _ _ hK
theorem Tryz.info44 : (Tryz.prog.info? 44).map (fun i => (i.zero, i.size, i.bytes)) = some (some (.agg #[.int .i64 0, .int .i64 0, .int .i64 0, .int .i64 0, .int .u64 0, .int .u64 0, .int .i64 0, .int .u64 0, .int .i64 0, .int .i64 0, .int .i64 0, .int .i64 0, .int .i64 0, .int .i64 0, .int .i64 0, .int .i64 0, .int .i64 0, .int .i64 0, .int .i64 0, .int .i64 0, .slice none 0 0, .slice none 0 0, .slice none 0 0, .slice none 0 0, .int .i64 0, .int .i64 0, .slice none 0 0, .slice none 0 0, .int .u64 0, .slice none 0 0]), 30, 352) := by kernel_rfl
structure El where
 C : Array Value
 h : Hd
 f : Fil
 dv : Value
 cv : Value
 ev : Value
 s : Nat
 A : Option Addr
 c : Nat
 ps : List Nat
structure El.Bad (e : El) (w1 : World) (key i n : Nat) : Prop where
 cop : IsCop e.C e.h (i : Int) e.f e.dv e.cv e.ev e.s (.slice e.A e.ps.length e.c)
 one : OneV e.dv e.cv e.ev
 fil : FilAt w1 w1.heap.size e.f e.dv e.cv e.ev
 ok : OkFil e.f
 len : e.ps.length ≤ 100
 cap : e.ps.length ≤ e.c
 wds : Words e.ps
 fit : fitF 16 i n e.ps.length = true
 salt : e.s < 18446744073709551616
 log : e.h.log < 18446744073709551616
 map : e.h.map < 18446744073709551616
 size : hdC key e.h = 0 → e.h.size = (n : Int)
 tick : hdC key e.h = 0 → e.f.known ≤ e.h.tick
 bad : first3 (filE e.f e.h.office) (hdC key e.h) (logG e.h e.f e.s e.ps i n) ≠ 0
def TK : List TypeId := [44, 29]
def PathAt (W : World) (H : List Nat) (A : Option Addr) (c : Nat) (ps : List Nat) : Prop := RepM TK H W (.slice A ps.length c) (.s 1 (valD (us ps)))
theorem PathAt.step {W W' : World} {A : Option Addr} {c : Nat} {ps : List Nat} {H H' : List Nat} (h : PathAt W H A c ps) {row : Option Nat} (hg : W.grownBy W' row) (hr : ∀ g, row = some g → g < W.heap.size → Hidden TK W g ∨ g ∈ H) (hH : ∀ i ∈ H', i ∈ H ∨ W.heap.size ≤ i) : PathAt W' H' A c ps := RepM.step h hg hr hH
theorem PathAt.row {W : World} {A : Option Addr} {c : Nat} {ps : List Nat} {H : List Nat} (h : PathAt W H A c ps) : RowU W A ps := fun k hk => by
 obtain ⟨A', c', e, hc, hcell⟩ := Rep.row (RepM.out h)
 injection e with e1 _ _
 subst e1
 obtain ⟨b, o, e2, _, h2⟩ := hcell k (.int .u64 (ps[k] : Int)) (by simp [us, hk])
 exact ⟨b, o, e2, h2⟩
structure Lst (w1 W : World) (base : Nat) (key i n : Nat) (v : Value) (es : List El) : Prop where
 own : OwnV W base 44 30 v (es.flatMap fun e => e.C.toList)
 bad : ∀ e ∈ es, e.Bad w1 key i n
 path : ∀ e ∈ es, PathAt W [] e.A e.c e.ps
theorem Lst.step {w1 W W' : World} {base key i n : Nat} {v : Value} {es : List El} (h : Lst w1 W base key i n v es) {row : Option Nat} (hg : W.grownBy W' row) (hr : ∀ g, row = some g → v.ownBlock ≠ some g ∧ (g < W.heap.size → Hidden TK W g)) : Lst w1 W' base key i n v es :=
 ⟨h.own.kept hg (fun g e => (hr g e).1), h.bad, fun e he => (h.path e he).step hg (fun g e hlt => .inl ((hr g e).2 hlt)) (fun _ hi => .inl hi)⟩
theorem Lst.app {w1 W W' : World} {base key i n : Nat} {v v' : Value} {es : List El} {e : El} (h : Lst w1 W base key i n v es) (he : e.Bad w1 key i n) (hp : PathAt W [] e.A e.c e.ps) (hg : W.grownBy W' v.ownBlock) (ho : OwnV W' base 44 30 v' ((es.flatMap fun e => e.C.toList) ++ e.C.toList)) : Lst w1 W' base key i n v' (es ++ [e]) := by
 have hh : ∀ g, v.ownBlock = some g → g < W.heap.size → Hidden TK W g := fun g e _ => by
  obtain ⟨cs, hb⟩ := OwnM.blk h.own g e
  exact hb.hidden (by decide)
 refine ⟨by rw [List.flatMap_append, List.flatMap_cons, List.flatMap_nil, List.append_nil]; exact ho, fun x hx => ?_, fun x hx => ?_⟩
 ·rcases List.mem_append.1 hx with hx | hx
  ·exact h.bad x hx
  ·rw [List.mem_singleton.1 hx]; exact he
 ·rcases List.mem_append.1 hx with hx | hx
  ·exact (h.path x hx).step hg (fun g e hlt => .inl (hh g e hlt)) (fun _ hi => .inl hi)
  ·rw [List.mem_singleton.1 hx]; exact hp.step hg (fun g e hlt => .inl (hh g e hlt)) (fun _ hi => .inl hi)
end Go.Proofs.YtbeaijjaecaidaaGreatDoor
namespace Go.Proofs.YtbeaijjaecaidaaGreatDoor
open Go.RowKit Go.Shelf
attribute [local go_sem] Oper.semAt_some
theorem tick_ge : ∀ (l : List Fil) (t : Int), t ≤ l.foldl (fun t f => if t < f.known then f.known else t) t ∧ ∀ f ∈ l, f.known ≤ l.foldl (fun t f => if t < f.known then f.known else t) t
 | [], t => ⟨Int.le_refl _, fun f hf => by cases hf⟩
 | a :: l, t => by
  rw [List.foldl_cons]
  obtain ⟨h1, h2⟩ := tick_ge l (if t < a.known then a.known else t)
  have h3 : t ≤ (if t < a.known then a.known else t) ∧ a.known ≤ (if t < a.known then a.known else t) := by split <;> omega
  generalize (if t < a.known then a.known else t) = t2 at *
  refine ⟨by omega, fun f hf => ?_⟩
  rcases List.mem_cons.1 hf with rfl | hf
  ·omega
  ·exact h2 f hf
theorem tick_le {b : Int} : ∀ (l : List Fil) (t : Int), t ≤ b → (∀ f ∈ l, f.known ≤ b) → l.foldl (fun t f => if t < f.known then f.known else t) t ≤ b
 | [], t, h, _ => h
 | a :: l, t, h, hl => by
  rw [List.foldl_cons]
  refine tick_le l _ ?_ (fun f hf => hl f (List.mem_cons_of_mem _ hf))
  have := hl a List.mem_cons_self
  split <;> omega
def psOf (fl : List Fil) (i : Nat) : List Nat := pathF 16 (logN fl) i
def hOf (sec : Nat) (fl : List Fil) (o : Int) : Hd := hdOf sec fl o fl.length (rootF 16 (logN fl))
theorem words_log (fl : List Fil) : Words (logN fl) := fun x hx => by
 unfold logN at hx
 obtain ⟨i, hi, rfl⟩ := List.mem_mapIdx.1 hx
 exact lab_lt _ _
theorem log_get {fl : List Fil} {i : Nat} (hi : i < fl.length) : (logN fl)[i]'(by rw [logN_length]; exact hi) = commitN (encA fl[i]) (saltN i) := by
 unfold logN
 rw [List.getElem_mapIdx]
 rfl
theorem of_fit {fl : List Fil} {i : Nat} (hi : i < fl.length) (hl : fl.length ≤ 14) : climbF 16 i fl.length (commitN (encA fl[i]) (saltN i)) (psOf fl i) = rootF 16 (logN fl) ∧ fitF 16 i fl.length (psOf fl i).length = true := by
 have h := climb_path 16 (logN fl) i (by rw [logN_length]; exact hi) (by rw [logN_length]; omega)
 rw [log_get hi, logN_length] at h
 exact h
theorem of_head (sec : Nat) {fl : List Fil} {o : Int} (hl : fl.length ≤ 14) (h1 : 1 ≤ fl.length) (hok : ∀ f ∈ fl, OkFil f) (ho : 0 ≤ o ∧ o ≤ 11) : hdC (keyN sec) (hOf sec fl o) = 0 := by
 have ht : tickN (fl.take fl.length) = tickN fl := by rw [List.take_length]
 have h2 := (tick_ge fl 0).1
 have h3 := tick_le (b := 1099511627776) fl 0 (by omega) (fun f hf => (hok f hf).2.1.2)
 have hb : hdB (hOf sec fl o).office (hOf sec fl o).tick (hOf sec fl o).day (hOf sec fl o).size (hOf sec fl o).sld = true := by
  show hdB o (tickN (fl.take fl.length)) 9 (fl.length : Int) 0 = true
  rw [ht]
  unfold hdB inB tickN
  simp only [Bool.and_eq_true, decide_eq_true_eq]
  omega
 unfold hdC
 rw [if_pos hb]
 exact if_pos (hd_sign sec fl o fl.length (rootF 16 (logN fl)))
theorem of_tick (sec : Nat) {fl : List Fil} {o : Int} {i : Nat} (hi : i < fl.length) : fl[i].known ≤ (hOf sec fl o).tick := by
 show fl[i].known ≤ tickN (fl.take fl.length)
 rw [List.take_length]
 exact (tick_ge fl 0).2 _ (List.getElem_mem hi)
theorem OwnU.toV {W : World} {base : Nat} {v : Value} {l : List Nat} (h : OwnU W base v l) : OwnV W base 27 1 v (us l) := h
theorem OwnU.pathAt {W : World} {base : Nat} {A : Option Addr} {n c : Nat} {l : List Nat} (h : OwnU W base (.slice A n c) l) : n = l.length ∧ l.length ≤ c ∧ PathAt W [] A c l := by
 obtain ⟨A', c', e, h1, hcell⟩ := OwnV.cells h.toV (by omega) (m := l.length) (by rw [us_length, Nat.mul_one])
 injection e with e1 e2 e3
 subst e1 e2 e3
 refine ⟨rfl, h1, ?_⟩
 obtain ⟨n2, xs, o1, o2⟩ := h
 have e1 := RepL.plain o2
 subst e1
 rcases o1.2 with ⟨e, _⟩ | ⟨g, cap, cur, e, hg, hb, _⟩
 ·injection e with e1 e2 e3
  subst e1
  have : l = [] := List.eq_nil_of_length_eq_zero e2
  subst this
  subst e3
  exact .nil 1
 ·injection e with e1 e2 e3
  subst e1
  refine Rep.mk (cs := us l) (by rw [valD_length, us_length, Nat.mul_one]) h1 (o1.lt g rfl).2 (RepL.of_plain _ _ _) (fun j u hu => ?_)
  obtain ⟨b, e4, _, hc⟩ := hcell j u hu
  injection e4 with e4
  injection e4 with e4
  subst e4
  rw [Nat.zero_add]
  refine maskM_cell.2 ⟨hc, fun ⟨c2, t2, f2, e5, ht⟩ => ?_, fun h => by cases h⟩
  have e6 : W.heap[g]? = some (.cells c2 t2 f2) := e5
  rw [hb] at e6
  injection e6 with e6
  injection e6 with _ e7
  subst e7
  exact absurd ht (by decide)
theorem OwnU.far {W : World} {base : Nat} {A : Option Addr} {n c : Nat} {l : List Nat} (h : OwnU W base (.slice A n c) l) {W' : World} {g : Nat} (hg : W.grownBy W' (some g)) (hlt : g < base) : OwnU W' base (.slice A n c) l :=
 OwnV.kept h.toV hg (fun k e e2 => by
  injection e with e
  subst e
  have := (OwnM.lt h g e2).1
  omega)
set_option maxRecDepth 100000 in
set_option maxHeartbeats 2000000 in
theorem of_gen (sec : Nat) (hsec : sec < 18446744073709551616) (fl : List Fil) (hl : fl.length ≤ 14) (hok : ∀ f ∈ fl, OkFil f) (A : Option Addr) (c : Nat) (hc : fl.length ≤ c) (w : World) (B : Nat) (hBw : B ≤ w.heap.size) (hrow : FilRow w B A fl) (i : Nat) (hi : i < fl.length) :
  Calls Tryz.prog 11 #[.int .u64 (sec : Int), .slice A fl.length c, .int .i64 (i : Int), .int .i64 (fl.length : Int)] w fun e w' => ∃ C dv cv ev Ap cp, e = .returned (.agg C) ∧ IsCop C (hOf sec fl fl[i].office) (i : Int) fl[i] dv cv ev (saltN i) (.slice Ap (psOf fl i).length cp) ∧ C.all (·.oneCell') = true ∧ FilAt w B fl[i] dv cv ev ∧ (psOf fl i).length ≤ cp ∧ PathAt w' [] Ap cp (psOf fl i) ∧ Below w.heap.size w w' := by
 have htk : fl.take fl.length = fl := List.take_length
 have hll := logN_length fl
 refine (of_any sec hsec fl (by omega) hok A c hc w B hBw hrow i fl.length hi (Nat.le_refl _) (rootF 16 (logN fl)) (root_lt _ _) (fun W v => ∃ base, w.heap.size < base ∧ OwnU W base v (psOf fl i))
  (fun W v hr => ?_) (fun W v hlt hr => ?_) (fun W W' v hp hg => ?_)).mono ?_
 ·rw [htk] at hr
  obtain ⟨A2, c2, rfl, hc2, hcell⟩ := Rep.row hr
  rw [us_length] at hc2 ⊢
  obtain ⟨b, o, rfl, _, _⟩ := hcell 0 (.int .u64 ((logN fl)[0]'(by omega) : Int)) (by simp [us, show 0 < (logN fl).length by omega])
  exact refroot_any 16 (logN fl) b o c2 W (by omega) (by omega) (by omega) hc2 (words_log fl) (fun k hk => by
   obtain ⟨b2, o2, e, _, h2⟩ := hcell k (.int .u64 ((logN fl)[k] : Int)) (by simp [us, hk])
   injection e with e
   injection e with e1 e2
   subst e1 e2
   exact h2)
 ·rw [htk] at hr
  obtain ⟨A2, c2, rfl, hc2, hcell⟩ := Rep.row hr
  rw [us_length] at hc2 ⊢
  obtain ⟨b, o, rfl, _, _⟩ := hcell 0 (.int .u64 ((logN fl)[0]'(by omega) : Int)) (by simp [us, show 0 < (logN fl).length by omega])
  refine (refpath_any 16 (logN fl) i b o c2 W (by omega) (by omega) (by omega) (by omega) hc2 (words_log fl) (fun k hk => by
   obtain ⟨b2, o2, e, _, h2⟩ := hcell k (.int .u64 ((logN fl)[k] : Int)) (by simp [us, hk])
   injection e with e
   injection e with e1 e2
   subst e1 e2
   exact h2)).mono ?_
  rintro e w' ⟨u, rfl, o1, hb⟩
  obtain ⟨Au, nu, cu, rfl, _, _⟩ := OwnM.slice o1
  exact ⟨Au, nu, cu, rfl, ⟨_, hlt, o1⟩, hb⟩
 ·obtain ⟨base, hb, ho⟩ := hp
  obtain ⟨Au, nu, cu, rfl, _, _⟩ := OwnM.slice ho
  exact ⟨base, hb, ho.far hg hb⟩
 ·rintro e w' ⟨dv, cv, ev, Ap, np, cp, rfl, hf, ⟨base, hb, ho⟩, hbl⟩
  obtain ⟨rfl, hpc, hp⟩ := ho.pathAt
  exact ⟨_, dv, cv, ev, Ap, cp, rfl, cop_is _ _ _ _ _ _ _ _, cop_one _ _ _ _ _ _ _ hf.one, hf, hpc, hp, hbl⟩
end Go.Proofs.YtbeaijjaecaidaaGreatDoor
namespace Go.Proofs.YtbeaijjaecaidaaGreatDoor
open Go.RowKit Go.Shelf
theorem first_bad {a b c : Int} (h : a ≠ 0 ∨ b ≠ 0 ∨ c ≠ 0) : first3 a b c ≠ 0 := by
 unfold first3
 split
 ·split <;> omega
 ·assumption
theorem hdC_bad {key : Nat} {h : Hd} (hs : h.sign ≠ sigN key h) : hdC key h ≠ 0 := by
 unfold hdC
 rw [if_neg hs]
 split
 ·decide
 ·decide
theorem u64_ne {x n : Int} (h0 : 0 ≤ x) (h1 : x + n < 9223372036854775808) (hn : 1 ≤ n) : u64 x ≠ u64 (x + n) := by unfold u64; omega
theorem add_ne {x n : Nat} (hn : 1 ≤ n) (h1 : n < 18446744073709551616) : x ≠ (x + n) % 18446744073709551616 := by omega
structure GoodH (key : Nat) (h : Hd) : Prop where
 sign : h.sign = sigN key h
 off : 0 ≤ h.office ∧ h.office ≤ 11
 tick : 0 ≤ h.tick ∧ h.tick ≤ 1099511627776
 day : 0 ≤ h.day ∧ h.day ≤ 131072
 size : 0 ≤ h.size ∧ h.size ≤ 4096
 sld : 0 ≤ h.sld ∧ h.sld ≤ 4096
 log : h.log < 18446744073709551616
 map : h.map < 18446744073709551616
 sig : h.sign < 18446744073709551616
def hdBent (h : Hd) (n : Nat) : Nat → Hd
 | 0 => { h with office := h.office + (n : Int) }
 | 1 => { h with tick := h.tick + (n : Int) }
 | 2 => { h with day := h.day + (n : Int) }
 | 3 => { h with size := h.size + (n : Int) }
 | 4 => { h with log := (h.log + n) % 18446744073709551616 }
 | 5 => { h with map := (h.map + n) % 18446744073709551616 }
 | 6 => { h with sld := h.sld + (n : Int) }
 | _ => { h with sign := (h.sign + n) % 18446744073709551616 }
theorem bent_bad {key : Nat} {h : Hd} (hg : GoodH key h) {n : Nat} (h1 : 1 ≤ n) (h2 : n ≤ 1073741824) (j : Nat) : hdC key (hdBent h n j) ≠ 0 := by
 obtain ⟨hs, ho, ht, hd, hz, hl, hlg, hm, hsg⟩ := hg
 refine hdC_bad ?_
 match j with
 | 0 =>
  intro e
  have e2 : sigN key h = sigN key (hdBent h n 0) := hs.symm.trans e
  exact absurd (lab_one (p := [key]) (q := [u64 h.tick, u64 h.day, u64 h.size, h.log, h.map, u64 h.sld]) (u64_lt _) (u64_lt _) (wds_cons (u64_lt _) (wds_cons (u64_lt _) (wds_cons (u64_lt _) (wds_cons hlg (wds_cons hm (wds_cons (u64_lt _) wds_nil)))))) e2) (u64_ne (by omega) (by omega) (by omega))
 | 1 =>
  intro e
  have e2 : sigN key h = sigN key (hdBent h n 1) := hs.symm.trans e
  exact absurd (lab_one (p := [key, u64 h.office]) (q := [u64 h.day, u64 h.size, h.log, h.map, u64 h.sld]) (u64_lt _) (u64_lt _) (wds_cons (u64_lt _) (wds_cons (u64_lt _) (wds_cons hlg (wds_cons hm (wds_cons (u64_lt _) wds_nil))))) e2) (u64_ne (by omega) (by omega) (by omega))
 | 2 =>
  intro e
  have e2 : sigN key h = sigN key (hdBent h n 2) := hs.symm.trans e
  exact absurd (lab_one (p := [key, u64 h.office, u64 h.tick]) (q := [u64 h.size, h.log, h.map, u64 h.sld]) (u64_lt _) (u64_lt _) (wds_cons (u64_lt _) (wds_cons hlg (wds_cons hm (wds_cons (u64_lt _) wds_nil)))) e2) (u64_ne (by omega) (by omega) (by omega))
 | 3 =>
  intro e
  have e2 : sigN key h = sigN key (hdBent h n 3) := hs.symm.trans e
  exact absurd (lab_one (p := [key, u64 h.office, u64 h.tick, u64 h.day]) (q := [h.log, h.map, u64 h.sld]) (u64_lt _) (u64_lt _) (wds_cons hlg (wds_cons hm (wds_cons (u64_lt _) wds_nil))) e2) (u64_ne (by omega) (by omega) (by omega))
 | 4 =>
  intro e
  have e2 : sigN key h = sigN key (hdBent h n 4) := hs.symm.trans e
  exact absurd (lab_one (p := [key, u64 h.office, u64 h.tick, u64 h.day, u64 h.size]) (q := [h.map, u64 h.sld]) hlg (Nat.mod_lt _ (by omega)) (wds_cons hm (wds_cons (u64_lt _) wds_nil)) e2) (add_ne h1 (by omega))
 | 5 =>
  intro e
  have e2 : sigN key h = sigN key (hdBent h n 5) := hs.symm.trans e
  exact absurd (lab_one (p := [key, u64 h.office, u64 h.tick, u64 h.day, u64 h.size, h.log]) (q := [u64 h.sld]) hm (Nat.mod_lt _ (by omega)) (wds_cons (u64_lt _) wds_nil) e2) (add_ne h1 (by omega))
 | 6 =>
  intro e
  have e2 : sigN key h = sigN key (hdBent h n 6) := hs.symm.trans e
  exact absurd (lab_one (p := [key, u64 h.office, u64 h.tick, u64 h.day, u64 h.size, h.log, h.map]) (q := []) (u64_lt _) (u64_lt _) wds_nil e2) (u64_ne (by omega) (by omega) (by omega))
 | j + 7 =>
  intro e
  have e2 : (h.sign + n) % 18446744073709551616 = sigN key h := e
  rw [← hs] at e2
  exact add_ne h1 (by omega) e2.symm
theorem bent_log {key : Nat} {h : Hd} (hg : GoodH key h) (n j : Nat) : (hdBent h n j).log < 18446744073709551616 := by
 match j with
 | 0 | 1 | 2 | 3 | 5 | 6 => exact hg.log
 | 4 => exact Nat.mod_lt _ (by omega)
 | j + 7 => exact hg.log
theorem bent_map {key : Nat} {h : Hd} (hg : GoodH key h) (n j : Nat) : (hdBent h n j).map < 18446744073709551616 := by
 match j with
 | 0 | 1 | 2 | 3 | 4 | 6 => exact hg.map
 | 5 => exact Nat.mod_lt _ (by omega)
 | j + 7 => exact hg.map
structure Acc (w1 : World) (key i n : Nat) (e : El) : Prop where
 cop : IsCop e.C e.h (i : Int) e.f e.dv e.cv e.ev e.s (.slice e.A e.ps.length e.c)
 all : e.C.all (·.oneCell') = true
 one : OneV e.dv e.cv e.ev
 fil : FilAt w1 w1.heap.size e.f e.dv e.cv e.ev
 ok : OkFil e.f
 day : e.f.day ≤ 100000
 len : e.ps.length ≤ 100
 cap : e.ps.length ≤ e.c
 wds : Words e.ps
 fit : fitF 16 i n e.ps.length = true
 salt : e.s < 18446744073709551616
 good : GoodH key e.h
 hz : hdC key e.h = 0
 size : e.h.size = (n : Int)
 tick : e.f.known ≤ e.h.tick
 off : e.f.office = e.h.office
 root : e.h.log = climbF 16 i n (commitN (encA e.f) e.s) e.ps
section
variable {w1 : World} {key i n : Nat} {e : El}
theorem Acc.fine (h : Acc w1 key i n e) : first3 (filE e.f e.h.office) (hdC key e.h) (logG e.h e.f e.s e.ps i n) = 0 := by
 rw [fil_good e.f h.off, h.hz]
 unfold logG
 rw [if_pos h.root]
 rfl
theorem Acc.badSalt (h : Acc w1 key i n e) {k : Nat} (h1 : 1 ≤ k) (h2 : k ≤ 1073741824) : El.Bad { e with C := e.C.setIfInBounds 28 (.int .u64 (((e.s + k) % 18446744073709551616 : Nat) : Int)), s := (e.s + k) % 18446744073709551616 } w1 key i n :=
 ⟨h.cop.setSalt _, h.one, h.fil, h.ok, h.len, h.cap, h.wds, h.fit, Nat.mod_lt _ (by omega), h.good.log, h.good.map, fun _ => h.size, fun _ => h.tick, first_bad (.inr (.inr (by
  show logG e.h e.f ((e.s + k) % 18446744073709551616) e.ps i n ≠ 0
  unfold logG
  rw [if_neg (fun e2 => ?_)]
  ·omega
  ·exact add_ne h1 (by omega) (commit_inj h.salt (Nat.mod_lt _ (by omega)) (climb_entry 16 _ _ _ _ _ (commit_lt _ _) (commit_lt _ _) h.wds (by omega) (h.root.symm.trans e2) h.fit)))))⟩
theorem Acc.badHead (h : Acc w1 key i n e) {k : Nat} (h1 : 1 ≤ k) (h2 : k ≤ 1073741824) (j : Nat) {C : Array Value} (hC : IsCop C (hdBent e.h k j) (i : Int) e.f e.dv e.cv e.ev e.s (.slice e.A e.ps.length e.c)) : El.Bad { e with C := C, h := hdBent e.h k j } w1 key i n :=
 ⟨hC, h.one, h.fil, h.ok, h.len, h.cap, h.wds, h.fit, h.salt, bent_log h.good _ _, bent_map h.good _ _, fun e2 => absurd e2 (bent_bad h.good h1 h2 j), fun e2 => absurd e2 (bent_bad h.good h1 h2 j), first_bad (.inr (.inl (bent_bad h.good h1 h2 j)))⟩
theorem Acc.badPath (h : Acc w1 key i n e) {k : Nat} (h1 : 1 ≤ k) (h2 : k ≤ 1073741824) {j : Nat} (hj : j < e.ps.length) {C : Array Value} {A : Option Addr} {c : Nat} (hc : e.ps.length ≤ c) (hC : IsCop C e.h (i : Int) e.f e.dv e.cv e.ev e.s (.slice A e.ps.length c)) :
  El.Bad { e with C := C, A := A, c := c, ps := e.ps.set j ((e.ps[j] + k) % 18446744073709551616) } w1 key i n := by
 have hl : (e.ps.set j ((e.ps[j] + k) % 18446744073709551616)).length = e.ps.length := List.length_set
 have hx := h.wds _ (List.getElem_mem hj)
 refine ⟨by show IsCop C e.h (i : Int) e.f e.dv e.cv e.ev e.s (.slice A (e.ps.set j ((e.ps[j] + k) % 18446744073709551616)).length c); rw [hl]; exact hC, h.one, h.fil, h.ok, by show (e.ps.set j _).length ≤ 100; rw [List.length_set]; exact h.len, by show (e.ps.set j _).length ≤ c; rw [List.length_set]; exact hc, fun x hx => ?_, by show fitF 16 i n (e.ps.set j _).length = true; rw [List.length_set]; exact h.fit, h.salt, h.good.log, h.good.map, fun _ => h.size, fun _ => h.tick, first_bad (.inr (.inr ?_))⟩
 ·rcases List.mem_or_eq_of_mem_set hx with hx | rfl
  ·exact h.wds x hx
  ·exact Nat.mod_lt _ (by omega)
 ·show logG e.h e.f e.s (e.ps.set j ((e.ps[j] + k) % 18446744073709551616)) i n ≠ 0
  unfold logG
  rw [if_neg (fun e2 => ?_)]
  ·omega
  ·have e3 := climb_elem 16 i n _ e.ps j _ h.wds (Nat.mod_lt (e.ps[j] + k) (by omega)) hj (h.root.symm.trans e2) h.fit
   have e4 : e.ps.getD j 0 = e.ps[j] := by simp [List.getD, hj]
   rw [e4] at e3
   exact add_ne h1 (by omega) e3
def dayF (f : Fil) : Fil := { f with day := f.day + 1 }
theorem dayF_ok {f : Fil} (h : OkFil f) (hd : f.day ≤ 100000) : OkFil (dayF f) := by
 obtain ⟨h1, h2⟩ := h
 exact ⟨⟨by show 0 ≤ f.day + 1; omega, by show f.day + 1 ≤ 131072; omega⟩, h2⟩
theorem Acc.badDay (h : Acc w1 key i n e) {C : Array Value} (hC : IsCop C e.h (i : Int) (dayF e.f) e.dv e.cv e.ev e.s (.slice e.A e.ps.length e.c)) (hlen : (encA e.f).length = (encA (dayF e.f)).length) (hd : diffN (encA e.f) (encA (dayF e.f)) = 1) : El.Bad { e with C := C, f := dayF e.f } w1 key i n :=
 ⟨hC, h.one, h.fil, dayF_ok h.ok h.day, h.len, h.cap, h.wds, h.fit, h.salt, h.good.log, h.good.map, fun _ => h.size, fun _ => h.tick, first_bad (.inr (.inr (by
  show logG e.h (dayF e.f) e.s e.ps i n ≠ 0
  unfold logG
  rw [if_neg (fun e2 => ?_)]
  ·omega
  ·have hb := bytes_one (s := sSealed) (encA_bytes e.f) (encA_bytes (dayF e.f)) hlen (by have := encA_len h.ok; omega) hd
   exact commit_bytes hb (climb_entry 16 _ _ _ _ _ (commit_lt _ _) (commit_lt _ _) h.wds (by omega) (h.root.symm.trans e2) h.fit))))⟩
end
end Go.Proofs.YtbeaijjaecaidaaGreatDoor
namespace Go.Proofs.YtbeaijjaecaidaaGreatDoor
open Go.RowKit Go.Shelf
attribute [local go_sem] Oper.semAt_some
theorem live_row (W : World) (b0 b1 : Nat) (hb0 : Blk W b0 39 #[.int .i64 0, .int .i64 0, .slice none 0 0, .slice none 0 0])
  (hb1 : Blk W b1 41 (liveF.vals (.slice (some ⟨b0, 0, none⟩) 1 1) (.slice none 0 0) (.slice none 0 0))) : FilRow W W.heap.size (some ⟨b1, 0, none⟩) [liveF] := fun k hk => by
 have hk : k < 1 := hk
 obtain rfl : k = 0 := by omega
 refine ⟨b1, 0, .slice (some ⟨b0, 0, none⟩) 1 1, .slice none 0 0, .slice none 0 0, rfl, hb1.lt, fun j u hu => ?_, ?_, .nil _, .nil _⟩
 ·rw [Nat.zero_mul, Nat.zero_add, hb1.cell j, ← Array.getElem?_toList]
  exact hu
 ·refine Rep.mk (cs := [.int .i64 0, .int .i64 0, .slice none 0 0, .slice none 0 0]) rfl (Nat.le_refl _) hb0.lt ?_ (fun j u hu => ?_)
  ·exact RepL.cons (.v _) (RepL.cons (.v _) (RepL.cons (.nil _) (RepL.cons (.nil _) (RepL.nil _ _))))
  ·rw [Nat.zero_add, hb0.cell j, ← Array.getElem?_toList]
   exact hu
set_option maxRecDepth 100000 in
set_option maxHeartbeats 4000000 in
theorem live_of (W : World) (b0 b1 : Nat) (hb0 : Blk W b0 39 #[.int .i64 0, .int .i64 0, .slice none 0 0, .slice none 0 0])
  (hb1 : Blk W b1 41 (liveF.vals (.slice (some ⟨b0, 0, none⟩) 1 1) (.slice none 0 0) (.slice none 0 0))) :
  Calls Tryz.prog 11 #[.int .u64 6, .slice (some ⟨b1, 0, none⟩) 1 1, .int .i64 0, .int .i64 1] W fun e w' => ∃ C dv cv ev, e = .returned (.agg C) ∧ IsCop C (hdOf 6 [liveF] 1 1 (leafN (entN 0 liveF))) 0 liveF dv cv ev (saltN 0) (.slice none 0 0) ∧ C.all (·.oneCell') = true ∧ FilAt W W.heap.size liveF dv cv ev ∧ Below W.heap.size W w' := by
 refine (of_any 6 (by omega) [liveF] (by decide) (fun f hf => by rw [List.mem_singleton.1 hf]; exact liveF_ok) (some ⟨b1, 0, none⟩) 1 (by decide) W W.heap.size (Nat.le_refl _) (live_row W b0 b1 hb0 hb1) 0 1 (by decide) (by decide) (leafN (entN 0 liveF)) (lab_lt _ _) (fun _ v => v = .slice none 0 0)
  (fun V v hr => ?_) (fun V v _ hr => ?_) (fun _ _ _ h _ => h)).mono ?_
 ·obtain ⟨A, c, rfl, hc, hcell⟩ := Rep.row hr
  obtain ⟨b, o, rfl, _, h1⟩ := hcell 0 (.int .u64 (entN 0 liveF : Int)) rfl
  exact refroot_one (entN 0 liveF) (lab_lt _ _) b o c V h1
 ·obtain ⟨A, c, rfl, hc, hcell⟩ := Rep.row hr
  refine (refpath_one A c 0 V).mono ?_
  rintro e w' ⟨rfl, rfl⟩
  exact ⟨none, 0, 0, rfl, rfl, Below.refl _ _⟩
 ·rintro e w' ⟨dv, cv, ev, Ap, np, cp, rfl, hf, hp, hb⟩
  rw [hp]
  exact ⟨_, dv, cv, ev, rfl, cop_is _ _ _ _ _ _ _ _, cop_one _ _ _ _ _ _ _ hf.one, hf, hb⟩
theorem liveF2_ok : OkFil { liveF with office := 2 } := by
 obtain ⟨h1, h2, h3, h4, h5⟩ := liveF_ok
 exact ⟨h1, h2, h3, by decide, h5⟩
theorem one_set {C : Array Value} {i : Nat} {v : Value} (h : C.all (·.oneCell') = true) (hv : v.oneCell' = true) : (C.setIfInBounds i v).all (·.oneCell') = true := by
 rw [Array.all_eq_true_iff_forall_mem] at *
 intro x hx
 rcases Array.mem_or_eq_of_mem_setIfInBounds hx with hx | rfl
 ·exact h x hx
 ·exact hv
set_option maxRecDepth 100000 in
set_option maxHeartbeats 4000000 in
theorem lives_any (w : World) (hG : w.cell? ⟨0, 0, none⟩ = some (.int .i64 655)) (h0 : 0 < w.heap.size) :
  Calls Tryz.prog 9 #[] w fun e w' => e = .returned (.bool true) ∧ Below w.heap.size w w' := by
 have hs1 : (w.alloc (.cells #[.int .i64 0, .int .i64 0, .slice none 0 0, .slice none 0 0] 39)).heap.size = w.heap.size + 1 := World.size_alloc ..
 have b0 := (Blk.new w 39 #[.int .i64 0, .int .i64 0, .slice none 0 0, .slice none 0 0]).alloc (.cells #[.int .i64 0, .int .i64 7, .int .i64 2, .int .i64 3, .int .i64 1, .int .i64 4, .int .i64 (-1), .int .i64 0, .int .i64 0, .int .i64 0, .int .i64 0, .slice (some ⟨w.heap.size, 0, none⟩) 1 1, .slice none 0 0, .slice none 0 0, .slice none 0 0, .int .i64 0, .int .i64 0, .slice none 0 0, .slice none 0 0] 41)
 have b1 := Blk.new (w.alloc (.cells #[.int .i64 0, .int .i64 0, .slice none 0 0, .slice none 0 0] 39)) 41 #[.int .i64 0, .int .i64 7, .int .i64 2, .int .i64 3, .int .i64 1, .int .i64 4, .int .i64 (-1), .int .i64 0, .int .i64 0, .int .i64 0, .int .i64 0, .slice (some ⟨w.heap.size, 0, none⟩) 1 1, .slice none 0 0, .slice none 0 0, .slice none 0 0, .int .i64 0, .int .i64 0, .slice none 0 0, .slice none 0 0]
 rw [hs1] at b1
 have P2 := (below_new w (.cells #[.int .i64 0, .int .i64 0, .slice none 0 0, .slice none 0 0] 39)).alloc (by simp) (.cells #[.int .i64 0, .int .i64 7, .int .i64 2, .int .i64 3, .int .i64 1, .int .i64 4, .int .i64 (-1), .int .i64 0, .int .i64 0, .int .i64 0, .int .i64 0, .slice (some ⟨w.heap.size, 0, none⟩) 1 1, .slice none 0 0, .slice none 0 0, .slice none 0 0, .int .i64 0, .int .i64 0, .slice none 0 0, .slice none 0 0] 41)
 clear hs1
 go_enter Tryz.func9, Tryz.ntmps9
 go_upto_region 2 with fail
 generalize (w.alloc (.cells #[.int .i64 0, .int .i64 0, .slice none 0 0, .slice none 0 0] 39)).alloc (.cells #[.int .i64 0, .int .i64 7, .int .i64 2, .int .i64 3, .int .i64 1, .int .i64 4, .int .i64 (-1), .int .i64 0, .int .i64 0, .int .i64 0, .int .i64 0, .slice (some ⟨w.heap.size, 0, none⟩) 1 1, .slice none 0 0, .slice none 0 0, .slice none 0 0, .int .i64 0, .int .i64 0, .slice none 0 0, .slice none 0 0] 41) = w2 at *
 have HOF := Lib.hid (live_of w2 _ _ b0 b1)
 clear b0 b1
 have hG2 := (P2.cell (p := ⟨0, 0, none⟩) h0).trans hG
 have h02 := Nat.lt_of_lt_of_le h0 P2.size
 clear hG h0
 go_wp2_with fail
 refine HOF.out.mono ?_
 rintro e w3 ⟨C, dv, cv, ev, rfl, hC, hC1, hf, hb3⟩
 have P3 := below_up P2 hb3 P2.size
 have hG3 := (hb3.cell (p := ⟨0, 0, none⟩) h02).trans hG2
 have h03 := Nat.lt_of_lt_of_le h02 hb3.size
 have hf3 : FilAt w3 w2.heap.size liveF dv cv ev := hf.keep (fun p hp => hb3.cell hp) (Nat.le_refl _)
 have hB3 := hb3.size
 have hone := hf.one
 have hsign := hd_sign 6 [liveF] 1 1 (leafN (entN 0 liveF))
 have hlog : (hdOf 6 [liveF] 1 1 (leafN (entN 0 liveF))).log = leafN (commitN (encA liveF) (saltN 0)) := rfl
 have hoff : (hdOf 6 [liveF] 1 1 (leafN (entN 0 liveF))).office = 1 := rfl
 have hsz1 : (hdOf 6 [liveF] 1 1 (leafN (entN 0 liveF))).size = 1 := rfl
 have hkt : liveF.known ≤ (hdOf 6 [liveF] 1 1 (leafN (entN 0 liveF))).tick := by decide
 have hhd : OkHd (hdOf 6 [liveF] 1 1 (leafN (entN 0 liveF))).office (hdOf 6 [liveF] 1 1 (leafN (entN 0 liveF))).tick (hdOf 6 [liveF] 1 1 (leafN (entN 0 liveF))).day (hdOf 6 [liveF] 1 1 (leafN (entN 0 liveF))).size (hdOf 6 [liveF] 1 1 (leafN (entN 0 liveF))).sld := ⟨by decide, by decide, by decide, by decide, by decide⟩
 have hll : (hdOf 6 [liveF] 1 1 (leafN (entN 0 liveF))).log < 18446744073709551616 := lab_lt _ _
 have hmm : (hdOf 6 [liveF] 1 1 (leafN (entN 0 liveF))).map < 18446744073709551616 := by decide
 have hslt : saltN 0 < 18446744073709551616 := lab_lt _ _
 have hklt : keyN 6 < 18446744073709551616 := lab_lt _ _
 have HKEY := Lib.hid (fun (W : World) => key_any 6 (by omega) W)
 generalize hdOf 6 [liveF] 1 1 (leafN (entN 0 liveF)) = h at *
 generalize saltN 0 = s at *
 generalize keyN 6 = key at *
 clear HOF hb3 hf hG2 h02 P2
 have hcs := hC.size
 have Z1 := Blk.new w3 44 #[.int .i64 0, .int .i64 0, .int .i64 0, .int .i64 0, .int .u64 0, .int .u64 0, .int .i64 0, .int .u64 0, .int .i64 0, .int .i64 0, .int .i64 0, .int .i64 0, .int .i64 0, .int .i64 0, .int .i64 0, .int .i64 0, .int .i64 0, .int .i64 0, .int .i64 0, .int .i64 0, .slice none 0 0, .slice none 0 0, .slice none 0 0, .slice none 0 0, .int .i64 0, .int .i64 0, .slice none 0 0, .slice none 0 0, .int .u64 0, .slice none 0 0]
 go_upto_region 3 with (refine wpList_storeW (T := 44) (n := 30) (by kernel_rfl) Z1 rfl _ _ rfl rfl rfl C rfl hcs hC1 ?_; intro w4 Y4 g4)
 have P4 := (P3.alloc P3.size (.cells #[.int .i64 0, .int .i64 0, .int .i64 0, .int .i64 0, .int .u64 0, .int .u64 0, .int .i64 0, .int .u64 0, .int .i64 0, .int .i64 0, .int .i64 0, .int .i64 0, .int .i64 0, .int .i64 0, .int .i64 0, .int .i64 0, .int .i64 0, .int .i64 0, .int .i64 0, .int .i64 0, .slice none 0 0, .slice none 0 0, .slice none 0 0, .slice none 0 0, .int .i64 0, .int .i64 0, .slice none 0 0, .slice none 0 0, .int .u64 0, .slice none 0 0] 44)).grown g4 (Nat.le_trans P3.size (by simp)) (fun k e => by injection e with e; have := P3.size; omega)
 have Q4 := (below_new w3 (.cells #[.int .i64 0, .int .i64 0, .int .i64 0, .int .i64 0, .int .u64 0, .int .u64 0, .int .i64 0, .int .u64 0, .int .i64 0, .int .i64 0, .int .i64 0, .int .i64 0, .int .i64 0, .int .i64 0, .int .i64 0, .int .i64 0, .int .i64 0, .int .i64 0, .int .i64 0, .int .i64 0, .slice none 0 0, .slice none 0 0, .slice none 0 0, .slice none 0 0, .int .i64 0, .int .i64 0, .slice none 0 0, .slice none 0 0, .int .u64 0, .slice none 0 0] 44)).grown g4 (by simp) (fun k e => by injection e with e; omega)
 have hs4 := Y4.lt
 clear Z1 g4
 have Z2 := Blk.new w4 44 #[.int .i64 0, .int .i64 0, .int .i64 0, .int .i64 0, .int .u64 0, .int .u64 0, .int .i64 0, .int .u64 0, .int .i64 0, .int .i64 0, .int .i64 0, .int .i64 0, .int .i64 0, .int .i64 0, .int .i64 0, .int .i64 0, .int .i64 0, .int .i64 0, .int .i64 0, .int .i64 0, .slice none 0 0, .slice none 0 0, .slice none 0 0, .slice none 0 0, .int .i64 0, .int .i64 0, .slice none 0 0, .slice none 0 0, .int .u64 0, .slice none 0 0]
 have Y4a := Y4.alloc (.cells #[.int .i64 0, .int .i64 0, .int .i64 0, .int .i64 0, .int .u64 0, .int .u64 0, .int .i64 0, .int .u64 0, .int .i64 0, .int .i64 0, .int .i64 0, .int .i64 0, .int .i64 0, .int .i64 0, .int .i64 0, .int .i64 0, .int .i64 0, .int .i64 0, .int .i64 0, .int .i64 0, .slice none 0 0, .slice none 0 0, .slice none 0 0, .slice none 0 0, .int .i64 0, .int .i64 0, .slice none 0 0, .slice none 0 0, .int .u64 0, .slice none 0 0] 44)
 go_upto_region 4 with (first | (refine wpList_loadK Y4 hcs _ rfl rfl rfl ?_) | (refine wpList_storeW (T := 44) (n := 30) (by kernel_rfl) Z2 rfl _ _ rfl rfl rfl C rfl hcs hC1 ?_; intro w5 Y5 g5))
 have X5 := Y4a.grown g5 (fun e => by injection e with e; omega)
 have P5 := (P4.alloc P4.size (.cells #[.int .i64 0, .int .i64 0, .int .i64 0, .int .i64 0, .int .u64 0, .int .u64 0, .int .i64 0, .int .u64 0, .int .i64 0, .int .i64 0, .int .i64 0, .int .i64 0, .int .i64 0, .int .i64 0, .int .i64 0, .int .i64 0, .int .i64 0, .int .i64 0, .int .i64 0, .int .i64 0, .slice none 0 0, .slice none 0 0, .slice none 0 0, .slice none 0 0, .int .i64 0, .int .i64 0, .slice none 0 0, .slice none 0 0, .int .u64 0, .slice none 0 0] 44)).grown g5 (Nat.le_trans P4.size (by simp)) (fun k e => by injection e with e; have := P4.size; omega)
 have Q5 := (Q4.alloc Q4.size (.cells #[.int .i64 0, .int .i64 0, .int .i64 0, .int .i64 0, .int .u64 0, .int .u64 0, .int .i64 0, .int .u64 0, .int .i64 0, .int .i64 0, .int .i64 0, .int .i64 0, .int .i64 0, .int .i64 0, .int .i64 0, .int .i64 0, .int .i64 0, .int .i64 0, .int .i64 0, .int .i64 0, .slice none 0 0, .slice none 0 0, .slice none 0 0, .slice none 0 0, .int .i64 0, .int .i64 0, .slice none 0 0, .slice none 0 0, .int .u64 0, .slice none 0 0] 44)).grown g5 (Nat.le_trans Q4.size (by simp)) (fun k e => by injection e with e; have := Q4.size; omega)
 clear Z2 Y4a Y4 g5 P4 Q4
 have hc28 := Y5.cellAt 28 _ hC.salt
 have hf28 := Y5.frozen 28
 have hw : IntKind.u64.wrap ((s : Int) + 1) = (((s + 1) % 18446744073709551616 : Nat) : Int) := by
  rw [IntKind.wrap_u64]; omega
 have hs' : (s + 1) % 18446744073709551616 < 18446744073709551616 := Nat.mod_lt _ (by omega)
 have hne : s ≠ (s + 1) % 18446744073709551616 := next_ne
 have hD := hC.setSalt ((s + 1) % 18446744073709551616)
 generalize (s + 1) % 18446744073709551616 = s1 at *
 go_upto_region 5 with fail
 have Y6 := Y5.set 28 (.int .u64 (s1 : Int))
 have X6 := X5.far (p := ⟨w4.heap.size, 28, none⟩) (Nat.ne_of_lt hs4) (.int .u64 (s1 : Int))
 have P6 := P5.setCell (p := ⟨w4.heap.size, 28, none⟩) (Nat.le_trans (Nat.le_trans P3.size (Nat.le_of_lt hs4)) (Nat.le_refl _)) (.int .u64 (s1 : Int))
 have Q6 := Q5.setCell (p := ⟨w4.heap.size, 28, none⟩) (Nat.le_of_lt hs4) (.int .u64 (s1 : Int))
 have hD1 := one_set (i := 28) hC1 (v := .int .u64 (s1 : Int)) rfl
 clear X5 Y5 P5 Q5 hw hc28 hf28
 generalize w5.setCell ⟨w4.heap.size, 28, none⟩ (.int .u64 (s1 : Int)) = w6 at *
 generalize C.setIfInBounds 28 (.int .u64 (s1 : Int)) = D at *
 generalize hb4 : w4.heap.size = n4 at *
 clear hb4 w4 w5
 have hs6 := Y6.lt
 have Z3 := Blk.new w6 44 #[.int .i64 0, .int .i64 0, .int .i64 0, .int .i64 0, .int .u64 0, .int .u64 0, .int .i64 0, .int .u64 0, .int .i64 0, .int .i64 0, .int .i64 0, .int .i64 0, .int .i64 0, .int .i64 0, .int .i64 0, .int .i64 0, .int .i64 0, .int .i64 0, .int .i64 0, .int .i64 0, .slice none 0 0, .slice none 0 0, .slice none 0 0, .slice none 0 0, .int .i64 0, .int .i64 0, .slice none 0 0, .slice none 0 0, .int .u64 0, .slice none 0 0]
 have X6a := X6.alloc (.cells #[.int .i64 0, .int .i64 0, .int .i64 0, .int .i64 0, .int .u64 0, .int .u64 0, .int .i64 0, .int .u64 0, .int .i64 0, .int .i64 0, .int .i64 0, .int .i64 0, .int .i64 0, .int .i64 0, .int .i64 0, .int .i64 0, .int .i64 0, .int .i64 0, .int .i64 0, .int .i64 0, .slice none 0 0, .slice none 0 0, .slice none 0 0, .slice none 0 0, .int .i64 0, .int .i64 0, .slice none 0 0, .slice none 0 0, .int .u64 0, .slice none 0 0] 44)
 have Y6a := Y6.alloc (.cells #[.int .i64 0, .int .i64 0, .int .i64 0, .int .i64 0, .int .u64 0, .int .u64 0, .int .i64 0, .int .u64 0, .int .i64 0, .int .i64 0, .int .i64 0, .int .i64 0, .int .i64 0, .int .i64 0, .int .i64 0, .int .i64 0, .int .i64 0, .int .i64 0, .int .i64 0, .int .i64 0, .slice none 0 0, .slice none 0 0, .slice none 0 0, .slice none 0 0, .int .i64 0, .int .i64 0, .slice none 0 0, .slice none 0 0, .int .u64 0, .slice none 0 0] 44)
 go_upto_region 6 with (first | (refine wpList_loadK X6 hcs _ rfl rfl rfl ?_) | (refine wpList_storeW (T := 44) (n := 30) (by kernel_rfl) Z3 rfl _ _ rfl rfl rfl C rfl hcs hC1 ?_; intro w7 Y7 g7))
 have X7 := X6a.grown g7 (fun e => by injection e with e; omega)
 have D7 := Y6a.grown g7 (fun e => by injection e with e; omega)
 have P7 := (P6.alloc P6.size (.cells #[.int .i64 0, .int .i64 0, .int .i64 0, .int .i64 0, .int .u64 0, .int .u64 0, .int .i64 0, .int .u64 0, .int .i64 0, .int .i64 0, .int .i64 0, .int .i64 0, .int .i64 0, .int .i64 0, .int .i64 0, .int .i64 0, .int .i64 0, .int .i64 0, .int .i64 0, .int .i64 0, .slice none 0 0, .slice none 0 0, .slice none 0 0, .slice none 0 0, .int .i64 0, .int .i64 0, .slice none 0 0, .slice none 0 0, .int .u64 0, .slice none 0 0] 44)).grown g7 (Nat.le_trans P6.size (by simp)) (fun k e => by injection e with e; have := P6.size; omega)
 have Q7 := (Q6.alloc Q6.size (.cells #[.int .i64 0, .int .i64 0, .int .i64 0, .int .i64 0, .int .u64 0, .int .u64 0, .int .i64 0, .int .u64 0, .int .i64 0, .int .i64 0, .int .i64 0, .int .i64 0, .int .i64 0, .int .i64 0, .int .i64 0, .int .i64 0, .int .i64 0, .int .i64 0, .int .i64 0, .int .i64 0, .slice none 0 0, .slice none 0 0, .slice none 0 0, .slice none 0 0, .int .i64 0, .int .i64 0, .slice none 0 0, .slice none 0 0, .int .u64 0, .slice none 0 0] 44)).grown g7 (Nat.le_trans Q6.size (by simp)) (fun k e => by injection e with e; have := Q6.size; omega)
 have hs7 := Y7.lt
 clear Z3 X6a Y6a X6 Y6 g7 P6 Q6
 have hE := hC.setOffice 2
 have hc13 : w7.cell? ⟨w6.heap.size, 13, none⟩ = some (.int .i64 liveF.office) := Y7.cellAt 13 _ (hC.act 4 _ rfl)
 have hf13 := Y7.frozen 13
 go_upto_region 7 with fail
 have Y8 := Y7.set 13 (.int .i64 2)
 have X8 := X7.far (p := ⟨w6.heap.size, 13, none⟩) (by show w3.heap.size ≠ w6.heap.size; omega) (.int .i64 2)
 have D8 := D7.far (p := ⟨w6.heap.size, 13, none⟩) (Nat.ne_of_lt hs6) (.int .i64 2)
 have P8 := P7.setCell (p := ⟨w6.heap.size, 13, none⟩) (by have := P3.size; show w.heap.size ≤ w6.heap.size; omega) (.int .i64 2)
 have Q8 := Q7.setCell (p := ⟨w6.heap.size, 13, none⟩) (by show w3.heap.size ≤ w6.heap.size; omega) (.int .i64 2)
 clear X7 Y7 D7 P7 Q7 hc13 hf13
 generalize w7.setCell ⟨w6.heap.size, 13, none⟩ (.int .i64 2) = w8 at *
 have hes := hE.size
 have hds := hD.size
 generalize C.setIfInBounds 13 (.int .i64 2) = E at *
 have hFO : liveF.office = 1 := rfl
 have HKW : ∀ W, Below w3.heap.size w3 W → W.cell? ⟨0, 0, none⟩ = some (.int .i64 655) ∧ 0 < W.heap.size ∧ w2.heap.size ≤ W.heap.size ∧ FilAt W w2.heap.size liveF dv cv ev := fun W hW => ⟨(hW.cell (p := ⟨0, 0, none⟩) h03).trans hG3, Nat.lt_of_lt_of_le h03 hW.size, Nat.le_trans hB3 hW.size, hf3.keep (fun p hp => hW.cell (Nat.lt_of_lt_of_le hp hB3)) (Nat.le_refl _)⟩
 have RC := Lib.hid (fun (W : World) => real_any hC hone W)
 have RD := Lib.hid (fun (W : World) => real_any hD hone W)
 have RE := Lib.hid (fun (W : World) => real_any hE hone W)
 have hk1 : (key + 1) % 18446744073709551616 < 18446744073709551616 := Nat.mod_lt _ (by omega)
 have hkne : key ≠ (key + 1) % 18446744073709551616 := next_ne
 have hwk : IntKind.u64.wrap ((key : Int) + 1) = (((key + 1) % 18446744073709551616 : Nat) : Int) := by
  rw [IntKind.wrap_u64]; omega
 generalize (key + 1) % 18446744073709551616 = key1 at *
 have CC := Lib.hid (fun (W : World) (hW : Below w3.heap.size w3 W) => ccheck_any (cop_is h 0 liveF dv cv ev s (.slice none 0 0)) liveF_ok key hklt hsz1 hkt hslt hll hmm hhd W (HKW W hW).1 (HKW W hW).2.1 w2.heap.size (HKW W hW).2.2.1 (HKW W hW).2.2.2)
 have CD := Lib.hid (fun (W : World) (hW : Below w3.heap.size w3 W) => ccheck_any (cop_is h 0 liveF dv cv ev s1 (.slice none 0 0)) liveF_ok key hklt hsz1 hkt hs' hll hmm hhd W (HKW W hW).1 (HKW W hW).2.1 w2.heap.size (HKW W hW).2.2.1 (HKW W hW).2.2.2)
 have CK := Lib.hid (fun (W : World) (hW : Below w3.heap.size w3 W) => ccheck_any (cop_is h 0 liveF dv cv ev s (.slice none 0 0)) liveF_ok key1 hk1 hsz1 hkt hslt hll hmm hhd W (HKW W hW).1 (HKW W hW).2.1 w2.heap.size (HKW W hW).2.2.1 (HKW W hW).2.2.2)
 have CE := Lib.hid (fun (W : World) (hW : Below w3.heap.size w3 W) => ccheck_any (cop_is h 0 { liveF with office := 2 } dv cv ev s (.slice none 0 0)) liveF2_ok key hklt hsz1 hkt hslt hll hmm hhd W (HKW W hW).1 (HKW W hW).2.1 w2.heap.size (HKW W hW).2.2.1 (HKW W hW).2.2.2)
 rw [fil_good liveF (hFO.trans hoff.symm), hd_good hsign, log_good hlog] at CC
 rw [fil_good liveF (hFO.trans hoff.symm), hd_good hsign, log_bad hlog hslt hs' hne] at CD
 rw [fil_good liveF (hFO.trans hoff.symm), hd_bad hsign hklt hk1 hll hmm hkne] at CK
 rw [fil_bad { liveF with office := 2 } (fun e => by rw [hoff] at e; cases e)] at CE
 unfold first3 at CC CD CK CE
 simp only [if_true, if_neg (show ¬ ((22 : Int) = 0) by decide), if_neg (show ¬ ((23 : Int) = 0) by decide)] at CC CD CK CE
 generalize cop h 0 { liveF with office := 2 } dv cv ev s (.slice none 0 0) = E1 at *
 generalize cop h 0 liveF dv cv ev s (.slice none 0 0) = C1 at *
 generalize cop h 0 liveF dv cv ev s1 (.slice none 0 0) = D1 at *
 have hp29 := hC.path
 clear HKW hC hD hE hC1 hD1 hf3 hG3 h03 hB3 hone hsign hlog hoff hsz1 hkt hhd hll hmm hslt hs' hne hklt hk1 hkne hFO P3
 go_upto_region 8 with (go_at_call 12; refine (HKEY.out _).mono ?_; rintro e wn ⟨rfl, hbn⟩; replace X8 := X8.keep hbn; replace D8 := D8.keep hbn; replace Y8 := Y8.keep hbn; replace P8 := below_up P8 hbn P8.size; replace Q8 := below_up Q8 hbn Q8.size; clear hbn)
 have hc29 : ∀ W, Blk W w3.heap.size 44 C → W.cell? ⟨w3.heap.size, 29, none⟩ = some (.slice none 0 0) := fun W hW => hW.cellAt 29 _ hp29
 have hc := hc29 _ X8
 clear hc29
 go_wp2_with (refine wpList_loadK X8 hcs _ rfl rfl rfl ?_)
 refine (RC.out _).mono ?_
 rintro e wn ⟨rfl, hbn⟩
 replace X8 := X8.keep hbn
 replace D8 := D8.keep hbn
 replace Y8 := Y8.keep hbn
 replace P8 := below_up P8 hbn P8.size
 replace Q8 := below_up Q8 hbn Q8.size
 clear hbn
 go_wp2_with fail
 refine (CC.out _ Q8).mono ?_
 rintro e wn ⟨rfl, hbn⟩
 replace X8 := X8.keep hbn
 replace D8 := D8.keep hbn
 replace Y8 := Y8.keep hbn
 replace P8 := below_up P8 hbn P8.size
 replace Q8 := below_up Q8 hbn Q8.size
 clear hbn
 go_wp2_with (refine wpList_loadK D8 hds _ rfl rfl rfl ?_)
 refine (RD.out _).mono ?_
 rintro e wn ⟨rfl, hbn⟩
 replace X8 := X8.keep hbn
 replace D8 := D8.keep hbn
 replace Y8 := Y8.keep hbn
 replace P8 := below_up P8 hbn P8.size
 replace Q8 := below_up Q8 hbn Q8.size
 clear hbn
 go_wp2_with fail
 refine (CD.out _ Q8).mono ?_
 rintro e wn ⟨rfl, hbn⟩
 replace X8 := X8.keep hbn
 replace D8 := D8.keep hbn
 replace Y8 := Y8.keep hbn
 replace P8 := below_up P8 hbn P8.size
 replace Q8 := below_up Q8 hbn Q8.size
 clear hbn
 go_wp2_with (refine wpList_loadK X8 hcs _ rfl rfl rfl ?_)
 refine (RC.out _).mono ?_
 rintro e wn ⟨rfl, hbn⟩
 replace X8 := X8.keep hbn
 replace D8 := D8.keep hbn
 replace Y8 := Y8.keep hbn
 replace P8 := below_up P8 hbn P8.size
 replace Q8 := below_up Q8 hbn Q8.size
 clear hbn
 go_wp2_with fail
 refine (CK.out _ Q8).mono ?_
 rintro e wn ⟨rfl, hbn⟩
 replace X8 := X8.keep hbn
 replace D8 := D8.keep hbn
 replace Y8 := Y8.keep hbn
 replace P8 := below_up P8 hbn P8.size
 replace Q8 := below_up Q8 hbn Q8.size
 clear hbn
 go_wp2_with (refine wpList_loadK Y8 hes _ rfl rfl rfl ?_)
 refine (RE.out _).mono ?_
 rintro e wn ⟨rfl, hbn⟩
 replace X8 := X8.keep hbn
 replace D8 := D8.keep hbn
 replace Y8 := Y8.keep hbn
 replace P8 := below_up P8 hbn P8.size
 replace Q8 := below_up Q8 hbn Q8.size
 clear hbn
 go_wp2_with fail
 refine (CE.out _ Q8).mono ?_
 rintro e wn ⟨rfl, hbn⟩
 replace X8 := X8.keep hbn
 replace D8 := D8.keep hbn
 replace Y8 := Y8.keep hbn
 replace P8 := below_up P8 hbn P8.size
 replace Q8 := below_up Q8 hbn Q8.size
 clear hbn
 go_wp2_with fail
 go_ret
 exact ⟨rfl, P8⟩
end Go.Proofs.YtbeaijjaecaidaaGreatDoor
namespace Go.Proofs.YtbeaijjaecaidaaGreatDoor
open Go.RowKit Go.Shelf
attribute [local go_sem] Oper.semAt_some
def setsA (cs : Array Value) : Nat → List Value → Array Value
 | _, [] => cs
 | o, v :: r => setsA (cs.setIfInBounds o v) (o + 1) r
theorem Blk.sets {g : Nat} {t : TypeId} : ∀ (vs : List Value) (o : Nat) {W : World} {cs : Array Value}, Blk W g t cs → Blk (W.setCells g o vs) g t (setsA cs o vs)
 | [], _, _, _, h => h
 | v :: r, o, _, _, h => Blk.sets r (o + 1) (h.set o v)
theorem grown_sets (g : Nat) : ∀ (vs : List Value) (o : Nat) (W : World), W.grownBy (W.setCells g o vs) (some g)
 | [], _, _ => ⟨rfl, rfl, rfl, Nat.le_refl _, fun _ _ _ => rfl⟩
 | v :: r, o, W => grown_up (grown_set W g o v) (grown_sets g r (o + 1) _) (fun _ e _ => e)
theorem IsCop.setHead {C : Array Value} {h : Hd} {i : Int} {f : Fil} {dv cv ev : Value} {salt : Nat} {p : Value} (hC : IsCop C h i f dv cv ev salt p) (h' : Hd) : IsCop (setsA C 0 h'.vals.toList) h' i f dv cv ev salt p := by
 obtain ⟨h1, h2, h3, h4, h5, h6⟩ := hC
 have e : setsA C 0 h'.vals.toList = (((((((C.setIfInBounds 0 (.int .i64 h'.office)).setIfInBounds 1 (.int .i64 h'.tick)).setIfInBounds 2 (.int .i64 h'.day)).setIfInBounds 3 (.int .i64 h'.size)).setIfInBounds 4 (.int .u64 (h'.log : Int))).setIfInBounds 5 (.int .u64 (h'.map : Int))).setIfInBounds 6 (.int .i64 h'.sld)).setIfInBounds 7 (.int .u64 (h'.sign : Int)) := rfl
 rw [e]
 have far : ∀ k, 8 ≤ k → ((((((((C.setIfInBounds 0 (.int .i64 h'.office)).setIfInBounds 1 (.int .i64 h'.tick)).setIfInBounds 2 (.int .i64 h'.day)).setIfInBounds 3 (.int .i64 h'.size)).setIfInBounds 4 (.int .u64 (h'.log : Int))).setIfInBounds 5 (.int .u64 (h'.map : Int))).setIfInBounds 6 (.int .i64 h'.sld)).setIfInBounds 7 (.int .u64 (h'.sign : Int)))[k]? = C[k]? := fun k hk => by
  rw [Array.getElem?_setIfInBounds_ne (by omega), Array.getElem?_setIfInBounds_ne (by omega), Array.getElem?_setIfInBounds_ne (by omega), Array.getElem?_setIfInBounds_ne (by omega), Array.getElem?_setIfInBounds_ne (by omega), Array.getElem?_setIfInBounds_ne (by omega), Array.getElem?_setIfInBounds_ne (by omega), Array.getElem?_setIfInBounds_ne (by omega)]
 refine ⟨by simp [h1], fun j v hj => ?_, fun j v hj => ?_, ?_, ?_, ?_⟩
 ·rw [far _ (by omega)]
  exact h2 j v hj
 ·have hlt : j < 8 := lt_of_some hj
  have e : j = 0 ∨ j = 1 ∨ j = 2 ∨ j = 3 ∨ j = 4 ∨ j = 5 ∨ j = 6 ∨ j = 7 := by omega
  rcases e with rfl | rfl | rfl | rfl | rfl | rfl | rfl | rfl
  all_goals (simp [h1]; simp [Hd.vals] at hj; exact hj)
 ·rw [far _ (by omega)]; exact h4
 ·rw [far _ (by omega)]; exact h5
 ·rw [far _ (by omega)]; exact h6
theorem IsCop.setPath {C : Array Value} {h : Hd} {i : Int} {f : Fil} {dv cv ev : Value} {salt : Nat} {p : Value} (hC : IsCop C h i f dv cv ev salt p) (q : Value) : IsCop (C.setIfInBounds 29 q) h i f dv cv ev salt q := by
 obtain ⟨h1, h2, h3, h4, h5, h6⟩ := hC
 refine ⟨by simp [h1], fun j v hj => ?_, fun j v hj => ?_, ?_, ?_, ?_⟩
 ·have hlt : j < 19 := lt_of_some hj
  rw [Array.getElem?_setIfInBounds_ne (by omega)]
  exact h2 j v hj
 ·have hlt : j < 8 := lt_of_some hj
  rw [Array.getElem?_setIfInBounds_ne (by omega)]
  exact h3 j v hj
 ·rw [Array.getElem?_setIfInBounds_ne (by omega)]; exact h4
 ·rw [Array.getElem?_setIfInBounds_ne (by omega)]; exact h5
 ·rw [Array.getElem?_setIfInBounds_self_of_lt (by omega)]
theorem IsCop.setDay {C : Array Value} {h : Hd} {i : Int} {f : Fil} {dv cv ev : Value} {salt : Nat} {p : Value} (hC : IsCop C h i f dv cv ev salt p) : IsCop (C.setIfInBounds 10 (.int .i64 (f.day + 1))) h i (dayF f) dv cv ev salt p := by
 obtain ⟨h1, h2, h3, h4, h5, h6⟩ := hC
 refine ⟨by simp [h1], fun j v hj => ?_, fun j v hj => ?_, ?_, ?_, ?_⟩
 ·have hlt : j < 19 := lt_of_some hj
  by_cases h4 : j = 1
  ·subst h4
   rw [Array.getElem?_setIfInBounds_self_of_lt (by omega)]
   exact hj
  ·rw [Array.getElem?_setIfInBounds_ne (by omega)]
   refine h2 j v ?_
   have e : j = 0 ∨ j = 2 ∨ j = 3 ∨ j = 4 ∨ j = 5 ∨ j = 6 ∨ j = 7 ∨ j = 8 ∨ j = 9 ∨ j = 10 ∨ j = 11 ∨ j = 12 ∨ j = 13 ∨ j = 14 ∨ j = 15 ∨ j = 16 ∨ j = 17 ∨ j = 18 := by omega
   rcases e with rfl | rfl | rfl | rfl | rfl | rfl | rfl | rfl | rfl | rfl | rfl | rfl | rfl | rfl | rfl | rfl | rfl | rfl <;> exact hj
 ·have hlt : j < 8 := lt_of_some hj
  rw [Array.getElem?_setIfInBounds_ne (by omega)]
  exact h3 j v hj
 ·rw [Array.getElem?_setIfInBounds_ne (by omega)]; exact h4
 ·rw [Array.getElem?_setIfInBounds_ne (by omega)]; exact h5
 ·rw [Array.getElem?_setIfInBounds_ne (by omega)]; exact h6
theorem one_sets : ∀ (vs : List Value) (o : Nat) {C : Array Value}, C.all (·.oneCell') = true → (∀ v ∈ vs, v.oneCell' = true) → (setsA C o vs).all (·.oneCell') = true
 | [], _, _, h, _ => h
 | v :: r, o, _, h, hv => one_sets r (o + 1) (one_set h (hv v List.mem_cons_self)) (fun x hx => hv x (List.mem_cons_of_mem _ hx))
structure HdRow (X : Array Value) (h : Hd) (n m : Nat) : Prop where
 size : X.size = 64
 at_ : ∀ (k j : Nat) (v : Value), k < 8 → (if k < m then hdBent h n k else h).vals[j]? = some v → X[8 * k + j]? = some v
def bentV (h : Hd) (n : Nat) (k : Nat) : Value := (hdBent h n k).vals.getD k undef
theorem bent_other (h : Hd) (n : Nat) {k j : Nat} (hk : k < 8) (hne : j ≠ k) : (hdBent h n k).vals[j]? = h.vals[j]? := by
 have e : k = 0 ∨ k = 1 ∨ k = 2 ∨ k = 3 ∨ k = 4 ∨ k = 5 ∨ k = 6 ∨ k = 7 := by omega
 by_cases hj : j < 8
 ·have e2 : j = 0 ∨ j = 1 ∨ j = 2 ∨ j = 3 ∨ j = 4 ∨ j = 5 ∨ j = 6 ∨ j = 7 := by omega
  rcases e with rfl | rfl | rfl | rfl | rfl | rfl | rfl | rfl <;> rcases e2 with rfl | rfl | rfl | rfl | rfl | rfl | rfl | rfl <;> first | rfl | exact absurd rfl hne
 ·have s1 : (hdBent h n k).vals.size = 8 := rfl
  have s2 : h.vals.size = 8 := rfl
  rw [Array.getElem?_eq_none (by omega), Array.getElem?_eq_none (by omega)]
theorem bent_same (h : Hd) (n : Nat) {k : Nat} (hk : k < 8) : (hdBent h n k).vals[k]? = some (bentV h n k) := by
 have e : k = 0 ∨ k = 1 ∨ k = 2 ∨ k = 3 ∨ k = 4 ∨ k = 5 ∨ k = 6 ∨ k = 7 := by omega
 rcases e with rfl | rfl | rfl | rfl | rfl | rfl | rfl | rfl <;> rfl
theorem vals_lt {h : Hd} {j : Nat} {v : Value} (hj : h.vals[j]? = some v) : j < 8 := by
 have s2 : h.vals.size = 8 := rfl
 rcases Nat.lt_or_ge j 8 with h1 | h1
 ·exact h1
 ·rw [Array.getElem?_eq_none (by omega)] at hj; cases hj
theorem HdRow.step {X : Array Value} {h : Hd} {n k : Nat} (hx : HdRow X h n k) (hk : k < 8) : HdRow (X.setIfInBounds (8 * k + k) (bentV h n k)) h n (k + 1) := by
 obtain ⟨h1, h2⟩ := hx
 refine ⟨by simp [h1], fun k2 j v hk2 hj => ?_⟩
 have hj8 := vals_lt hj
 by_cases e : k2 = k
 ·subst e
  rw [if_pos (by omega)] at hj
  by_cases e2 : j = k2
  ·subst e2
   rw [bent_same h n hk] at hj
   rw [Array.getElem?_setIfInBounds_self_of_lt (by omega)]
   exact hj
  ·rw [bent_other h n hk e2] at hj
   rw [Array.getElem?_setIfInBounds_ne (by omega)]
   refine h2 k2 j v hk2 ?_
   rw [if_neg (by omega)]
   exact hj
 ·rw [Array.getElem?_setIfInBounds_ne (by omega)]
  refine h2 k2 j v hk2 ?_
  by_cases e3 : k2 < k
  ·rw [if_pos (by omega)] at hj
   rw [if_pos e3]
   exact hj
  ·rw [if_neg (by omega)] at hj
   rw [if_neg e3]
   exact hj
theorem HdRow.range {W : World} {g : Nat} {t : TypeId} {X : Array Value} {h : Hd} {n : Nat} (hx : HdRow X h n 8) (hb : Blk W g t X) {k : Nat} (hk : k < 8) : W.rangeAt g (k * 8) (hdBent h n k).vals.toList := fun j v hj => by
 rw [Nat.mul_comm]
 refine hb.cellAt _ _ (hx.at_ k j v hk ?_)
 rw [if_pos hk, ← Array.getElem?_toList]
 exact hj
theorem hd8 {hv : Array Value} (h : hv.size = 8) : ∃ a b c d e f g i, hv = #[a, b, c, d, e, f, g, i] := by
 obtain ⟨l⟩ := hv
 rw [List.size_toArray] at h
 match l, h with
 | [a, b, c, d, e, f, g, i], _ => exact ⟨a, b, c, d, e, f, g, i, rfl⟩
def rep8 (hv : Array Value) : Array Value := (hv.toList ++ (hv.toList ++ (hv.toList ++ (hv.toList ++ (hv.toList ++ (hv.toList ++ (hv.toList ++ hv.toList))))))).toArray
theorem rep8_row (h : Hd) (n : Nat) : HdRow (rep8 h.vals) h n 0 := by
 refine ⟨rfl, fun k j v hk hj => ?_⟩
 rw [if_neg (by omega)] at hj
 have hj8 := vals_lt hj
 have e : k = 0 ∨ k = 1 ∨ k = 2 ∨ k = 3 ∨ k = 4 ∨ k = 5 ∨ k = 6 ∨ k = 7 := by omega
 have e2 : j = 0 ∨ j = 1 ∨ j = 2 ∨ j = 3 ∨ j = 4 ∨ j = 5 ∨ j = 6 ∨ j = 7 := by omega
 rcases e with rfl | rfl | rfl | rfl | rfl | rfl | rfl | rfl <;> rcases e2 with rfl | rfl | rfl | rfl | rfl | rfl | rfl | rfl <;> exact hj
set_option maxRecDepth 100000 in
set_option maxHeartbeats 4000000 in
theorem exec_row8 (d : Option Tmp) (ty : TypeId) (pos : String) (after : Array Edge) (gd : Option (Nat × Bool)) (r : Operand → Value) (x0 x1 x2 x3 x4 x5 x6 x7 : Operand) (hv : Array Value) (hs : hv.size = 8) (h0 : r x0 = .agg hv) (h1 : r x1 = .agg hv) (h2 : r x2 = .agg hv) (h3 : r x3 = .agg hv) (h4 : r x4 = .agg hv) (h5 : r x5 = .agg hv) (h6 : r x6 = .agg hv) (h7 : r x7 = .agg hv) (w : World) :
  (execOp r ⟨d, .buildSlice 54 8 #[(0, x0), (1, x1), (2, x2), (3, x3), (4, x4), (5, x5), (6, x6), (7, x7)], ty, pos, after, gd⟩).run Tryz.prog w = .ok (.value (.slice (some ⟨w.heap.size, 0, none⟩) 8 8)) (w.alloc (.cells (rep8 hv) 29)) := by
 obtain ⟨a, b, c, d, e, f, g, i, rfl⟩ := hd8 hs
 unfold rep8
 simp only [execOp]
 go_simp
theorem wpList_row8 {ops : Array Oper} {rest : List Oper} {d : Option Tmp} {ty : TypeId} {pos : String} {after : Array Edge} {x0 x1 x2 x3 x4 x5 x6 x7 : Operand} {a : Act} {w : World} {Q : Exit → Act → World → Prop} (hv : Array Value) (hs : hv.size = 8) (h0 : a.eval x0 = .agg hv) (h1 : a.eval x1 = .agg hv) (h2 : a.eval x2 = .agg hv) (h3 : a.eval x3 = .agg hv) (h4 : a.eval x4 = .agg hv) (h5 : a.eval x5 = .agg hv) (h6 : a.eval x6 = .agg hv) (h7 : a.eval x7 = .agg hv)
  (hK : wpList Tryz.prog ops Q rest (a.put d (.slice (some ⟨w.heap.size, 0, none⟩) 8 8)) (w.alloc (.cells (rep8 hv) 29))) : wpList Tryz.prog ops Q (⟨d, .buildSlice 54 8 #[(0, x0), (1, x1), (2, x2), (3, x3), (4, x4), (5, x5), (6, x6), (7, x7)], ty, pos, after, none⟩ :: rest) a w :=
 wpList_plain rfl fun _ hk => by
  unfold Oper.wp
  rw [exec_row8 d ty pos after none a.eval x0 x1 x2 x3 x4 x5 x6 x7 hv hs h0 h1 h2 h3 h4 h5 h6 h7 w, Oper.upon_value]
  exact hk _ _ hK
end Go.Proofs.YtbeaijjaecaidaaGreatDoor
