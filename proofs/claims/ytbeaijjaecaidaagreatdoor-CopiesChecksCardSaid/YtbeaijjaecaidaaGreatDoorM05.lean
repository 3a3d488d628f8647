/- The writer of package wire: what a call keeps, its own row apart. A region that draws its order, within a round: walked as outside of one. The encoding of a formula, in the program. The reference's formulas: spans, size, depth, form, validity. The reference's sets of at most one interval are valid; size and depth. The reference's formulas: well formed and valid. The encoding of a formula, in the reference. -/
import Derived.Test.YtbeaijjaecaidaaGreatDoorM02
import Derived.Test.YtbeaijjaecaidaaGreatDoorM04
import Derived.Test.YtbeaijjaecaidaaGreatDoorM01
import Derived.OrdersIn
import Derived.AtR
set_option maxRecDepth 100000
set_option maxHeartbeats 16000000
namespace Go.Proofs.YtbeaijjaecaidaaGreatDoor
open Go.RowKit Go.Shelf
attribute [local go_sem] Oper.semAt_some
def KeepsR (g:Nat) (w w':World):Prop:=∀ v0,Blk w g 101 #[v0] → (∀ i,i < w.heap.size → i ≠ g → v0.ownBlock ≠ some i → w'.heap[i]? = w.heap[i]?) ∧ ∃ v1,Blk w' g 101 #[v1] ∧ (v1.ownBlock = v0.ownBlock ∨ ∀ i,v1.ownBlock = some i → w.heap.size ≤ i)
def KeepsG (g base:Nat) (w w':World):Prop:=KeepsW base w w' ∧ KeepsR g w w'
theorem KeepsR.trans {g:Nat} {a b c:World} (hs:a.heap.size ≤ b.heap.size) (h:KeepsR g a b) (k:KeepsR g b c):KeepsR g a c:=fun v0 hv => by
 obtain ⟨h1,v1,hv1,hl1⟩:=h v0 hv;obtain ⟨k1,v2,hv2,hl2⟩:=k v1 hv1;refine ⟨fun i hi hg hr => (k1 i (by omega) hg ?_).trans (h1 i hi hg hr),v2,hv2,?_⟩
 ·rcases hl1 with e | e
  ·rw [e];exact hr
  ·intro e2
   have:=e i e2;omega
 ·rcases hl2 with e | e
  ·rw [e];exact hl1
  ·exact .inr fun i hi => Nat.le_trans hs (e i hi)
theorem KeepsG.refl (g base:Nat) (w:World):KeepsG g base w w:=⟨KeepsW.refl _ _,fun v0 hv => ⟨fun _ _ _ _ => rfl,v0,hv,.inl rfl⟩⟩
theorem KeepsG.trans {g base:Nat} {a b c:World} (h:KeepsG g base a b) (k:KeepsG g base b c):KeepsG g base a c:=⟨h.1.trans k.1,h.2.trans h.1.1.size k.2⟩
theorem KeepsG.below {g base:Nat} {w w':World} (h:Below w.heap.size w w') (hb:base ≤ w.heap.size):KeepsG g base w w' :=
 ⟨KeepsW.below h (Nat.le_refl _) hb,fun v0 hv => ⟨fun i hi _ _ => h.block i hi,v0,hv.keep h,.inl rfl⟩⟩
theorem KeepsG.alloc (g base:Nat) (w:World) (hb:base ≤ w.heap.size) (o:Obj):KeepsG g base w (w.alloc o):=KeepsG.below (below_new w o) hb
theorem loc_of {a b:Option Nat} {n:Nat} (h:a = b ∨ a = some n):a = b ∨ ∀ i,a = some i → n ≤ i:=by
 rcases h with h | h
 ·exact .inl h
 ·exact .inr fun i hi => by rw [h] at hi;cases hi;exact Nat.le_refl _
theorem wr_stepR {W w1:World} {base g n m:Nat} {v v':Value} {xs ys:List Value} (hbg:base ≤ g) (hv:Blk W g 101 #[v]) (hrow:W.ownsRow base 5 1 v n xs)
  (hown':w1.ownsRow base 5 1 v' m ys) (hgrow:W.grownBy w1 v.ownBlock) (hloc:v'.ownBlock = v.ownBlock ∨ ∀ i,v'.ownBlock = some i → W.heap.size ≤ i) :
  Blk w1 g 101 #[v] ∧ Blk (w1.setCell ⟨g,0,none⟩ v') g 101 #[v'] ∧ (w1.setCell ⟨g,0,none⟩ v').ownsRow base 5 1 v' m ys ∧ KeepsG g base W (w1.setCell ⟨g,0,none⟩ v'):=by
 obtain ⟨k1,k2,k3,k4⟩:=wr_step hbg hv hrow hown' hgrow;refine ⟨k1,k2,k3,k4,fun v0 hv0 => ?_⟩
 have e:v0 = v:=by
  have h1:=hv0.c1.1;have h2:=hv.c1.1;rw [h1] at h2;exact Option.some.inj h2
 subst e;refine ⟨fun i hi hg hr => ?_,v',k2,hloc⟩
 exact (Below.heap_setCell w1 ⟨g,0,none⟩ v' i hg).trans (hgrow.block i hi (fun e => hr e.symm))
theorem wuintR (g base:Nat) (bs:List Nat) (n:Int) (w:World) (hn0:0 ≤ n) (hn:n < 18446744073709551616) (hw:WrAt w base g bs) (hl:bs.length ≤ 1000000000) :
  Calls Tryz.prog 76 #[.pointer (some ⟨g,0,none⟩),.int .u64 n] w fun e w' => (∃ v,e = .returned v) ∧ WrAt w' base g (bs ++ uvL n.toNat) ∧ KeepsG g base w w':=by
 obtain ⟨i0,hi,hz0,hz1,hz2⟩:=info_parts Tryz.info5;go_enter Tryz.func76,Tryz.ntmps76
 go_wp2;go_loopw [1] (fun t wr => ∃ (m:Int) (pre:List Nat),0 ≤ m ∧ m < 18446744073709551616 ∧ t = .int .u64 m ∧ WrAt wr base g (bs ++ pre) ∧ KeepsG g base w wr ∧ uvL n.toNat = pre ++ uvL m.toNat) (fun t _ => (intOf t).toNat)
 case atStart => exact ⟨n,[],hn0,hn,rfl,by rw [List.append_nil];exact hw,KeepsG.refl _ _ _,rfl⟩
 case round =>
  obtain ⟨m,pre,hm0,hm1,rfl,⟨hbg,v,q,hv,hrow⟩,hk,hu⟩:=hrel;have HU:=Lib.hid hu
  have HL:pre.length ≤ 9:=by
   have:=uv_len10 (n:=n.toNat) (by omega)
   rw [hu,List.length_append] at this;have:=uv_pos m.toNat;omega
  have hL1:q + 1 ≤ 1000000010:=by
   have:=hrow.1;rw [bys_length,List.length_append] at this;omega
  have hgs:=hv.lt;clear hu hn hn0 hl hw;have hc:=hv.c1;have HOR:=or_u8 hm0;have hbw:base ≤ wr.heap.size:=by omega
  have HB:=Lib.hid hbw;by_cases h:128 ≤ m
  ·have HS:base ≤ (wr.alloc (.cells #[.int .u8 (128 + m % 128)] 5)).heap.size:=by simp;omega
   clear hbw;go_wp2_with (at_builtin;refine wpList_append_own_at _ rfl _ _ 55 rfl base 5 i0 (.int .u8 0) 1 1 Tryz.underlying55 hi hz0 hz1 hz2 rfl (by decide) v _ _ rfl (hrow.alloc _) ⟨wr.heap.size,0,none⟩ 1 1 [.int .u8 (128 + m % 128)] rfl rfl (cell_one_new _ _ _) (cell_u8 _) (by unfold maxLen;omega) (by omega) HS ?_;intro v1 w1 hown1 hg1 _ hl1;obtain ⟨g1,cap1,rfl⟩:=ownsRow_succ hown1;obtain ⟨k1,k2,k3,k4⟩:=wr_stepR hbg (hv.alloc _) (hrow.alloc _) hown1 hg1 (loc_of hl1);have hc1:=k1.c1;clear hc hown1 hg1 k1)
   go_roundw
   case rel =>
    have hu:uvL n.toNat = (pre ++ [(128 + m % 128).toNat]) ++ uvL (m / 128).toNat:=by
     have h2:=uv_big (n:=m.toNat) (by omega)
     have e1:(128 + m % 128).toNat = 128 + m.toNat % 128:=by omega
     have e2:(m / 128).toNat = m.toNat / 128:=by omega
     rw [HU.out,h2,e1,e2,List.append_assoc];rfl
    have E:bys (bs ++ pre) ++ [Value.int .u8 (128 + m % 128)] = bys (bs ++ (pre ++ [(128 + m % 128).toNat])):=by rw [← List.append_assoc,bys_app (bs ++ pre),one_byte (k:=(128 + m % 128).toNat) (by omega)]
    rw [E] at k3;exact ⟨m / 128,pre ++ [(128 + m % 128).toNat],by omega,by omega,rfl,⟨hbg,_,_,k2,k3⟩,hk.trans ((KeepsG.alloc g base wr HB.out _).trans k4),hu⟩
   case measure => simp [intOf];omega
  ·have HS:base ≤ (wr.alloc (.cells #[.int .u8 m] 5)).heap.size:=by simp;omega
   clear hbw;go_wp2_with (at_builtin;refine wpList_append_own_at _ rfl _ _ 55 rfl base 5 i0 (.int .u8 0) 1 1 Tryz.underlying55 hi hz0 hz1 hz2 rfl (by decide) v _ _ rfl (hrow.alloc _) ⟨wr.heap.size,0,none⟩ 1 1 [.int .u8 (m)] rfl rfl (cell_one_new _ _ _) (cell_u8 _) (by unfold maxLen;omega) (by omega) HS ?_;intro v1 w1 hown1 hg1 _ hl1;obtain ⟨g1,cap1,rfl⟩:=ownsRow_succ hown1;obtain ⟨k1,k2,k3,k4⟩:=wr_stepR hbg (hv.alloc _) (hrow.alloc _) hown1 hg1 (loc_of hl1);have hc1:=k1.c1;clear hc hown1 hg1 k1)
   go_end0;have hu:uvL n.toNat = pre ++ [m.toNat]:=by rw [← uv_small (n:=m.toNat) (by omega)];exact HU.out
   have E:bys (bs ++ pre) ++ [Value.int .u8 m] = bys (bs ++ uvL n.toNat):=by rw [hu,← List.append_assoc,bys_app (bs ++ pre),one_byte (k:=m.toNat) (by omega)]
   rw [E] at k3;exact ⟨⟨_,rfl⟩,⟨hbg,_,_,k2,k3⟩,hk.trans ((KeepsG.alloc g base wr HB.out _).trans k4)⟩
theorem wintR (g base:Nat) (bs:List Nat) (n:Int) (w:World) (h0:-9223372036854775808 ≤ n) (h1:n ≤ 9223372036854775807) (hw:WrAt w base g bs) (hl:bs.length ≤ 1000000000) :
  Calls Tryz.prog 50 #[.pointer (some ⟨g,0,none⟩),.int .i64 n] w fun e w' => (∃ v,e = .returned v) ∧ WrAt w' base g (bs ++ intL n) ∧ KeepsG g base w w':=by
 have HZ:=Lib.hid (fun W => zig_any n W h0 h1)
 have HL:=Lib.hid (zz_lt h0 h1);have HT:=Lib.hid (Int.toNat_natCast (zz n));clear h0 h1;go_enter Tryz.func50,Tryz.ntmps50
 go_wp2_with (first
  | (go_at_call 103;refine (HZ.out _).mono ?_;rintro e w' ⟨rfl,rfl⟩)
  | (go_at_call 76;refine (wuintR g base bs _ _ (Int.natCast_nonneg _) HL.out hw hl).mono ?_;rintro e w' ⟨⟨v,rfl⟩,hw',hk⟩))
 go_end0;rw [HT.out] at hw';exact ⟨⟨_,rfl⟩,hw',hk⟩
theorem wintsR_gen (g base:Nat) (bs:List Nat) (l:List Int) (A:Option Addr) (c:Nat) (w:World) (hw:WrAt w base g bs) (hl:bs.length + 10 * l.length ≤ 900000000) (hli:I64s l) (hcell:∀ W',KeepsG g base w W' → ∀ (k:Nat) (hk:k < l.length),∃ b o,A = some ⟨b,o,none⟩ ∧ W'.cell? ⟨b,o + k,none⟩ = some (.int .i64 l[k])) :
  Calls Tryz.prog 108 #[.pointer (some ⟨g,0,none⟩),.slice A l.length c] w fun e w' => (∃ v,e = .returned v) ∧ WrAt w' base g (bs ++ intsL l) ∧ KeepsG g base w w':=by
 have HN:=Lib.hid (uv_len10 (n:=l.length) (by omega))
 go_enter Tryz.func108,Tryz.ntmps108
 go_upto_region 1 with (go_at_call 76;refine (wuintR g base bs _ _ (by omega) (by omega) hw (by omega)).mono ?_;rintro e w1 ⟨⟨v,rfl⟩,hw1,hk⟩)
 rw [Int.toNat_natCast] at hw1;go_wp2_with fail;go_loopw [13] (fun i wr => ∃ k:Nat,i = .int .i64 (k:Int) ∧ k ≤ l.length ∧ WrAt wr base g (bs ++ uvL l.length ++ (l.take k).flatMap intL) ∧ KeepsG g base w wr) (fun i _ => l.length - (intOf i).toNat)
 case atStart => exact ⟨0,rfl,Nat.zero_le _,by simpa using hw1,hk⟩
 case round =>
  obtain ⟨k,rfl,hk0,hwr,hkr⟩:=hrel;by_cases hlt:k < l.length
  ·obtain ⟨b,o,rfl,hcr⟩:=hcell wr hkr k hlt
   have HI:=Lib.hid (hli l[k] (List.getElem_mem hlt))
   have HT:(l.take (k + 1)).flatMap intL = (l.take k).flatMap intL ++ intL l[k]:=by
    rw [List.take_add_one,List.getElem?_eq_getElem hlt,List.flatMap_append]
    simp
   have HT:=Lib.hid HT
   have HL:(bs ++ uvL l.length ++ (l.take k).flatMap intL).length ≤ 1000000000:=by
    have h1:=ints_flat_len (l:=l.take k) (fun n hn => hli n (List.mem_of_mem_take hn))
    have h2:=HN.out;have h3:=List.length_take_le k l;simp only [List.length_append];omega
   have HL:=Lib.hid HL;have HW:=Lib.hid hwr;clear hcell hwr hli hw hw1;generalize l[k] = n at *;go_wp2_with (go_at_call 50;refine (wintR g base _ n _ HI.out.1 HI.out.2 HW.out HL.out).mono ?_;rintro e w2 ⟨⟨v,rfl⟩,hw2,hk2⟩)
   rw [List.append_assoc,← HT.out] at hw2;go_roundw
   case rel => exact ⟨k + 1,by go_num,by omega,hw2,hkr.trans hk2⟩
   case measure => simp [intOf];omega
  ·obtain rfl:k = l.length:=by omega
   rw [List.take_length,List.append_assoc] at hwr;have HW:=Lib.hid hwr;clear hwr hw hw1;go_wp2_with fail;go_end0;exact ⟨⟨_,rfl⟩,HW.out,hkr⟩
theorem wintsR (g base:Nat) (bs:List Nat) (l:List Int) (v:Value) (w:World) (hw:WrAt w base g bs) (hl:bs.length + 10 * l.length ≤ 900000000) (hli:I64s l) (hr:Rep w base v (.s 1 (valD (ints l)))) :
  Calls Tryz.prog 108 #[.pointer (some ⟨g,0,none⟩),v] w fun e w' => (∃ v,e = .returned v) ∧ WrAt w' base g (bs ++ intsL l) ∧ KeepsG g base w w':=by
 obtain ⟨A,c,rfl,hc,hcell⟩:=hr.row;rw [ints_length] at hc ⊢;refine wintsR_gen g base bs l A c w hw hl hli (fun W' hW k hk => ?_)
 obtain ⟨b,o,e,hb,hcw⟩:=hcell k _ (ints_get l k hk);exact ⟨b,o,e,(hW.1.1.cell (p:=⟨b,o + k,none⟩) hb).trans hcw⟩
theorem cloneB_own (A:Option Addr) (c:Nat) (cs:List Nat) (w:World) (hn:cs.length ≤ 3000000000) (hr:Rep w w.heap.size (.slice A cs.length c) (.s 1 (valD (bys cs)))) :
  Calls Tryz.prog 111 #[.slice A cs.length c] w fun e w' => ∃ v,e = .returned v ∧ OwnB w' w.heap.size v cs ∧ Below w.heap.size w w':=by
 obtain ⟨A',c',e,hc,hcell⟩:=hr.row;rw [bys_length] at hc e;injection e with e1 e2 e3
 subst e1 e3;have hsp:=hr.spot;have heq:∀ W:World,(binOp .eql 55 (.slice A cs.length c) (.slice none 0 0)).run Tryz.prog W = .ok (.bool A.isNone) W:=fun W => Lib.run_eql_slice_nil W _ _ A cs.length c 0 0 Tryz.underlying55
 cases A with
 | none =>
  have h0:cs = []:=by
   cases cs with
   | nil => rfl
   | cons x l =>
    obtain ⟨b,o,h,_⟩:=hcell 0 _ rfl;cases h
  subst h0;have heq':=heq;simp only [Option.isNone_none,List.length_nil] at heq';clear heq hcell hr hsp;go_enter Tryz.func111,Tryz.ntmps111
  go_wp2_with fail;go_ret;exact ⟨_,rfl,OwnB.nil _ _,Below.refl _ _⟩
 | some a =>
  obtain ⟨b,o,rfl⟩:=hsp a rfl;simp only [Option.isNone_some] at heq;obtain ⟨i0,hi,hz0,hz1,hz2⟩:=info_parts Tryz.info5
  have hnews:∀ j u,(bys cs)[j]? = some u → (w.alloc (.cells #[] 5)).cell? ((⟨b,o,none⟩:Addr).add j) = some u:=fun j u hu => by
   obtain ⟨b',o',h,hb,hc⟩:=hcell j u hu;injection h with h
   injection h with h1 h2
   subst h1 h2;rw [Addr.add_lit];exact Lib.cell?_alloc_some _ hc
  have HNW:=Lib.hid hnews;have HO:=World.ownsRow_made w #[] 0 (base:=w.heap.size) (e:=5) (size:=1) (Nat.le_refl _) (Nat.zero_le _) rfl;clear hcell hr hsp hnews;go_enter Tryz.func111,Tryz.ntmps111
  go_wp2_with (at_builtin;refine wpList_append_own _ rfl _ _ 55 rfl w.heap.size 5 i0 (.int .u8 0) 1 1 Tryz.underlying55 hi hz0 hz1 hz2 rfl (by decide) (.slice (some ⟨w.heap.size,0,none⟩) 0 0) 0 [] rfl HO ⟨b,o,none⟩ cs.length c (bys cs) rfl (by rw [bys_length,Nat.mul_one]) HNW.out (fun u hu => by obtain ⟨x,_,rfl⟩:=List.mem_map.1 hu;rfl) (by unfold maxLen;omega) (by omega) (by simp) ?_;intro v1 w1 hown1 hg1 _)
  go_ret;refine ⟨v1,rfl,?_,?_⟩
  ·exact ⟨_,by simpa using hown1⟩
  ·exact (below_new w _).grown hg1 (by simp) (by intro k hk;simp [Value.ownBlock] at hk;omega)
theorem wdone_own (g base:Nat) (bs:List Nat) (w:World) (hw:WrAt w base g bs) (hl:bs.length ≤ 3000000000) :
  Calls Tryz.prog 55 #[.pointer (some ⟨g,0,none⟩)] w fun e w' => ∃ v,e = .returned v ∧ OwnB w' w.heap.size v bs ∧ Below w.heap.size w w':=by
 obtain ⟨hbg,v,n,hv,hrow⟩:=hw;have hr:=Rep.of_own_plain hrow;obtain ⟨A,c,rfl⟩:=own_slice hrow;have hn:=hrow.1;rw [bys_length,Nat.mul_one] at hn;subst hn;have hc1:=hv.c1;have HR:=Lib.hid hr;clear hr hv hrow;go_enter Tryz.func55,Tryz.ntmps55
 go_wp2_with (go_at_call 111;refine (cloneB_own A c bs w hl HR.out).mono ?_;rintro e w' ⟨v,rfl,hr',hb⟩)
 go_ret;exact ⟨_,rfl,hr',hb⟩
theorem own_put {W:World} {D base:Nat} {ds:Option (List Deferred)} {v:Value} {bs:List Nat} (o':Obj) (h:OwnB W base v bs) (hK:W.heap[D]? = some (.deferred ds)):OwnB (W.putObj D o') base v bs:=by
 obtain ⟨n,h⟩:=h;refine ⟨n,h.kept (grownBy_putObj' W D o') ?_⟩
 rcases h.2 with ⟨rfl,_⟩ | ⟨k,cap,cur,rfl,_,hgb,_⟩
 ·exact .inl rfl
 ·refine .inr fun e => ?_
  obtain rfl:k = D:=by simpa [Value.ownBlock] using e
  rw [hgb] at hK;cases hK
def Kept (Q:Exit → Act → World → Prop):Exit → Act → World → Prop:=fun e a w => Q e a w ∧ e ≠ .outgrown
theorem kept_lets {Q:Exit → Act → World → Prop} (h:LetsOut (Kept Q)):False:=by
 obtain ⟨_,_,h1⟩:=h;exact h1.2 rfl
theorem opIn_of_op {l n:Nat} {o:Oper} {a:Act} {w:World} {K:Act → World → Prop} {Q:Exit → Act → World → Prop} (hd:∀ c,o.op ≠ .defer c) (h:o.wp Tryz.prog a w K (Kept Q)):o.wpIn (Fence.wide.inRound l) n Tryz.prog a w K Q:=by
 refine ⟨fun _ _ => trivial,?_⟩
 unfold Oper.wp at h;rw [Oper.semAt_eq _ _ _ hd];generalize (execOp a.eval o).run Tryz.prog w = r at *
 cases r with
 | ok nx w' =>
  cases nx with
  | value v => exact h
  | skip => exact h
  | defer d => exact h
  | enter f args =>
   refine ⟨fun hh => (by cases hh),CallsIn.inRound l (callsIn_wide.2 ?_)⟩
   refine Calls.mono h (fun e w'' hh => ?_)
   cases e with
   | returned v => exact hh
   | panicked chain => exact hh.1
   | outgrown => exact (kept_lets hh).elim
  | row row args =>
   refine ⟨fun hh => (by cases hh),fun c cs _ => ?_⟩
   obtain ⟨v,w'',r,s⟩:=(show Rows _ _ _ _ _ from h) c cs
   exact ⟨v,w'',r,stepsIn_wide.2 s⟩
  | _ => exact h.elim
 | halt hh w' =>
  cases hh with
  | panic v => exact h.1
  | _ => exact h.elim
theorem anyIn_of_held {l n:Nat} {md:Region.Mode} {ops:Array Oper} {Q:Exit → Act → World → Prop} {S:World → Prop} (hd:∀ (i:Nat) (o:Oper) c,ops[i]? = some o → o.op ≠ .defer c) :
  ∀ (fuel:Nat) (listed:Array Bool) (a:Act) (w:World),wpAnyH Tryz.prog md ops (Kept Q) S fuel listed a w → wpAnyIn (Fence.wide.inRound l) n Tryz.prog md ops Q fuel listed a w
 | 0,_,_,_,h => ⟨h.1,h.2.1⟩
 | fuel + 1,listed,a,w,h => ⟨fun hr => (h.1 hr).1,fun i hi => by
  have hi':=h.2 i hi;unfold wpOp at hi';unfold wpOpIn
  cases ho:ops[i]? with
  | none =>
   rw [ho] at hi';exact anyIn_of_held hd fuel _ _ _ hi'.2
  | some o =>
   rw [ho] at hi';dsimp only at hi' ⊢;by_cases hw:Region.wanted o (yielded ops a.tmps) = true
   ·rw [if_pos hw] at hi' ⊢
    rcases hi' with h1 | ⟨_,h1⟩
    ·exact Oper.wpIn_mono (fun a' w' hh => anyIn_of_held hd fuel _ a' w' hh.2) (opIn_of_op (hd i o · ho) h1)
    ·exact (kept_lets h1).elim
   ·rw [if_neg hw] at hi' ⊢
    exact ⟨fun _ _ => trivial,anyIn_of_held hd fuel _ _ _ hi'.2⟩⟩
def noDefer (ops:Array Oper):Bool:=ops.all fun o => match o.op with | .defer _ => false | _ => true
theorem noDefer_spec {ops:Array Oper} (h:noDefer ops = true) (i:Nat) (o:Oper) (c:Call) (ho:ops[i]? = some o):o.op ≠ .defer c:=by
 obtain ⟨hi,e⟩:=Array.getElem?_eq_some_iff.1 ho
 have h1:=Array.all_eq_true.1 h i hi;rw [e] at h1;intro hc;rw [hc] at h1;cases h1
theorem region_in {l n id:Nat} {ops:Array Oper} {Q:Exit → Act → World → Prop} {S:World → Prop} {a:Act} {w:World} (hm:Tryz.prog.follows .mixedOrders = true) (hd:noDefer ops = true) (hS:S w.drew)
  (h:S w.drew → wpAnyH Tryz.prog .any ops (Kept Q) S ops.size (Array.replicate ops.size false) a w.drew):(Code.region id ops true).wpIn (Fence.wide.inRound l) n Tryz.prog Q a w :=
 wpIn_region_any hm (anyIn_of_held (noDefer_spec hd) _ _ _ _ (h hS))
attribute [local go_sem ↓] Go.wp_at_zero Go.wp_at_succ
def oneB (b:Bool):Int:=if b then 1 else 0
def Iv.nums (x:Iv):List Int:=[x.ln,x.ld,x.hn,x.hd,oneB x.lo,oneB x.ho,oneB x.li,oneB x.hi]
def encN (y:F):List Nat:=intL y.op ++ intL y.n ++ intL y.ins.length ++ y.ins.flatMap (fun x => intsL x.nums) ++ intL y.kids.length
def encF (t:F):List Nat:=t.nodes.flatMap encN
theorem one_bd (b:Bool):0 ≤ oneB b ∧ oneB b ≤ 1:=by cases b <;> decide
theorem okIv_nums {x:Iv} (h:OkIv x):I64s x.nums:=by
 obtain ⟨h1,h2,h3⟩:=h;obtain ⟨b1,b2,b3,b4⟩:=h2.bd
 have hh:(-1073741824 ≤ x.hn ∧ x.hn ≤ 1073741824) ∧ 0 ≤ x.hd ∧ x.hd ≤ 32768:=by
  rcases h3 with ⟨_,h5,h6,_⟩ | ⟨_,h5,_⟩
  ·omega
  ·obtain ⟨c1,c2,c3,c4⟩:=h5.bd
   omega
 have o1:=one_bd x.lo;have o2:=one_bd x.ho;have o3:=one_bd x.li;have o4:=one_bd x.hi;intro n hn;simp only [Iv.nums,List.mem_cons,List.not_mem_nil,or_false] at hn;omega
theorem ivE_len {x:Iv} (h:OkIv x):(intsL x.nums).length ≤ 90:=by
 have h1:=ints_flat_len (okIv_nums h);have h2:=uv_len10 (n:=x.nums.length) (Nat.le_of_ble_eq_true rfl);unfold intsL;rw [List.length_append];have:x.nums.length = 8:=rfl;omega
theorem encN_len {y:F} (h:OkNode y) (hk:y.kids.length ≤ 1000000):(encN y).length ≤ 200:=by
 have hop:0 ≤ y.op ∧ y.op ≤ 6:=by rcases h with h | h | h | h | h <;> omega
 have hn:0 ≤ y.n ∧ y.n ≤ 64:=by rcases h with h | h | h | h | h <;> omega
 have hi:OkIvs y.ins:=by
  rcases h with h | h | h | h | h
  ·rw [h.2.2.1];exact ⟨by simp,fun _ h => by simp at h⟩
  ·rw [h.2.2.1];exact ⟨by simp,fun _ h => by simp at h⟩
  ·exact h.2.2.1
  ·rw [h.2.2.1];exact ⟨by simp,fun _ h => by simp at h⟩
  ·rw [h.2.2];exact ⟨by simp,fun _ h => by simp at h⟩
 have e1:=intL_len (n:=y.op) (by omega) (by omega)
 have e2:=intL_len (n:=y.n) (by omega) (by omega)
 have e3:=intL_len (n:=(y.ins.length:Int)) (by omega) (by have:=hi.1;omega)
 have e5:=intL_len (n:=(y.kids.length:Int)) (by omega) (by omega)
 have e4:(y.ins.flatMap (fun x => intsL x.nums)).length ≤ 90:=by
  obtain ⟨hl,hx⟩:=hi
  match y.ins,hl,hx with
  | [],_,_ => simp
  | [x],_,hx => simpa using ivE_len (hx x List.mem_cons_self)
 unfold encN;simp only [List.length_append];omega
theorem okNode_ins {y:F} (h:OkNode y):OkIvs y.ins:=by
 rcases h with h | h | h | h | h
 ·rw [h.2.2.1];exact ⟨by simp,fun _ h => by simp at h⟩
 ·rw [h.2.2.1];exact ⟨by simp,fun _ h => by simp at h⟩
 ·exact h.2.2.1
 ·rw [h.2.2.1];exact ⟨by simp,fun _ h => by simp at h⟩
 ·rw [h.2.2];exact ⟨by simp,fun _ h => by simp at h⟩
theorem OkN.node {y:F} (h:OkN y):OkNode y:=h.2 y (by rw [F.nodes_eq];exact List.mem_cons_self)
theorem OkN.kids_le {y:F} (h:OkN y):y.kids.length ≤ 1000000:=by
 have h1:=Go.Proofs.YtbeaijjaecaidaaGreatDoor.kids_le y.kids;have h2:=y.nodes_length;rw [y.nodes_eq,List.length_cons,nodes_flat_length] at h2;have:=h.1;omega
theorem enc_pre {w:World} {B:Nat}:∀ pre:List (PNode OkN w B),(pre.flatMap fun y => encN y.1.t).length ≤ 200 * pre.length
 | [] => by simp
 | y :: pre => by
  have h1:=enc_pre pre;have h2:=encN_len y.2.node y.2.kids_le;rw [List.flatMap_cons,List.length_append,List.length_cons];omega
theorem number_any (b:Bool) (w:World) :
  Calls Tryz.prog 109 #[.bool b] w fun e w' => e = .returned (.int .i64 (oneB b)) ∧ w = w':=by
 cases b
 ·go_enter Tryz.func109,Tryz.ntmps109
  go_wp2;go_ret;exact ⟨rfl,rfl⟩
 ·go_enter Tryz.func109,Tryz.ntmps109
  go_wp2;go_ret;exact ⟨rfl,rfl⟩
theorem wr_own {β:Type} (base g:Nat) (f:β → List Nat):Own (fun s W => WrAt W base g (f s)):=fun s X Y row hs hg hrow => by
 obtain ⟨hb,v,n,h1,h2⟩:=hs;refine ⟨hb,v,n,blk_own g 101 (fun (_:Unit) => #[v]) () X Y row h1 hg hrow,h2.kept hg ?_⟩
 rcases h2.2 with ⟨rfl,_⟩ | ⟨k,cap,cur,rfl,_,hgb,_⟩
 ·exact .inl rfl
 ·refine .inr fun e => ?_
  obtain ⟨o,ho,hc⟩:=hrow k e.symm;rw [hgb] at ho;cases ho
  cases hc
theorem KeepsW.keepT {base B:Nat} {W W':World} (h:KeepsW base W W') (hb:B ≤ base):KeepT nodeT B W W' :=
 ⟨h.1.mono hb,fun i t cs ht hi => h.blk hi (by rintro rfl;rcases ht with h | h <;> cases h) (by rintro rfl;rcases ht with h | h <;> cases h)⟩
theorem enc_own (w:World) (B:Nat) (hBw:B ≤ w.heap.size) (x:FNode w B) (h:OkF x.t) :
  Calls Tryz.prog 53 #[.agg #[x.a,x.b,x.c,x.d]] w fun e w' => ∃ v,e = .returned (.tuple #[v,.int .i64 0]) ∧ OwnB w' w.heap.size v (encF x.t) ∧ Below w.heap.size w w':=by
 have hs6:x.t.size ≤ 1000000:=by have:=h.1;omega
 have hs96:x.t.size ≤ 96:=h.1;have HO:=Lib.hid h;have HKH:=Lib.hid (show ∀ W,Below w.heap.size w W → ∀ p:Addr,p.block < B → W.cell? p = w.cell? p from fun W hW p hp => hW.cell (Nat.lt_of_lt_of_le hp hBw))
 clear h;refine (callsIn_wide (n:=6)).1 ?_
 refine callsIn_of_wp_marks Tryz.func53 rfl trivial ?_ rfl
 simp only [Tryz.ntmps53,List.size_toArray,List.length_cons,List.length_nil,Nat.reduceAdd,Nat.reduceSub,Array.replicate_succ,Array.replicate_zero,List.push_toArray,List.append_toArray,List.nil_append,List.cons_append]
 gi_wp2_with fail
 refine ⟨trivial,?_⟩
 have HB0:=below_new w (.cells #[x.a,x.b,x.c,x.d] 39);have B0:=Blk.new w 39 #[x.a,x.b,x.c,x.d];generalize w.alloc (.cells #[x.a,x.b,x.c,x.d] 39) = W0 at *;refine (callsIn_wide.2 (valid_any W0 B (Nat.le_trans hBw HB0.size) (x.up (HKH.out _ HB0) (Nat.le_refl _)) HO.out)).mono ?_
 rintro e w1 ⟨rfl,hb1⟩;have HB1:=HB0.trans (hb1.mono HB0.size);have B1:=B0.keep hb1;clear B0 HB0 hb1;have hg1:=HB1.size;have B2:=(B1.alloc (.cells #[.slice none 0 0] 101)).alloc (.cells #[.pointer (some ⟨w1.heap.size,0,none⟩)] 127);have G2:=(Blk.new w1 101 #[.slice none 0 0]).alloc (.cells #[.pointer (some ⟨w1.heap.size,0,none⟩)] 127);have P2:=Blk.new (w1.alloc (.cells #[.slice none 0 0] 101)) 127 #[.pointer (some ⟨w1.heap.size,0,none⟩)];rw [World.size_alloc] at P2;have HB2:=(HB1.alloc HB1.size (.cells #[.slice none 0 0] 101)).alloc (by simp;omega) (.cells #[.pointer (some ⟨w1.heap.size,0,none⟩)] 127)
 have hz:((w1.alloc (.cells #[.slice none 0 0] 101)).alloc (.cells #[.pointer (some ⟨w1.heap.size,0,none⟩)] 127)).heap.size = w1.heap.size + 1 + 1:=by simp
 have c2:=B2.c4
 gi_wp2_with fail
 generalize (w1.alloc (.cells #[.slice none 0 0] 101)).alloc (.cells #[.pointer (some ⟨w1.heap.size,0,none⟩)] 127) = w2 at *;have WR2:WrAt w2 w.heap.size w1.heap.size []:=⟨hg1,_,0,G2,World.ownsRow_nil _ _ _ _⟩;generalize w1.heap.size = g at *;refine ⟨trivial,?_⟩
 refine (callsIn_wide.2 (nodes_any _ _ _ _ _)).mono ?_
 rintro e w' ⟨rfl,rfl⟩;have P3:=P2.alloc (.cells #[x.a,x.b,x.c,x.d] 39);have WR3:=WR2.alloc (.cells #[x.a,x.b,x.c,x.d] 39);have B3:=Blk.new w2 39 #[x.a,x.b,x.c,x.d];have HB3:=HB2.alloc HB2.size (.cells #[x.a,x.b,x.c,x.d] 39);rw [hz] at B3
 gi_wp2_with fail
 clear B1 B2 G2 P2 HB2 WR2 HB1;generalize w2.alloc (.cells #[x.a,x.b,x.c,x.d] 39) = w3 at *;clear hz c2;have I1:OwnFrom w3.heap.size (fun (pre:List (PNode OkN w B)) W => WrAt W w.heap.size g (pre.flatMap fun y => encN y.1.t)):=Own.from (fun s X Y row hs hg hr => wr_own w.heap.size g (fun pre:List (PNode OkN w B) => pre.flatMap fun y => encN y.1.t) s X Y row hs hg hr) _
 have I2:OwnFrom w3.heap.size (fun (_:List (PNode OkN w B)) W => Blk W (g + 1) 127 #[.pointer (some ⟨g,0,none⟩)]):=Own.from (fun s X Y row hs hg hr => blk_own (β:=List (PNode OkN w B)) (g + 1) 127 (fun _ => #[.pointer (some ⟨g,0,none⟩)]) s X Y row hs hg hr) _
 have I3:OwnFrom w3.heap.size (fun (_:List (PNode OkN w B)) W => Below w.heap.size w W):=ownFrom_below (Nat.le_refl _) HB3.size
 refine wpIn_rangeFunc_ownH rfl (by omega) (gf:=153) (lb:=#[.pointer (some ⟨g + 1 + 1,0,none⟩)]) rfl trivial (enters_of Tryz.func153 (by kernel_rfl) rfl)
  (nodes_stops OkN okN_kids (6 - 1) w B hBw x ⟨HO.out.1,HO.out.2.2⟩ hs6 (g + 1 + 1) w3 B3 (KeepT.below HB3 hBw)) KeepT.trans (KeepT.put (Nat.le_trans hBw HB3.size)) (Below.refl _ _) (fun _ => rfl)
  _ (fun _ _ _ => False) (OwnFrom.and (OwnFrom.and I1 I2) I3)
  (fun _ _ _ _ _ hs _ _ => hs)
  ⟨⟨WR3,P3⟩,HB3⟩
  (fun y a' W => ∃ Bx,Blk W Bx 39 #[y.1.a,y.1.b,y.1.c,y.1.d] ∧ a' = { tmps:=#[.agg #[x.a,x.b,x.c,x.d],.pointer (some ⟨w.heap.size,0,none⟩),.slice none 0 0,.int .i64 0,.int .i64 0,.pointer (some ⟨g + 1,0,none⟩),.pointer (some ⟨Bx,0,none⟩),undef,undef,.agg #[x.a,x.b,x.c,x.d],.int .i64 0,.int .i64 0,.bool false,undef,.agg #[.slice none 0 0],.pointer (some ⟨g,0,none⟩),.agg #[x.a,x.b,x.c,x.d],.func (.func 153) #[] #[.pointer (some ⟨g + 1 + 1,0,none⟩)],.agg #[y.1.a,y.1.b,y.1.c,y.1.d],undef,undef,undef,undef,undef,undef,undef,undef,undef,undef,undef,undef,undef,undef,undef,undef,undef,undef,undef,undef,undef,undef,undef,undef,undef,undef,undef,undef,undef,undef,undef,undef,undef,undef,undef,undef,undef,undef,undef,undef,undef,undef,undef,undef,undef,undef,undef,undef,undef,undef,undef,undef,undef,undef,undef],defers:=[] })
  (fun y a' _ X Y row hs hg hr => by obtain ⟨Bx,h2,h3⟩:=hs;exact ⟨Bx,blk_own Bx 39 (fun (_:Unit) => #[y.1.a,y.1.b,y.1.c,y.1.d]) () X Y row h2 hg (fun r e => (hr r e).2),h3⟩)
  ?assign ?body ?done ?stop
 case assign =>
  rintro l pre y W K ⟨⟨hw,hp⟩,hB⟩ hK;obtain ⟨A1,n1,q1,A2,n2,q2,e1,e2,e3,e4⟩:=node_form y.1.h
  gi_wp2_with fail
  rw [← e1,← e2,← e3,← e4];exact hK _ _ ((KeepsOthers.alloc _ _).from _) (KeepT.alloc W (Nat.le_trans hBw hB.size) _) ⟨⟨hw.alloc _,hp.alloc _⟩,hB.alloc hB.size _⟩ ⟨W.heap.size,Blk.new W _ _,rfl⟩
 case body =>
  rintro l pre y a' W hl ⟨r,hr⟩ ⟨⟨hw,hp⟩,hB⟩ ⟨Bx,bX,rfl⟩ hlt;have hOk:=y.2.node;obtain ⟨e1,e2,r3,r4⟩:=y.1.parts;obtain ⟨A1,q1,e3,_,hiv⟩:=r3.ivs;obtain ⟨A2,q2,e4,hj1,hj2⟩:=r4.formulas;clear hj1 hj2;have hkl:=y.2.kids_le;have hop:0 ≤ y.1.t.op ∧ y.1.t.op ≤ 6:=by rcases hOk with h | h | h | h | h <;> omega
  have hn:0 ≤ y.1.t.n ∧ y.1.t.n ≤ 64:=by rcases hOk with h | h | h | h | h <;> omega
  have hins:=okNode_ins hOk;have hbl:=enc_pre pre;have hbl2:(pre.flatMap fun y => encN y.1.t).length ≤ 20000:=by omega
  have l1:=intL_len (n:=y.1.t.op) (by omega) (by omega)
  have l2:=intL_len (n:=y.1.t.n) (by omega) (by omega)
  have l3:=intL_len (n:=(y.1.t.ins.length:Int)) (by omega) (by have:=hins.1;omega)
  have HE:(pre ++ [y]).flatMap (fun y => encN y.1.t) = (pre.flatMap fun y => encN y.1.t) ++ intL y.1.t.op ++ intL y.1.t.n ++ intL y.1.t.ins.length ++ y.1.t.ins.flatMap (fun x => intsL x.nums) ++ intL y.1.t.kids.length:=by
   rw [List.flatMap_append];simp only [List.flatMap_cons,List.flatMap_nil,List.append_nil,encN,List.append_assoc]
  have HEH:=Lib.hid HE;rw [e1,e2,e3,e4] at bX;have HIV:=Lib.hid hiv;have HINS:=Lib.hid hins;clear r3 r4 e1 e2 e3 e4 HE hbl hOk hiv hins;generalize (pre.flatMap fun y => encN y.1.t) = bs at *
  generalize y.1.t.op = op at *;generalize y.1.t.n = nn at *;generalize y.1.t.ins = ins at *;generalize y.1.t.kids.length = kl at *;generalize y.1.a = ya;generalize y.1.b = yb;generalize y.1.c = yc;generalize y.1.d = yd;have hc0:=bX.c4;have hp0:=hp.c1.1
  gi_wp2_with fail
  refine ⟨trivial,?_⟩
  refine (CallsIn.inRound l (callsIn_wide.2 (wint_any g w.heap.size bs op W (by omega) (by omega) hw (by omega)))).mono ?_
  rintro e W1 ⟨⟨v1,rfl⟩,hw1,k1⟩;have bX1:=k1.blk bX (by decide) (by decide)
  have hp1:=k1.blk hp (by decide) (by decide)
  have hc1:=bX1.c4;have hq1:=hp1.c1.1;clear hc0 hp0
  gi_wp2_with fail
  refine ⟨trivial,?_⟩
  refine (CallsIn.inRound l (callsIn_wide.2 (wint_any g w.heap.size _ nn W1 (by omega) (by omega) hw1 (by rw [List.length_append];omega)))).mono ?_
  rintro e W2 ⟨⟨v2,rfl⟩,hw2,k2⟩;have bX2:=k2.blk bX1 (by decide) (by decide)
  have hp2:=k2.blk hp1 (by decide) (by decide)
  have hc2:=bX2.c4;have hq2:=hp2.c1.1;clear hc1 hq1 hw1
  gi_wp2_with fail
  refine ⟨trivial,?_⟩
  refine (CallsIn.inRound l (callsIn_wide.2 (wint_any g w.heap.size _ (ins.length:Int) W2 (by omega) (by have:=HINS.out.1;omega) hw2 (by simp only [List.length_append];omega)))).mono ?_
  rintro e W3 ⟨⟨v3,rfl⟩,hw3,k3⟩;have bX3:=k3.blk bX2 (by decide) (by decide)
  have hp3:=k3.blk hp2 (by decide) (by decide)
  have hc3:=bX3.c4;have hq3:=hp3.c1.1;have K3:=k1.trans (k2.trans k3);have HBW3:=hB.trans K3.1;clear hc2 hq2 hw2 k1 k2 k3 bX bX1 bX2 hp hp1 hp2 hw;have hb3:(bs ++ intL op ++ intL nn ++ intL (ins.length:Int)).length ≤ 20030:=by simp only [List.length_append];omega
  generalize bs ++ intL op ++ intL nn ++ intL (ins.length:Int) = b3 at *
  gi_wp2_with fail
  have hi1:ins.length ≤ 1:=HINS.out.1
  gi_loopw [35] (fun i wr => ∃ k:Nat,i = .int .i64 (k:Int) ∧ k ≤ ins.length ∧ WrAt wr w.heap.size g (b3 ++ (ins.take k).flatMap fun x => intsL x.nums) ∧ KeepsW w.heap.size W3 wr) (fun i _ => ins.length - (intOf i).toNat)
  case atStart => exact ⟨0,rfl,Nat.zero_le _,by simpa using hw3,KeepsW.refl _ _⟩
  case round =>
   obtain ⟨k,rfl,hk,hwr,hkr⟩:=hrel;have bXr:=hkr.blk bX3 (by decide) (by decide)
   have hpr:=hkr.blk hp3 (by decide) (by decide)
   have HBr:=HBW3.trans hkr.1
   have hbk:((ins.take k).flatMap fun x => intsL x.nums).length ≤ 90:=by
    have h1:=HINS.out.1;have h2:=HINS.out.2
    match ins,h1,h2 with
    | [],_,_ => simp
    | [z],_,h2 =>
     cases k with
     | zero => simp
     | succ k => simpa using ivE_len (h2 z List.mem_cons_self)
   by_cases hlt2:k < ins.length
   ·obtain ⟨b,o,rfl,hb,d0,d1,d2,d3,d4,d5,d6,d7⟩:=HIV.out k hlt2
    have hb':b < w.heap.size:=Nat.lt_of_lt_of_le hb hBw;have c0:=(HBr.cell (p:=⟨b,o + k * 8,none⟩) hb').trans d0;have c1:=(HBr.cell (p:=⟨b,o + k * 8 + 1,none⟩) hb').trans d1;have c2:=(HBr.cell (p:=⟨b,o + k * 8 + 2,none⟩) hb').trans d2;have c3:=(HBr.cell (p:=⟨b,o + k * 8 + 3,none⟩) hb').trans d3;have c4:=(HBr.cell (p:=⟨b,o + k * 8 + 4,none⟩) hb').trans d4;have c5:=(HBr.cell (p:=⟨b,o + k * 8 + 5,none⟩) hb').trans d5;have c6:=(HBr.cell (p:=⟨b,o + k * 8 + 6,none⟩) hb').trans d6;have c7:=(HBr.cell (p:=⟨b,o + k * 8 + 7,none⟩) hb').trans d7;have hz:=HINS.out.2 ins[k] (List.getElem_mem hlt2);have HN:=Lib.hid (okIv_nums hz);have hE8:=ivE_len hz
    have HT:(ins.take (k + 1)).flatMap (fun x => intsL x.nums) = ((ins.take k).flatMap fun x => intsL x.nums) ++ intsL ins[k].nums:=by
     rw [List.take_add_one,List.getElem?_eq_getElem hlt2,List.flatMap_append]
     simp
    have HTH:=Lib.hid HT;clear d0 d1 d2 d3 d4 d5 d6 d7 HT hz;generalize ins[k] = z at *
    gi_wp2_with fail
    have Z0:=Blk.new wr 164 #[iI z.ln,iI z.ld,iI z.hn,iI z.hd,.bool z.lo,.bool z.ho,.bool z.li,.bool z.hi];have P0:=hpr.alloc (.cells #[iI z.ln,iI z.ld,iI z.hn,iI z.hd,.bool z.lo,.bool z.ho,.bool z.li,.bool z.hi] 164);have X0:=bXr.alloc (.cells #[iI z.ln,iI z.ld,iI z.hn,iI z.hd,.bool z.lo,.bool z.ho,.bool z.li,.bool z.hi] 164);have A0:=hwr.alloc (.cells #[iI z.ln,iI z.ld,iI z.hn,iI z.hd,.bool z.lo,.bool z.ho,.bool z.li,.bool z.hi] 164);have K0:=hkr.trans (KeepsW.alloc w.heap.size wr HBr.size (.cells #[iI z.ln,iI z.ld,iI z.hn,iI z.hd,.bool z.lo,.bool z.ho,.bool z.li,.bool z.hi] 164));clear bXr hpr hwr hkr HBr c0 c1 c2 c3 c4 c5 c6 c7;have HX:=Lib.hid X0;clear X0;generalize wr.alloc (.cells #[iI z.ln,iI z.ld,iI z.hn,iI z.hd,.bool z.lo,.bool z.ho,.bool z.li,.bool z.hi] 164) = wa at *;refine region_in (S:=(fun w' => Blk w' (g + 1) 127 #[.pointer (some ⟨g,0,none⟩)] ∧ Blk w' wr.heap.size 164 #[iI z.ln,iI z.ld,iI z.hn,iI z.hd,.bool z.lo,.bool z.ho,.bool z.li,.bool z.hi] ∧ KeepsW w.heap.size W3 w')) (by kernel_rfl) (by kernel_rfl) ?_ (fun hHeld => ?_)
    ·first | done | ((try dsimp only);exact ⟨P0,Z0,K0.drew⟩)
    have A1:=A0.drew;clear P0 Z0 A0 K0;generalize wa.drew = wb at *;refine th 0 39 rfl (fun _ hSw => hSw.1.c1.1) ?_
    refine tq 1 40 rfl ?_
    refine tq 2 41 rfl ?_
    refine th 3 42 rfl (fun _ hSw => hSw.2.1.c8) ?_
    refine tq 4 43 rfl ?_
    refine tq 5 44 rfl ?_
    refine th 6 45 rfl (fun _ hSw => hSw.2.1.c8) ?_
    refine tq 7 46 rfl ?_
    refine tq 8 47 rfl ?_
    refine th 9 48 rfl (fun _ hSw => hSw.2.1.c8) ?_
    refine tq 10 49 rfl ?_
    refine tq 11 50 rfl ?_
    refine th 12 51 rfl (fun _ hSw => hSw.2.1.c8) ?_
    refine tq 13 52 rfl ?_
    refine th 14 53 rfl (fun _ hSw => hSw.2.1.c8) ?_
    refine tq 16 55 rfl ?_
    refine th 17 56 rfl (fun _ hSw => hSw.2.1.c8) ?_
    refine tq 19 58 rfl ?_
    refine th 20 59 rfl (fun _ hSw => hSw.2.1.c8) ?_
    refine tq 22 61 rfl ?_
    refine th 23 62 rfl (fun _ hSw => hSw.2.1.c8) ?_
    refine rd 15 (some 54) rfl fun K hK => ?_
    go_simp
    (refine (number_any z.lo _).mono ?_;rintro e w' ⟨rfl,rfl⟩)
    refine hK.out _ _ (hHeld) fun hHeld => ?_
    clear hK K;(try simp only [pS,pB,pZ,pC]);refine rd 18 (some 57) rfl fun K hK => ?_
    go_simp
    (refine (number_any z.ho _).mono ?_;rintro e w' ⟨rfl,rfl⟩)
    refine hK.out _ _ (hHeld) fun hHeld => ?_
    clear hK K;(try simp only [pS,pB,pZ,pC]);refine rd 21 (some 60) rfl fun K hK => ?_
    go_simp
    (refine (number_any z.li _).mono ?_;rintro e w' ⟨rfl,rfl⟩)
    refine hK.out _ _ (hHeld) fun hHeld => ?_
    clear hK K;(try simp only [pS,pB,pZ,pC]);refine rd 24 (some 63) rfl fun K hK => ?_
    go_simp
    (refine (number_any z.hi _).mono ?_;rintro e w' ⟨rfl,rfl⟩)
    refine hK.out _ _ (hHeld) fun hHeld => ?_
    clear hK K;(try simp only [pS,pB,pZ,pC]);refine rd 25 (some 64) rfl fun K hK => ?_
    go_simp;skip;refine hK.out _ _ (⟨hHeld.1.alloc _,hHeld.2.1.alloc _,hHeld.2.2.trans (KeepsW.alloc _ _ (Nat.le_trans HBW3.size hHeld.2.2.1.size) _)⟩) fun hHeld => ?_
    clear hK K;(try simp only [pS,pB,pZ,pC]);have A2:=A1.alloc (.cells #[iI z.ln,iI z.ld,iI z.hn,iI z.hd,iI (oneB z.lo),iI (oneB z.ho),iI (oneB z.li),iI (oneB z.hi)] 3);have Q2:=Blk.new wb 3 #[iI z.ln,iI z.ld,iI z.hn,iI z.hd,iI (oneB z.lo),iI (oneB z.ho),iI (oneB z.li),iI (oneB z.hi)]
    have hlen:(b3 ++ (ins.take k).flatMap fun x => intsL x.nums).length + 10 * z.nums.length ≤ 900000000:=by
     rw [List.length_append];have:z.nums.length = 8:=rfl;omega
    refine rd 26 (some 65) rfl fun K hK => ?_
    go_simp
    (refine (wints_blk g w.heap.size _ z.nums 8 wb.heap.size _ rfl rfl _ A2 hlen HN.out Q2).mono ?_;rintro e w5 ⟨⟨v5,rfl⟩,A3,k5⟩)
    refine hK.out _ _ (⟨k5.blk hHeld.1 (by decide) (by decide),k5.blk hHeld.2.1 (by decide) (by decide),hHeld.2.2.trans k5⟩) fun hHeld => ?_
    clear hK K;(try simp only [pS,pB,pZ,pC]);refine dn ?_
    refine ⟨?_,fun h => by cases h⟩
    rw [List.append_assoc,← HTH.out] at A3
    gi_wp2_with fail
    go_roundw
    case rel => exact ⟨k + 1,by go_num,by omega,A3,hHeld.2.2⟩
    case measure => simp [intOf];omega
   ·obtain rfl:k = ins.length:=by omega
    rw [List.take_length] at hwr hbk;have hce:=bXr.c4;have hpe:=hpr.c1.1;have HEw:=Lib.hid hwr;have HKr:=Lib.hid hkr;clear hwr
    gi_wp2_with fail
    refine ⟨trivial,?_⟩
    refine (CallsIn.inRound l (callsIn_wide.2 (wint_any g w.heap.size _ (kl:Int) wr (by omega) (by omega) HEw.out (by rw [List.length_append];omega)))).mono ?_
    rintro e W5 ⟨⟨v5,rfl⟩,hw5,k5⟩;rw [← HEH.out] at hw5;have hp5:=k5.blk hpr (by decide) (by decide)
    have K5:=K3.trans (HKr.out.trans k5);clear hce hpe
    gi_wp2_with fail
    exact ⟨K5.others.from _,K5.keepT hBw,⟨⟨hw5,hp5⟩,hB.trans K5.1⟩⟩
 case done =>
  rintro D ys W hD hys ⟨⟨hw,hp⟩,hB⟩ hK
  have hE:(ys.flatMap fun y => encN y.1.t) = encF x.t:=by
   unfold encF;rw [← hys,List.flatMap_map]
  have hyl:ys.length = x.t.size:=by
   have:=congrArg List.length hys;rw [List.length_map,F.nodes_length] at this;exact this
  have hlen:=enc_pre ys;rw [hE] at hw hlen;have hl2:(encF x.t).length ≤ 3000000000:=by omega
  clear hys hE hlen;have hp0:=hp.c1.1
  gi_wp2_with fail
  refine ⟨trivial,?_⟩
  refine (callsIn_wide.2 (wdone_own g w.heap.size _ W hw hl2)).mono ?_
  rintro e W2 ⟨v,rfl,hrep,hb2⟩;have hK2:W2.heap[D]? = some (.deferred (some [])):=(hb2.block D (Array.getElem?_eq_some_iff.1 hK).1).trans hK
  have hB2:=hB.trans (hb2.mono hB.size)
  gi_wp2_with fail
  refine ⟨by simp,.inl ⟨_,_,rfl,run_takeDeferred hK2,?_⟩⟩
  exact ⟨_,results_tmp2 rfl _ _ _,v,rfl,own_put _ (hrep.mono hB.size) hK2,hB2.trans (belowK_b (w:=w) (Nat.le_refl _) _ D _ _ (Nat.le_trans HB3.size hD) hK2 rfl rfl)⟩
 case stop =>
  rintro D c pre W _ _ h _;exact h.elim
theorem refsmall_any (n d:Int) (h:SmallR n d) (w:World) :
  Calls Tryz.prog 223 #[.agg #[.int .i64 n,.int .i64 d]] w fun e w' => e = .returned (.bool true) ∧ Below w.heap.size w w':=by
 obtain ⟨b1,b2,b3,b4⟩:=h.bd;have HV:=Lib.hid (fun w => ratrefvalid_any n d w)
 rw [h.1] at HV;clear h;have B0:=Blk.new w 31 #[.int .i64 n,.int .i64 d];go_enter Tryz.func223,Tryz.ntmps223
 go_wp2_with (go_at_call 168;refine (HV.out _).mono ?_;rintro e w1 ⟨rfl,hb1⟩;have hc:=(B0.keep hb1).c2)
 go_ret;exact ⟨rfl,below_up (below_new _ _) hb1 (by simp)⟩
theorem small0 (w:World) :
  Calls Tryz.prog 223 #[.agg #[.int .i64 0,.int .i64 0]] w fun e w' => e = .returned (.bool false) ∧ Below w.heap.size w w':=by
 have HV:=Lib.hid (fun w => ratrefvalid_any 0 0 w)
 have B0:=Blk.new w 31 #[.int .i64 0,.int .i64 0];rw [show valE 0 0 = 1 by decide] at HV
 go_enter Tryz.func223,Tryz.ntmps223
 go_wp2_with (go_at_call 168;refine (HV.out _).mono ?_;rintro e w1 ⟨rfl,hb1⟩;have hc:=(B0.keep hb1).c2)
 go_ret;exact ⟨rfl,below_up (below_new _ _) hb1 (by simp)⟩
theorem refless_fin (ln ld hn hd:Int) (P Q:Int) (hP:IntKind.i64.wrap (ln * hd) = P) (hQ:IntKind.i64.wrap (hn * ld) = Q) (h:P < Q) (w:World) :
  Calls Tryz.prog 188 #[.agg #[.int .i64 ln,.int .i64 ld],.agg #[.int .i64 hn,.int .i64 hd]] w fun e w' => e = .returned (.bool true) ∧ Below w.heap.size w w':=by
 have h1:decide (P < Q) = true:=by simp;omega
 go_enter Tryz.func188,Tryz.ntmps188
 go_wp2;go_ret;exact ⟨by rw [← h1];rfl,(below_new _ _).alloc (by simp) _⟩
theorem refgood_inf (ln ld:Int) (lo:Bool) (h2:SmallR ln ld) (w:World) :
  Calls Tryz.prog 220 #[.agg #[iI ln,iI ld,iI 0,iI 0,.bool lo,.bool false,.bool false,.bool true]] w fun e w' => e = .returned (.bool true) ∧ Below w.heap.size w w':=by
 have HL:=Lib.hid (fun w => refsmall_any ln ld h2 w)
 clear h2;have HZ:=Lib.hid (fun w => small0 w)
 have B0:=Blk.new w 164 #[iI ln,iI ld,iI 0,iI 0,.bool lo,.bool false,.bool false,.bool true];go_enter Tryz.func220,Tryz.ntmps220
 go_wp2_with fail;refine (HL.out _).mono ?_
 rintro e w1 ⟨rfl,hb1⟩;have B1:=B0.keep hb1;have hc1:=B1.c8;go_wp2_with fail;refine (HZ.out _).mono ?_
 rintro e w2 ⟨rfl,hb2⟩;have B2:=B1.keep hb2;have hc2:=B2.c8;clear hc1;go_wp2_with fail;have Q1:=below_up (below_new _ _) hb1 (by simp)
 have Q2:=below_up Q1 hb2 Q1.size;go_ret;exact ⟨rfl,Q2⟩
theorem refgood_ne (ln ld hn hd:Int) (lo ho:Bool) (h2:SmallR ln ld) (h5:SmallR hn hd) (h6:ln * hd < hn * ld) (hne:¬ ln = hn) (w:World) :
  Calls Tryz.prog 220 #[.agg #[iI ln,iI ld,iI hn,iI hd,.bool lo,.bool ho,.bool false,.bool false]] w fun e w' => e = .returned (.bool true) ∧ Below w.heap.size w w':=by
 have HL:=Lib.hid (fun w => refsmall_any ln ld h2 w)
 have HR:=Lib.hid (fun w => refsmall_any hn hd h5 w)
 obtain ⟨b1,b2,b3,b4⟩:=h2.bd;obtain ⟨b5,b6,b7,b8⟩:=h5.bd;have HP:=Lib.hid (fun w => refless_fin ln ld hn hd _ _ (prod_in (a:=ln) (b:=hd) b3 b4 b5 b6) (prod_in (a:=hn) (b:=ld) b7 b8 b1 b2) h6 w)
 clear h2 h5 h6 b1 b2 b3 b4 b5 b6 b7 b8;have B0:=Blk.new w 164 #[iI ln,iI ld,iI hn,iI hd,.bool lo,.bool ho,.bool false,.bool false];go_enter Tryz.func220,Tryz.ntmps220
 go_wp2_with fail;refine (HL.out _).mono ?_
 rintro e w1 ⟨rfl,hb1⟩;have B1:=B0.keep hb1;have hc1:=B1.c8;go_wp2_with fail;refine (HR.out _).mono ?_
 rintro e w2 ⟨rfl,hb2⟩;have B2:=B1.keep hb2;have hc2:=B2.c8;clear hc1;have Q1:=below_up (below_new _ _) hb1 (by simp)
 have Q2:=below_up Q1 hb2 Q1.size;clear B1 B2 B0 hb1 hb2 Q1;go_wp2_with fail;refine (HP.out _).mono ?_
 rintro e w4 ⟨rfl,hb4⟩;go_wp2_with fail;go_ret;exact ⟨rfl,below_up Q2 hb4 Q2.size⟩
theorem refgood_eq (ln ld hd:Int) (lo ho:Bool) (h2:SmallR ln ld) (h5:SmallR ln hd) (h6:ln * hd < ln * ld) (hne:¬ ld = hd) (w:World) :
  Calls Tryz.prog 220 #[.agg #[iI ln,iI ld,iI ln,iI hd,.bool lo,.bool ho,.bool false,.bool false]] w fun e w' => e = .returned (.bool true) ∧ Below w.heap.size w w':=by
 have HL:=Lib.hid (fun w => refsmall_any ln ld h2 w)
 have HR:=Lib.hid (fun w => refsmall_any ln hd h5 w)
 obtain ⟨b1,b2,b3,b4⟩:=h2.bd;obtain ⟨b5,b6,b7,b8⟩:=h5.bd;have HP:=Lib.hid (fun w => refless_fin ln ld ln hd _ _ (prod_in (a:=ln) (b:=hd) b3 b4 b5 b6) (prod_in (a:=ln) (b:=ld) b7 b8 b1 b2) h6 w)
 clear h2 h5 h6 b1 b2 b3 b4 b5 b6 b7 b8;have B0:=Blk.new w 164 #[iI ln,iI ld,iI ln,iI hd,.bool lo,.bool ho,.bool false,.bool false];go_enter Tryz.func220,Tryz.ntmps220
 go_wp2_with fail;refine (HL.out _).mono ?_
 rintro e w1 ⟨rfl,hb1⟩;have B1:=B0.keep hb1;have hc1:=B1.c8;go_wp2_with fail;refine (HR.out _).mono ?_
 rintro e w2 ⟨rfl,hb2⟩;have B2:=B1.keep hb2;have hc2:=B2.c8;clear hc1;have Q1:=below_up (below_new _ _) hb1 (by simp)
 have Q2:=below_up Q1 hb2 Q1.size;clear B1 B2 B0 hb1 hb2 Q1;go_wp2_with fail;refine (HP.out _).mono ?_
 rintro e w4 ⟨rfl,hb4⟩;go_wp2_with fail;go_ret;exact ⟨rfl,below_up Q2 hb4 Q2.size⟩
theorem refgood_any (x:Iv) (h:OkIv x) (w:World) :
  Calls Tryz.prog 220 #[.agg #[iI x.ln,iI x.ld,iI x.hn,iI x.hd,.bool x.lo,.bool x.ho,.bool x.li,.bool x.hi]] w fun e w' => e = .returned (.bool true) ∧ Below w.heap.size w w':=by
 obtain ⟨ln,ld,hn,hd,lo,ho,li,hi⟩:=x;obtain ⟨h1,h2,h3⟩:=h;dsimp only at h1 h2 h3 ⊢;subst h1;rcases h3 with ⟨h4,h5,h6,h7⟩ | ⟨h4,h5,h6⟩
 ·subst h4 h5 h6 h7
  exact refgood_inf ln ld lo h2 w
 ·subst h4
  by_cases e:ln = hn
  ·subst e
   exact refgood_eq ln ld hd lo ho h2 h5 h6 (by rintro rfl;omega) w
  ·exact refgood_ne ln ld hn hd lo ho h2 h5 h6 e w
theorem refspan_any (l:List Iv) (hl:OkIvs l) (v:Value) (w:World) (B:Nat) (hBw:B ≤ w.heap.size) (hr:Rep w B v (.s 8 (l.flatMap Iv.cells))) :
  Calls Tryz.prog 211 #[v] w fun e w' => e = .returned (.int .i64 0) ∧ Below w.heap.size w w':=by
 obtain ⟨A,c,rfl,hc,hcell⟩:=hr.ivs;clear hr;obtain ⟨hl1,hok⟩:=hl;have HO:=Lib.hid hok;clear hok;go_enter Tryz.func211,Tryz.ntmps211
 go_wp2;go_loopw [3,4] (fun i _ wr => ∃ k:Nat,i = .int .i64 (k:Int) ∧ k ≤ l.length ∧ Below w.heap.size w wr) (fun i _ _ => l.length - (intOf i).toNat)
 case atStart => exact ⟨0,rfl,Nat.zero_le _,Below.refl _ _⟩
 case round =>
  obtain ⟨k,rfl,hk,hB⟩:=hrel;by_cases hlt:k < l.length
  ·obtain rfl:k = 0:=by omega
   obtain ⟨b,o,rfl,hb,c0,c1,c2,c3,c4,c5,c6,c7⟩:=hcell 0 hlt;have HX:=Lib.hid (HO.out _ (List.getElem_mem hlt));simp only [Nat.zero_mul,Nat.add_zero] at c0 c1 c2 c3 c4 c5 c6 c7;have hb':b < w.heap.size:=by omega
   have d0:=(hB.cell (p:=⟨b,o,none⟩) hb').trans c0;have d1:=(hB.cell (p:=⟨b,o + 1,none⟩) hb').trans c1;have d2:=(hB.cell (p:=⟨b,o + 2,none⟩) hb').trans c2;have d3:=(hB.cell (p:=⟨b,o + 3,none⟩) hb').trans c3;have d4:=(hB.cell (p:=⟨b,o + 4,none⟩) hb').trans c4;have d5:=(hB.cell (p:=⟨b,o + 5,none⟩) hb').trans c5;have d6:=(hB.cell (p:=⟨b,o + 6,none⟩) hb').trans c6;have d7:=(hB.cell (p:=⟨b,o + 7,none⟩) hb').trans c7;clear c0 c1 c2 c3 c4 c5 c6 c7 hcell;generalize l[0] = x at *;go_upto_region 5 with (go_at_call 220;refine (refgood_any x HX.out _).mono ?_;rintro e w1 ⟨rfl,hb1⟩)
   have Q:=below_up hB hb1 hB.size;clear d0 d1 d2 d3 d4 d5 d6 d7;go_quiet (fail);go_wp2;go_roundw
   case rel => exact ⟨1,by go_num,by omega,below_drewN Q _⟩
   case measure => simp [intOf];omega
  ·obtain rfl:k = l.length:=by omega
   have h32:decide ((32:Int) < (l.length:Int)) = false:=by simp;omega
   go_wp2_with fail;go_ret;exact ⟨rfl,hB⟩
theorem refdeep_any:∀ (n:Nat) (w:World) (B:Nat) (x:FNode w B),B ≤ w.heap.size → x.t.size ≤ n → n ≤ 1000000 →
  Calls Tryz.prog 182 #[.agg #[x.a,x.b,x.c,x.d]] w fun e w' => e = .returned (.int .i64 (x.t.deep:Int)) ∧ Below w.heap.size w w':=by
 intro n
 induction n with
 | zero => intro w B x _ h;have:=x.t.size_pos;omega
 | succ n ih =>
  intro w B x hBw hx hn;obtain ⟨A,c,hd,hc,hcell⟩:=x.parts.2.2.2.formulas;have hdp:=x.t.deep_eq;have HK:=Lib.hid (fun (k:F) (h:k ∈ x.t.kids) => F.kid_size h)
  have hlen:x.t.kids.length ≤ 1000000:=by
   have h1:=kids_le x.t.kids;have h2:=x.t.nodes_length;rw [x.t.nodes_eq,List.length_cons,nodes_flat_length] at h2;omega
  have HD:=Lib.hid hdp
  have HS:sizeL x.t.kids ≤ 1000000:=by
   have h2:=x.t.nodes_length;rw [x.t.nodes_eq,List.length_cons,nodes_flat_length] at h2;omega
  have HS:=Lib.hid HS;rw [hd];generalize x.t.deep = dp at *;generalize x.t.kids = kids at *;generalize x.a = xa;generalize x.b = xb;generalize x.c = xc;clear hdp hd;go_enter Tryz.func182,Tryz.ntmps182
  go_wp2;go_loopw [3,4] (fun n i wr => ∃ k:Nat,n = .int .i64 (deepL (kids.take k):Int) ∧ i = .int .i64 (k:Int) ∧ k ≤ kids.length ∧ Below w.heap.size w wr ∧ Blk wr w.heap.size 39 #[xa,xb,xc,.slice A kids.length c]) (fun _ i _ => kids.length - (intOf i).toNat)
  case atStart => exact ⟨0,rfl,rfl,Nat.zero_le _,below_new _ _,Blk.new w 39 #[xa,xb,xc,.slice A kids.length c]⟩
  case round =>
   obtain ⟨k,rfl,rfl,hk,hB,bX⟩:=hrel;have hcb:=bX.c4;by_cases hlt:k < kids.length
   ·obtain ⟨b,o,y,rfl,hb,hy,c0,c1,c2,c3⟩:=hcell k hlt
    have hb':b < w.heap.size:=by omega
    have d0:=(hB.cell (p:=⟨b,o + k * 4,none⟩) hb').trans c0;have d1:=(hB.cell (p:=⟨b,o + k * 4 + 1,none⟩) hb').trans c1;have d2:=(hB.cell (p:=⟨b,o + k * 4 + 2,none⟩) hb').trans c2;have d3:=(hB.cell (p:=⟨b,o + k * 4 + 3,none⟩) hb').trans c3;have hmem:kids[k] ∈ kids:=List.getElem_mem _;have hks:=HK.out _ hmem;have HT:=Lib.hid (deepL_take kids k hlt);rw [← hy] at hks HT;have hB2:=hB;have HI:=Lib.hid (ih _ B ⟨y.a,y.b,y.c,y.d,y.t,y.h.keep (fun p hp => hB2.cell (Nat.lt_of_lt_of_le hp hBw)) (Nat.le_refl _)⟩ (Nat.le_trans hBw hB2.size) (by dsimp only;omega) (by omega))
    have g1:(y.t.deep:Int) ≤ 1000000:=by have:=F.deep_le y.t;omega
    clear c0 c1 c2 c3 hcell ih hmem hy;dsimp only at HI;obtain ⟨ya,yb,yc,yd,yt,yh⟩:=y;obtain ⟨A1,n1,q1,A2,n2,q2,e1,e2,e3,e4⟩:=node_form yh;dsimp only at *;subst e1 e2 e3 e4;clear yh;go_wp2_with (go_at_call 182;refine HI.out.mono ?_;rintro e w2 ⟨rfl,hb2⟩)
    have HM:=hB2.trans (hb2.mono hB2.size);have bX2:=bX.keep hb2;go_roundw
    case rel =>
     refine ⟨k + 1,?_,by go_num,by omega,HM,bX2⟩
     rw [HT.out];congr 1;rw [Nat.max_def];by_cases h1:deepL (kids.take k) < yt.deep
     ·rw [if_pos h1,if_pos (by omega)]
     ·rw [if_neg h1]
      by_cases h2:deepL (kids.take k) ≤ yt.deep
      ·rw [if_pos h2];omega
      ·rw [if_neg h2]
    case measure => simp [intOf];omega
   ·obtain rfl:k = kids.length:=by omega
    have g1:((deepL kids:Nat):Int) ≤ 1000000:=by
     have h1:=deepL_le kids;have h2:=HS.out;omega
    have HD2:((deepL kids:Nat):Int) + 1 = (dp:Int):=by
     rw [HD.out];rfl
    have HD2:=Lib.hid HD2;go_wp2_with fail;go_ret;exact ⟨rfl,hB⟩
theorem F.size_eq (t:F):t.size = 1 + sizeL t.kids:=by
 cases t
 rw [F.size];rfl
theorem refsize_any:∀ (n:Nat) (w:World) (B:Nat) (x:FNode w B),B ≤ w.heap.size → x.t.size ≤ n → n ≤ 1000000 →
  Calls Tryz.prog 181 #[.agg #[x.a,x.b,x.c,x.d]] w fun e w' => e = .returned (.int .i64 (x.t.size:Int)) ∧ Below w.heap.size w w':=by
 intro n
 induction n with
 | zero => intro w B x _ h;have:=x.t.size_pos;omega
 | succ n ih =>
  intro w B x hBw hx hn;obtain ⟨A,c,hd,hc,hcell⟩:=x.parts.2.2.2.formulas;have hdp:=F.size_eq x.t;have HK:=Lib.hid (fun (k:F) (h:k ∈ x.t.kids) => F.kid_size h)
  have hlen:x.t.kids.length ≤ 1000000:=by
   have h1:=kids_le x.t.kids;have h2:=x.t.nodes_length;rw [x.t.nodes_eq,List.length_cons,nodes_flat_length] at h2;omega
  have HD:=Lib.hid hdp
  have HS:sizeL x.t.kids ≤ 1000000:=by
   have h2:=x.t.nodes_length;rw [x.t.nodes_eq,List.length_cons,nodes_flat_length] at h2;omega
  have HS:=Lib.hid HS;rw [hd];generalize x.t.size = dp at *;generalize x.t.kids = kids at *;generalize x.a = xa;generalize x.b = xb;generalize x.c = xc;clear hdp hd;go_enter Tryz.func181,Tryz.ntmps181
  go_wp2;go_loopw [3,4] (fun n i wr => ∃ k:Nat,n = .int .i64 ((1 + sizeL (kids.take k):Nat):Int) ∧ i = .int .i64 (k:Int) ∧ k ≤ kids.length ∧ Below w.heap.size w wr ∧ Blk wr w.heap.size 39 #[xa,xb,xc,.slice A kids.length c]) (fun _ i _ => kids.length - (intOf i).toNat)
  case atStart => exact ⟨0,rfl,rfl,Nat.zero_le _,below_new _ _,Blk.new w 39 #[xa,xb,xc,.slice A kids.length c]⟩
  case round =>
   obtain ⟨k,rfl,rfl,hk,hB,bX⟩:=hrel;have hcb:=bX.c4;by_cases hlt:k < kids.length
   ·obtain ⟨b,o,y,rfl,hb,hy,c0,c1,c2,c3⟩:=hcell k hlt
    have hb':b < w.heap.size:=by omega
    have d0:=(hB.cell (p:=⟨b,o + k * 4,none⟩) hb').trans c0;have d1:=(hB.cell (p:=⟨b,o + k * 4 + 1,none⟩) hb').trans c1;have d2:=(hB.cell (p:=⟨b,o + k * 4 + 2,none⟩) hb').trans c2;have d3:=(hB.cell (p:=⟨b,o + k * 4 + 3,none⟩) hb').trans c3;have hmem:kids[k] ∈ kids:=List.getElem_mem _;have hks:=HK.out _ hmem;have HT:=Lib.hid (sizeL_take kids k hlt);rw [← hy] at hks HT;have hB2:=hB;have HI:=Lib.hid (ih _ B ⟨y.a,y.b,y.c,y.d,y.t,y.h.keep (fun p hp => hB2.cell (Nat.lt_of_lt_of_le hp hBw)) (Nat.le_refl _)⟩ (Nat.le_trans hBw hB2.size) (by dsimp only;omega) (by omega))
    have g1:(y.t.size:Int) ≤ 1000000:=by omega
    have g2:(sizeL (kids.take k):Int) ≤ 1000000:=by have:=sizeL_take_le kids k;have:=HS.out;omega
    clear c0 c1 c2 c3 hcell ih hmem hy;dsimp only at HI;obtain ⟨ya,yb,yc,yd,yt,yh⟩:=y;obtain ⟨A1,n1,q1,A2,n2,q2,e1,e2,e3,e4⟩:=node_form yh;dsimp only at *;subst e1 e2 e3 e4;clear yh;go_wp2_with (go_at_call 181;refine HI.out.mono ?_;rintro e w2 ⟨rfl,hb2⟩)
    have HM:=hB2.trans (hb2.mono hB2.size);have bX2:=bX.keep hb2;go_roundw
    case rel =>
     refine ⟨k + 1,?_,by go_num,by omega,HM,bX2⟩
     rw [HT.out,← Nat.add_assoc];rfl
    case measure => simp [intOf];omega
   ·obtain rfl:k = kids.length:=by omega
    have g1:((sizeL kids:Nat):Int) ≤ 1000000:=by
     have h2:=HS.out;omega
    have HD2:=HD.out;go_wp2_with fail;go_ret;exact ⟨by rw [HD2,List.take_length];rfl,hB⟩
section
variable (A1 A2:Option Addr) (c1 c2:Nat) (w:World)
theorem refformed0:Calls Tryz.prog 201 #[.agg #[.int .i64 0,.int .i64 0,.slice A1 0 c1,.slice A2 0 c2]] w fun e w' => e = .returned (.bool true) ∧ Below w.heap.size w w':=by
 go_enter Tryz.func201,Tryz.ntmps201
 go_wp2;go_ret;exact ⟨rfl,below_new _ _⟩
theorem refformed1 (n:Int) (h0:0 ≤ n) (h1:n < 64):Calls Tryz.prog 201 #[.agg #[.int .i64 1,.int .i64 n,.slice A1 0 c1,.slice A2 0 c2]] w fun e w' => e = .returned (.bool true) ∧ Below w.heap.size w w':=by
 go_enter Tryz.func201,Tryz.ntmps201
 go_wp2;go_ret;exact ⟨rfl,below_new _ _⟩
theorem refformed2 (n:Int) (h0:0 ≤ n) (h1:n < 32) (m:Nat) (HV:∀ W,Below w.heap.size w W → Calls Tryz.prog 211 #[.slice A1 m c1] W fun e w' => e = .returned (.int .i64 0) ∧ Below W.heap.size W w') :
  Calls Tryz.prog 201 #[.agg #[.int .i64 2,.int .i64 n,.slice A1 m c1,.slice A2 0 c2]] w fun e w' => e = .returned (.bool true) ∧ Below w.heap.size w w':=by
 have HH:=Lib.hid HV;clear HV;go_enter Tryz.func201,Tryz.ntmps201
 go_wp2_with (go_at_call 211;refine (HH.out _ (below_new _ _)).mono ?_;rintro e w1 ⟨rfl,hb1⟩)
 go_ret;exact ⟨rfl,below_up (below_new _ _) hb1 (by simp)⟩
theorem refformed3:Calls Tryz.prog 201 #[.agg #[.int .i64 3,.int .i64 0,.slice A1 0 c1,.slice A2 1 c2]] w fun e w' => e = .returned (.bool true) ∧ Below w.heap.size w w':=by
 go_enter Tryz.func201,Tryz.ntmps201
 go_wp2;go_ret;exact ⟨rfl,below_new _ _⟩
theorem refformed6:Calls Tryz.prog 201 #[.agg #[.int .i64 6,.int .i64 0,.slice A1 0 c1,.slice A2 1 c2]] w fun e w' => e = .returned (.bool true) ∧ Below w.heap.size w w':=by
 go_enter Tryz.func201,Tryz.ntmps201
 go_wp2;go_ret;exact ⟨rfl,below_new _ _⟩
theorem refformed4 (m:Nat):Calls Tryz.prog 201 #[.agg #[.int .i64 4,.int .i64 0,.slice A1 0 c1,.slice A2 m c2]] w fun e w' => e = .returned (.bool true) ∧ Below w.heap.size w w':=by
 go_enter Tryz.func201,Tryz.ntmps201
 go_wp2;go_ret;exact ⟨rfl,below_new _ _⟩
theorem refformed5 (m:Nat):Calls Tryz.prog 201 #[.agg #[.int .i64 5,.int .i64 0,.slice A1 0 c1,.slice A2 m c2]] w fun e w' => e = .returned (.bool true) ∧ Below w.heap.size w w':=by
 go_enter Tryz.func201,Tryz.ntmps201
 go_wp2;go_ret;exact ⟨rfl,below_new _ _⟩
end
theorem refformed_any (w:World) (B:Nat) (hBw:B ≤ w.heap.size) (x:FNode w B) (h:OkNode x.t) :
  Calls Tryz.prog 201 #[.agg #[x.a,x.b,x.c,x.d]] w fun e w' => e = .returned (.bool true) ∧ Below w.heap.size w w':=by
 obtain ⟨e1,e2,r3,r4⟩:=x.parts;obtain ⟨A1,c1,e3,_,_⟩:=r3.ivs;obtain ⟨A2,c2,e4,_,_⟩:=r4.formulas;rw [e1,e2,e3,e4];rcases h with ⟨h1,h2,h3,h4⟩ | ⟨h1,h2,h3,h4⟩ | ⟨h1,h2,h3,h4⟩ | ⟨h1,h2,h3,h4⟩ | ⟨h1,h2,h3⟩
 ·rw [h1,h2,h3,h4];exact refformed0 A1 A2 c1 c2 w
 ·rw [h1,h3,h4];exact refformed1 A1 A2 c1 c2 w _ h2.1 h2.2
 ·rw [h1,h4]
  refine refformed2 A1 A2 c1 c2 w _ h2.1 h2.2 _ (fun W hW => ?_)
  rw [← e3];exact refspan_any _ h3 _ W B (Nat.le_trans hBw hW.size) (r3.keep (fun p hp => hW.cell (Nat.lt_of_lt_of_le hp hBw)) (Nat.le_refl _))
 ·rw [h2,h3,h4]
  rcases h1 with h1 | h1
  ·rw [h1];exact refformed3 A1 A2 c1 c2 w
  ·rw [h1];exact refformed6 A1 A2 c1 c2 w
 ·rw [h2,h3]
  rcases h1 with h1 | h1
  ·rw [h1];exact refformed4 A1 A2 c1 c2 w _
  ·rw [h1];exact refformed5 A1 A2 c1 c2 w _
theorem whole_any:∀ (n:Nat) (w:World) (B:Nat) (x:FNode w B),B ≤ w.heap.size → x.t.size ≤ n → OkN x.t →
  Calls Tryz.prog 183 #[.agg #[x.a,x.b,x.c,x.d]] w fun e w' => e = .returned (.bool true) ∧ Below w.heap.size w w':=by
 intro n
 induction n with
 | zero => intro w B x _ h;have:=x.t.size_pos;omega
 | succ n ih =>
  intro w B x hBw hx hOk;have hsz:=hOk.1
  have hkl:x.t.kids.length ≤ 96:=by
   have h1:=kids_le x.t.kids;have h2:=x.t.nodes_length;rw [x.t.nodes_eq,List.length_cons,nodes_flat_length] at h2;omega
  have HK:=Lib.hid (fun (k:F) (h:k ∈ x.t.kids) => (⟨F.kid_size h,okN_kids x.t hOk k h⟩:k.size < x.t.size ∧ OkN k))
  have HF:=Lib.hid (fun (W:World) (hk:∀ p:Addr,p.block < B → W.cell? p = w.cell? p) (hB:B ≤ W.heap.size) => refformed_any W B hB (x.up hk (Nat.le_refl _)) (hOk.2 _ (by rw [F.nodes_eq];exact List.mem_cons_self)))
  obtain ⟨e1,e2,r3,r4⟩:=x.parts;obtain ⟨A1,q1,e3,hq1,hq2⟩:=r3.ivs;obtain ⟨A,c,e4,hc,hcell⟩:=r4.formulas;obtain ⟨xa,xb,xc,xd,xt,xh⟩:=x;dsimp only [FNode.up] at *;subst e1 e2 e3 e4;clear r3 r4 hOk hq1 hq2 xh;generalize xt.kids = kids at *;generalize xt.size = sz at *;generalize xt.op = op at *;generalize xt.n = nn at *;generalize xt.ins.length = il at *;have B0:=Blk.new w 39 #[.int .i64 op,.int .i64 nn,.slice A1 il q1,.slice A kids.length c];go_enter Tryz.func183,Tryz.ntmps183
  go_wp2_with fail;refine (HF.out _ (fun p hp => (below_new w _).cell (Nat.lt_of_lt_of_le hp hBw)) (Nat.le_trans hBw (by simp))).mono ?_
  rintro e w1 ⟨rfl,hb1⟩;have B1:=B0.keep hb1;have HB1:=below_up (below_new _ _) hb1 (by simp)
  clear B0 hb1;have hc1:=B1.c4;go_wp2_with fail;go_loopw [3] (fun i wr => ∃ k:Nat,i = .int .i64 (k:Int) ∧ k ≤ kids.length ∧ Below w.heap.size w wr ∧ Blk wr w.heap.size 39 #[.int .i64 op,.int .i64 nn,.slice A1 il q1,.slice A kids.length c]) (fun i _ => kids.length - (intOf i).toNat)
  case atStart => exact ⟨0,rfl,Nat.zero_le _,HB1,B1⟩
  case round =>
   obtain ⟨k,rfl,hk,hB,bX⟩:=hrel;have hcb:=bX.c4;by_cases hlt:k < kids.length
   ·obtain ⟨b,o,y,rfl,hb,hy,c0,c1,c2,c3⟩:=hcell k hlt
    have hb':b < w.heap.size:=by omega
    have d0:=(hB.cell (p:=⟨b,o + k * 4,none⟩) hb').trans c0;have d1:=(hB.cell (p:=⟨b,o + k * 4 + 1,none⟩) hb').trans c1;have d2:=(hB.cell (p:=⟨b,o + k * 4 + 2,none⟩) hb').trans c2;have d3:=(hB.cell (p:=⟨b,o + k * 4 + 3,none⟩) hb').trans c3;have hmem:kids[k] ∈ kids:=List.getElem_mem _;have hks:=HK.out _ hmem;rw [← hy] at hks;have HI:=Lib.hid (ih _ B ⟨y.a,y.b,y.c,y.d,y.t,y.h.keep (fun p hp => hB.cell (Nat.lt_of_lt_of_le hp hBw)) (Nat.le_refl _)⟩ (Nat.le_trans hBw hB.size) (by dsimp only;omega) hks.2)
    clear c0 c1 c2 c3 hcell ih hmem hy hks;dsimp only at HI;obtain ⟨ya,yb,yc,yd,yt,yh⟩:=y;obtain ⟨A1,n1,q1,A2,n2,q2,e1,e2,e3,e4⟩:=node_form yh;dsimp only at *;subst e1 e2 e3 e4;clear yh;go_wp2_with fail;refine HI.out.mono ?_
    rintro e w2 ⟨rfl,hb2⟩;have HM:=hB.trans (hb2.mono hB.size);have bX2:=bX.keep hb2;go_wp2_with fail;go_roundw
    case rel => exact ⟨k + 1,by go_num,by omega,HM,bX2⟩
    case measure => simp [intOf];omega
   ·obtain rfl:k = kids.length:=by omega
    go_wp2_with fail;go_ret;exact ⟨rfl,hB⟩
theorem refvalid_any (w:World) (B:Nat) (hBw:B ≤ w.heap.size) (x:FNode w B) (h:OkF x.t) :
  Calls Tryz.prog 161 #[.agg #[x.a,x.b,x.c,x.d]] w fun e w' => e = .returned (.int .i64 0) ∧ Below w.heap.size w w':=by
 obtain ⟨hs,hd,hok⟩:=h;have hs':(x.t.size:Int) ≤ 96:=by omega
 have hd':(x.t.deep:Int) ≤ 8:=by omega
 have HX:=Lib.hid (fun (W:World) (hb:Below w.heap.size w W) => refsize_any x.t.size W B (x.up (B':=B) (fun p hp => hb.cell (Nat.lt_of_lt_of_le hp hBw)) (Nat.le_refl _)) (Nat.le_trans hBw hb.size) (Nat.le_refl _) (by omega))
 have HD:=Lib.hid (fun (W:World) (hb:Below w.heap.size w W) => refdeep_any x.t.size W B (x.up (B':=B) (fun p hp => hb.cell (Nat.lt_of_lt_of_le hp hBw)) (Nat.le_refl _)) (Nat.le_trans hBw hb.size) (Nat.le_refl _) (by omega))
 have HW:=Lib.hid (fun (W:World) (hb:Below w.heap.size w W) => whole_any x.t.size W B (x.up (B':=B) (fun p hp => hb.cell (Nat.lt_of_lt_of_le hp hBw)) (Nat.le_refl _)) (Nat.le_trans hBw hb.size) (Nat.le_refl _) ⟨hs,hok⟩)
 obtain ⟨xa,xb,xc,xd,xt,xh⟩:=x;obtain ⟨A1,n1,q1,A2,n2,q2,e1,e2,e3,e4⟩:=node_form xh;dsimp only [FNode.up] at *;subst e1 e2 e3 e4;clear hs hd hok xh;generalize xt.size = sz at *;generalize xt.deep = dp at *;have g1:decide ((96:Int) < (sz:Int)) = false:=by simp;omega
 have g2:decide ((8:Int) < (dp:Int)) = false:=by simp;omega
 generalize xt.op = op at *;generalize xt.n = nn at *;have B0:=Blk.new w 39 #[.int .i64 op,.int .i64 nn,.slice A1 n1 q1,.slice A2 n2 q2];have P0:=below_new w (.cells #[.int .i64 op,.int .i64 nn,.slice A1 n1 q1,.slice A2 n2 q2] 39);go_enter Tryz.func161,Tryz.ntmps161
 go_wp2_with fail;refine (HX.out _ P0).mono ?_
 rintro e w1 ⟨rfl,hb1⟩;have B1:=B0.keep hb1;have P1:=below_up P0 hb1 P0.size;have hc1:=B1.c4;clear B0 P0 hb1;go_wp2_with fail;refine (HD.out _ P1).mono ?_
 rintro e w2 ⟨rfl,hb2⟩;have B2:=B1.keep hb2;have P2:=below_up P1 hb2 P1.size;have hc2:=B2.c4;clear B1 P1 hb2 hc1;go_wp2_with fail;refine (HW.out _ P2).mono ?_
 rintro e w3 ⟨rfl,hb3⟩;have P3:=below_up P2 hb3 P2.size;go_wp2_with fail;go_ret;exact ⟨rfl,P3⟩
theorem one_any (b:Bool) (w:World) :
  Calls Tryz.prog 202 #[.bool b] w fun e w' => e = .returned (.int .i64 (oneB b)) ∧ w = w':=by
 cases b
 ·go_enter Tryz.func202,Tryz.ntmps202
  go_wp2;go_ret;exact ⟨rfl,rfl⟩
 ·go_enter Tryz.func202,Tryz.ntmps202
  go_wp2;go_ret;exact ⟨rfl,rfl⟩
theorem refiv_any (z:Iv) (h:I64s z.nums) (w:World) :
  Calls Tryz.prog 184 #[.agg #[iI z.ln,iI z.ld,iI z.hn,iI z.hd,.bool z.lo,.bool z.ho,.bool z.li,.bool z.hi]] w fun e w' => ∃ v,e = .returned v ∧ OwnB w' w.heap.size v (intsL z.nums) ∧ Below w.heap.size w w':=by
 have HN:=Lib.hid h;clear h;have Z0:=Blk.new w 164 #[iI z.ln,iI z.ld,iI z.hn,iI z.hd,.bool z.lo,.bool z.ho,.bool z.li,.bool z.hi];have K0:=below_new w (.cells #[iI z.ln,iI z.ld,iI z.hn,iI z.hd,.bool z.lo,.bool z.ho,.bool z.li,.bool z.hi] 164);go_enter Tryz.func184,Tryz.ntmps184
 go_upto_region 1 with fail;generalize w.alloc (.cells #[iI z.ln,iI z.ld,iI z.hn,iI z.hd,.bool z.lo,.bool z.ho,.bool z.li,.bool z.hi] 164) = wa at *;refine wp_region_held_drew (S:=(fun w' => Blk w' w.heap.size 164 #[iI z.ln,iI z.ld,iI z.hn,iI z.hd,.bool z.lo,.bool z.ho,.bool z.li,.bool z.hi] ∧ Below w.heap.size w w')) (by kernel_rfl) ?_ (fun hHeld => ?_)
 ·first | done | ((try dsimp only);exact ⟨Z0,K0.drew⟩)
 clear Z0 K0;generalize wa.drew = wb at *;refine tq 0 3 rfl ?_
 refine tq 1 4 rfl ?_
 refine th 2 5 rfl (fun _ hSw => hSw.1.c8) ?_
 refine tq 3 6 rfl ?_
 refine tq 4 7 rfl ?_
 refine th 5 8 rfl (fun _ hSw => hSw.1.c8) ?_
 refine tq 6 9 rfl ?_
 refine tq 7 10 rfl ?_
 refine th 8 11 rfl (fun _ hSw => hSw.1.c8) ?_
 refine tq 9 12 rfl ?_
 refine tq 10 13 rfl ?_
 refine th 11 14 rfl (fun _ hSw => hSw.1.c8) ?_
 refine tq 12 15 rfl ?_
 refine th 13 16 rfl (fun _ hSw => hSw.1.c8) ?_
 refine tq 15 18 rfl ?_
 refine th 16 19 rfl (fun _ hSw => hSw.1.c8) ?_
 refine tq 18 21 rfl ?_
 refine th 19 22 rfl (fun _ hSw => hSw.1.c8) ?_
 refine tq 21 24 rfl ?_
 refine th 22 25 rfl (fun _ hSw => hSw.1.c8) ?_
 refine rd 14 (some 17) rfl fun K hK => ?_
 go_simp
 (refine (one_any z.lo _).mono ?_;rintro e w' ⟨rfl,rfl⟩)
 refine hK.out _ _ (hHeld) fun hHeld => ?_
 clear hK K;(try simp only [pS,pB,pZ,pC]);refine rd 17 (some 20) rfl fun K hK => ?_
 go_simp
 (refine (one_any z.ho _).mono ?_;rintro e w' ⟨rfl,rfl⟩)
 refine hK.out _ _ (hHeld) fun hHeld => ?_
 clear hK K;(try simp only [pS,pB,pZ,pC]);refine rd 20 (some 23) rfl fun K hK => ?_
 go_simp
 (refine (one_any z.li _).mono ?_;rintro e w' ⟨rfl,rfl⟩)
 refine hK.out _ _ (hHeld) fun hHeld => ?_
 clear hK K;(try simp only [pS,pB,pZ,pC]);refine rd 23 (some 26) rfl fun K hK => ?_
 go_simp
 (refine (one_any z.hi _).mono ?_;rintro e w' ⟨rfl,rfl⟩)
 refine hK.out _ _ (hHeld) fun hHeld => ?_
 clear hK K;(try simp only [pS,pB,pZ,pC]);refine rd 24 (some 27) rfl fun K hK => ?_
 go_simp;skip;refine hK.out _ _ (⟨hHeld.1.alloc _,hHeld.2.alloc hHeld.2.size _⟩) fun hHeld => ?_
 clear hK K;(try simp only [pS,pB,pZ,pC]);have Q2:=Blk.new wb 3 #[iI z.ln,iI z.ld,iI z.hn,iI z.hd,iI (oneB z.lo),iI (oneB z.ho),iI (oneB z.li),iI (oneB z.hi)]
 have R2:Rep (wb.alloc (.cells #[iI z.ln,iI z.ld,iI z.hn,iI z.hd,iI (oneB z.lo),iI (oneB z.ho),iI (oneB z.li),iI (oneB z.hi)] 3)) (wb.alloc (.cells #[iI z.ln,iI z.ld,iI z.hn,iI z.hd,iI (oneB z.lo),iI (oneB z.ho),iI (oneB z.li),iI (oneB z.hi)] 3)).heap.size (.slice (some ⟨wb.heap.size,0,none⟩) 8 8) (.s 1 (valD (ints z.nums))) :=
  Rep.of_blk Q2 rfl (RepL.of_plain _ _ _) (by simp)
 have hS:=hHeld.2;refine rd 25 (some 28) rfl fun K hK => ?_
 go_simp
 (refine (refints_any z.nums _ _ (by show 8 ≤ 1000000;omega) HN.out R2).mono ?_;rintro e w5 ⟨v5,rfl,o5,k5⟩)
 refine hK.out _ _ (⟨hHeld.1.keep k5,hHeld.2.trans (k5.mono hHeld.2.size)⟩) fun hHeld => ?_
 clear hK K;(try simp only [pS,pB,pZ,pC]);refine tq 26 2 rfl ?_
 refine dn ?_
 go_wp2_with fail;go_ret;exact ⟨_,rfl,o5.mono hS.size,hHeld.2⟩
end Go.Proofs.YtbeaijjaecaidaaGreatDoor
