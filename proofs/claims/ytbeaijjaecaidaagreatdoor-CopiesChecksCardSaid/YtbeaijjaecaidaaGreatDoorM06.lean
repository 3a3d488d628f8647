/- The reference's Bytes and Encode of a formula. The encoding of claims, in the program. Claims in the reference: valid; their bytes. check of claims, in the program and in the reference. The parts of a formula, in the program and in the reference. slices.Concat over formulas. Rows of formulas whose elements lead to memory that stood ahead of the call. slices.Grow and slices.Concat over formulas. The tops of a formula, as the reference lists them; the parts of a text, in the program and in the reference. The parts of a formula that stood ahead: as a slice that one reads. -/
import Derived.Test.YtbeaijjaecaidaaGreatDoorM05
import Derived.Test.YtbeaijjaecaidaaGreatDoorM04
import Derived.Test.YtbeaijjaecaidaaGreatDoorM02
import Derived.Test.YtbeaijjaecaidaaGreatDoorM01
import Derived.Maps.AppendAt
import Derived.Lib.AppendZerosOnto
import Derived.Lib.SliceRun
set_option maxRecDepth 100000
set_option maxHeartbeats 16000000
namespace Go.Proofs.YtbeaijjaecaidaaGreatDoor
open Go.RowKit Go.Shelf
attribute [local go_sem] Oper.semAt_some
theorem encF_eq (t:F):encF t = encN t ++ t.kids.flatMap encF:=by
 unfold encF;rw [t.nodes_eq,List.flatMap_cons,List.flatMap_assoc]
theorem encNs_len:∀ l:List F,(∀ y ∈ l,OkNode y ∧ y.kids.length ≤ 1000000) → (l.flatMap encN).length ≤ 200 * l.length
 | [],_ => by simp
 | y :: l,h => by
  have h1:=encNs_len l (fun y hy => h y (List.mem_cons_of_mem _ hy))
  have h2:=encN_len (h y List.mem_cons_self).1 (h y List.mem_cons_self).2;rw [List.flatMap_cons,List.length_append,List.length_cons];omega
theorem nodes_sub:∀ {t y:F},y ∈ t.nodes → y.size ≤ t.size:=by
 intro t
 induction h:t.size using Nat.strongRecOn generalizing t with
 | _ n ih =>
  intro y hy;rw [F.nodes_eq] at hy;rcases List.mem_cons.1 hy with rfl | hy
  ·omega
  ·obtain ⟨k,hk,hy⟩:=List.mem_flatMap.1 hy
   have hs:=F.kid_size hk;have:=ih k.size (by omega) rfl hy
   omega
theorem kids_len_size (t:F):t.kids.length < t.size:=by
 have h1:=kids_le t.kids;have h2:=t.nodes_length;rw [t.nodes_eq,List.length_cons,nodes_flat_length] at h2;omega
theorem OkN.all {t:F} (h:OkN t):∀ y ∈ t.nodes,OkNode y ∧ y.kids.length ≤ 1000000:=fun y hy => ⟨h.2 y hy,by
 have h1:=nodes_sub hy;have h2:=kids_len_size y;have h3:=h.1;omega⟩
theorem OkN.take_len {t:F} (h:OkN t) (k:Nat):((t.kids.take k).flatMap encF).length ≤ 19200:=by
 have e:(t.kids.take k).flatMap encF = ((t.kids.take k).flatMap F.nodes).flatMap encN:=by
  rw [List.flatMap_assoc];rfl
 rw [e]
 have h1:=encNs_len ((t.kids.take k).flatMap F.nodes) (fun y hy => h.all y (by
  rw [F.nodes_eq];obtain ⟨a,ha,hy⟩:=List.mem_flatMap.1 hy;exact List.mem_cons_of_mem _ (List.mem_flatMap.2 ⟨a,List.mem_of_mem_take ha,hy⟩)))
 rw [nodes_flat_length] at h1;have h2:=sizeL_take_le t.kids k;have h3:=h.1
 have h4:sizeL t.kids ≤ 96:=by
  have h5:=t.nodes_length;rw [t.nodes_eq,List.length_cons,nodes_flat_length] at h5;omega
 omega
theorem OkN.len {t:F} (h:OkN t):(encF t).length ≤ 19200:=by
 have h1:=encNs_len t.nodes h.all;rw [F.nodes_length] at h1;have:=h.1;unfold encF;omega
theorem ivs_len {ins:List Iv} (hl:ins.length ≤ 1) (h:∀ x ∈ ins,OkIv x) (k:Nat):((ins.take k).flatMap fun x => intsL x.nums).length ≤ 90:=by
 match ins,hl,h with
 | [],_,_ => simp
 | [z],_,h2 =>
  cases k with
  | zero => simp
  | succ k => simpa using ivE_len (h2 z List.mem_cons_self)
def Writ (w wr:World) (t:TypeId) (cs:Array Value) (u:Value) (bs:List Nat):Prop:=Blk wr w.heap.size t cs ∧ Below w.heap.size w wr ∧ OwnB wr (w.heap.size + 1) u bs
theorem Writ.call {w wr w2:World} {t:TypeId} {cs:Array Value} {u:Value} {bs:List Nat} (h:Writ w wr t cs u bs) (hb:Below wr.heap.size wr w2):Writ w w2 t cs u bs :=
 ⟨h.1.keep hb,below_up h.2.1 hb h.2.1.size,h.2.2.below hb⟩
theorem Writ.app {w wr w2:World} {t:TypeId} {cs:Array Value} {u v:Value} {bs ds:List Nat} (h:Writ w wr t cs u bs) (ho:OwnB w2 (w.heap.size + 1) v ds) (hg:wr.grownBy w2 u.ownBlock):Writ w w2 t cs v ds :=
 ⟨h.1.grown hg (fun e => by have:=h.2.2.lt _ e.symm;omega),h.2.1.grown hg h.2.1.size (h.2.2.mono (Nat.le_succ _)).lt,ho⟩
theorem Writ.size {w wr:World} {t:TypeId} {cs:Array Value} {u:Value} {bs:List Nat} (h:Writ w wr t cs u bs):w.heap.size + 1 ≤ wr.heap.size:=h.1.lt
theorem refbytes_any:∀ (n:Nat) (w:World) (B:Nat) (x:FNode w B),B ≤ w.heap.size → x.t.size ≤ n → OkN x.t →
  Calls Tryz.prog 162 #[.agg #[x.a,x.b,x.c,x.d]] w fun e w' => ∃ v,e = .returned v ∧ OwnB w' w.heap.size v (encF x.t) ∧ Below w.heap.size w w':=by
 intro n
 induction n with
 | zero => intro w B x _ h;have:=x.t.size_pos;omega
 | succ n ih =>
  intro w B x hBw hx hOk;have hsz:=hOk.1;have hkl:x.t.kids.length ≤ 96:=by have:=kids_len_size x.t;omega
  have HK:=Lib.hid (fun (k:F) (h:k ∈ x.t.kids) => (⟨F.kid_size h,okN_kids x.t hOk k h⟩:k.size < x.t.size ∧ OkN k))
  have HLK:=Lib.hid hOk.take_len;have hn:=hOk.node;have hins:=okNode_ins hn;have hil:=hins.1;have hop:0 ≤ x.t.op ∧ x.t.op ≤ 6:=by rcases hn with h | h | h | h | h <;> omega
  have hnn:0 ≤ x.t.n ∧ x.t.n ≤ 64:=by rcases hn with h | h | h | h | h <;> omega
  have HINS:=Lib.hid hins.2;have hE:=encF_eq x.t;unfold encN at hE;have HE:=Lib.hid hE;obtain ⟨e1,e2,r3,r4⟩:=x.parts;obtain ⟨A1,q1,e3,hq1,hivs⟩:=r3.ivs;obtain ⟨A,c,e4,hc,hcell⟩:=r4.formulas;have HIV:=Lib.hid hivs;have HCELL:=Lib.hid hcell;obtain ⟨xa,xb,xc,xd,xt,xh⟩:=x;dsimp only at *;subst e1 e2 e3 e4;clear r3 r4 hOk hq1 hivs xh hn hins hE hcell;generalize encF xt = out at *;generalize xt.kids = kids at *;generalize xt.size = sz at *;generalize xt.op = op at *;generalize xt.n = nn at *;generalize xt.ins = ins at *;have HO:=Lib.hid (fun W => refint_any op (by omega) (by omega) W)
  have HNN:=Lib.hid (fun W => refint_any nn (by omega) (by omega) W)
  have HIL:=Lib.hid (fun W => refint_any (ins.length:Int) (by omega) (by omega) W)
  have HKL:=Lib.hid (fun W => refint_any (kids.length:Int) (by omega) (by omega) W)
  have l1:=intL_len (n:=op) (by omega) (by omega)
  have l2:=intL_len (n:=nn) (by omega) (by omega)
  have l3:=intL_len (n:=(ins.length:Int)) (by omega) (by omega)
  have l4:=intL_len (n:=(kids.length:Int)) (by omega) (by omega)
  have B0:=Blk.new w 39 #[.int .i64 op,.int .i64 nn,.slice A1 ins.length q1,.slice A kids.length c];have P0:=below_new w (.cells #[.int .i64 op,.int .i64 nn,.slice A1 ins.length q1,.slice A kids.length c] 39);go_enter Tryz.func162,Tryz.ntmps162
  go_upto_region 1 with fail;generalize w.alloc (.cells #[.int .i64 op,.int .i64 nn,.slice A1 ins.length q1,.slice A kids.length c] 39) = wa at *;refine wp_region_held_drew (S:=(fun w' => Blk w' w.heap.size 39 #[.int .i64 op,.int .i64 nn,.slice A1 ins.length q1,.slice A kids.length c] ∧ Below w.heap.size w w')) (by kernel_rfl) ?_ (fun hHeld => ?_)
  ·first | done | ((try dsimp only);exact ⟨B0,P0.drew⟩)
  clear B0 P0;generalize wa.drew = wb at *;refine tq 0 6 rfl ?_
  refine th 1 7 rfl (fun _ hSw => hSw.1.c4) ?_
  refine tq 3 9 rfl ?_
  refine th 4 10 rfl (fun _ hSw => hSw.1.c4) ?_
  have hg0:=hHeld.1.lt;refine rd 2 (some 8) rfl fun K hK => ?_
  go_simp
  (refine (HO.out _).mono ?_;rintro e w1 ⟨v1,rfl,o1,k1⟩)
  refine hK.out _ _ (⟨hHeld.1.keep k1,hHeld.2.trans (k1.mono hHeld.2.size)⟩) fun hHeld => ?_
  clear hK K;(try simp only [pS,pB,pZ,pC]);have hg1:=hHeld.1.lt;refine rd 5 (some 11) rfl fun K hK => ?_
  go_simp
  (refine (HNN.out _).mono ?_;rintro e w2 ⟨v2,rfl,o2,k2⟩)
  refine hK.out _ _ (⟨hHeld.1.keep k2,hHeld.2.trans (k2.mono hHeld.2.size)⟩) fun hHeld => ?_
  clear hK K;(try simp only [pS,pB,pZ,pC]);have w1':OwnB w2 (w.heap.size + 1) v1 (intL op):=(o1.mono hg0).below k2;refine rd 6 (some 12) rfl fun K hK => ?_
  refine wp_appB _ _ rfl (w.heap.size + 1) v1 _ rfl w1' v2 _ rfl o2.rep (by omega) hHeld.1.lt ?_
  intro v3 w3 o3 g3;have W3:Writ w w3 39 #[.int .i64 op,.int .i64 nn,.slice A1 ins.length q1,.slice A kids.length c] v3 (intL op ++ intL nn):=Writ.app ⟨hHeld.1,hHeld.2,w1'⟩ o3 g3;refine hK.out _ _ ?_ (fun hHeld => ?_)
  ·exact ⟨W3.1,W3.2.1⟩
  clear hK K;(try simp only [pS,pB,pZ,pC]);refine tq 7 3 rfl ?_
  refine dn ?_
  clear hHeld hg0 hg1 o1 o2 o3 k1 k2 w1' g3;have hc3:=W3.1.c4;have b0:(intL op ++ intL nn).length ≤ 20:=by rw [List.length_append];omega
  generalize hb0:intL op ++ intL nn = bs0 at *
  go_wp2_with (first
   | (go_at_call 88;refine (HIL.out _).mono ?_;rintro e w4 ⟨v4,rfl,o4,k4⟩)
   | (at_builtin;refine wpList_appB rfl _ _ rfl (w.heap.size + 1) v3 bs0 rfl (W3.call k4).2.2 _ _ rfl o4.rep (by omega) (W3.call k4).size ?_;intro v5 w5 o5 g5))
  have W5:=(W3.call k4).app o5 g5;clear W3 hc3 o4 k4 o5 g5;have b1:(bs0 ++ intL (ins.length:Int)).length ≤ 30:=by rw [List.length_append];omega
  generalize hb1:bs0 ++ intL (ins.length:Int) = bs1 at *;go_loopw [3,4] (fun u i wr => ∃ k:Nat,i = .int .i64 (k:Int) ∧ k ≤ ins.length ∧ Writ w wr 39 #[.int .i64 op,.int .i64 nn,.slice A1 ins.length q1,.slice A kids.length c] u (bs1 ++ (ins.take k).flatMap fun x => intsL x.nums)) (fun _ i _ => ins.length - (intOf i).toNat)
  case atStart => exact ⟨0,rfl,Nat.zero_le _,by simpa using W5⟩
  case round =>
   obtain ⟨k,rfl,hk,hW⟩:=hrel;have hcr:=hW.1.c4;have hbk:=ivs_len hil HINS.out k;have hbl:(bs1 ++ (ins.take k).flatMap fun x => intsL x.nums).length ≤ 200:=by rw [List.length_append];omega
   by_cases hlt:k < ins.length
   ·obtain ⟨b,o,rfl,hb,d0,d1,d2,d3,d4,d5,d6,d7⟩:=HIV.out k hlt
    have hb':b < w.heap.size:=Nat.lt_of_lt_of_le hb hBw;have HBr:=hW.2.1;have c0:=(HBr.cell (p:=⟨b,o + k * 8,none⟩) hb').trans d0;have c1:=(HBr.cell (p:=⟨b,o + k * 8 + 1,none⟩) hb').trans d1;have c2:=(HBr.cell (p:=⟨b,o + k * 8 + 2,none⟩) hb').trans d2;have c3:=(HBr.cell (p:=⟨b,o + k * 8 + 3,none⟩) hb').trans d3;have c4:=(HBr.cell (p:=⟨b,o + k * 8 + 4,none⟩) hb').trans d4;have c5:=(HBr.cell (p:=⟨b,o + k * 8 + 5,none⟩) hb').trans d5;have c6:=(HBr.cell (p:=⟨b,o + k * 8 + 6,none⟩) hb').trans d6;have c7:=(HBr.cell (p:=⟨b,o + k * 8 + 7,none⟩) hb').trans d7;have hz:=HINS.out ins[k] (List.getElem_mem hlt);have HN:=Lib.hid (fun W => refiv_any ins[k] (okIv_nums hz) W)
    have hE8:=ivE_len hz
    have HT:bs1 ++ (ins.take (k + 1)).flatMap (fun x => intsL x.nums) = bs1 ++ ((ins.take k).flatMap fun x => intsL x.nums) ++ intsL ins[k].nums:=by
     rw [List.take_add_one,List.getElem?_eq_getElem hlt,List.flatMap_append]
     simp
    have HTH:=Lib.hid HT;clear d0 d1 d2 d3 d4 d5 d6 d7 HT hz HBr W5;generalize ins[k] = z at *;generalize bs1 ++ ((ins.take k).flatMap fun x => intsL x.nums) = bsk at *
    go_wp2_with (first
     | (go_at_call 184;refine (HN.out _).mono ?_;rintro e w6 ⟨v6,rfl,o6,k6⟩)
     | (at_builtin;refine wpList_appB rfl _ _ rfl (w.heap.size + 1) _ bsk rfl (hW.call k6).2.2 _ _ rfl o6.rep (by omega) (hW.call k6).size ?_;intro v7 w7 o7 g7))
    have W7:=(hW.call k6).app o7 g7;rw [← HTH.out] at W7;go_roundw
    case rel => exact ⟨k + 1,by go_num,by omega,W7⟩
    case measure => simp [intOf];omega
   ·obtain rfl:k = ins.length:=by omega
    rw [List.take_length] at *;clear W5;generalize hb2:bs1 ++ ins.flatMap (fun x => intsL x.nums) = bs2 at *
    go_wp2_with (first
     | (go_at_call 88;refine (HKL.out _).mono ?_;rintro e w8 ⟨v8,rfl,o8,k8⟩)
     | (at_builtin;refine wpList_appB rfl _ _ rfl (w.heap.size + 1) _ bs2 rfl (hW.call k8).2.2 _ _ rfl o8.rep (by omega) (hW.call k8).size ?_;intro v9 w9 o9 g9))
    have W9:=(hW.call k8).app o9 g9;clear hW hcr o8 k8 o9 g9;have b3:(bs2 ++ intL (kids.length:Int)).length ≤ 300:=by rw [List.length_append];omega
    generalize hb3:bs2 ++ intL (kids.length:Int) = bs3 at *;clear hbk hbl hk hlt;go_loopw [3,5] (fun u i wr => ∃ k:Nat,i = .int .i64 (k:Int) ∧ k ≤ kids.length ∧ Writ w wr 39 #[.int .i64 op,.int .i64 nn,.slice A1 ins.length q1,.slice A kids.length c] u (bs3 ++ (kids.take k).flatMap encF)) (fun _ i _ => kids.length - (intOf i).toNat)
    case atStart => exact ⟨0,rfl,Nat.zero_le _,by simpa using W9⟩
    case round =>
     obtain ⟨k,rfl,hk,hW⟩:=hrel;have hcr:=hW.1.c4;have hlk:=HLK.out k;have hbl:(bs3 ++ (kids.take k).flatMap encF).length ≤ 19500:=by rw [List.length_append];omega
     by_cases hlt:k < kids.length
     ·obtain ⟨b,o,y,rfl,hb,hy,c0,c1,c2,c3⟩:=HCELL.out k hlt
      have hb':b < w.heap.size:=Nat.lt_of_lt_of_le hb hBw;have d0:=(hW.2.1.cell (p:=⟨b,o + k * 4,none⟩) hb').trans c0;have d1:=(hW.2.1.cell (p:=⟨b,o + k * 4 + 1,none⟩) hb').trans c1;have d2:=(hW.2.1.cell (p:=⟨b,o + k * 4 + 2,none⟩) hb').trans c2;have d3:=(hW.2.1.cell (p:=⟨b,o + k * 4 + 3,none⟩) hb').trans c3;have hks:=HK.out _ (List.getElem_mem hlt)
      have HT:bs3 ++ (kids.take (k + 1)).flatMap encF = bs3 ++ ((kids.take k).flatMap encF) ++ encF kids[k]:=by
       rw [List.take_add_one,List.getElem?_eq_getElem hlt,List.flatMap_append]
       simp
      rw [← hy] at hks HT;have hel:=hks.2.len;have HTH:=Lib.hid HT;have HI:=Lib.hid (ih _ B ⟨y.a,y.b,y.c,y.d,y.t,y.h.keep (fun p hp => hW.2.1.cell (Nat.lt_of_lt_of_le hp hBw)) (Nat.le_refl _)⟩ (Nat.le_trans hBw hW.2.1.size) (by dsimp only;omega) hks.2)
      clear c0 c1 c2 c3 ih hy hks HT W9;dsimp only at HI;obtain ⟨ya,yb,yc,yd,yt,yh⟩:=y;obtain ⟨A2,n1,q2,A3,n2,q3,e1,e2,e3,e4⟩:=node_form yh;dsimp only at *;subst e1 e2 e3 e4;clear yh;generalize bs3 ++ ((kids.take k).flatMap encF) = bsk at *
      go_wp2_with (first
       | (go_at_call 162;refine HI.out.mono ?_;rintro e w6 ⟨v6,rfl,o6,k6⟩)
       | (at_builtin;refine wpList_appB rfl _ _ rfl (w.heap.size + 1) _ bsk rfl (hW.call k6).2.2 _ _ rfl o6.rep (by omega) (hW.call k6).size ?_;intro v7 w7 o7 g7))
      have W7:=(hW.call k6).app o7 g7;rw [← HTH.out] at W7;go_roundw
      case rel => exact ⟨k + 1,by go_num,by omega,W7⟩
      case measure => simp [intOf];omega
     ·obtain rfl:k = kids.length:=by omega
      rw [List.take_length] at hW;have HWH:=Lib.hid hW;clear W9 hW;go_wp2_with fail;go_ret;refine ⟨_,rfl,?_,HWH.out.2.1⟩
      have hO:=HWH.out.2.2.mono (Nat.le_succ _);rw [HE.out];exact hO
theorem refencf_any (w:World) (B:Nat) (hBw:B ≤ w.heap.size) (x:FNode w B) (h:OkF x.t) :
  Calls Tryz.prog 121 #[.agg #[x.a,x.b,x.c,x.d]] w fun e w' => ∃ v,e = .returned (.tuple #[v,.int .i64 0]) ∧ OwnB w' w.heap.size v (encF x.t) ∧ Below w.heap.size w w':=by
 have HV:=Lib.hid (fun (W:World) (hb:Below w.heap.size w W) => refvalid_any W B (Nat.le_trans hBw hb.size) (x.up (B':=B) (fun p hp => hb.cell (Nat.lt_of_lt_of_le hp hBw)) (Nat.le_refl _)) h)
 have HY:=Lib.hid (fun (W:World) (hb:Below w.heap.size w W) => refbytes_any x.t.size W B (x.up (B':=B) (fun p hp => hb.cell (Nat.lt_of_lt_of_le hp hBw)) (Nat.le_refl _)) (Nat.le_trans hBw hb.size) (Nat.le_refl _) ⟨h.1,h.2.2⟩)
 obtain ⟨xa,xb,xc,xd,xt,xh⟩:=x;obtain ⟨A1,n1,q1,A2,n2,q2,e1,e2,e3,e4⟩:=node_form xh;dsimp only [FNode.up] at *;subst e1 e2 e3 e4;clear xh h;generalize encF xt = out at *;generalize xt.op = op at *;generalize xt.n = nn at *;have B0:=Blk.new w 39 #[.int .i64 op,.int .i64 nn,.slice A1 n1 q1,.slice A2 n2 q2];have P0:=below_new w (.cells #[.int .i64 op,.int .i64 nn,.slice A1 n1 q1,.slice A2 n2 q2] 39);go_enter Tryz.func121,Tryz.ntmps121
 go_wp2_with fail;refine (HV.out _ P0).mono ?_
 rintro e w1 ⟨rfl,hb1⟩;have B1:=B0.keep hb1;have P1:=below_up P0 hb1 P0.size;have hc1:=B1.c4;clear B0 P0 hb1;go_wp2_with fail;refine (HY.out _ P1).mono ?_
 rintro e w2 ⟨v2,rfl,o2,hb2⟩;have P2:=below_up P1 hb2 P1.size;go_wp2_with fail;exact bodyPost_ret (results_tmp2 rfl _ _ _) rfl ⟨_,rfl,o2.mono P1.size,P2⟩
theorem Bytes.app {a b:List Nat} (h:Bytes a) (k:Bytes b):Bytes (a ++ b):=fun x hx => by
 rcases List.mem_append.1 hx with h1 | h1
 ·exact h x h1
 ·exact k x h1
theorem Bytes.flat {α:Type} {f:α → List Nat} {l:List α} (h:∀ x ∈ l,Bytes (f x)):Bytes (l.flatMap f):=fun x hx => by
 obtain ⟨a,ha,hx⟩:=List.mem_flatMap.1 hx;exact h a ha x hx
theorem uv_bytes (n:Nat):Bytes (uvL n):=by
 induction n using Nat.strongRecOn with
 | _ n ih =>
  by_cases h:n < 128
  ·rw [uv_small h]
   intro x hx;rw [List.mem_singleton.1 hx];omega
  ·rw [uv_big (by omega)]
   intro x hx;rcases List.mem_cons.1 hx with rfl | hx
   ·omega
   ·exact ih (n / 128) (by omega) x hx
theorem int_bytes (n:Int):Bytes (intL n):=uv_bytes _
theorem ints_bytes (l:List Int):Bytes (intsL l):=(uv_bytes _).app (Bytes.flat fun x _ => int_bytes x)
theorem raw_bytes {l:List Nat} (h:Bytes l):Bytes (rawL l):=(uv_bytes _).app h
theorem encN_bytes (y:F):Bytes (encN y):=((((int_bytes _).app (int_bytes _)).app (int_bytes _)).app (Bytes.flat fun _ _ => ints_bytes _)).app (int_bytes _)
theorem encF_bytes (t:F):Bytes (encF t):=Bytes.flat fun y _ => encN_bytes y
def encC (c:Cl):List Nat:=intsL c.refs ++ rawL (encF c.body)
def encCl (l:List Cl):List Nat:=intL (l.length:Int) ++ l.flatMap encC
theorem encCl_bytes (l:List Cl):Bytes (encCl l):=(int_bytes _).app (Bytes.flat fun _ _ => (ints_bytes _).app (raw_bytes (encF_bytes _)))
theorem refsOk_i64 {r:List Int} {i:Nat} (hi:i ≤ 1000) (h:RefsOk r i):I64s r:=fun n hn => by
 obtain ⟨k,hk,rfl⟩:=List.getElem_of_mem hn;have:=h k hk;omega
theorem encC_len {c:Cl} {i:Nat} (hi:i ≤ 1000) (h:RefsOk c.refs i) (hl:c.refs.length ≤ 8) (hf:OkF c.body):(encC c).length ≤ 19400:=by
 have h1:=ints_flat_len (refsOk_i64 hi h);have h2:=uv_len10 (n:=c.refs.length) (by omega)
 have h3:=OkN.len (t:=c.body) ⟨hf.1,hf.2.2⟩;have h4:=uv_len10 (n:=(encF c.body).length) (by omega)
 unfold encC intsL rawL;simp only [List.length_append];omega
theorem OkCl.take_len {l:List Cl} (h:OkCl l) (k:Nat):((l.take k).flatMap encC).length ≤ 620800:=by
 have key:∀ m:List Cl,(∀ c ∈ m,(encC c).length ≤ 19400) → (m.flatMap encC).length ≤ 19400 * m.length:=by
  intro m
  induction m with
  | nil => simp
  | cons a m ih =>
   intro hm;have h1:=hm a List.mem_cons_self;have h2:=ih (fun c hc => hm c (List.mem_cons_of_mem _ hc))
   rw [List.flatMap_cons,List.length_append,List.length_cons];omega
 have h1:=key (l.take k) (fun c hc => by
  obtain ⟨i,hi,rfl⟩:=List.getElem_of_mem (List.mem_of_mem_take hc);obtain ⟨a,b,d⟩:=h.2 i hi;exact encC_len (by have:=h.1;omega) a b d)
 have h2:=List.length_take_le' k l;have h3:=h.1;omega
theorem OwnB.keepG {W w1 w2:World} {base g:Nat} {bs cs:List Nat} {v:Value} (hw:WrAt W base g bs) (hb:Below W.heap.size W w1) (ho:OwnB w1 W.heap.size v cs) (k:KeepsG g base w1 w2):OwnB w2 W.heap.size v cs:=by
 obtain ⟨_,vw,nw,hv,hrow⟩:=hw;obtain ⟨pres,_⟩:=k.2 vw (hv.keep hb);obtain ⟨n,h1,h2⟩:=ho;refine ⟨n,h1,?_⟩
 rcases h2 with h2 | ⟨i,cap,cur,e,hbase,hgb,rest⟩
 ·exact .inl h2
 ·refine .inr ⟨i,cap,cur,e,hbase,(pres i (Array.getElem?_eq_some_iff.1 hgb).1 ?_ ?_).trans hgb,rest⟩
  ·have:=hv.lt
   omega
  ·intro e2
   have:=(hrow.lt i e2).2;omega
theorem cenc_own (l:List Cl) (hok:OkCl l) (v:Value) (w:World) (B:Nat) (hBw:B ≤ w.heap.size) (hr:Rep w B v (.s 5 (l.flatMap Cl.cells))) :
  Calls Tryz.prog 54 #[v] w fun e w' => ∃ u,e = .returned (.tuple #[u,.int .i64 0]) ∧ OwnB w' w.heap.size u (encCl l) ∧ Below w.heap.size w w':=by
 have HV:=Lib.hid (fun (W:World) (hW:Below w.heap.size w W) => cvalid_any l hok v W B (Nat.le_trans hBw hW.size) (hr.keep (fun p hp => hW.cell (Nat.lt_of_lt_of_le hp hBw)) (Nat.le_refl _)))
 obtain ⟨A,c,rfl,hc,hcell⟩:=hr.claims;have HLT:=Lib.hid hok.take_len;obtain ⟨hl,hi⟩:=hok;have HI:=Lib.hid hi;have HCELL:=Lib.hid hcell;have HL10:=intL_len (n:=(l.length:Int)) (by omega) (by omega)
 clear hr hcell hi;go_enter Tryz.func54,Tryz.ntmps54
 go_wp2_with fail;refine (HV.out _ (Below.refl _ _)).mono ?_
 rintro e w1 ⟨rfl,hb1⟩;have G1:=Blk.new w1 101 #[.slice none 0 0];have P1:=hb1.alloc hb1.size (.cells #[.slice none 0 0] 101);have hg1:=hb1.size;have W1:WrAt (w1.alloc (.cells #[.slice none 0 0] 101)) w.heap.size w1.heap.size []:=⟨hg1,_,0,G1,World.ownsRow_nil _ _ _ _⟩;go_wp2_with fail;generalize w1.heap.size = g at *;generalize w1.alloc (.cells #[.slice none 0 0] 101) = w2 at *;refine (wint_any g w.heap.size [] (l.length:Int) w2 (by omega) (by omega) W1 (by simp)).mono ?_
 rintro e w3 ⟨⟨v3,rfl⟩,W3,k3⟩;rw [List.nil_append] at W3;have P3:=P1.trans k3.1;clear W1 G1 P1 hb1 k3;go_wp2_with fail;go_loopw [23] (fun j wr => ∃ k:Nat,j = .int .i64 (k:Int) ∧ k ≤ l.length ∧ WrAt wr w.heap.size g (intL (l.length:Int) ++ (l.take k).flatMap encC) ∧ Below w.heap.size w wr) (fun j _ => l.length - (intOf j).toNat)
 case atStart => exact ⟨0,rfl,Nat.zero_le _,by simpa using W3,P3⟩
 case round =>
  obtain ⟨k,rfl,hk,hW,hB⟩:=hrel;have hlk:=HLT.out k;have hbl:(intL (l.length:Int) ++ (l.take k).flatMap encC).length ≤ 621000:=by rw [List.length_append];omega
  by_cases hlt:k < l.length
  ·obtain ⟨b,o,y,rfl,hb,hy,c0,c1,c2,c3,c4⟩:=HCELL.out k hlt
   have hb':b < w.heap.size:=Nat.lt_of_lt_of_le hb hBw;have e0:=(hB.cell (p:=⟨b,o + k * 5,none⟩) hb').trans c0;have e1:=(hB.cell (p:=⟨b,o + k * 5 + 1,none⟩) hb').trans c1;have e2:=(hB.cell (p:=⟨b,o + k * 5 + 2,none⟩) hb').trans c2;have e3:=(hB.cell (p:=⟨b,o + k * 5 + 3,none⟩) hb').trans c3;have e4:=(hB.cell (p:=⟨b,o + k * 5 + 4,none⟩) hb').trans c4;obtain ⟨hro,hrl,hof⟩:=HI.out k hlt
   have HT:intL (l.length:Int) ++ (l.take (k + 1)).flatMap encC = intL (l.length:Int) ++ (l.take k).flatMap encC ++ intsL l[k].refs ++ rawL (encF l[k].body):=by
    rw [List.take_add_one,List.getElem?_eq_getElem hlt,List.flatMap_append]
    simp [encC]
   rw [← hy] at hro hrl hof HT;have HTH:=Lib.hid HT;have hkeep:∀ W,Below w.heap.size w W → ∀ p:Addr,p.block < B → W.cell? p = w.cell? p:=fun W hW p hp => hW.cell (Nat.lt_of_lt_of_le hp hBw)
   have HE:=Lib.hid (fun (W:World) (hW:Below w.heap.size w W) => enc_own W B (Nat.le_trans hBw hW.size) (y.body.up (hkeep W hW) (Nat.le_refl _)) hof)
   have HR:=Lib.hid (fun (W:World) (hW:Below w.heap.size w W) => (y.hr.keep (hkeep W hW) hBw:Rep W w.heap.size y.r _))
   have h64:=Lib.hid (refsOk_i64 (i:=k) (by omega) hro)
   have hel:=OkN.len (t:=y.t.body) ⟨hof.1,hof.2.2⟩;have heb:=Lib.hid (encF_bytes y.t.body)
   have hil:(intsL y.t.refs).length ≤ 100:=by
    have h1:=ints_flat_len h64.out;have h2:=uv_len10 (n:=y.t.refs.length) (by omega)
    unfold intsL;rw [List.length_append];omega
   obtain ⟨A0,q0,A1,n1,q1,A2,n2,q2,f0,f1,f2,f3,f4⟩:=clm_form y;dsimp only [FNode.up,CNode.body] at HE;rw [f0] at HR;rw [f1,f2,f3,f4] at HE;rw [f0] at e0;rw [f1] at e1;rw [f2] at e2;rw [f3] at e3;rw [f4] at e4;clear c0 c1 c2 c3 c4 f0 f1 f2 f3 f4 hy hro hof hkeep HT W3;generalize encF y.t.body = fb at *;generalize y.t.refs = rs at *;generalize y.t.body.op = op at *;generalize y.t.body.n = nn at *;generalize intL (l.length:Int) ++ (l.take k).flatMap encC = bs at *;have X0:=Blk.new wr 169 #[.slice A0 rs.length q0,.int .i64 op,.int .i64 nn,.slice A1 n1 q1,.slice A2 n2 q2];have Q0:=hB.alloc hB.size (.cells #[.slice A0 rs.length q0,.int .i64 op,.int .i64 nn,.slice A1 n1 q1,.slice A2 n2 q2] 169);have W0:=hW.alloc (.cells #[.slice A0 rs.length q0,.int .i64 op,.int .i64 nn,.slice A1 n1 q1,.slice A2 n2 q2] 169);go_wp2_with fail;generalize wr.alloc (.cells #[.slice A0 rs.length q0,.int .i64 op,.int .i64 nn,.slice A1 n1 q1,.slice A2 n2 q2] 169) = wa at *;refine (HE.out _ Q0).mono ?_
   rintro e w4 ⟨v4,rfl,o4,hb4⟩;have X4:=X0.keep hb4;have Q4:=below_up Q0 hb4 Q0.size;have W4:=W0.grown hb4;have hc4:=X4.c5;clear e0 e1 e2 e3 e4 X0;go_wp2_with fail;refine (wintsR g w.heap.size bs rs _ w4 W4 (by omega) h64.out (HR.out _ Q4)).mono ?_
   rintro e w5 ⟨⟨v5,rfl⟩,W5,k5⟩;have o5:=OwnB.keepG W0 hb4 o4 k5;have Q5:=Q4.trans k5.1.1;clear o4 W4 Q4 k5 hc4 X4 W0 Q0 hb4;go_wp2_with fail;refine (wraw_any g w.heap.size _ fb v4 w5 W5 (by rw [List.length_append];omega) (by omega) heb.out o5.rep).mono ?_
   rintro e w6 ⟨⟨v6,rfl⟩,W6,k6⟩;have Q6:=Q5.trans k6.1;rw [← HTH.out] at W6;clear W5 Q5 k6 o5;go_wp2_with fail;go_roundw
   case rel => exact ⟨k + 1,by go_num,by omega,W6,Q6⟩
   case measure => simp [intOf];omega
  ·obtain rfl:k = l.length:=by omega
   rw [List.take_length] at hW hbl;have HW:=Lib.hid hW;clear hW W3;go_wp2_with fail;refine (wdone_own g w.heap.size _ wr HW.out (by omega)).mono ?_
   rintro e w7 ⟨v7,rfl,o7,hb7⟩;go_wp2_with fail;exact bodyPost_ret (results_tmp2 rfl _ _ _) rfl ⟨_,rfl,o7.mono hB.size,below_up hB hb7 hB.size⟩
theorem refrefs_any (r:List Int) (i:Nat) (hl:r.length ≤ 1000) (hok:RefsOk r i) (v:Value) (w:World) (B:Nat) (hr:Rep w B v (.s 1 (valD (ints r)))) :
  Calls Tryz.prog 185 #[v,.int .i64 (i:Int)] w fun e w' => e = .returned (.bool true) ∧ ∃ n,w' = w.drewN n:=by
 obtain ⟨A,c,rfl,hc,hcell⟩:=hr.row;rw [ints_length] at hc ⊢;clear hr;go_enter Tryz.func185,Tryz.ntmps185
 go_wp2;go_loopw [5] (fun j wr => ∃ k:Nat,j = .int .i64 (k:Int) ∧ k ≤ r.length ∧ ∃ n,wr = w.drewN n) (fun j _ => r.length - (intOf j).toNat)
 case atStart => exact ⟨0,rfl,Nat.zero_le _,0,rfl⟩
 case round =>
  obtain ⟨k,rfl,hk,n,rfl⟩:=hrel;by_cases hlt:k < r.length
  ·obtain ⟨b,o,rfl,hb,c0⟩:=hcell k _ (ints_get r k hlt)
   have h1:=(hok k hlt).1;have h2:=(hok k hlt).2.1;have d1:decide (r[k] < (0:Int)) = false:=by simp;omega
   have d2:decide ((i:Int) ≤ r[k]) = false:=by simp;omega
   cases k with
   | zero =>
    rw [Nat.add_zero] at c0;generalize r[0] = z at *;clear hcell hok;go_upto_region 4 with fail;go_quiet (fail);go_wp2;go_roundw
    case rel => exact ⟨1,by go_num,by omega,_,rfl⟩
    case measure => simp [intOf];omega
   | succ j =>
    obtain ⟨b',o',e',_,c1⟩:=hcell j _ (ints_get r j (by omega))
    cases e'
    have h3:=(hok (j + 1) hlt).2.2 (by omega)
    have h4:r[j + 1 - 1] = r[j]:=rfl;rw [h4] at h3;have d3:decide (r[j + 1] ≤ r[j]) = false:=by simp;omega
    clear h4;generalize r[j + 1] = z at *;generalize r[j] = y at *;clear hcell hok;go_upto_region 4 with fail;go_quiet (fail);go_wp2;go_roundw
    case rel => exact ⟨j + 1 + 1,by go_num,by omega,_,rfl⟩
    case measure => simp [intOf];omega
  ·obtain rfl:k = r.length:=by omega
   clear hcell hok;go_wp2_with fail;go_ret;exact ⟨rfl,_,rfl⟩
theorem refcvalid_any (l:List Cl) (hok:OkCl l) (v:Value) (w:World) (B:Nat) (hBw:B ≤ w.heap.size) (hr:Rep w B v (.s 5 (l.flatMap Cl.cells))) :
  Calls Tryz.prog 163 #[v] w fun e w' => e = .returned (.int .i64 0) ∧ Below w.heap.size w w':=by
 obtain ⟨A,c,rfl,hc,hcell⟩:=hr.claims;obtain ⟨hl,hi⟩:=hok;have HI:=Lib.hid hi;have HCELL:=Lib.hid hcell;have d0:decide ((32:Int) < (l.length:Int)) = false:=by simp;omega
 clear hr hcell hi;go_enter Tryz.func163,Tryz.ntmps163
 go_wp2_with fail;go_loopw [3] (fun j wr => ∃ k:Nat,j = .int .i64 (k:Int) ∧ k ≤ l.length ∧ Below w.heap.size w wr) (fun j _ => l.length - (intOf j).toNat)
 case atStart => exact ⟨0,rfl,Nat.zero_le _,Below.refl _ _⟩
 case round =>
  obtain ⟨k,rfl,hk,hB⟩:=hrel;by_cases hlt:k < l.length
  ·obtain ⟨b,o,y,rfl,hb,hy,c0,c1,c2,c3,c4⟩:=HCELL.out k hlt
   have hb':b < w.heap.size:=Nat.lt_of_lt_of_le hb hBw;have e0:=(hB.cell (p:=⟨b,o + k * 5,none⟩) hb').trans c0;have e1:=(hB.cell (p:=⟨b,o + k * 5 + 1,none⟩) hb').trans c1;have e2:=(hB.cell (p:=⟨b,o + k * 5 + 2,none⟩) hb').trans c2;have e3:=(hB.cell (p:=⟨b,o + k * 5 + 3,none⟩) hb').trans c3;have e4:=(hB.cell (p:=⟨b,o + k * 5 + 4,none⟩) hb').trans c4;obtain ⟨hro,hrl,hof⟩:=HI.out k hlt;rw [← hy] at hro hrl hof;have hkeep:∀ W,Below w.heap.size w W → ∀ p:Addr,p.block < B → W.cell? p = w.cell? p:=fun W hW p hp => hW.cell (Nat.lt_of_lt_of_le hp hBw)
   have HR:=Lib.hid (fun (W:World) (hW:Below w.heap.size w W) => refrefs_any y.t.refs k (by omega) hro y.r W B (y.hr.keep (hkeep W hW) (Nat.le_refl _)))
   have HV:=Lib.hid (fun (W:World) (hW:Below w.heap.size w W) => refvalid_any W B (Nat.le_trans hBw hW.size) (y.body.up (hkeep W hW) (Nat.le_refl _)) hof)
   obtain ⟨A0,q0,A1,n1,q1,A2,n2,q2,f0,f1,f2,f3,f4⟩:=clm_form y;dsimp only [FNode.up,CNode.body] at HV;have d1:decide ((8:Int) < (y.t.refs.length:Int)) = false:=by simp;omega
   rw [f0] at HR;rw [f1,f2,f3,f4] at HV;rw [f0] at e0;rw [f1] at e1;rw [f2] at e2;rw [f3] at e3;rw [f4] at e4;clear c0 c1 c2 c3 c4 f0 f1 f2 f3 f4 hy hro hof hkeep;generalize y.t.refs.length = rl at *;generalize y.t.body.op = op at *;generalize y.t.body.n = nn at *;go_wp2_with fail;refine (HR.out _ hB).mono ?_
   rintro e w1 ⟨rfl,n,rfl⟩;have Q1:=below_drewN hB n;go_wp2_with fail;refine (HV.out _ Q1).mono ?_
   rintro e w2 ⟨rfl,hb2⟩;have Q2:=below_up Q1 hb2 Q1.size;clear e0 e1 e2 e3 e4;go_wp2_with fail;go_roundw
   case rel => exact ⟨k + 1,by go_num,by omega,Q2⟩
   case measure => simp [intOf];omega
  ·obtain rfl:k = l.length:=by omega
   go_wp2_with fail;go_ret;exact ⟨rfl,hB⟩
theorem refcbytes_any (l:List Cl) (hok:OkCl l) (v:Value) (w:World) (B:Nat) (hBw:B ≤ w.heap.size) (hr:Rep w B v (.s 5 (l.flatMap Cl.cells))) :
  Calls Tryz.prog 164 #[v] w fun e w' => ∃ u,e = .returned u ∧ OwnB w' w.heap.size u (encCl l) ∧ Below w.heap.size w w':=by
 obtain ⟨A,c,rfl,hc,hcell⟩:=hr.claims;have HLT:=Lib.hid hok.take_len;obtain ⟨hl,hi⟩:=hok;have HI:=Lib.hid hi;have HCELL:=Lib.hid hcell;have HL10:=intL_len (n:=(l.length:Int)) (by omega) (by omega)
 have HN:=Lib.hid (fun W => refint_any (l.length:Int) (by omega) (by omega) W)
 clear hr hcell hi;go_enter Tryz.func164,Tryz.ntmps164
 go_wp2_with fail;refine (HN.out _).mono ?_
 rintro e w1 ⟨v1,rfl,o1,hb1⟩;go_wp2_with fail;go_loopw [3,4] (fun u j wr => ∃ k:Nat,j = .int .i64 (k:Int) ∧ k ≤ l.length ∧ OwnB wr w.heap.size u (intL (l.length:Int) ++ (l.take k).flatMap encC) ∧ Below w.heap.size w wr) (fun _ j _ => l.length - (intOf j).toNat)
 case atStart => exact ⟨0,rfl,Nat.zero_le _,by simpa using o1,hb1⟩
 case round =>
  obtain ⟨k,rfl,hk,hor,hB⟩:=hrel;have hlk:=HLT.out k;have hbl:(intL (l.length:Int) ++ (l.take k).flatMap encC).length ≤ 621000:=by rw [List.length_append];omega
  by_cases hlt:k < l.length
  ·obtain ⟨b,o,y,rfl,hb,hy,c0,c1,c2,c3,c4⟩:=HCELL.out k hlt
   have hb':b < w.heap.size:=Nat.lt_of_lt_of_le hb hBw;have e0:=(hB.cell (p:=⟨b,o + k * 5,none⟩) hb').trans c0;have e1:=(hB.cell (p:=⟨b,o + k * 5 + 1,none⟩) hb').trans c1;have e2:=(hB.cell (p:=⟨b,o + k * 5 + 2,none⟩) hb').trans c2;have e3:=(hB.cell (p:=⟨b,o + k * 5 + 3,none⟩) hb').trans c3;have e4:=(hB.cell (p:=⟨b,o + k * 5 + 4,none⟩) hb').trans c4;obtain ⟨hro,hrl,hof⟩:=HI.out k hlt
   have HT:intL (l.length:Int) ++ (l.take (k + 1)).flatMap encC = intL (l.length:Int) ++ (l.take k).flatMap encC ++ intsL l[k].refs ++ rawL (encF l[k].body):=by
    rw [List.take_add_one,List.getElem?_eq_getElem hlt,List.flatMap_append]
    simp [encC]
   rw [← hy] at hro hrl hof HT;have HTH:=Lib.hid HT;have hkeep:∀ W,Below w.heap.size w W → ∀ p:Addr,p.block < B → W.cell? p = w.cell? p:=fun W hW p hp => hW.cell (Nat.lt_of_lt_of_le hp hBw)
   have h64:=refsOk_i64 (i:=k) (by omega) hro
   have HR:=Lib.hid (fun (W:World) (hW:Below w.heap.size w W) => refints_any y.t.refs y.r W (by omega) h64 (y.hr.keep (hkeep W hW) (Nat.le_trans hBw hW.size)))
   have HE:=Lib.hid (fun (W:World) (hW:Below w.heap.size w W) => refbytes_any y.t.body.size W B (y.body.up (hkeep W hW) (Nat.le_refl _)) (Nat.le_trans hBw hW.size) (Nat.le_refl _) ⟨hof.1,hof.2.2⟩)
   have hel:=OkN.len (t:=y.t.body) ⟨hof.1,hof.2.2⟩
   have hil:(intsL y.t.refs).length ≤ 100:=by
    have h1:=ints_flat_len h64;have h2:=uv_len10 (n:=y.t.refs.length) (by omega)
    unfold intsL;rw [List.length_append];omega
   have hrl10:(rawL (encF y.t.body)).length ≤ 20000:=by
    have h2:=uv_len10 (n:=(encF y.t.body).length) (by omega)
    unfold rawL;rw [List.length_append];omega
   obtain ⟨A0,q0,A1,n1,q1,A2,n2,q2,f0,f1,f2,f3,f4⟩:=clm_form y;dsimp only [FNode.up,CNode.body] at HE;rw [f0] at HR;rw [f1,f2,f3,f4] at HE;rw [f0] at e0;rw [f1] at e1;rw [f2] at e2;rw [f3] at e3;rw [f4] at e4;clear c0 c1 c2 c3 c4 f0 f1 f2 f3 f4 hy hro hof HT o1 h64 hkeep;generalize encF y.t.body = fb at *;generalize y.t.refs = rs at *;generalize y.t.body.op = op at *;generalize y.t.body.n = nn at *;generalize intL (l.length:Int) ++ (l.take k).flatMap encC = bs at *;go_wp2_with fail;refine (HR.out _ hB).mono ?_
   rintro e w2 ⟨v2,rfl,o2,hb2⟩;have Q2:=below_up hB hb2 hB.size;go_wp2_with (at_builtin;refine wpList_appB rfl _ _ rfl w.heap.size _ bs rfl (hor.below hb2) _ (intsL rs) rfl o2.rep (by omega) Q2.size ?_;intro v3 w3 o3 g3;have Q3:=Q2.grown g3 Q2.size hor.lt;(have e1':=(Q3.cell (p:=⟨b,o + k * 5 + 1,none⟩) hb').trans ((hB.cell (p:=⟨b,o + k * 5 + 1,none⟩) hb').symm.trans e1));(have e2':=(Q3.cell (p:=⟨b,o + k * 5 + 2,none⟩) hb').trans ((hB.cell (p:=⟨b,o + k * 5 + 2,none⟩) hb').symm.trans e2));(have e3':=(Q3.cell (p:=⟨b,o + k * 5 + 3,none⟩) hb').trans ((hB.cell (p:=⟨b,o + k * 5 + 3,none⟩) hb').symm.trans e3));(have e4':=(Q3.cell (p:=⟨b,o + k * 5 + 4,none⟩) hb').trans ((hB.cell (p:=⟨b,o + k * 5 + 4,none⟩) hb').symm.trans e4));clear e0 e1 e2 e3 e4 o2)
   refine (HE.out _ Q3).mono ?_
   rintro e w4 ⟨v4,rfl,o4,hb4⟩;have Q4:=below_up Q3 hb4 Q3.size;have o34:=o3.below hb4;go_wp2_with fail;refine (refraw_any v4 fb w4 (by omega) o4.rep).mono ?_
   rintro e w5 ⟨v5,rfl,o5,hb5⟩;have Q5:=below_up Q4 hb5 Q4.size;go_wp2_with (at_builtin;refine wpList_appB rfl _ _ rfl w.heap.size _ (bs ++ intsL rs) rfl (o34.below hb5) _ (rawL fb) rfl o5.rep (by rw [List.length_append];omega) Q5.size ?_;intro v6 w6 o6 g6;have Q6:=Q5.grown g6 Q5.size o34.lt)
   rw [← HTH.out] at o6;go_roundw
   case rel => exact ⟨k + 1,by go_num,by omega,o6,Q6⟩
   case measure => simp [intOf];omega
  ·obtain rfl:k = l.length:=by omega
   rw [List.take_length] at hor;have HW:=Lib.hid hor;clear hor o1;go_wp2_with fail;go_ret;exact ⟨_,rfl,HW.out,hB⟩
theorem refcenc_any (l:List Cl) (hok:OkCl l) (v:Value) (w:World) (B:Nat) (hBw:B ≤ w.heap.size) (hr:Rep w B v (.s 5 (l.flatMap Cl.cells))) :
  Calls Tryz.prog 122 #[v] w fun e w' => ∃ u,e = .returned (.tuple #[u,.int .i64 0]) ∧ OwnB w' w.heap.size u (encCl l) ∧ Below w.heap.size w w':=by
 have HV:=Lib.hid (refcvalid_any l hok v w B hBw hr);have HY:=Lib.hid (fun (W:World) (hW:Below w.heap.size w W) => refcbytes_any l hok v W B (Nat.le_trans hBw hW.size) (hr.keep (fun p hp => hW.cell (Nat.lt_of_lt_of_le hp hBw)) (Nat.le_refl _)))
 obtain ⟨A,c,rfl,hc,hcell⟩:=hr.claims;clear hr hcell;go_enter Tryz.func122,Tryz.ntmps122
 go_wp2_with fail;refine HV.out.mono ?_
 rintro e w1 ⟨rfl,hb1⟩;go_wp2_with fail;refine (HY.out _ hb1).mono ?_
 rintro e w2 ⟨v2,rfl,o2,hb2⟩;go_wp2_with fail;exact bodyPost_ret (results_tmp2 rfl _ _ _) rfl ⟨_,rfl,o2.mono hb1.size,below_up hb1 hb2 hb1.size⟩
theorem check_any (l:List Cl) (hok:OkCl l) (i:Nat) (hi:i < l.length) (v:Value) (w:World) (B:Nat) (hBw:B ≤ w.heap.size) (hr:Rep w B v (.s 5 (l.flatMap Cl.cells))) :
  Calls Tryz.prog 193 #[v,.int .i64 (i:Int)] w fun e w' => e = .returned (.int .i64 0) ∧ Below w.heap.size w w':=by
 have HV:=Lib.hid (cvalid_any l hok v w B hBw hr);obtain ⟨A,c,rfl,hc,hcell⟩:=hr.claims;have d1:decide ((i:Int) < 0) = false:=by simp
 have d2:decide ((l.length:Int) ≤ (i:Int)) = false:=by simp;omega
 have hl:=hok.1;clear hr hcell hok;go_enter Tryz.func193,Tryz.ntmps193
 go_wp2_with fail;refine HV.out.mono ?_
 rintro e w1 ⟨rfl,hb1⟩;go_wp2_with fail;go_ret;exact ⟨rfl,hb1⟩
theorem refcheck_any (l:List Cl) (hok:OkCl l) (i:Nat) (hi:i < l.length) (v:Value) (w:World) (B:Nat) (hBw:B ≤ w.heap.size) (hr:Rep w B v (.s 5 (l.flatMap Cl.cells))) :
  Calls Tryz.prog 209 #[v,.int .i64 (i:Int)] w fun e w' => e = .returned (.int .i64 0) ∧ Below w.heap.size w w':=by
 have HV:=Lib.hid (refcvalid_any l hok v w B hBw hr);obtain ⟨A,c,rfl,hc,hcell⟩:=hr.claims;have d1:decide ((i:Int) < 0) = false:=by simp
 have d2:decide ((l.length:Int) ≤ (i:Int)) = false:=by simp;omega
 have hl:=hok.1;clear hr hcell hok;go_enter Tryz.func209,Tryz.ntmps209
 go_wp2_with fail;refine HV.out.mono ?_
 rintro e w1 ⟨rfl,hb1⟩;go_wp2_with fail;go_ret;exact ⟨rfl,hb1⟩
def F.parts (t:F):List F:=if t.op = 4 then t.kids else [t]
theorem cells_one {w:World} {B:Nat} {cs:List Value} {l:List F} (h:RepL w B cs (l.flatMap F.cells)):∀ u ∈ cs,u.oneCell' = true:=by
 intro u hu;obtain ⟨j,hj,rfl⟩:=List.getElem_of_mem hu;have hl:=h.1;have hd:(l.flatMap F.cells)[j]? = some (l.flatMap F.cells)[j]:=List.getElem?_eq_getElem (by omega)
 have hr:=h.2 j _ _ (List.getElem?_eq_getElem hj) hd
 have hm:(l.flatMap F.cells)[j] ∈ l.flatMap F.cells:=List.getElem_mem _;obtain ⟨t,_,ht⟩:=List.mem_flatMap.1 hm;generalize (l.flatMap F.cells)[j] = d at *;generalize cs[j] = x at *;rw [F.cells_eq] at ht;simp only [List.mem_cons,List.not_mem_nil,or_false] at ht;rcases ht with rfl | rfl | rfl | rfl
 ·cases hr;rfl
 ·cases hr;rfl
 ·obtain ⟨A,n,c,rfl,_⟩:=hr.slice;rfl
 ·obtain ⟨A,n,c,rfl,_⟩:=hr.slice;rfl
theorem Tryz.info39:(Tryz.prog.info? 39).map (fun i => (i.zero,i.size,i.bytes)) = some (some (.agg #[.int .i64 0,.int .i64 0,.slice none 0 0,.slice none 0 0]),4,64):=by kernel_rfl
theorem run_appF (w:World) (ty:TypeId) (base:Nat) (v:Value) (l:List F) (hown:OwnL w base 39 4 v (l.flatMap F.cells)) (src:Value) (m:List F) (hr:Rep (maskW w v.ownBlock) w.heap.size src (.s 4 (m.flatMap F.cells))) (hl:l.length + m.length ≤ 1000000) (hbase:base ≤ w.heap.size) :
  ∃ v' w',(Builtin.append_ #[32,32] ty #[v,src]).run Tryz.prog w = .ok v' w' ∧ OwnL w' base 39 4 v' ((l ++ m).flatMap F.cells) ∧ w.grownBy w' v.ownBlock ∧ (v'.ownBlock = v.ownBlock ∨ v'.ownBlock = some w.heap.size):=by
 obtain ⟨n,xs,h1,h2⟩:=hown;obtain ⟨i0,hi,hz0,hz1,hz2⟩:=info_parts Tryz.info39;have hxl:=h1.1;have hfl:=flat_length (l:=l) (f:=F.cells) (k:=4) (fun x _ => x.cells_length)
 have hfm:=flat_length (l:=m) (f:=F.cells) (k:=4) (fun x _ => x.cells_length)
 have h21:=h2.1;have hnl:n = l.length:=by omega
 subst hnl;rw [List.flatMap_append];obtain ⟨A,k,c,rfl,hk,hkl,hcell⟩:=hr.slice;have hkm:k = m.length:=by omega
 subst hkm
 cases A with
 | none =>
  have h0:m = []:=by
   cases m with
   | nil => rfl
   | cons x r =>
    obtain ⟨b,o,cs,e,_⟩:=hcell (by simp)
    cases e
  subst h0
  have hc0:c = 0:=by
   cases hr
   rfl
  subst hc0;exact ⟨v,w,run_append_owned_none (P:=Tryz.prog) (w:=w) base 32 ty 39 i0 4 Tryz.underlying32 hi v _ _ h1,⟨_,xs,h1,by simpa using h2⟩,World.grownBy.refl w _,.inl rfl⟩
 | some ad =>
  by_cases hm0:m.length = 0
  ·have e0:m = []:=List.eq_nil_of_length_eq_zero hm0
   subst e0;obtain ⟨v',w',q1,q2,q3,_,q5⟩:=run_append_own_at (P:=Tryz.prog) w base 32 ty 39 i0 _ 4 64 Tryz.underlying32 hi hz0 hz1 hz2 rfl (by decide) v _ _ h1 ad 0 c [] rfl (fun j u hu => by simp at hu) (fun u hu => by simp at hu) (by unfold maxLen;omega) (by omega) hbase
   exact ⟨v',w',q1,OwnL.step h1 h2 (RepL.nil _ _) q2 q3 q5,q3,q5⟩
  ·obtain ⟨b,o,cs,e,hb,hcs,hcc⟩:=hcell (by omega)
   cases e
   have hnb:v.ownBlock ≠ some b:=fun e => by
    have hlt:0 < cs.length:=by have:=hcs.1;omega
    have h3:=hcc 0 _ (List.getElem?_eq_getElem hlt)
    rw [e,mask_none hb rfl] at h3;cases h3
   obtain ⟨v',w',q1,q2,q3,_,q5⟩:=run_append_own_at (P:=Tryz.prog) w base 32 ty 39 i0 _ 4 64 Tryz.underlying32 hi hz0 hz1 hz2 rfl (by decide) v _ _ h1 ⟨b,o,none⟩ m.length c cs (by have:=hcs.1;omega)
    (fun j u hu => by
     rw [Addr.add_lit,← hcc j u hu];exact (mask_other hnb).symm) (cells_one hcs) (by unfold maxLen;omega) (by omega) hbase
   exact ⟨v',w',q1,OwnL.step h1 h2 hcs q2 q3 q5,q3,q5⟩
theorem wp_appF {w:World} {o:Oper} {a:Act} {K:Act → World → Prop} {Q:Exit → Act → World → Prop} (s x:Operand)
  (ho:o.op = .call { callee:=.builtin .append,args:=#[s,x],argTypes:=#[32,32] })
  (base:Nat) (v:Value) (l:List F) (hs:a.eval s = v) (hown:OwnL w base 39 4 v (l.flatMap F.cells)) (src:Value) (m:List F) (hx:a.eval x = src) (hr:Rep (maskW w v.ownBlock) w.heap.size src (.s 4 (m.flatMap F.cells))) (hl:l.length + m.length ≤ 1000000) (hbase:base ≤ w.heap.size)
  (h:∀ v' w',OwnL w' base 39 4 v' ((l ++ m).flatMap F.cells) → w.grownBy w' v.ownBlock → (v'.ownBlock = v.ownBlock ∨ v'.ownBlock = some w.heap.size) → K (a.put o.dst v') w'):o.wp Tryz.prog a w K Q :=
 let ⟨v',w',hrun,h2,h3,h4⟩:=run_appF w o.type base v l hown src m hr hl hbase
 wp_app_run s x 32 v src v' ho hs hx hrun (h v' w' h2 h3 h4)
theorem wpList_appF {w:World} {ops:Array Oper} {rest:List Oper} {o:Oper} {a:Act} {Q:Exit → Act → World → Prop} (hgd:o.guard = none) (s x:Operand)
  (ho:o.op = .call { callee:=.builtin .append,args:=#[s,x],argTypes:=#[32,32] })
  (base:Nat) (v:Value) (l:List F) (hs:a.eval s = v) (hown:OwnL w base 39 4 v (l.flatMap F.cells)) (src:Value) (m:List F) (hx:a.eval x = src) (hr:Rep (maskW w v.ownBlock) w.heap.size src (.s 4 (m.flatMap F.cells))) (hl:l.length + m.length ≤ 1000000) (hbase:base ≤ w.heap.size)
  (h:∀ v' w',OwnL w' base 39 4 v' ((l ++ m).flatMap F.cells) → w.grownBy w' v.ownBlock → (v'.ownBlock = v.ownBlock ∨ v'.ownBlock = some w.heap.size) → wpList Tryz.prog ops Q rest (a.put o.dst v') w'):wpList Tryz.prog ops Q (o :: rest) a w :=
 wpList_plain hgd fun _ hK => wp_appF s x ho base v l hs hown src m hx hr hl hbase fun v' w' h2 h3 h4 => hK _ _ (h v' w' h2 h3 h4)
def OwnR (w0:World) (B:Nat) (w:World) (base:Nat) (v:Value) (ds:List D):Prop:=∃ n xs,w.ownsRow base 39 4 v n xs ∧ RepL w0 B xs ds
def SrcR (w0:World) (B:Nat) (w:World) (u:Value) (ds:List D):Prop :=
 (u = .slice none 0 0 ∧ ds = []) ∨ ∃ b o k c cs,u = .slice (some ⟨b,o,none⟩) k c ∧ k ≤ c ∧ b < w.heap.size ∧ cs.length = k * 4 ∧ RepL w0 B cs ds ∧ ∀ (j:Nat) (x:Value),cs[j]? = some x → w.cell? ⟨b,o + j,none⟩ = some x
theorem OwnR.nil (w0:World) (B:Nat) (w:World) (base:Nat):OwnR w0 B w base (.slice none 0 0) []:=⟨0,[],World.ownsRow_nil _ _ _ _,RepL.nil _ _⟩
theorem OwnR.lt {w0 w:World} {B base:Nat} {v:Value} {ds:List D} (h:OwnR w0 B w base v ds):∀ k,v.ownBlock = some k → base ≤ k:=by
 obtain ⟨n,xs,h,_⟩:=h;exact fun k hk => (h.lt k hk).1
theorem OwnR.low {w0 w:World} {B base:Nat} {v:Value} {ds:List D} (h:OwnR w0 B w base v ds):∀ k,v.ownBlock = some k → k < w.heap.size:=by
 obtain ⟨n,xs,h,_⟩:=h;exact fun k hk => (h.lt k hk).2
theorem OwnR.below {w0 w w':World} {B base:Nat} {v:Value} {ds:List D} (h:OwnR w0 B w base v ds) (hb:Below w.heap.size w w'):OwnR w0 B w' base v ds:=by
 obtain ⟨n,xs,h1,h2⟩:=h;have hg:w.grownBy w' none:=⟨hb.os,hb.tape,hb.output,hb.size,fun i hi _ => hb.block i hi⟩
 refine ⟨n,xs,h1.kept hg ?_,h2⟩
 rcases h1.2 with ⟨e,_⟩ | ⟨k,c,cur,e,_⟩
 ·subst e;exact .inl rfl
 ·subst e;exact .inr (by simp [Value.ownBlock])
theorem OwnR.mono {w0 w:World} {B base base':Nat} {v:Value} {ds:List D} (h:OwnR w0 B w base v ds) (hb:base' ≤ base):OwnR w0 B w base' v ds:=by
 obtain ⟨n,xs,⟨h1,h2⟩,h3⟩:=h;refine ⟨n,xs,⟨h1,?_⟩,h3⟩
 rcases h2 with h2 | ⟨g,cap,cur,e,hg,h4⟩
 ·exact .inl h2
 ·exact .inr ⟨g,cap,cur,e,Nat.le_trans hb hg,h4⟩
theorem OwnR.src {w0 w:World} {B base:Nat} {v:Value} {ds:List D} (h:OwnR w0 B w base v ds):SrcR w0 B w v ds:=by
 obtain ⟨n,xs,h1,h2⟩:=h;rcases h1.2 with ⟨rfl,hn⟩ | ⟨g,cap,cur,rfl,hg,hb,hnc,hcap,hcur,hx⟩
 ·have hl:=h1.1
  rw [hn,Nat.zero_mul] at hl;exact .inl ⟨rfl,List.eq_nil_of_length_eq_zero (by rw [← h2.1];exact hl)⟩
 ·refine .inr ⟨g,0,n,cap,xs,rfl,hnc,(h1.lt g rfl).2,h1.1,h2,fun j u hu => ?_⟩
  have hj:j < xs.length:=by
   rcases Nat.lt_or_ge j xs.length with h | h
   ·exact h
   ·rw [List.getElem?_eq_none h] at hu;cases hu
  rw [Nat.zero_add,h1.cellAt j (by rw [← h1.1];exact hj),hu]
theorem SrcR.below {w0 w w':World} {B:Nat} {u:Value} {ds:List D} (h:SrcR w0 B w u ds) (hb:Below w.heap.size w w'):SrcR w0 B w' u ds:=by
 rcases h with h | ⟨b,o,k,c,cs,rfl,hk,hlt,hl,hr,hc⟩
 ·exact .inl h
 ·exact .inr ⟨b,o,k,c,cs,rfl,hk,Nat.lt_of_lt_of_le hlt hb.size,hl,hr,fun j x hx => (hb.cell (p:=⟨b,o + j,none⟩) hlt).trans (hc j x hx)⟩
theorem SrcR.grown {w0 w w':World} {B:Nat} {u:Value} {ds:List D} {row:Option Nat} (h:SrcR w0 B w u ds) (hg:w.grownBy w' row) (hne:∀ g,row = some g → u.ownBlock ≠ some g):SrcR w0 B w' u ds:=by
 rcases h with h | ⟨b,o,k,c,cs,rfl,hk,hlt,hl,hr,hc⟩
 ·exact .inl h
 ·exact .inr ⟨b,o,k,c,cs,rfl,hk,Nat.lt_of_lt_of_le hlt hg.size,hl,hr,fun j x hx => (World.cell?_of_block (hg.block b hlt (fun e => hne b e.symm rfl))).trans (hc j x hx)⟩
theorem Rep.src {w0 w:World} {B:Nat} {u:Value} {ds:List D} (h:Rep w0 B u (.s 4 ds)) (hb:Below B w0 w) (hB:B ≤ w.heap.size):SrcR w0 B w u ds:=by
 cases h with
 | nil => exact .inl ⟨rfl,rfl⟩
 | s hc hd hn hlt cells sub => exact .inr ⟨_,_,_,_,_,rfl,hn,Nat.lt_of_lt_of_le hlt hB,hc,⟨hc.trans hd.symm,sub⟩,fun j x hx => (hb.cell (p:=⟨_,_,none⟩) hlt).trans (cells j x hx)⟩
theorem SrcR.slice {w0 w:World} {B:Nat} {u:Value} {m:List F} (h:SrcR w0 B w u (m.flatMap F.cells)):∃ A c,u = .slice A m.length c ∧ m.length ≤ c:=by
 have hfl:=flat_length (l:=m) (f:=F.cells) (k:=4) (fun x _ => x.cells_length)
 rcases h with ⟨rfl,h⟩ | ⟨b,o,k,c,cs,rfl,hk,hlt,hl,hr,hc⟩
 ·rw [h,List.length_nil] at hfl
  obtain rfl:m = []:=List.eq_nil_of_length_eq_zero (by omega)
  exact ⟨_,_,rfl,Nat.le_refl _⟩
 ·have:=hr.1
  obtain rfl:k = m.length:=by omega
  exact ⟨_,_,rfl,hk⟩
theorem SrcR.rep {w0 w:World} {B:Nat} {u:Value} {ds:List D} (h:SrcR w0 B w u ds) (hk:∀ p:Addr,p.block < B → w.cell? p = w0.cell? p) (hB:B ≤ w.heap.size):Rep w w.heap.size u (.s 4 ds):=by
 rcases h with ⟨rfl,rfl⟩ | ⟨b,o,k,c,cs,rfl,hkc,hlt,hl,hr,hc⟩
 ·exact .nil 4
 ·exact Rep.mk (by rw [← hr.1,hl]) hkc hlt (hr.keep hk hB) hc
theorem SrcR.nodes {w0 w:World} {B:Nat} {u:Value} {l:List F} (h:SrcR w0 B w u (l.flatMap F.cells)):∃ (A:Option Addr) (c:Nat),u = .slice A l.length c ∧ l.length ≤ c ∧
  ∀ (k:Nat) (hk:k < l.length),∃ (b o:Nat) (y:FNode w0 B),A = some ⟨b,o,none⟩ ∧ b < w.heap.size ∧ y.t = l[k] ∧ w.cell? ⟨b,o + k * 4,none⟩ = some y.a ∧ w.cell? ⟨b,o + k * 4 + 1,none⟩ = some y.b ∧ w.cell? ⟨b,o + k * 4 + 2,none⟩ = some y.c ∧ w.cell? ⟨b,o + k * 4 + 3,none⟩ = some y.d:=by
 have hfl:=flat_length (l:=l) (f:=F.cells) (k:=4) (fun x _ => x.cells_length)
 rcases h with ⟨rfl,h⟩ | ⟨b,o,n,c,cs,rfl,hkc,hlt,hl,hr,hcell⟩
 ·rw [h,List.length_nil] at hfl
  obtain rfl:l = []:=List.eq_nil_of_length_eq_zero (by omega)
  exact ⟨none,0,rfl,Nat.le_refl _,fun k hk => absurd hk (Nat.not_lt_zero k)⟩
 ·have h1:=hr.1
  obtain rfl:n = l.length:=by omega
  refine ⟨_,c,rfl,hkc,fun k hk => ?_⟩
  have hp:=flat_part (l:=l) (f:=F.cells) (k:=4) (i:=k) (a:=l[k]) (fun x _ => x.cells_length) (List.getElem?_eq_getElem hk)
  have hr2:=(hr.drop (k * 4)).take 4;rw [hp] at hr2;have g0:k * 4 < cs.length:=by omega
  have g1:k * 4 + 1 < cs.length:=by omega
  have g2:k * 4 + 2 < cs.length:=by omega
  have g3:k * 4 + 3 < cs.length:=by omega
  have e:(cs.drop (k * 4)).take 4 = [cs[k * 4],cs[k * 4 + 1],cs[k * 4 + 2],cs[k * 4 + 3]]:=by
   rw [List.drop_eq_getElem_cons g0,List.drop_eq_getElem_cons g1,List.drop_eq_getElem_cons g2,List.drop_eq_getElem_cons g3];rfl
  rw [e] at hr2;exact ⟨b,o,⟨cs[k * 4],cs[k * 4 + 1],cs[k * 4 + 2],cs[k * 4 + 3],l[k],hr2⟩,rfl,hlt,rfl,hcell _ _ (List.getElem?_eq_getElem g0),hcell _ _ (List.getElem?_eq_getElem g1),hcell _ _ (List.getElem?_eq_getElem g2),hcell _ _ (List.getElem?_eq_getElem g3)⟩
theorem run_appR {w0:World} {B:Nat} (w:World) (ty:TypeId) (base:Nat) (v:Value) (l:List F) (hown:OwnR w0 B w base v (l.flatMap F.cells)) (src:Value) (m:List F) (hr:SrcR w0 B w src (m.flatMap F.cells)) (hl:l.length + m.length ≤ 1000000) (hbase:base ≤ w.heap.size) :
  ∃ v' w',(Builtin.append_ #[32,32] ty #[v,src]).run Tryz.prog w = .ok v' w' ∧ OwnR w0 B w' base v' ((l ++ m).flatMap F.cells) ∧ w.grownBy w' v.ownBlock ∧ (v'.ownBlock = v.ownBlock ∨ v'.ownBlock = some w.heap.size):=by
 obtain ⟨n,xs,h1,h2⟩:=hown;obtain ⟨i0,hi,hz0,hz1,hz2⟩:=info_parts Tryz.info39;have hfl:=flat_length (l:=l) (f:=F.cells) (k:=4) (fun x _ => x.cells_length)
 have hfm:=flat_length (l:=m) (f:=F.cells) (k:=4) (fun x _ => x.cells_length)
 have h21:=h2.1;have hxl:=h1.1;obtain rfl:n = l.length:=by omega
 rw [List.flatMap_append];rcases hr with ⟨rfl,h⟩ | ⟨b,o,k,c,cs,rfl,hkc,hlt,hcl,hcr,hcell⟩
 ·rw [h,List.append_nil]
  exact ⟨v,w,run_append_owned_none (P:=Tryz.prog) (w:=w) base 32 ty 39 i0 4 Tryz.underlying32 hi v _ _ h1,⟨_,xs,h1,h2⟩,World.grownBy.refl w _,.inl rfl⟩
 ·have:=hcr.1
  obtain rfl:k = m.length:=by omega
  obtain ⟨v',w',q1,q2,q3,_,q5⟩:=run_append_own_at (P:=Tryz.prog) w base 32 ty 39 i0 _ 4 64 Tryz.underlying32 hi hz0 hz1 hz2 rfl (by decide) v _ _ h1 ⟨b,o,none⟩ m.length c cs hcl
   (fun j u hu => by
    rw [Addr.add_lit];exact hcell j u hu) (cells_one hcr) (by unfold maxLen;omega) (by omega) hbase
  exact ⟨v',w',q1,⟨_,_,q2,h2.append hcr⟩,q3,q5⟩
theorem wp_appR {w0:World} {B:Nat} {w:World} {o:Oper} {a:Act} {K:Act → World → Prop} {Q:Exit → Act → World → Prop} (s x:Operand)
  (ho:o.op = .call { callee:=.builtin .append,args:=#[s,x],argTypes:=#[32,32] })
  (base:Nat) (v:Value) (l:List F) (hs:a.eval s = v) (hown:OwnR w0 B w base v (l.flatMap F.cells)) (src:Value) (m:List F) (hx:a.eval x = src) (hr:SrcR w0 B w src (m.flatMap F.cells)) (hl:l.length + m.length ≤ 1000000) (hbase:base ≤ w.heap.size)
  (h:∀ v' w',OwnR w0 B w' base v' ((l ++ m).flatMap F.cells) → w.grownBy w' v.ownBlock → (v'.ownBlock = v.ownBlock ∨ v'.ownBlock = some w.heap.size) → K (a.put o.dst v') w'):o.wp Tryz.prog a w K Q :=
 let ⟨v',w',hrun,h2,h3,h4⟩:=run_appR w o.type base v l hown src m hr hl hbase
 wp_app_run s x 32 v src v' ho hs hx hrun (h v' w' h2 h3 h4)
theorem wpList_appR {w0:World} {B:Nat} {w:World} {ops:Array Oper} {rest:List Oper} {o:Oper} {a:Act} {Q:Exit → Act → World → Prop} (hgd:o.guard = none) (s x:Operand)
  (ho:o.op = .call { callee:=.builtin .append,args:=#[s,x],argTypes:=#[32,32] })
  (base:Nat) (v:Value) (l:List F) (hs:a.eval s = v) (hown:OwnR w0 B w base v (l.flatMap F.cells)) (src:Value) (m:List F) (hx:a.eval x = src) (hr:SrcR w0 B w src (m.flatMap F.cells)) (hl:l.length + m.length ≤ 1000000) (hbase:base ≤ w.heap.size)
  (h:∀ v' w',OwnR w0 B w' base v' ((l ++ m).flatMap F.cells) → w.grownBy w' v.ownBlock → (v'.ownBlock = v.ownBlock ∨ v'.ownBlock = some w.heap.size) → wpList Tryz.prog ops Q rest (a.put o.dst v') w'):wpList Tryz.prog ops Q (o :: rest) a w :=
 wpList_plain hgd fun _ hK => wp_appR s x ho base v l hs hown src m hx hr hl hbase fun v' w' h2 h3 h4 => hK _ _ (h v' w' h2 h3 h4)
theorem ownR_one {w0 W:World} {B base:Nat} {a b c d:Value} {t:F} (hb:base ≤ W.heap.size) (h:RepL w0 B [a,b,c,d] t.cells) :
  OwnR w0 B (W.alloc (.cells #[a,b,c,d] 39)) base (.slice (some ⟨W.heap.size,0,none⟩) 1 1) ([t].flatMap F.cells):=by
 refine ⟨1,[a,b,c,d],⟨rfl,.inr ⟨W.heap.size,1,#[a,b,c,d],rfl,hb,heap_alloc_new W _,Nat.le_refl _,by unfold maxLen;omega,rfl,rfl⟩⟩,?_⟩
 have he:[t].flatMap F.cells = t.cells:=by simp
 rw [he];exact h
theorem grow_any (w0:World) (B n:Nat) (hn:n ≤ 1000000) (w:World) :
  Calls Tryz.prog 217 #[.slice none 0 0,.int .i64 (n:Int)] w fun e w' => ∃ v,e = .returned v ∧ OwnR w0 B w' w.heap.size v [] ∧ Below w.heap.size w w':=by
 obtain ⟨i0,hi,hz0,hz1,hz2⟩:=info_parts Tryz.info39;by_cases h0:n = 0
 ·subst h0
  go_enter Tryz.func217,Tryz.ntmps217
  go_wp2_with fail;go_ret;exact ⟨_,rfl,OwnR.nil _ _ _ _,Below.refl _ _⟩
 ·have hGn:n ≤ grownCap w n 0 39:=grownCap_ge w _ _ _
  have hGm:=grownCap_le_maxLen w n 0 39 (by unfold maxLen;omega)
  have hrz:∀ ty,(Builtin.append_ #[32,3] ty #[.slice none 0 0,.int .i64 (n:Int)]).run Tryz.prog w = _:=fun ty =>
   Lib.run_append_nil_zeros w 32 3 ty 39 i0 _ .i64 .i64 Tryz.underlying32 Tryz.underlying3 hi hz0 n (by omega) (by omega) (by omega) (by rw [hz2];omega)
  have hcs:(Builtin.zeroCells (Value.agg #[.int .i64 0,.int .i64 0,.slice none 0 0,.slice none 0 0]).cells n ++ Builtin.zeroCells (Value.agg #[.int .i64 0,.int .i64 0,.slice none 0 0,.slice none 0 0]).cells (grownCap w n 0 39 - n)).size = grownCap w n 0 39 * 4:=by
   rw [Array.size_append];simp [Builtin.zeroCells,Value.cells];omega
  have HCS:=Lib.hid hcs;have hG63:grownCap w n 0 39 ≤ 9223372036854775807:=by unfold maxLen at hGm;omega
  generalize grownCap w n 0 39 = G at *;generalize Builtin.zeroCells (Value.agg #[.int .i64 0,.int .i64 0,.slice none 0 0,.slice none 0 0]).cells n ++ Builtin.zeroCells (Value.agg #[.int .i64 0,.int .i64 0,.slice none 0 0,.slice none 0 0]).cells (G - n) = cur at *;clear hcs hz0 hz1 hz2 hi;have hnn:¬ ((n:Int) < 0):=by omega
  have hn0:¬ ((n:Int) = 0):=by omega
  go_enter Tryz.func217,Tryz.ntmps217
  go_wp2_with (at_builtin;refine Lib.wpList_append_run _ rfl _ _ _ _ rfl _ _ rfl rfl _ _ (hrz _) ?_)
  go_ret;refine ⟨_,rfl,⟨0,[],⟨rfl,.inr ⟨w.heap.size,G,cur,rfl,Nat.le_refl _,?_,Nat.zero_le _,hGm,HCS.out,by simp⟩⟩,RepL.nil _ _⟩,?_⟩
  ·exact heap_alloc_new w.drew _
  ·exact (Below.refl _ w).drew.alloc (by simp) _
theorem flat_take {α:Type} (ls:List (List α)) (k:Nat) (h:k < ls.length):(ls.take (k + 1)).flatten = (ls.take k).flatten ++ ls[k]:=by
 rw [List.take_add_one,List.getElem?_eq_getElem h,List.flatten_append]
 simp
theorem flat_take_le {α:Type} (ls:List (List α)) (k:Nat):((ls.take k).flatten).length ≤ ls.flatten.length:=by
 conv => rhs;rw [← List.take_append_drop k ls]
 rw [List.flatten_append,List.length_append];omega
theorem concat_any (w0:World) (B:Nat) (ls:List (List F)) (g:Nat) (w:World) (hg:g < w.heap.size) (hcell:∀ (k:Nat) (hk:k < ls.length),∃ u,w.cell? ⟨g,k,none⟩ = some u ∧ SrcR w0 B w u (ls[k].flatMap F.cells)) (hl:ls.flatten.length ≤ 100000) (hll:ls.length ≤ 100000) :
  Calls Tryz.prog 205 #[.slice (some ⟨g,0,none⟩) ls.length ls.length] w fun e w' => ∃ u,e = .returned u ∧ OwnR w0 B w' w.heap.size u (ls.flatten.flatMap F.cells) ∧ Below w.heap.size w w':=by
 have HCELL:=Lib.hid hcell;have HG:=Lib.hid (fun W => grow_any w0 B ls.flatten.length (by omega) W)
 clear hcell;go_enter Tryz.func205,Tryz.ntmps205
 go_wp2_with fail;go_loopw [3,11] (fun s i wr => ∃ k:Nat,s = .int .i64 (((ls.take k).flatten.length:Nat):Int) ∧ i = .int .i64 (k:Int) ∧ k ≤ ls.length ∧ w = wr) (fun _ i _ => ls.length - (intOf i).toNat)
 case atStart => exact ⟨0,rfl,rfl,Nat.zero_le _,rfl⟩
 case round =>
  obtain ⟨k,rfl,rfl,hk,rfl⟩:=hrel;by_cases hlt:k < ls.length
  ·obtain ⟨u,c0,hu⟩:=HCELL.out k hlt
   obtain ⟨A1,q1,rfl,hq⟩:=hu.slice;have h1:=flat_take ls k hlt;have h2:=flat_take_le ls (k + 1);have h3:=congrArg List.length h1;rw [List.length_append] at h3;have H3:=Lib.hid h3;rw [h3] at h2;clear hu h1 h3 hq;generalize ls[k].length = n1 at *;generalize (ls.take k).flatten.length = S at *;have d0:¬ ((S:Int) + (n1:Int) < 0):=by omega
   go_wp2_with fail;go_roundw
   case rel => exact ⟨k + 1,by rw [H3.out];go_num,by go_num,by omega,trivial⟩
   case measure => simp [intOf];omega
  ·obtain rfl:k = ls.length:=by omega
   rw [List.take_length];generalize hN:ls.flatten.length = N at *;have HN:=Lib.hid hN;clear hN;go_wp2_with fail;refine (HG.out _).mono ?_
   rintro e w1 ⟨v1,rfl,o1,hb1⟩;go_wp2_with fail;go_loopw [6,27] (fun u i wr => ∃ k:Nat,i = .int .i64 (k:Int) ∧ k ≤ ls.length ∧ OwnR w0 B wr w.heap.size u ((ls.take k).flatten.flatMap F.cells) ∧ Below w.heap.size w wr) (fun _ i _ => ls.length - (intOf i).toNat)
   case atStart => exact ⟨0,rfl,Nat.zero_le _,by simpa using o1,hb1⟩
   case round =>
    obtain ⟨k,rfl,hk2,hor,hbr⟩:=hrel;by_cases hlt2:k < ls.length
    ·obtain ⟨u,c0,hu⟩:=HCELL.out k hlt2
     have e0:=(hbr.cell (p:=⟨g,k,none⟩) hg).trans c0;have HR:=Lib.hid (hu.below hbr);have h1:=flat_take ls k hlt2;have h2:=flat_take_le ls (k + 1);rw [h1,List.length_append,HN.out] at h2;have H1:=Lib.hid h1;clear hu h1 c0;generalize ls[k] = m at *;generalize (ls.take k).flatten = bs at *;go_wp2_with (at_builtin;refine wpList_appR rfl _ _ rfl w.heap.size _ bs rfl hor _ m rfl HR.out (by omega) hbr.size ?_;intro v3 w3 ho3 hg3 _)
     rw [← H1.out] at ho3;have hb3:=hbr.grown hg3 hbr.size hor.lt;go_roundw
     case rel => exact ⟨k + 1,by go_num,by omega,ho3,hb3⟩
     case measure => simp [intOf];omega
    ·obtain rfl:k = ls.length:=by omega
     rw [List.take_length] at hor;have HO:=Lib.hid hor;clear hor o1;go_wp2_with fail;go_ret;exact ⟨_,rfl,HO.out,hbr⟩
theorem SrcR.at {w0 W w:World} {B:Nat} {u:Value} {ds:List D} (h:SrcR W B w u ds) (hk:∀ p:Addr,p.block < B → w0.cell? p = W.cell? p):SrcR w0 B w u ds:=by
 rcases h with h | ⟨b,o,k,c,cs,e,hk1,hlt,hl,hr,hc⟩
 ·exact .inl h
 ·exact .inr ⟨b,o,k,c,cs,e,hk1,hlt,hl,hr.keep hk (Nat.le_refl _),hc⟩
theorem reftops_any:∀ (n:Nat) (w:World) (B:Nat) (x:FNode w B),B ≤ w.heap.size → x.t.size ≤ n → n ≤ 100000 →
  Calls Tryz.prog 218 #[.agg #[x.a,x.b,x.c,x.d]] w fun e w' => ∃ u,e = .returned u ∧ OwnR w B w' w.heap.size u (x.t.tops.flatMap F.cells) ∧ Below w.heap.size w w':=by
 intro n
 induction n with
 | zero => intro w B x _ h;have:=x.t.size_pos;omega
 | succ n ih =>
  intro w B x hBw hx hn;have P0:=below_new w (.cells #[x.a,x.b,x.c,x.d] 39);have X0:=Blk.new w 39 #[x.a,x.b,x.c,x.d];by_cases h5:x.t.op = 5
  ·have hT:=F.tops_or h5
   have hle:=F.tops_le x.t;rw [hT] at hle ⊢;obtain ⟨A,c,hd,hc,hcell⟩:=x.parts.2.2.2.formulas;have e1:=x.parts.1;have e2:=x.parts.2.1;have hks:=fun (k:F) (h:k ∈ x.t.kids) => F.kid_size h
   have HKS:=Lib.hid hks;have HCELL:=Lib.hid hcell;have HIH:=Lib.hid ih;have HT:=Lib.hid (fun k (hk:k < x.t.kids.length) => tops_take x.t.kids k hk)
   have HL:=Lib.hid (fun k (hk:k < x.t.kids.length) => tops_take_le x.t.kids k hk)
   have HBX:=Lib.hid hBw;have hcv:=x.parts.2.2.1;obtain ⟨A1,n1,q1,ec,_⟩:=hcv.slice
   have hlen:x.t.kids.length ≤ 1000000:=by
    have h1:=kids_le x.t.kids;have h2:=x.t.nodes_length;rw [x.t.nodes_eq,List.length_cons,nodes_flat_length] at h2;omega
   rw [h5] at e1;rw [e1,e2,ec,hd] at P0 X0 ⊢;clear hT hks hcell ih e1 e2 ec hd hcv h5;generalize x.t.n = xn at *;generalize x.t.kids = kids at *;go_enter Tryz.func218,Tryz.ntmps218
   go_wp2_with fail;go_loopw [3,4] (fun u i wr => ∃ k:Nat,i = .int .i64 (k:Int) ∧ k ≤ kids.length ∧ OwnR w B wr (w.heap.size + 1) u (((kids.take k).flatMap F.tops).flatMap F.cells) ∧ Below w.heap.size w wr ∧ Blk wr w.heap.size 39 #[.int .i64 5,.int .i64 xn,.slice A1 n1 q1,.slice A kids.length c]) (fun _ i _ => kids.length - (intOf i).toNat)
   case atStart => exact ⟨0,rfl,Nat.zero_le _,OwnR.nil _ _ _ _,P0,X0⟩
   case round =>
    obtain ⟨k,rfl,hk,hor,hbr,hX⟩:=hrel;have hcx:=hX.c4;by_cases hlt:k < kids.length
    ·obtain ⟨b,o,y,rfl,hb,hy,c0,c1,c2,c3⟩:=HCELL.out k hlt
     have hb':b < w.heap.size:=Nat.lt_of_lt_of_le hb hBw;have d0:=(hbr.cell (p:=⟨b,o + k * 4,none⟩) hb').trans c0;have d1:=(hbr.cell (p:=⟨b,o + k * 4 + 1,none⟩) hb').trans c1;have d2:=(hbr.cell (p:=⟨b,o + k * 4 + 2,none⟩) hb').trans c2;have d3:=(hbr.cell (p:=⟨b,o + k * 4 + 3,none⟩) hb').trans c3;have hmem:kids[k] ∈ kids:=List.getElem_mem _;have hsz:=HKS.out _ hmem;have hT:=HT.out k hlt;have hL:=HL.out k hlt;rw [← hy] at hsz hT hL;have HTH:=Lib.hid hT;have HI:=Lib.hid (fun (W:World) (hW:Below w.heap.size w W) => HIH.out W B ⟨y.a,y.b,y.c,y.d,y.t,y.h.keep (fun p hp => hW.cell (Nat.lt_of_lt_of_le hp hBw)) (Nat.le_refl _)⟩ (Nat.le_trans hBw hW.size) (by dsimp only;omega) (by omega))
     clear c0 c1 c2 c3 hmem hy hT;dsimp only at HI;obtain ⟨ya,yb,yc,yd,yt,yh⟩:=y;obtain ⟨B1,m1,p1,B2,m2,p2,e1,e2,e3,e4⟩:=node_form yh;dsimp only at *;subst e1 e2 e3 e4;clear yh;generalize (kids.take k).flatMap F.tops = bs at *;generalize yt.tops = ms at *
     go_wp2_with (first
      | (go_at_call 218;refine (HI.out _ hbr).mono ?_;rintro e w2 ⟨v2,rfl,ho2,hb2⟩)
      | (at_builtin;refine wpList_appR rfl _ _ rfl (w.heap.size + 1) _ bs rfl (hor.below hb2) _ ms rfl (ho2.src.at (fun p hp => (hbr.cell (Nat.lt_of_lt_of_le hp hBw)).symm)) (by omega) (Nat.le_trans hX.lt hb2.size) ?_;intro v3 w3 ho3 hg3 _))
     rw [← HTH.out] at ho3;have hb3:=(hbr.trans (hb2.mono hbr.size)).grown hg3 (Nat.le_trans hbr.size hb2.size) (fun q hq => Nat.le_of_succ_le (hor.lt q hq))
     have hX3:=(hX.keep hb2).grown hg3 (fun e => by have:=hor.lt _ e.symm;omega)
     go_roundw
     case rel => exact ⟨k + 1,by go_num,by omega,ho3,hb3,hX3⟩
     case measure => simp [intOf];omega
    ·obtain rfl:k = kids.length:=by omega
     rw [List.take_length] at hor;have HO:=Lib.hid hor;clear hor;go_wp2_with fail;go_ret;exact ⟨_,rfl,HO.out.mono (Nat.le_succ _),hbr⟩
  ·rw [F.tops_no h5]
   have hne:(x.t.op != 5) = true:=by simpa using h5
   have Q0:=P0.alloc P0.size (.cells #[x.a,x.b,x.c,x.d] 39);have hR:=ownR_one (t:=x.t) P0.size x.h;rw [World.size_alloc] at hR;have HR:=Lib.hid hR;obtain ⟨A1,n1,q1,A2,n2,q2,e1,e2,e3,e4⟩:=node_form x.h;rw [e1,e2,e3,e4] at HR Q0 ⊢;clear e1 e2 e3 e4 ih hR P0 X0;go_enter Tryz.func218,Tryz.ntmps218
   go_wp2_with fail;go_ret;exact ⟨_,rfl,HR.out,Q0⟩
theorem refParts_any:∀ (n:Nat) (w:World) (B:Nat) (x:FNode w B),B ≤ w.heap.size → x.t.size ≤ n → n ≤ 100000 →
  Calls Tryz.prog 199 #[.agg #[x.a,x.b,x.c,x.d]] w fun e w' => ∃ u,e = .returned u ∧ OwnR w B w' w.heap.size u (x.t.tops.flatMap F.cells) ∧ Below w.heap.size w w':=by
 intro n
 induction n with
 | zero => intro w B x _ h;have:=x.t.size_pos;omega
 | succ n ih =>
  intro w B x hBw hx hn;have P0:=below_new w (.cells #[x.a,x.b,x.c,x.d] 39);have X0:=Blk.new w 39 #[x.a,x.b,x.c,x.d];by_cases h5:x.t.op = 5
  ·have hT:=F.tops_or h5
   have hle:=F.tops_le x.t;rw [hT] at hle ⊢;obtain ⟨A,c,hd,hc,hcell⟩:=x.parts.2.2.2.formulas;have e1:=x.parts.1;have e2:=x.parts.2.1;have hks:=fun (k:F) (h:k ∈ x.t.kids) => F.kid_size h
   have HKS:=Lib.hid hks;have HCELL:=Lib.hid hcell;have HIH:=Lib.hid ih;have HT:=Lib.hid (fun k (hk:k < x.t.kids.length) => tops_take x.t.kids k hk)
   have HL:=Lib.hid (fun k (hk:k < x.t.kids.length) => tops_take_le x.t.kids k hk)
   have HBX:=Lib.hid hBw;have hcv:=x.parts.2.2.1;obtain ⟨A1,n1,q1,ec,_⟩:=hcv.slice
   have hlen:x.t.kids.length ≤ 1000000:=by
    have h1:=kids_le x.t.kids;have h2:=x.t.nodes_length;rw [x.t.nodes_eq,List.length_cons,nodes_flat_length] at h2;omega
   rw [h5] at e1;rw [e1,e2,ec,hd] at P0 X0 ⊢;clear hT hks hcell ih e1 e2 ec hd hcv h5;generalize x.t.n = xn at *;generalize x.t.kids = kids at *;go_enter Tryz.func199,Tryz.ntmps199
   go_wp2_with fail;go_loopw [3,4] (fun u i wr => ∃ k:Nat,i = .int .i64 (k:Int) ∧ k ≤ kids.length ∧ OwnR w B wr (w.heap.size + 1) u (((kids.take k).flatMap F.tops).flatMap F.cells) ∧ Below w.heap.size w wr ∧ Blk wr w.heap.size 39 #[.int .i64 5,.int .i64 xn,.slice A1 n1 q1,.slice A kids.length c]) (fun _ i _ => kids.length - (intOf i).toNat)
   case atStart => exact ⟨0,rfl,Nat.zero_le _,OwnR.nil _ _ _ _,P0,X0⟩
   case round =>
    obtain ⟨k,rfl,hk,hor,hbr,hX⟩:=hrel;have hcx:=hX.c4;by_cases hlt:k < kids.length
    ·obtain ⟨b,o,y,rfl,hb,hy,c0,c1,c2,c3⟩:=HCELL.out k hlt
     have hb':b < w.heap.size:=Nat.lt_of_lt_of_le hb hBw;have d0:=(hbr.cell (p:=⟨b,o + k * 4,none⟩) hb').trans c0;have d1:=(hbr.cell (p:=⟨b,o + k * 4 + 1,none⟩) hb').trans c1;have d2:=(hbr.cell (p:=⟨b,o + k * 4 + 2,none⟩) hb').trans c2;have d3:=(hbr.cell (p:=⟨b,o + k * 4 + 3,none⟩) hb').trans c3;have hmem:kids[k] ∈ kids:=List.getElem_mem _;have hsz:=HKS.out _ hmem;have hT:=HT.out k hlt;have hL:=HL.out k hlt;rw [← hy] at hsz hT hL;have HTH:=Lib.hid hT;have HI:=Lib.hid (fun (W:World) (hW:Below w.heap.size w W) => HIH.out W B ⟨y.a,y.b,y.c,y.d,y.t,y.h.keep (fun p hp => hW.cell (Nat.lt_of_lt_of_le hp hBw)) (Nat.le_refl _)⟩ (Nat.le_trans hBw hW.size) (by dsimp only;omega) (by omega))
     clear c0 c1 c2 c3 hmem hy hT;dsimp only at HI;obtain ⟨ya,yb,yc,yd,yt,yh⟩:=y;obtain ⟨B1,m1,p1,B2,m2,p2,e1,e2,e3,e4⟩:=node_form yh;dsimp only at *;subst e1 e2 e3 e4;clear yh;generalize (kids.take k).flatMap F.tops = bs at *;generalize yt.tops = ms at *
     go_wp2_with (first
      | (go_at_call 199;refine (HI.out _ hbr).mono ?_;rintro e w2 ⟨v2,rfl,ho2,hb2⟩)
      | (at_builtin;refine wpList_appR rfl _ _ rfl (w.heap.size + 1) _ bs rfl (hor.below hb2) _ ms rfl (ho2.src.at (fun p hp => (hbr.cell (Nat.lt_of_lt_of_le hp hBw)).symm)) (by omega) (Nat.le_trans hX.lt hb2.size) ?_;intro v3 w3 ho3 hg3 _))
     rw [← HTH.out] at ho3;have hb3:=(hbr.trans (hb2.mono hbr.size)).grown hg3 (Nat.le_trans hbr.size hb2.size) (fun q hq => Nat.le_of_succ_le (hor.lt q hq))
     have hX3:=(hX.keep hb2).grown hg3 (fun e => by have:=hor.lt _ e.symm;omega)
     go_roundw
     case rel => exact ⟨k + 1,by go_num,by omega,ho3,hb3,hX3⟩
     case measure => simp [intOf];omega
    ·obtain rfl:k = kids.length:=by omega
     rw [List.take_length] at hor;have HO:=Lib.hid hor;clear hor;go_wp2_with fail;go_ret;exact ⟨_,rfl,HO.out.mono (Nat.le_succ _),hbr⟩
  ·rw [F.tops_no h5]
   have hne:(x.t.op != 5) = true:=by simpa using h5
   have Q0:=P0.alloc P0.size (.cells #[x.a,x.b,x.c,x.d] 39);have hR:=ownR_one (t:=x.t) P0.size x.h;rw [World.size_alloc] at hR;have HR:=Lib.hid hR;obtain ⟨A1,n1,q1,A2,n2,q2,e1,e2,e3,e4⟩:=node_form x.h;rw [e1,e2,e3,e4] at HR Q0 ⊢;clear e1 e2 e3 e4 ih hR P0 X0;go_enter Tryz.func199,Tryz.ntmps199
   go_wp2_with fail;go_ret;exact ⟨_,rfl,HR.out,Q0⟩
theorem parts_src (w0:World) (B:Nat) (x:FNode w0 B) (w:World) (hb:Below B w0 w) (hBw:B ≤ w.heap.size) :
  Calls Tryz.prog 206 #[.agg #[x.a,x.b,x.c,x.d]] w fun e w' => ∃ u,e = .returned u ∧ SrcR w0 B w' u (x.t.parts.flatMap F.cells) ∧ Below w.heap.size w w':=by
 obtain ⟨A1,n1,q1,A2,n2,q2,e1,e2,e3,e4⟩:=node_form x.h;have hr:=x.parts.2.2.2;have P0:=below_new w (.cells #[x.a,x.b,x.c,x.d] 39);by_cases h4:x.t.op = 4
 ·have hR:=Lib.hid (hr.src (hb.trans (P0.mono hBw)) (Nat.le_trans hBw P0.size))
  unfold F.parts;rw [if_pos h4];rw [h4] at e1;rw [e1,e2,e3,e4] at hR P0 ⊢;clear e1 e2 e3 e4 hr hb;go_enter Tryz.func206,Tryz.ntmps206
  go_wp2_with fail;go_ret;exact ⟨_,rfl,hR.out,P0⟩
 ·unfold F.parts
  rw [if_neg h4];have P1:=P0.alloc P0.size (.cells #[x.a,x.b,x.c,x.d] 39);have hR:=(ownR_one (base:=w.heap.size) (t:=x.t) P0.size x.h).src;rw [World.size_alloc] at hR;have hR:=Lib.hid hR;have hne:(x.t.op == 4) = false:=by simpa using h4
  rw [e1,e2,e3,e4] at hR P1 ⊢;clear e1 e2 e3 e4 hr P0 hb;go_enter Tryz.func206,Tryz.ntmps206
  go_wp2_with fail;go_ret;exact ⟨_,rfl,hR.out,P1⟩
theorem refparts_src (w0:World) (B:Nat) (x:FNode w0 B) (w:World) (hb:Below B w0 w) (hBw:B ≤ w.heap.size) :
  Calls Tryz.prog 219 #[.agg #[x.a,x.b,x.c,x.d]] w fun e w' => ∃ u,e = .returned u ∧ SrcR w0 B w' u (x.t.parts.flatMap F.cells) ∧ Below w.heap.size w w':=by
 obtain ⟨A1,n1,q1,A2,n2,q2,e1,e2,e3,e4⟩:=node_form x.h;have hr:=x.parts.2.2.2;have P0:=below_new w (.cells #[x.a,x.b,x.c,x.d] 39);by_cases h4:x.t.op = 4
 ·have hR:=Lib.hid (hr.src (hb.trans (P0.mono hBw)) (Nat.le_trans hBw P0.size))
  unfold F.parts;rw [if_pos h4];rw [h4] at e1;rw [e1,e2,e3,e4] at hR P0 ⊢;clear e1 e2 e3 e4 hr hb;go_enter Tryz.func219,Tryz.ntmps219
  go_wp2_with fail;go_ret;exact ⟨_,rfl,hR.out,P0⟩
 ·unfold F.parts
  rw [if_neg h4];have P1:=P0.alloc P0.size (.cells #[x.a,x.b,x.c,x.d] 39);have hR:=(ownR_one (base:=w.heap.size) (t:=x.t) P0.size x.h).src;rw [World.size_alloc] at hR;have hR:=Lib.hid hR;have hne:(x.t.op == 4) = false:=by simpa using h4
  rw [e1,e2,e3,e4] at hR P1 ⊢;clear e1 e2 e3 e4 hr P0 hb;go_enter Tryz.func219,Tryz.ntmps219
  go_wp2_with fail;go_ret;exact ⟨_,rfl,hR.out,P1⟩
end Go.Proofs.YtbeaijjaecaidaaGreatDoor
