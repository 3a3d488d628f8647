/- The alternatives of a claim, in the reference. Rows of formulas of which one only counts; the parts of a text; Alts of the reference. The texts of filings: their parts and disclosures, in the program and in the reference; valid. -/
import Derived.Test.YtbeaijjaecaidaaGreatDoorM07
import Derived.Test.YtbeaijjaecaidaaGreatDoorM08
import Derived.Test.YtbeaijjaecaidaaGreatDoorM01
set_option maxRecDepth 100000
set_option maxHeartbeats 16000000
namespace Go.Proofs.YtbeaijjaecaidaaGreatDoor
open Go.RowKit Go.Shelf
attribute [local go_sem] Oper.semAt_some
def Mid (W2:World) (s:Nat) (W:World):Prop:=W2.heap.size ≤ W.heap.size ∧ ∀ g,s ≤ g → g < W2.heap.size → W.heap[g]? = W2.heap[g]?
theorem Mid.below {W2 W W':World} {s:Nat} (h:Mid W2 s W) (hb:Below W.heap.size W W'):Mid W2 s W':=⟨Nat.le_trans h.1 hb.size,fun g h1 h2 => (hb.block g (Nat.lt_of_lt_of_le h2 h.1)).trans (h.2 g h1 h2)⟩
theorem Mid.grown {W2 W W':World} {s:Nat} {row:Option Nat} (h:Mid W2 s W) (hg:W.grownBy W' row) (hr:∀ g,row = some g → g < s ∨ W2.heap.size ≤ g):Mid W2 s W' :=
 ⟨Nat.le_trans h.1 hg.size,fun g h1 h2 => (hg.block g (Nat.lt_of_lt_of_le h2 h.1) (fun e => by have:=hr _ e.symm;omega)).trans (h.2 g h1 h2)⟩
theorem ANode.mid {w0 W W2:World} {B s:Nat} {a b c d:Value} {f:F} (h:ANode w0 B W2 s a b c d f) (hm:Mid W2 s W):ANode w0 B W s a b c d f:=by
 rcases h with h | ⟨h1,h2,h3,h4,h5,h6,h7,h8⟩
 ·exact .inl h
 ·refine .inr ⟨h1,h2,h3,h4,h5,h6,fun g hg => ⟨(h7 g hg).1,Nat.lt_of_lt_of_le (h7 g hg).2 hm.1⟩,?_⟩
  rcases h8 with h | ⟨b',o,k,c',cs,rfl,hk,hlt,hl,hr,hc⟩
  ·exact .inl h
  ·exact .inr ⟨b',o,k,c',cs,rfl,hk,Nat.lt_of_lt_of_le hlt hm.1,hl,hr,fun j x hx => (World.cell?_of_block (hm.2 b' (h7 b' rfl).1 hlt)).trans (hc j x hx)⟩
theorem ownR_zero {w0 W:World} {B base:Nat} (hb:base ≤ W.heap.size):OwnR w0 B (W.alloc (.cells #[] 39)) base (.slice (some ⟨W.heap.size,0,none⟩) 0 0) (([]:List F).flatMap F.cells) :=
 ⟨0,[],⟨rfl,.inr ⟨W.heap.size,0,#[],rfl,hb,heap_alloc_new W _,Nat.le_refl _,Nat.zero_le _,rfl,rfl⟩⟩,RepL.nil _ _⟩
theorem anode_of {w0 W:World} {B base:Nat} {u:Value} {a b:F} (h:OwnR w0 B W base u ((a.parts ++ b.parts).flatMap F.cells)):ANode w0 B W base (.int .i64 4) (.int .i64 0) (.slice none 0 0) u (andF a b) :=
 .inr ⟨rfl,rfl,rfl,rfl,rfl,rfl,fun g hg => ⟨h.lt g hg,h.low g hg⟩,h.src⟩
theorem and_repR {w0 W:World} {base B:Nat} {u:Value} {a b:F} (h:OwnR w0 B W base u ((a.parts ++ b.parts).flatMap F.cells)) (hb:Below B w0 W) (hB:B ≤ W.heap.size):RepL W W.heap.size [.int .i64 4,.int .i64 0,.slice none 0 0,u] (andF a b).cells:=by
 rw [andF_cells];exact RepL.cons (.v _) (RepL.cons (.v _) (RepL.cons (.nil 8) (RepL.cons (h.src.rep (fun p hp => hb.cell hp) hB) (RepL.nil _ _))))
theorem ownsRow_mono {w:World} {base base':Nat} {e:TypeId} {sz n:Nat} {v:Value} {xs:List Value} (h:w.ownsRow base e sz v n xs) (hb:base' ≤ base):w.ownsRow base' e sz v n xs:=by
 obtain ⟨h1,h2⟩:=h;refine ⟨h1,?_⟩
 rcases h2 with h2 | ⟨g,cap,cur,e,hg,h4⟩
 ·exact .inl h2
 ·exact .inr ⟨g,cap,cur,e,Nat.le_trans hb hg,h4⟩
theorem refalts_any (l:List Cl) (hok:OkCl l) (hal:AltsOk l):∀ (n i:Nat),i < n → n ≤ l.length → ∀ (v:Value) (w:World) (B:Nat),B ≤ w.heap.size → Rep w B v (.s 5 (l.flatMap Cl.cells)) →
  Calls Tryz.prog 210 #[v,.int .i64 (i:Int)] w fun e w' => ∃ u,e = .returned (.tuple #[u,.bool true]) ∧ OwnA w B w' w.heap.size u ((altsL l (i + 1)).getD i []) ∧ Below w.heap.size w w':=by
 intro n
 induction n with
 | zero => intro i hi;omega
 | succ n ih =>
 intro i hi hnl v w B hBw hr;have HR:=Lib.hid hr;obtain ⟨A,c,rfl,hc,hcell⟩:=hr.claims;have hl:=hok.1;have hil:i < l.length:=by omega
 obtain ⟨b,o,y,rfl,hb,hy,c0,c1,c2,c3,c4⟩:=hcell i hil;have hb':b < w.heap.size:=Nat.lt_of_lt_of_le hb hBw;obtain ⟨hro,hrl,hof⟩:=hok.2 i hil;have hao:=hal i hil;have hget:=altsL_get l (i + 1) i (by omega) (by omega)
 rw [← hy] at hro hrl hof hao hget;rw [hget];have hAl:=hal.len i (by omega)
 have hIH:∀ (r:Nat) (W:World),r < i → Below w.heap.size w W → Calls Tryz.prog 210 #[.slice (some ⟨b,o,none⟩) l.length c,.int .i64 (r:Int)] W fun e w' => ∃ u,e = .returned (.tuple #[u,.bool true]) ∧ OwnA w B w' W.heap.size u ((altsL l i).getD r []) ∧ Below W.heap.size W w':=fun r W hri hW => by
  have hk:∀ p:Addr,p.block < B → W.cell? p = w.cell? p:=fun p hp => hW.cell (Nat.lt_of_lt_of_le hp hBw)
  refine (ih r (by omega) (by omega) _ W B (Nat.le_trans hBw hW.size) (HR.out.keep hk (Nat.le_refl _))).mono ?_
  rintro e w' ⟨u,he,ho,hb⟩;rw [altsL_get l (r + 1) r (by omega) (by omega)] at ho
  rw [altsL_get l i r hri (by omega)]
  exact ⟨u,he,ho.at (fun p hp => (hk p hp).symm),hb⟩
 have HIH:=Lib.hid hIH;have HT:=Lib.hid (reftops_any y.t.body.size w B y.body hBw (Nat.le_refl _) (by have:=hof.1;omega))
 generalize altsL l i = AL at *;obtain ⟨A0,q0,f0,hq0,hcellR⟩:=y.hr.row;rw [ints_length] at f0 hq0;have HCR:=Lib.hid hcellR;obtain ⟨A1,n1,q1,A2,n2,q2,f1,f2,f3,f4⟩:=node_form y.h;dsimp only [CNode.body] at HT;rw [f0] at c0;rw [f1] at c1 HT;rw [f2] at c2 HT;rw [f3] at c3 HT;rw [f4] at c4 HT;have HOK:=Lib.hid hao;have HRO:=Lib.hid hro;clear f0 f1 f2 f3 f4 hy hof hget hIH ih hcell hcellR hok hal hr hao hro;obtain ⟨yr,ya,yb,yc,yd,yt,yhr,yh⟩:=y;dsimp only at *;clear yhr yh;generalize hop:yt.body.op = op at *;generalize hnn:yt.body.n = nn at *;clear hop hnn;go_enter Tryz.func210,Tryz.ntmps210
 go_wp2_with fail;refine HT.out.mono ?_
 rintro e w1 ⟨u1,rfl,ho1,hb1⟩;have e0:=(hb1.cell (p:=⟨b,o + i * 5,none⟩) hb').trans c0;obtain ⟨D0,d0,rfl,hd0,HND⟩:=ho1.src.nodes;by_cases h0:yt.refs = []
 ·have hl0:yt.refs.length = 0:=by rw [h0];rfl
  have hA:altF yt AL = yt.body.tops:=by unfold altF;rw [if_pos h0]
  have HA:=Lib.hid hA;have HO:=Lib.hid (OwnA.of_ownR ho1);rw [hl0] at e0;have hle:decide ((yt.body.tops.length:Int) ≤ 64) = true:=by simp;exact_mod_cast HOK.out.1
  clear c0 c1 c2 c3 c4 hA ho1 HND;go_wp2_with fail;exact bodyPost_ret (results_tmp2 rfl _ _ _) rfl ⟨_,rfl,by rw [HA.out];exact HO.out,hb1⟩
 ·have hnz:((yt.refs.length:Int) == 0) = false:=by
   have:yt.refs.length ≠ 0:=fun e => h0 (List.eq_nil_of_length_eq_zero e)
   simp;omega
  have HND:=Lib.hid HND;clear c0 c1 c2 c3 c4;go_wp2_with fail;have hs1:=hb1.size;go_loopw [7,8] (fun u j wr => ∃ k:Nat,j = .int .i64 (k:Int) ∧ k ≤ yt.refs.length ∧ OwnA w B wr w1.heap.size u (outF yt AL k) ∧ Below w1.heap.size w1 wr) (fun _ j _ => yt.refs.length - (intOf j).toNat)
  case atStart => exact ⟨0,rfl,Nat.zero_le _,OwnA.nil _ _ _ _,Below.refl _ _⟩
  case round =>
   obtain ⟨k,rfl,hk,hor,hbr⟩:=hrel;have hbw:=hb1.trans (hbr.mono hb1.size);have g0:=(hbr.cell (p:=⟨b,o + i * 5,none⟩) (Nat.lt_of_lt_of_le hb' hb1.size)).trans e0;by_cases hlt:k < yt.refs.length
   ·obtain ⟨b3,o3,hA0,hb3,c0⟩:=HCR.out k _ (ints_get yt.refs k hlt)
    subst hA0;have g1:=(hbw.cell (p:=⟨b3,o3 + k,none⟩) (Nat.lt_of_lt_of_le hb3 hBw)).trans c0;have hrr:=HRO.out k hlt;have hr0:0 ≤ yt.refs[k]:=hrr.1;have hr1:yt.refs[k] < (i:Int):=hrr.2.1;have hcast:((yt.refs[k].toNat:Nat):Int) = yt.refs[k]:=by omega
    have HC:=HIH.out yt.refs[k].toNat wr (by omega) hbw
    rw [hcast] at HC;have HC:=Lib.hid HC;have hbd:=out_bound HOK.out h0 hlt;have HOS:=Lib.hid (outF_succ yt AL k hlt);have HCT:=Lib.hid (fun j (hj:j < (AL.getD yt.refs[k].toNat []).length) => crossF_take (AL.getD yt.refs[k].toNat []) yt.body.tops j hj)
    have HBD2:=Lib.hid (fun j (hj:j < (AL.getD yt.refs[k].toNat []).length) i hi => out_bound2 HOK.out h0 hlt hj i hi)
    have HOKF:=Lib.hid (fun j (hj:j < (AL.getD yt.refs[k].toNat []).length) i (hi:i < yt.body.tops.length) => out_ok HOK.out h0 hlt hj hi)
    have hla:=hAl yt.refs[k].toNat;have htp:=HOK.out.1;have HSL:=Lib.hid hAl;clear hcast c0 hrr hAl;generalize yt.refs[k] = r at *;generalize AL.getD r.toNat [] = la at *;generalize hLO:outF yt AL k = lo at *;generalize yt.body.tops = tp at *;obtain ⟨P,hw1,hw2⟩:=alt_num _ _ _ hbd;have hw4:¬ ((64:Int) < (lo.length:Int) + (P:Int)):=by omega
    clear hbd;obtain ⟨Ao,co,rfl,_⟩:=hor.slice;go_wp2_with fail;refine HC.out.mono ?_
    rintro e w2 ⟨u2,rfl,hx,hb2⟩;obtain ⟨Ax,cx,rfl,hcx,HX⟩:=hx.nodes;have HX:=Lib.hid HX;have hO2:=hor.below hb2;have hQ2:=below_up hbr hb2 hbr.size;have hoB:∀ g,(Value.slice Ao lo.length co).ownBlock = some g → g < wr.heap.size ∨ w2.heap.size ≤ g:=fun g e => .inl (hor.lt g e).2
    have hsw:w1.heap.size ≤ wr.heap.size:=hbr.size;have g0':=(hb2.cell (p:=⟨b,o + i * 5,none⟩) (Nat.lt_of_lt_of_le hb' hbw.size)).trans g0;clear hor g1 hx HC;generalize wr.heap.size = s at *;go_wp2_with fail;clear hw1;go_loopw [7,11] (fun u j wr => ∃ j':Nat,j = .int .i64 (j':Int) ∧ j' ≤ la.length ∧ OwnA w B wr w1.heap.size u (lo ++ crossF (la.take j') tp) ∧ Below w1.heap.size w1 wr ∧ Mid w2 s wr ∧ ∀ g,u.ownBlock = some g → g < s ∨ w2.heap.size ≤ g) (fun _ j _ => la.length - (intOf j).toNat)
    case atStart => exact ⟨0,rfl,Nat.zero_le _,by rw [show crossF (la.take 0) tp = [] from rfl,List.append_nil];exact hO2,hQ2,⟨Nat.le_refl _,fun _ _ _ => rfl⟩,hoB⟩
    case round =>
     obtain ⟨j,rfl,hj,hor2,hbr2,hmid2,hob2⟩:=hrel;by_cases hltj:j < la.length
     ·obtain ⟨gx,a1,a2,a3,a4,rfl,hgs,hg2,x0,x1,x2,x3,ha⟩:=HX.out j hltj
      have hlaj:∃ z,z = la[j]:=⟨_,rfl⟩;have HB2:=Lib.hid (fun i hi => HBD2.out j hltj i hi)
      have HOK2:=Lib.hid (fun i hi => HOKF.out j hltj i hi)
      have HCT2:lo ++ crossF (la.take (j + 1)) tp = lo ++ crossF (la.take j) tp ++ tp.map (andF la[j]):=by rw [HCT.out j hltj,List.append_assoc]
      have HCT2:=Lib.hid HCT2;generalize la[j] = ta at *;obtain ⟨A1',n1',q1',A2',n2',q2',rfl,rfl,rfl,rfl⟩:=ha.form;generalize lo ++ crossF (la.take j) tp = lj at *;obtain ⟨Ao2,co2,rfl,_⟩:=hor2.slice;go_wp2_with fail;go_loopw [7,12] (fun u jj wr => ∃ q:Nat,jj = .int .i64 (q:Int) ∧ q ≤ tp.length ∧ OwnA w B wr w1.heap.size u (lj ++ (tp.take q).map (andF ta)) ∧ Below w1.heap.size w1 wr ∧ Mid w2 s wr ∧ ∀ g,u.ownBlock = some g → g < s ∨ w2.heap.size ≤ g) (fun _ jj _ => tp.length - (intOf jj).toNat)
      case atStart => exact ⟨0,rfl,Nat.zero_le _,by rw [show (tp.take 0).map (andF ta) = [] from rfl,List.append_nil];exact hor2,hbr2,hmid2,hob2⟩
      case round =>
       obtain ⟨q,rfl,hq,hor3,hbr3,hmid3,hob3⟩:=hrel;have HBD3:=HB2.out q hq;by_cases hltq:q < tp.length
       ·obtain ⟨b4,o4,yb,rfl,hb4,hyb,z0,z1,z2,z3⟩:=HND.out q hltq
        have hbw3:=hb1.trans (hbr3.mono hb1.size);have k0:=(hbr3.cell (p:=⟨b4,o4 + q * 4,none⟩) hb4).trans z0;have k1:=(hbr3.cell (p:=⟨b4,o4 + q * 4 + 1,none⟩) hb4).trans z1;have k2:=(hbr3.cell (p:=⟨b4,o4 + q * 4 + 2,none⟩) hb4).trans z2;have k3:=(hbr3.cell (p:=⟨b4,o4 + q * 4 + 3,none⟩) hb4).trans z3;have y0:=(World.cell?_of_block (a:=⟨gx,0 + j * 4,none⟩) (hmid3.2 gx hgs hg2)).trans x0
        have y1:=(World.cell?_of_block (a:=⟨gx,0 + j * 4 + 1,none⟩) (hmid3.2 gx hgs hg2)).trans x1
        have y2:=(World.cell?_of_block (a:=⟨gx,0 + j * 4 + 2,none⟩) (hmid3.2 gx hgs hg2)).trans x2
        have y3:=(World.cell?_of_block (a:=⟨gx,0 + j * 4 + 3,none⟩) (hmid3.2 gx hgs hg2)).trans x3
        rw [Nat.zero_add] at y0 y1 y2 y3;have hgx3:gx < wr.heap.size:=Nat.lt_of_lt_of_le hg2 hmid3.1;have hb43:b4 < wr.heap.size:=Nat.lt_of_lt_of_le hb4 hbr3.size;have ha3:=ha.mid hmid3;have HPA:=Lib.hid (fun (W:World) (hW:Below wr.heap.size wr W) => refparts_alt (ha3.below hW) (Below.mono (hbw3.trans (hW.mono hbw3.size)) hBw) (Nat.le_trans hBw (Nat.le_trans hbw3.size hW.size)))
        have HPB:=Lib.hid (fun (W:World) (hW:Below wr.heap.size wr W) => refparts_src w B yb W (Below.mono (hbw3.trans (hW.mono hbw3.size)) hBw) (Nat.le_trans hBw (Nat.le_trans hbw3.size hW.size)))
        have HOK3:=HOK2.out q hltq;have HMT:lj ++ (tp.take (q + 1)).map (andF ta) = lj ++ (tp.take q).map (andF ta) ++ [andF ta tp[q]]:=by rw [map_take (andF ta) tp q hltq,List.append_assoc]
        obtain ⟨A3,n3,q3,A4,n4,q4,e1,e2,e3,e4⟩:=node_form yb.h;rw [← hyb] at HOK3 HMT;have HMT:=Lib.hid HMT;have HOK3:=Lib.hid HOK3;rw [e1] at HPB k0;rw [e2] at HPB k1;rw [e3] at HPB k2;rw [e4] at HPB k3;have hbB:=Below.mono hbw3 hBw;clear e1 e2 e3 e4 hyb z0 z1 z2 z3 x0 x1 x2 x3 ha3;generalize yb.t = tb at *;generalize lj ++ (tp.take q).map (andF ta) = lc at *;obtain ⟨Ao3,co3,rfl,_⟩:=hor3.slice;obtain ⟨wa,hwa⟩:∃ z:World,z = wr:=⟨_,rfl⟩;subst hwa;go_upto_region 17 with fail;obtain ⟨PP,hPP⟩:∃ z,z = ta.parts ++ tb.parts:=⟨_,rfl⟩;have HPP:=Lib.hid hPP;go_cut [13] from 79 to 93 (fun u wx => ∃ (g:Nat) (kv:Value),u = .pointer (some ⟨g,0,none⟩) ∧ Blk wx g 39 #[.int .i64 4,.int .i64 0,.slice none 0 0,kv] ∧ OwnR w B wx wa.heap.size kv (PP.flatMap F.cells) ∧ Below wa.heap.size wa wx)
        case first => as_aux_lemma =>
         have HL96:(ta.parts ++ tb.parts).length ≤ 96:=okAnd_len HOK3.out;clear hPP;refine drawn_norm ?_
         refine wp_region_held_drew (S:=(fun w' => Below wa.heap.size wa w')) (by kernel_rfl) ?_ (fun hHeld => ?_)
         ·first | done | ((try dsimp only);exact (Below.refl _ _).drew)
         generalize wa.drew = wd at *;refine tq 1 80 rfl ?_
         refine tq 2 81 rfl ?_
         refine tq 3 82 rfl ?_
         refine tq 4 83 rfl ?_ (hy:=by intro w' hSw;(try dsimp only at hSw);have c0:=(hSw.cell (p:=⟨gx,j * 4,none⟩) hgx3).trans y0;have c1:=(hSw.cell (p:=⟨gx,j * 4 + 1,none⟩) hgx3).trans y1;have c2:=(hSw.cell (p:=⟨gx,j * 4 + 2,none⟩) hgx3).trans y2;have c3:=(hSw.cell (p:=⟨gx,j * 4 + 3,none⟩) hgx3).trans y3;go_simp;try (with_reducible rfl))
         refine tq 7 86 rfl ?_
         refine tq 8 87 rfl ?_
         refine tq 9 88 rfl ?_
         refine tq 10 89 rfl ?_ (hy:=by intro w' hSw;(try dsimp only at hSw);have c0:=(hSw.cell (p:=⟨b4,o4 + q * 4,none⟩) hb43).trans k0;have c1:=(hSw.cell (p:=⟨b4,o4 + q * 4 + 1,none⟩) hb43).trans k1;have c2:=(hSw.cell (p:=⟨b4,o4 + q * 4 + 2,none⟩) hb43).trans k2;have c3:=(hSw.cell (p:=⟨b4,o4 + q * 4 + 3,none⟩) hb43).trans k3;go_simp;try (with_reducible rfl))
         refine wpAnyH_ready (rs:=[0,5,14]) (by kernel_rfl) (by simp) (AllReadyH.cons (o:=⟨some 79,_,_,_,_,_⟩) rfl (fun K hK => ?_) (AllReadyH.cons (o:=⟨some 84,_,_,_,_,_⟩) rfl (fun K hK => ?_) (AllReadyH.cons (o:=⟨some 13,_,_,_,_,_⟩) rfl (fun K hK => ?_) AllReadyH.nil)))
         ·skip
          have ho79:=hHeld.size;obtain ⟨go79,hgo79⟩:∃ z,wd.heap.size = z:=⟨_,rfl⟩;obtain ⟨wn1,hwn1⟩:∃ z,wd.alloc (.cells #[] 39) = z:=⟨_,rfl⟩;have kwn1:Below wd.heap.size wd wn1:=by rw [← hwn1];exact below_new _ _
          have o79:OwnR w B wn1 wa.heap.size (.slice (some ⟨go79,0,none⟩) 0 0) (([]:List F).flatMap F.cells):=by rw [← hwn1,← hgo79];exact ownR_zero ho79
          go_simp
          (try rw [hwn1]);(try rw [hgo79])
          refine hK.out _ _ (hHeld.trans (kwn1.mono hHeld.size)) fun hHeld => ?_
          clear hK K;(try simp only [pS,pB,pZ,pC]);refine rd2 5 (some 84) 14 (some 13) (by kernel_rfl) rfl rfl (fun K hK => ?_) fun K hK => ?_
          ·skip
           go_simp
           (refine (HPA.out _ hHeld).mono ?_;rintro e W84 ⟨u84,rfl,r84,k84⟩;obtain ⟨A84,c84,rfl,_⟩:=r84.slice)
           refine hK.out _ _ (hHeld.trans (k84.mono hHeld.size)) fun hHeld => ?_
           clear hK K;(try simp only [pS,pB,pZ,pC]);have o79:=o79.below k84;refine rd2 6 (some 85) 14 (some 13) (by kernel_rfl) rfl rfl (fun K hK => ?_) fun K hK => ?_
           ·skip
            refine wp_appR _ _ rfl wa.heap.size _ [] rfl o79 _ ta.parts rfl r84 (by have:=HL96;simp at this ⊢;omega) hHeld.size ?_
            intro vv85 W85 o85 g85 l85;have r84:=True.intro;refine hK.out _ _ ?_ (fun hHeld => ?_)
            ·exact hHeld.grown g85 hHeld.size (fun q e => o79.lt q e)
            clear hK K;(try simp only [pS,pB,pZ,pC]);obtain ⟨A85,c85,rfl,_⟩:=o85.src.slice;refine rd2 11 (some 90) 14 (some 13) (by kernel_rfl) rfl rfl (fun K hK => ?_) fun K hK => ?_
            ·skip
             go_simp
             (refine (HPB.out _ hHeld).mono ?_;rintro e W90 ⟨u90,rfl,r90,k90⟩;obtain ⟨A90,c90,rfl,_⟩:=r90.slice)
             refine hK.out _ _ (hHeld.trans (k90.mono hHeld.size)) fun hHeld => ?_
             clear hK K;(try simp only [pS,pB,pZ,pC]);have o85:=o85.below k90;refine rd2 12 (some 91) 14 (some 13) (by kernel_rfl) rfl rfl (fun K hK => ?_) fun K hK => ?_
             ·skip
              refine wp_appR _ _ rfl wa.heap.size _ ta.parts rfl o85 _ tb.parts rfl r90 (by have:=HL96;simp at this ⊢;omega) hHeld.size ?_
              intro vv91 W91 o91 g91 l91;have r90:=True.intro;refine hK.out _ _ ?_ (fun hHeld => ?_)
              ·exact hHeld.grown g91 hHeld.size (fun q e => o85.lt q e)
              clear hK K;(try simp only [pS,pB,pZ,pC]);rw [← HPP.out] at o91;obtain ⟨A91,c91,rfl,_⟩:=o91.src.slice;refine tq 13 92 rfl ?_
              have hf17:=hHeld.size;obtain ⟨gf17,hgf17⟩:∃ z,W91.heap.size = z:=⟨_,rfl⟩;obtain ⟨wn2,hwn2⟩:∃ z,W91.alloc (.cells #[.int .i64 0,.int .i64 0,.slice none 0 0,.slice none 0 0] 39) = z:=⟨_,rfl⟩;have kwn2:Below W91.heap.size W91 wn2:=by rw [← hwn2];exact below_new _ _
              have hne17:∀ q,_ = some q → q ≠ gf17:=fun q e => by have:=o91.low q e;omega
              have f17:Blk wn2 gf17 39 #[.int .i64 0,.int .i64 0,.slice none 0 0,.slice none 0 0]:=by rw [← hwn2,← hgf17];exact Blk.new _ _ _
              have o91:=o91.below kwn2;refine rd 14 (some 13) rfl fun K hK => ?_
              go_simp
              (try rw [hwn2]);(try rw [hgf17])
              refine hK.out _ _ (hHeld.trans (kwn2.mono hHeld.size)) fun hHeld => ?_
              clear hK K;(try simp only [pS,pB,pZ,pC]);have hgea:wa.heap.size ≤ gf17:=by omega
              obtain ⟨FF,OO,SS⟩:=and_doneR hHeld f17 hgea o91 (fun e => hne17 _ e rfl)
              refine rd 15 none rfl fun K hK => ?_
              refine wp_store4 f17 _ _ rfl rfl rfl ?_ rfl
              simp only [Act.put];refine hK.out _ _ ?_ (fun hHeld => ?_)
              ·exact SS
              clear hK K;refine dn ?_
              refine ⟨?_,rfl⟩
              go_wp2_with fail;go_meet;exact ⟨_,_,rfl,FF,OO,SS⟩
             ·skip
              have hf17:=hHeld.size;obtain ⟨gf17,hgf17⟩:∃ z,W90.heap.size = z:=⟨_,rfl⟩;obtain ⟨wn3,hwn3⟩:∃ z,W90.alloc (.cells #[.int .i64 0,.int .i64 0,.slice none 0 0,.slice none 0 0] 39) = z:=⟨_,rfl⟩;have kwn3:Below W90.heap.size W90 wn3:=by rw [← hwn3];exact below_new _ _
              have hne17:∀ q,_ = some q → q ≠ gf17:=fun q e => by have:=o85.low q e;omega
              have f17:Blk wn3 gf17 39 #[.int .i64 0,.int .i64 0,.slice none 0 0,.slice none 0 0]:=by rw [← hwn3,← hgf17];exact Blk.new _ _ _
              have o85:=o85.below kwn3;have r90:=r90.below kwn3;go_simp
              (try rw [hwn3]);(try rw [hgf17])
              refine hK.out _ _ (hHeld.trans (kwn3.mono hHeld.size)) fun hHeld => ?_
              clear hK K;(try simp only [pS,pB,pZ,pC]);have hf17w91:=f17.lt;refine rd 12 (some 91) rfl fun K hK => ?_
              refine wp_appR _ _ rfl wa.heap.size _ ta.parts rfl o85 _ tb.parts rfl r90 (by have:=HL96;simp at this ⊢;omega) hHeld.size ?_
              intro vv91 W91 o91 g91 l91;have r90:=True.intro;have f17:=f17.grown g91 (fun e => hne17 _ e.symm rfl)
              have hne17:∀ q,vv91.ownBlock = some q → q ≠ gf17:=fun q e => by rcases l91 with h | h;exact hne17 q (h.symm.trans e);(rw [h] at e;cases e;have:=hf17w91;omega)
              refine hK.out _ _ ?_ (fun hHeld => ?_)
              ·exact hHeld.grown g91 hHeld.size (fun q e => o85.lt q e)
              clear hK K;(try simp only [pS,pB,pZ,pC]);rw [← HPP.out] at o91;obtain ⟨A91,c91,rfl,_⟩:=o91.src.slice;refine tq 13 92 rfl ?_
              have hgea:wa.heap.size ≤ gf17:=by omega
              obtain ⟨FF,OO,SS⟩:=and_doneR hHeld f17 hgea o91 (fun e => hne17 _ e rfl)
              refine rd 15 none rfl fun K hK => ?_
              refine wp_store4 f17 _ _ rfl rfl rfl ?_ rfl
              simp only [Act.put];refine hK.out _ _ ?_ (fun hHeld => ?_)
              ·exact SS
              clear hK K;refine dn ?_
              refine ⟨?_,rfl⟩
              go_wp2_with fail;go_meet;exact ⟨_,_,rfl,FF,OO,SS⟩
            ·skip
             have hf17:=hHeld.size;obtain ⟨gf17,hgf17⟩:∃ z,W85.heap.size = z:=⟨_,rfl⟩;obtain ⟨wn4,hwn4⟩:∃ z,W85.alloc (.cells #[.int .i64 0,.int .i64 0,.slice none 0 0,.slice none 0 0] 39) = z:=⟨_,rfl⟩;have kwn4:Below W85.heap.size W85 wn4:=by rw [← hwn4];exact below_new _ _
             have hne17:∀ q,_ = some q → q ≠ gf17:=fun q e => by have:=o85.low q e;omega
             have f17:Blk wn4 gf17 39 #[.int .i64 0,.int .i64 0,.slice none 0 0,.slice none 0 0]:=by rw [← hwn4,← hgf17];exact Blk.new _ _ _
             have o85:=o85.below kwn4;go_simp
             (try rw [hwn4]);(try rw [hgf17])
             refine hK.out _ _ (hHeld.trans (kwn4.mono hHeld.size)) fun hHeld => ?_
             clear hK K;(try simp only [pS,pB,pZ,pC]);refine rd 11 (some 90) rfl fun K hK => ?_
             go_simp
             (refine (HPB.out _ hHeld).mono ?_;rintro e W90 ⟨u90,rfl,r90,k90⟩;obtain ⟨A90,c90,rfl,_⟩:=r90.slice)
             refine hK.out _ _ (hHeld.trans (k90.mono hHeld.size)) fun hHeld => ?_
             clear hK K;(try simp only [pS,pB,pZ,pC]);have o85:=o85.below k90;have f17:=f17.keep k90;have hf17w91:=f17.lt;refine rd 12 (some 91) rfl fun K hK => ?_
             refine wp_appR _ _ rfl wa.heap.size _ ta.parts rfl o85 _ tb.parts rfl r90 (by have:=HL96;simp at this ⊢;omega) hHeld.size ?_
             intro vv91 W91 o91 g91 l91;have r90:=True.intro;have f17:=f17.grown g91 (fun e => hne17 _ e.symm rfl)
             have hne17:∀ q,vv91.ownBlock = some q → q ≠ gf17:=fun q e => by rcases l91 with h | h;exact hne17 q (h.symm.trans e);(rw [h] at e;cases e;have:=hf17w91;omega)
             refine hK.out _ _ ?_ (fun hHeld => ?_)
             ·exact hHeld.grown g91 hHeld.size (fun q e => o85.lt q e)
             clear hK K;(try simp only [pS,pB,pZ,pC]);rw [← HPP.out] at o91;obtain ⟨A91,c91,rfl,_⟩:=o91.src.slice;refine tq 13 92 rfl ?_
             have hgea:wa.heap.size ≤ gf17:=by omega
             obtain ⟨FF,OO,SS⟩:=and_doneR hHeld f17 hgea o91 (fun e => hne17 _ e rfl)
             refine rd 15 none rfl fun K hK => ?_
             refine wp_store4 f17 _ _ rfl rfl rfl ?_ rfl
             simp only [Act.put];refine hK.out _ _ ?_ (fun hHeld => ?_)
             ·exact SS
             clear hK K;refine dn ?_
             refine ⟨?_,rfl⟩
             go_wp2_with fail;go_meet;exact ⟨_,_,rfl,FF,OO,SS⟩
           ·skip
            have hf17:=hHeld.size;obtain ⟨gf17,hgf17⟩:∃ z,W84.heap.size = z:=⟨_,rfl⟩;obtain ⟨wn5,hwn5⟩:∃ z,W84.alloc (.cells #[.int .i64 0,.int .i64 0,.slice none 0 0,.slice none 0 0] 39) = z:=⟨_,rfl⟩;have kwn5:Below W84.heap.size W84 wn5:=by rw [← hwn5];exact below_new _ _
            have hne17:∀ q,_ = some q → q ≠ gf17:=fun q e => by have:=o79.low q e;omega
            have f17:Blk wn5 gf17 39 #[.int .i64 0,.int .i64 0,.slice none 0 0,.slice none 0 0]:=by rw [← hwn5,← hgf17];exact Blk.new _ _ _
            have o79:=o79.below kwn5;have r84:=r84.below kwn5;go_simp
            (try rw [hwn5]);(try rw [hgf17])
            refine hK.out _ _ (hHeld.trans (kwn5.mono hHeld.size)) fun hHeld => ?_
            clear hK K;(try simp only [pS,pB,pZ,pC]);have hf17w85:=f17.lt;refine rd 6 (some 85) rfl fun K hK => ?_
            refine wp_appR _ _ rfl wa.heap.size _ [] rfl o79 _ ta.parts rfl r84 (by have:=HL96;simp at this ⊢;omega) hHeld.size ?_
            intro vv85 W85 o85 g85 l85;have r84:=True.intro;have f17:=f17.grown g85 (fun e => hne17 _ e.symm rfl)
            have hne17:∀ q,vv85.ownBlock = some q → q ≠ gf17:=fun q e => by rcases l85 with h | h;exact hne17 q (h.symm.trans e);(rw [h] at e;cases e;have:=hf17w85;omega)
            refine hK.out _ _ ?_ (fun hHeld => ?_)
            ·exact hHeld.grown g85 hHeld.size (fun q e => o79.lt q e)
            clear hK K;(try simp only [pS,pB,pZ,pC]);obtain ⟨A85,c85,rfl,_⟩:=o85.src.slice;refine rd 11 (some 90) rfl fun K hK => ?_
            go_simp
            (refine (HPB.out _ hHeld).mono ?_;rintro e W90 ⟨u90,rfl,r90,k90⟩;obtain ⟨A90,c90,rfl,_⟩:=r90.slice)
            refine hK.out _ _ (hHeld.trans (k90.mono hHeld.size)) fun hHeld => ?_
            clear hK K;(try simp only [pS,pB,pZ,pC]);have f17:=f17.keep k90;have o85:=o85.below k90;have hf17w91:=f17.lt;refine rd 12 (some 91) rfl fun K hK => ?_
            refine wp_appR _ _ rfl wa.heap.size _ ta.parts rfl o85 _ tb.parts rfl r90 (by have:=HL96;simp at this ⊢;omega) hHeld.size ?_
            intro vv91 W91 o91 g91 l91;have r90:=True.intro;have f17:=f17.grown g91 (fun e => hne17 _ e.symm rfl)
            have hne17:∀ q,vv91.ownBlock = some q → q ≠ gf17:=fun q e => by rcases l91 with h | h;exact hne17 q (h.symm.trans e);(rw [h] at e;cases e;have:=hf17w91;omega)
            refine hK.out _ _ ?_ (fun hHeld => ?_)
            ·exact hHeld.grown g91 hHeld.size (fun q e => o85.lt q e)
            clear hK K;(try simp only [pS,pB,pZ,pC]);rw [← HPP.out] at o91;obtain ⟨A91,c91,rfl,_⟩:=o91.src.slice;refine tq 13 92 rfl ?_
            have hgea:wa.heap.size ≤ gf17:=by omega
            obtain ⟨FF,OO,SS⟩:=and_doneR hHeld f17 hgea o91 (fun e => hne17 _ e rfl)
            refine rd 15 none rfl fun K hK => ?_
            refine wp_store4 f17 _ _ rfl rfl rfl ?_ rfl
            simp only [Act.put];refine hK.out _ _ ?_ (fun hHeld => ?_)
            ·exact SS
            clear hK K;refine dn ?_
            refine ⟨?_,rfl⟩
            go_wp2_with fail;go_meet;exact ⟨_,_,rfl,FF,OO,SS⟩
          ·skip
           have hf17:=hHeld.size;obtain ⟨gf17,hgf17⟩:∃ z,wn1.heap.size = z:=⟨_,rfl⟩;obtain ⟨wn6,hwn6⟩:∃ z,wn1.alloc (.cells #[.int .i64 0,.int .i64 0,.slice none 0 0,.slice none 0 0] 39) = z:=⟨_,rfl⟩;have kwn6:Below wn1.heap.size wn1 wn6:=by rw [← hwn6];exact below_new _ _
           have hne17:∀ q,_ = some q → q ≠ gf17:=fun q e => by have:=o79.low q e;omega
           have f17:Blk wn6 gf17 39 #[.int .i64 0,.int .i64 0,.slice none 0 0,.slice none 0 0]:=by rw [← hwn6,← hgf17];exact Blk.new _ _ _
           have o79:=o79.below kwn6;go_simp
           (try rw [hwn6]);(try rw [hgf17])
           refine hK.out _ _ (hHeld.trans (kwn6.mono hHeld.size)) fun hHeld => ?_
           clear hK K;(try simp only [pS,pB,pZ,pC]);refine rd 5 (some 84) rfl fun K hK => ?_
           go_simp
           (refine (HPA.out _ hHeld).mono ?_;rintro e W84 ⟨u84,rfl,r84,k84⟩;obtain ⟨A84,c84,rfl,_⟩:=r84.slice)
           refine hK.out _ _ (hHeld.trans (k84.mono hHeld.size)) fun hHeld => ?_
           clear hK K;(try simp only [pS,pB,pZ,pC]);have o79:=o79.below k84;have f17:=f17.keep k84;have hf17w85:=f17.lt;refine rd 6 (some 85) rfl fun K hK => ?_
           refine wp_appR _ _ rfl wa.heap.size _ [] rfl o79 _ ta.parts rfl r84 (by have:=HL96;simp at this ⊢;omega) hHeld.size ?_
           intro vv85 W85 o85 g85 l85;have r84:=True.intro;have f17:=f17.grown g85 (fun e => hne17 _ e.symm rfl)
           have hne17:∀ q,vv85.ownBlock = some q → q ≠ gf17:=fun q e => by rcases l85 with h | h;exact hne17 q (h.symm.trans e);(rw [h] at e;cases e;have:=hf17w85;omega)
           refine hK.out _ _ ?_ (fun hHeld => ?_)
           ·exact hHeld.grown g85 hHeld.size (fun q e => o79.lt q e)
           clear hK K;(try simp only [pS,pB,pZ,pC]);obtain ⟨A85,c85,rfl,_⟩:=o85.src.slice;refine rd 11 (some 90) rfl fun K hK => ?_
           go_simp
           (refine (HPB.out _ hHeld).mono ?_;rintro e W90 ⟨u90,rfl,r90,k90⟩;obtain ⟨A90,c90,rfl,_⟩:=r90.slice)
           refine hK.out _ _ (hHeld.trans (k90.mono hHeld.size)) fun hHeld => ?_
           clear hK K;(try simp only [pS,pB,pZ,pC]);have f17:=f17.keep k90;have o85:=o85.below k90;have hf17w91:=f17.lt;refine rd 12 (some 91) rfl fun K hK => ?_
           refine wp_appR _ _ rfl wa.heap.size _ ta.parts rfl o85 _ tb.parts rfl r90 (by have:=HL96;simp at this ⊢;omega) hHeld.size ?_
           intro vv91 W91 o91 g91 l91;have r90:=True.intro;have f17:=f17.grown g91 (fun e => hne17 _ e.symm rfl)
           have hne17:∀ q,vv91.ownBlock = some q → q ≠ gf17:=fun q e => by rcases l91 with h | h;exact hne17 q (h.symm.trans e);(rw [h] at e;cases e;have:=hf17w91;omega)
           refine hK.out _ _ ?_ (fun hHeld => ?_)
           ·exact hHeld.grown g91 hHeld.size (fun q e => o85.lt q e)
           clear hK K;(try simp only [pS,pB,pZ,pC]);rw [← HPP.out] at o91;obtain ⟨A91,c91,rfl,_⟩:=o91.src.slice;refine tq 13 92 rfl ?_
           have hgea:wa.heap.size ≤ gf17:=by omega
           obtain ⟨FF,OO,SS⟩:=and_doneR hHeld f17 hgea o91 (fun e => hne17 _ e rfl)
           refine rd 15 none rfl fun K hK => ?_
           refine wp_store4 f17 _ _ rfl rfl rfl ?_ rfl
           simp only [Act.put];refine hK.out _ _ ?_ (fun hHeld => ?_)
           ·exact SS
           clear hK K;refine dn ?_
           refine ⟨?_,rfl⟩
           go_wp2_with fail;go_meet;exact ⟨_,_,rfl,FF,OO,SS⟩
         ·skip
          go_simp
          (refine (HPA.out _ hHeld).mono ?_;rintro e W84 ⟨u84,rfl,r84,k84⟩;obtain ⟨A84,c84,rfl,_⟩:=r84.slice)
          refine hK.out _ _ (hHeld.trans (k84.mono hHeld.size)) fun hHeld => ?_
          clear hK K;(try simp only [pS,pB,pZ,pC]);refine rd2 0 (some 79) 14 (some 13) (by kernel_rfl) rfl rfl (fun K hK => ?_) fun K hK => ?_
          ·skip
           have ho79:=hHeld.size;obtain ⟨go79,hgo79⟩:∃ z,W84.heap.size = z:=⟨_,rfl⟩;obtain ⟨wn7,hwn7⟩:∃ z,W84.alloc (.cells #[] 39) = z:=⟨_,rfl⟩;have kwn7:Below W84.heap.size W84 wn7:=by rw [← hwn7];exact below_new _ _
           have r84:=r84.below kwn7;have o79:OwnR w B wn7 wa.heap.size (.slice (some ⟨go79,0,none⟩) 0 0) (([]:List F).flatMap F.cells):=by rw [← hwn7,← hgo79];exact ownR_zero ho79
           go_simp
           (try rw [hwn7]);(try rw [hgo79])
           refine hK.out _ _ (hHeld.trans (kwn7.mono hHeld.size)) fun hHeld => ?_
           clear hK K;(try simp only [pS,pB,pZ,pC]);refine rd2 6 (some 85) 14 (some 13) (by kernel_rfl) rfl rfl (fun K hK => ?_) fun K hK => ?_
           ·skip
            refine wp_appR _ _ rfl wa.heap.size _ [] rfl o79 _ ta.parts rfl r84 (by have:=HL96;simp at this ⊢;omega) hHeld.size ?_
            intro vv85 W85 o85 g85 l85;have r84:=True.intro;refine hK.out _ _ ?_ (fun hHeld => ?_)
            ·exact hHeld.grown g85 hHeld.size (fun q e => o79.lt q e)
            clear hK K;(try simp only [pS,pB,pZ,pC]);obtain ⟨A85,c85,rfl,_⟩:=o85.src.slice;refine rd2 11 (some 90) 14 (some 13) (by kernel_rfl) rfl rfl (fun K hK => ?_) fun K hK => ?_
            ·skip
             go_simp
             (refine (HPB.out _ hHeld).mono ?_;rintro e W90 ⟨u90,rfl,r90,k90⟩;obtain ⟨A90,c90,rfl,_⟩:=r90.slice)
             refine hK.out _ _ (hHeld.trans (k90.mono hHeld.size)) fun hHeld => ?_
             clear hK K;(try simp only [pS,pB,pZ,pC]);have o85:=o85.below k90;refine rd2 12 (some 91) 14 (some 13) (by kernel_rfl) rfl rfl (fun K hK => ?_) fun K hK => ?_
             ·skip
              refine wp_appR _ _ rfl wa.heap.size _ ta.parts rfl o85 _ tb.parts rfl r90 (by have:=HL96;simp at this ⊢;omega) hHeld.size ?_
              intro vv91 W91 o91 g91 l91;have r90:=True.intro;refine hK.out _ _ ?_ (fun hHeld => ?_)
              ·exact hHeld.grown g91 hHeld.size (fun q e => o85.lt q e)
              clear hK K;(try simp only [pS,pB,pZ,pC]);rw [← HPP.out] at o91;obtain ⟨A91,c91,rfl,_⟩:=o91.src.slice;refine tq 13 92 rfl ?_
              have hf17:=hHeld.size;obtain ⟨gf17,hgf17⟩:∃ z,W91.heap.size = z:=⟨_,rfl⟩;obtain ⟨wn8,hwn8⟩:∃ z,W91.alloc (.cells #[.int .i64 0,.int .i64 0,.slice none 0 0,.slice none 0 0] 39) = z:=⟨_,rfl⟩;have kwn8:Below W91.heap.size W91 wn8:=by rw [← hwn8];exact below_new _ _
              have hne17:∀ q,_ = some q → q ≠ gf17:=fun q e => by have:=o91.low q e;omega
              have f17:Blk wn8 gf17 39 #[.int .i64 0,.int .i64 0,.slice none 0 0,.slice none 0 0]:=by rw [← hwn8,← hgf17];exact Blk.new _ _ _
              have o91:=o91.below kwn8;refine rd 14 (some 13) rfl fun K hK => ?_
              go_simp
              (try rw [hwn8]);(try rw [hgf17])
              refine hK.out _ _ (hHeld.trans (kwn8.mono hHeld.size)) fun hHeld => ?_
              clear hK K;(try simp only [pS,pB,pZ,pC]);have hgea:wa.heap.size ≤ gf17:=by omega
              obtain ⟨FF,OO,SS⟩:=and_doneR hHeld f17 hgea o91 (fun e => hne17 _ e rfl)
              refine rd 15 none rfl fun K hK => ?_
              refine wp_store4 f17 _ _ rfl rfl rfl ?_ rfl
              simp only [Act.put];refine hK.out _ _ ?_ (fun hHeld => ?_)
              ·exact SS
              clear hK K;refine dn ?_
              refine ⟨?_,rfl⟩
              go_wp2_with fail;go_meet;exact ⟨_,_,rfl,FF,OO,SS⟩
             ·skip
              have hf17:=hHeld.size;obtain ⟨gf17,hgf17⟩:∃ z,W90.heap.size = z:=⟨_,rfl⟩;obtain ⟨wn9,hwn9⟩:∃ z,W90.alloc (.cells #[.int .i64 0,.int .i64 0,.slice none 0 0,.slice none 0 0] 39) = z:=⟨_,rfl⟩;have kwn9:Below W90.heap.size W90 wn9:=by rw [← hwn9];exact below_new _ _
              have hne17:∀ q,_ = some q → q ≠ gf17:=fun q e => by have:=o85.low q e;omega
              have f17:Blk wn9 gf17 39 #[.int .i64 0,.int .i64 0,.slice none 0 0,.slice none 0 0]:=by rw [← hwn9,← hgf17];exact Blk.new _ _ _
              have o85:=o85.below kwn9;have r90:=r90.below kwn9;go_simp
              (try rw [hwn9]);(try rw [hgf17])
              refine hK.out _ _ (hHeld.trans (kwn9.mono hHeld.size)) fun hHeld => ?_
              clear hK K;(try simp only [pS,pB,pZ,pC]);have hf17w91:=f17.lt;refine rd 12 (some 91) rfl fun K hK => ?_
              refine wp_appR _ _ rfl wa.heap.size _ ta.parts rfl o85 _ tb.parts rfl r90 (by have:=HL96;simp at this ⊢;omega) hHeld.size ?_
              intro vv91 W91 o91 g91 l91;have r90:=True.intro;have f17:=f17.grown g91 (fun e => hne17 _ e.symm rfl)
              have hne17:∀ q,vv91.ownBlock = some q → q ≠ gf17:=fun q e => by rcases l91 with h | h;exact hne17 q (h.symm.trans e);(rw [h] at e;cases e;have:=hf17w91;omega)
              refine hK.out _ _ ?_ (fun hHeld => ?_)
              ·exact hHeld.grown g91 hHeld.size (fun q e => o85.lt q e)
              clear hK K;(try simp only [pS,pB,pZ,pC]);rw [← HPP.out] at o91;obtain ⟨A91,c91,rfl,_⟩:=o91.src.slice;refine tq 13 92 rfl ?_
              have hgea:wa.heap.size ≤ gf17:=by omega
              obtain ⟨FF,OO,SS⟩:=and_doneR hHeld f17 hgea o91 (fun e => hne17 _ e rfl)
              refine rd 15 none rfl fun K hK => ?_
              refine wp_store4 f17 _ _ rfl rfl rfl ?_ rfl
              simp only [Act.put];refine hK.out _ _ ?_ (fun hHeld => ?_)
              ·exact SS
              clear hK K;refine dn ?_
              refine ⟨?_,rfl⟩
              go_wp2_with fail;go_meet;exact ⟨_,_,rfl,FF,OO,SS⟩
            ·skip
             have hf17:=hHeld.size;obtain ⟨gf17,hgf17⟩:∃ z,W85.heap.size = z:=⟨_,rfl⟩;obtain ⟨wn10,hwn10⟩:∃ z,W85.alloc (.cells #[.int .i64 0,.int .i64 0,.slice none 0 0,.slice none 0 0] 39) = z:=⟨_,rfl⟩;have kwn10:Below W85.heap.size W85 wn10:=by rw [← hwn10];exact below_new _ _
             have hne17:∀ q,_ = some q → q ≠ gf17:=fun q e => by have:=o85.low q e;omega
             have f17:Blk wn10 gf17 39 #[.int .i64 0,.int .i64 0,.slice none 0 0,.slice none 0 0]:=by rw [← hwn10,← hgf17];exact Blk.new _ _ _
             have o85:=o85.below kwn10;go_simp
             (try rw [hwn10]);(try rw [hgf17])
             refine hK.out _ _ (hHeld.trans (kwn10.mono hHeld.size)) fun hHeld => ?_
             clear hK K;(try simp only [pS,pB,pZ,pC]);refine rd 11 (some 90) rfl fun K hK => ?_
             go_simp
             (refine (HPB.out _ hHeld).mono ?_;rintro e W90 ⟨u90,rfl,r90,k90⟩;obtain ⟨A90,c90,rfl,_⟩:=r90.slice)
             refine hK.out _ _ (hHeld.trans (k90.mono hHeld.size)) fun hHeld => ?_
             clear hK K;(try simp only [pS,pB,pZ,pC]);have o85:=o85.below k90;have f17:=f17.keep k90;have hf17w91:=f17.lt;refine rd 12 (some 91) rfl fun K hK => ?_
             refine wp_appR _ _ rfl wa.heap.size _ ta.parts rfl o85 _ tb.parts rfl r90 (by have:=HL96;simp at this ⊢;omega) hHeld.size ?_
             intro vv91 W91 o91 g91 l91;have r90:=True.intro;have f17:=f17.grown g91 (fun e => hne17 _ e.symm rfl)
             have hne17:∀ q,vv91.ownBlock = some q → q ≠ gf17:=fun q e => by rcases l91 with h | h;exact hne17 q (h.symm.trans e);(rw [h] at e;cases e;have:=hf17w91;omega)
             refine hK.out _ _ ?_ (fun hHeld => ?_)
             ·exact hHeld.grown g91 hHeld.size (fun q e => o85.lt q e)
             clear hK K;(try simp only [pS,pB,pZ,pC]);rw [← HPP.out] at o91;obtain ⟨A91,c91,rfl,_⟩:=o91.src.slice;refine tq 13 92 rfl ?_
             have hgea:wa.heap.size ≤ gf17:=by omega
             obtain ⟨FF,OO,SS⟩:=and_doneR hHeld f17 hgea o91 (fun e => hne17 _ e rfl)
             refine rd 15 none rfl fun K hK => ?_
             refine wp_store4 f17 _ _ rfl rfl rfl ?_ rfl
             simp only [Act.put];refine hK.out _ _ ?_ (fun hHeld => ?_)
             ·exact SS
             clear hK K;refine dn ?_
             refine ⟨?_,rfl⟩
             go_wp2_with fail;go_meet;exact ⟨_,_,rfl,FF,OO,SS⟩
           ·skip
            have hf17:=hHeld.size;obtain ⟨gf17,hgf17⟩:∃ z,wn7.heap.size = z:=⟨_,rfl⟩;obtain ⟨wn11,hwn11⟩:∃ z,wn7.alloc (.cells #[.int .i64 0,.int .i64 0,.slice none 0 0,.slice none 0 0] 39) = z:=⟨_,rfl⟩;have kwn11:Below wn7.heap.size wn7 wn11:=by rw [← hwn11];exact below_new _ _
            have hne17:∀ q,_ = some q → q ≠ gf17:=fun q e => by have:=o79.low q e;omega
            have f17:Blk wn11 gf17 39 #[.int .i64 0,.int .i64 0,.slice none 0 0,.slice none 0 0]:=by rw [← hwn11,← hgf17];exact Blk.new _ _ _
            have r84:=r84.below kwn11;have o79:=o79.below kwn11;go_simp
            (try rw [hwn11]);(try rw [hgf17])
            refine hK.out _ _ (hHeld.trans (kwn11.mono hHeld.size)) fun hHeld => ?_
            clear hK K;(try simp only [pS,pB,pZ,pC]);have hf17w85:=f17.lt;refine rd 6 (some 85) rfl fun K hK => ?_
            refine wp_appR _ _ rfl wa.heap.size _ [] rfl o79 _ ta.parts rfl r84 (by have:=HL96;simp at this ⊢;omega) hHeld.size ?_
            intro vv85 W85 o85 g85 l85;have r84:=True.intro;have f17:=f17.grown g85 (fun e => hne17 _ e.symm rfl)
            have hne17:∀ q,vv85.ownBlock = some q → q ≠ gf17:=fun q e => by rcases l85 with h | h;exact hne17 q (h.symm.trans e);(rw [h] at e;cases e;have:=hf17w85;omega)
            refine hK.out _ _ ?_ (fun hHeld => ?_)
            ·exact hHeld.grown g85 hHeld.size (fun q e => o79.lt q e)
            clear hK K;(try simp only [pS,pB,pZ,pC]);obtain ⟨A85,c85,rfl,_⟩:=o85.src.slice;refine rd 11 (some 90) rfl fun K hK => ?_
            go_simp
            (refine (HPB.out _ hHeld).mono ?_;rintro e W90 ⟨u90,rfl,r90,k90⟩;obtain ⟨A90,c90,rfl,_⟩:=r90.slice)
            refine hK.out _ _ (hHeld.trans (k90.mono hHeld.size)) fun hHeld => ?_
            clear hK K;(try simp only [pS,pB,pZ,pC]);have f17:=f17.keep k90;have o85:=o85.below k90;have hf17w91:=f17.lt;refine rd 12 (some 91) rfl fun K hK => ?_
            refine wp_appR _ _ rfl wa.heap.size _ ta.parts rfl o85 _ tb.parts rfl r90 (by have:=HL96;simp at this ⊢;omega) hHeld.size ?_
            intro vv91 W91 o91 g91 l91;have r90:=True.intro;have f17:=f17.grown g91 (fun e => hne17 _ e.symm rfl)
            have hne17:∀ q,vv91.ownBlock = some q → q ≠ gf17:=fun q e => by rcases l91 with h | h;exact hne17 q (h.symm.trans e);(rw [h] at e;cases e;have:=hf17w91;omega)
            refine hK.out _ _ ?_ (fun hHeld => ?_)
            ·exact hHeld.grown g91 hHeld.size (fun q e => o85.lt q e)
            clear hK K;(try simp only [pS,pB,pZ,pC]);rw [← HPP.out] at o91;obtain ⟨A91,c91,rfl,_⟩:=o91.src.slice;refine tq 13 92 rfl ?_
            have hgea:wa.heap.size ≤ gf17:=by omega
            obtain ⟨FF,OO,SS⟩:=and_doneR hHeld f17 hgea o91 (fun e => hne17 _ e rfl)
            refine rd 15 none rfl fun K hK => ?_
            refine wp_store4 f17 _ _ rfl rfl rfl ?_ rfl
            simp only [Act.put];refine hK.out _ _ ?_ (fun hHeld => ?_)
            ·exact SS
            clear hK K;refine dn ?_
            refine ⟨?_,rfl⟩
            go_wp2_with fail;go_meet;exact ⟨_,_,rfl,FF,OO,SS⟩
          ·skip
           have hf17:=hHeld.size;obtain ⟨gf17,hgf17⟩:∃ z,W84.heap.size = z:=⟨_,rfl⟩;obtain ⟨wn12,hwn12⟩:∃ z,W84.alloc (.cells #[.int .i64 0,.int .i64 0,.slice none 0 0,.slice none 0 0] 39) = z:=⟨_,rfl⟩;have kwn12:Below W84.heap.size W84 wn12:=by rw [← hwn12];exact below_new _ _
           have f17:Blk wn12 gf17 39 #[.int .i64 0,.int .i64 0,.slice none 0 0,.slice none 0 0]:=by rw [← hwn12,← hgf17];exact Blk.new _ _ _
           have r84:=r84.below kwn12;go_simp
           (try rw [hwn12]);(try rw [hgf17])
           refine hK.out _ _ (hHeld.trans (kwn12.mono hHeld.size)) fun hHeld => ?_
           clear hK K;(try simp only [pS,pB,pZ,pC]);have hf17lt:=f17.lt;have ho79:=hHeld.size;have hf17lt:=f17.lt;obtain ⟨go79,hgo79⟩:∃ z,wn12.heap.size = z:=⟨_,rfl⟩;obtain ⟨wn13,hwn13⟩:∃ z,wn12.alloc (.cells #[] 39) = z:=⟨_,rfl⟩;have kwn13:Below wn12.heap.size wn12 wn13:=by rw [← hwn13];exact below_new _ _
           have r84:=r84.below kwn13;have f17:=f17.keep kwn13;have o79:OwnR w B wn13 wa.heap.size (.slice (some ⟨go79,0,none⟩) 0 0) (([]:List F).flatMap F.cells):=by rw [← hwn13,← hgo79];exact ownR_zero ho79
           have hne17:∀ q,(Value.slice (some ⟨go79,0,none⟩) 0 0).ownBlock = some q → q ≠ gf17:=fun q e => by have e2:go79 = q:=Option.some.inj e;omega
           refine rd 0 (some 79) rfl fun K hK => ?_
           go_simp
           (try rw [hwn13]);(try rw [hgo79])
           refine hK.out _ _ (hHeld.trans (kwn13.mono hHeld.size)) fun hHeld => ?_
           clear hK K;(try simp only [pS,pB,pZ,pC]);have hf17w85:=f17.lt;refine rd 6 (some 85) rfl fun K hK => ?_
           refine wp_appR _ _ rfl wa.heap.size _ [] rfl o79 _ ta.parts rfl r84 (by have:=HL96;simp at this ⊢;omega) hHeld.size ?_
           intro vv85 W85 o85 g85 l85;have r84:=True.intro;have f17:=f17.grown g85 (fun e => hne17 _ e.symm rfl)
           have hne17:∀ q,vv85.ownBlock = some q → q ≠ gf17:=fun q e => by rcases l85 with h | h;exact hne17 q (h.symm.trans e);(rw [h] at e;cases e;have:=hf17w85;omega)
           refine hK.out _ _ ?_ (fun hHeld => ?_)
           ·exact hHeld.grown g85 hHeld.size (fun q e => o79.lt q e)
           clear hK K;(try simp only [pS,pB,pZ,pC]);obtain ⟨A85,c85,rfl,_⟩:=o85.src.slice;refine rd 11 (some 90) rfl fun K hK => ?_
           go_simp
           (refine (HPB.out _ hHeld).mono ?_;rintro e W90 ⟨u90,rfl,r90,k90⟩;obtain ⟨A90,c90,rfl,_⟩:=r90.slice)
           refine hK.out _ _ (hHeld.trans (k90.mono hHeld.size)) fun hHeld => ?_
           clear hK K;(try simp only [pS,pB,pZ,pC]);have f17:=f17.keep k90;have o85:=o85.below k90;have hf17w91:=f17.lt;refine rd 12 (some 91) rfl fun K hK => ?_
           refine wp_appR _ _ rfl wa.heap.size _ ta.parts rfl o85 _ tb.parts rfl r90 (by have:=HL96;simp at this ⊢;omega) hHeld.size ?_
           intro vv91 W91 o91 g91 l91;have r90:=True.intro;have f17:=f17.grown g91 (fun e => hne17 _ e.symm rfl)
           have hne17:∀ q,vv91.ownBlock = some q → q ≠ gf17:=fun q e => by rcases l91 with h | h;exact hne17 q (h.symm.trans e);(rw [h] at e;cases e;have:=hf17w91;omega)
           refine hK.out _ _ ?_ (fun hHeld => ?_)
           ·exact hHeld.grown g91 hHeld.size (fun q e => o85.lt q e)
           clear hK K;(try simp only [pS,pB,pZ,pC]);rw [← HPP.out] at o91;obtain ⟨A91,c91,rfl,_⟩:=o91.src.slice;refine tq 13 92 rfl ?_
           have hgea:wa.heap.size ≤ gf17:=by omega
           obtain ⟨FF,OO,SS⟩:=and_doneR hHeld f17 hgea o91 (fun e => hne17 _ e rfl)
           refine rd 15 none rfl fun K hK => ?_
           refine wp_store4 f17 _ _ rfl rfl rfl ?_ rfl
           simp only [Act.put];refine hK.out _ _ ?_ (fun hHeld => ?_)
           ·exact SS
           clear hK K;refine dn ?_
           refine ⟨?_,rfl⟩
           go_wp2_with fail;go_meet;exact ⟨_,_,rfl,FF,OO,SS⟩
         ·skip
          have hf17:=hHeld.size;obtain ⟨gf17,hgf17⟩:∃ z,wd.heap.size = z:=⟨_,rfl⟩;obtain ⟨wn14,hwn14⟩:∃ z,wd.alloc (.cells #[.int .i64 0,.int .i64 0,.slice none 0 0,.slice none 0 0] 39) = z:=⟨_,rfl⟩;have kwn14:Below wd.heap.size wd wn14:=by rw [← hwn14];exact below_new _ _
          have f17:Blk wn14 gf17 39 #[.int .i64 0,.int .i64 0,.slice none 0 0,.slice none 0 0]:=by rw [← hwn14,← hgf17];exact Blk.new _ _ _
          go_simp
          (try rw [hwn14]);(try rw [hgf17])
          refine hK.out _ _ (hHeld.trans (kwn14.mono hHeld.size)) fun hHeld => ?_
          clear hK K;(try simp only [pS,pB,pZ,pC]);have hf17lt:=f17.lt;refine rd2 0 (some 79) 5 (some 84) (by kernel_rfl) rfl rfl (fun K hK => ?_) fun K hK => ?_
          ·skip
           have ho79:=hHeld.size;have hf17lt:=f17.lt;obtain ⟨go79,hgo79⟩:∃ z,wn14.heap.size = z:=⟨_,rfl⟩;obtain ⟨wn15,hwn15⟩:∃ z,wn14.alloc (.cells #[] 39) = z:=⟨_,rfl⟩;have kwn15:Below wn14.heap.size wn14 wn15:=by rw [← hwn15];exact below_new _ _
           have f17:=f17.keep kwn15;have o79:OwnR w B wn15 wa.heap.size (.slice (some ⟨go79,0,none⟩) 0 0) (([]:List F).flatMap F.cells):=by rw [← hwn15,← hgo79];exact ownR_zero ho79
           have hne17:∀ q,(Value.slice (some ⟨go79,0,none⟩) 0 0).ownBlock = some q → q ≠ gf17:=fun q e => by have e2:go79 = q:=Option.some.inj e;omega
           go_simp
           (try rw [hwn15]);(try rw [hgo79])
           refine hK.out _ _ (hHeld.trans (kwn15.mono hHeld.size)) fun hHeld => ?_
           clear hK K;(try simp only [pS,pB,pZ,pC]);refine rd 5 (some 84) rfl fun K hK => ?_
           go_simp
           (refine (HPA.out _ hHeld).mono ?_;rintro e W84 ⟨u84,rfl,r84,k84⟩;obtain ⟨A84,c84,rfl,_⟩:=r84.slice)
           refine hK.out _ _ (hHeld.trans (k84.mono hHeld.size)) fun hHeld => ?_
           clear hK K;(try simp only [pS,pB,pZ,pC]);have f17:=f17.keep k84;have o79:=o79.below k84;have hf17w85:=f17.lt;refine rd 6 (some 85) rfl fun K hK => ?_
           refine wp_appR _ _ rfl wa.heap.size _ [] rfl o79 _ ta.parts rfl r84 (by have:=HL96;simp at this ⊢;omega) hHeld.size ?_
           intro vv85 W85 o85 g85 l85;have r84:=True.intro;have f17:=f17.grown g85 (fun e => hne17 _ e.symm rfl)
           have hne17:∀ q,vv85.ownBlock = some q → q ≠ gf17:=fun q e => by rcases l85 with h | h;exact hne17 q (h.symm.trans e);(rw [h] at e;cases e;have:=hf17w85;omega)
           refine hK.out _ _ ?_ (fun hHeld => ?_)
           ·exact hHeld.grown g85 hHeld.size (fun q e => o79.lt q e)
           clear hK K;(try simp only [pS,pB,pZ,pC]);obtain ⟨A85,c85,rfl,_⟩:=o85.src.slice;refine rd 11 (some 90) rfl fun K hK => ?_
           go_simp
           (refine (HPB.out _ hHeld).mono ?_;rintro e W90 ⟨u90,rfl,r90,k90⟩;obtain ⟨A90,c90,rfl,_⟩:=r90.slice)
           refine hK.out _ _ (hHeld.trans (k90.mono hHeld.size)) fun hHeld => ?_
           clear hK K;(try simp only [pS,pB,pZ,pC]);have f17:=f17.keep k90;have o85:=o85.below k90;have hf17w91:=f17.lt;refine rd 12 (some 91) rfl fun K hK => ?_
           refine wp_appR _ _ rfl wa.heap.size _ ta.parts rfl o85 _ tb.parts rfl r90 (by have:=HL96;simp at this ⊢;omega) hHeld.size ?_
           intro vv91 W91 o91 g91 l91;have r90:=True.intro;have f17:=f17.grown g91 (fun e => hne17 _ e.symm rfl)
           have hne17:∀ q,vv91.ownBlock = some q → q ≠ gf17:=fun q e => by rcases l91 with h | h;exact hne17 q (h.symm.trans e);(rw [h] at e;cases e;have:=hf17w91;omega)
           refine hK.out _ _ ?_ (fun hHeld => ?_)
           ·exact hHeld.grown g91 hHeld.size (fun q e => o85.lt q e)
           clear hK K;(try simp only [pS,pB,pZ,pC]);rw [← HPP.out] at o91;obtain ⟨A91,c91,rfl,_⟩:=o91.src.slice;refine tq 13 92 rfl ?_
           have hgea:wa.heap.size ≤ gf17:=by omega
           obtain ⟨FF,OO,SS⟩:=and_doneR hHeld f17 hgea o91 (fun e => hne17 _ e rfl)
           refine rd 15 none rfl fun K hK => ?_
           refine wp_store4 f17 _ _ rfl rfl rfl ?_ rfl
           simp only [Act.put];refine hK.out _ _ ?_ (fun hHeld => ?_)
           ·exact SS
           clear hK K;refine dn ?_
           refine ⟨?_,rfl⟩
           go_wp2_with fail;go_meet;exact ⟨_,_,rfl,FF,OO,SS⟩
          ·skip
           go_simp
           (refine (HPA.out _ hHeld).mono ?_;rintro e W84 ⟨u84,rfl,r84,k84⟩;obtain ⟨A84,c84,rfl,_⟩:=r84.slice)
           refine hK.out _ _ (hHeld.trans (k84.mono hHeld.size)) fun hHeld => ?_
           clear hK K;(try simp only [pS,pB,pZ,pC]);have f17:=f17.keep k84;have ho79:=hHeld.size;have hf17lt:=f17.lt;obtain ⟨go79,hgo79⟩:∃ z,W84.heap.size = z:=⟨_,rfl⟩;obtain ⟨wn16,hwn16⟩:∃ z,W84.alloc (.cells #[] 39) = z:=⟨_,rfl⟩;have kwn16:Below W84.heap.size W84 wn16:=by rw [← hwn16];exact below_new _ _
           have f17:=f17.keep kwn16;have r84:=r84.below kwn16;have o79:OwnR w B wn16 wa.heap.size (.slice (some ⟨go79,0,none⟩) 0 0) (([]:List F).flatMap F.cells):=by rw [← hwn16,← hgo79];exact ownR_zero ho79
           have hne17:∀ q,(Value.slice (some ⟨go79,0,none⟩) 0 0).ownBlock = some q → q ≠ gf17:=fun q e => by have e2:go79 = q:=Option.some.inj e;omega
           refine rd 0 (some 79) rfl fun K hK => ?_
           go_simp
           (try rw [hwn16]);(try rw [hgo79])
           refine hK.out _ _ (hHeld.trans (kwn16.mono hHeld.size)) fun hHeld => ?_
           clear hK K;(try simp only [pS,pB,pZ,pC]);have hf17w85:=f17.lt;refine rd 6 (some 85) rfl fun K hK => ?_
           refine wp_appR _ _ rfl wa.heap.size _ [] rfl o79 _ ta.parts rfl r84 (by have:=HL96;simp at this ⊢;omega) hHeld.size ?_
           intro vv85 W85 o85 g85 l85;have r84:=True.intro;have f17:=f17.grown g85 (fun e => hne17 _ e.symm rfl)
           have hne17:∀ q,vv85.ownBlock = some q → q ≠ gf17:=fun q e => by rcases l85 with h | h;exact hne17 q (h.symm.trans e);(rw [h] at e;cases e;have:=hf17w85;omega)
           refine hK.out _ _ ?_ (fun hHeld => ?_)
           ·exact hHeld.grown g85 hHeld.size (fun q e => o79.lt q e)
           clear hK K;(try simp only [pS,pB,pZ,pC]);obtain ⟨A85,c85,rfl,_⟩:=o85.src.slice;refine rd 11 (some 90) rfl fun K hK => ?_
           go_simp
           (refine (HPB.out _ hHeld).mono ?_;rintro e W90 ⟨u90,rfl,r90,k90⟩;obtain ⟨A90,c90,rfl,_⟩:=r90.slice)
           refine hK.out _ _ (hHeld.trans (k90.mono hHeld.size)) fun hHeld => ?_
           clear hK K;(try simp only [pS,pB,pZ,pC]);have f17:=f17.keep k90;have o85:=o85.below k90;have hf17w91:=f17.lt;refine rd 12 (some 91) rfl fun K hK => ?_
           refine wp_appR _ _ rfl wa.heap.size _ ta.parts rfl o85 _ tb.parts rfl r90 (by have:=HL96;simp at this ⊢;omega) hHeld.size ?_
           intro vv91 W91 o91 g91 l91;have r90:=True.intro;have f17:=f17.grown g91 (fun e => hne17 _ e.symm rfl)
           have hne17:∀ q,vv91.ownBlock = some q → q ≠ gf17:=fun q e => by rcases l91 with h | h;exact hne17 q (h.symm.trans e);(rw [h] at e;cases e;have:=hf17w91;omega)
           refine hK.out _ _ ?_ (fun hHeld => ?_)
           ·exact hHeld.grown g91 hHeld.size (fun q e => o85.lt q e)
           clear hK K;(try simp only [pS,pB,pZ,pC]);rw [← HPP.out] at o91;obtain ⟨A91,c91,rfl,_⟩:=o91.src.slice;refine tq 13 92 rfl ?_
           have hgea:wa.heap.size ≤ gf17:=by omega
           obtain ⟨FF,OO,SS⟩:=and_doneR hHeld f17 hgea o91 (fun e => hne17 _ e rfl)
           refine rd 15 none rfl fun K hK => ?_
           refine wp_store4 f17 _ _ rfl rfl rfl ?_ rfl
           simp only [Act.put];refine hK.out _ _ ?_ (fun hHeld => ?_)
           ·exact SS
           clear hK K;refine dn ?_
           refine ⟨?_,rfl⟩
           go_wp2_with fail;go_meet;exact ⟨_,_,rfl,FF,OO,SS⟩
        case rest =>
         obtain ⟨g,kv,rfl,hf,ho,hbx⟩:=hcut;obtain ⟨wx,rfl⟩:∃ z:World,z = wc:=⟨_,rfl⟩;subst hPP;have hbwx:=hbw3.trans (hbx.mono hbw3.size);have hs3:=hbr3.size;obtain ⟨Ak,ck,rfl,_⟩:=ho.src.slice;have HV:=refvalid_any wx wx.heap.size (Nat.le_refl _) ⟨_,_,_,_,andF ta tb,and_repR ho (Below.mono hbwx hBw) (Nat.le_trans hBw hbwx.size)⟩ HOK3.out;dsimp only at HV;have HV:=Lib.hid HV;have hOlt:=hor3.lt;have O1:=hor3.below hbx;have Q1:=below_up hbr3 hbx hbr3.size;have M1:=hmid3.below hbx;have HOX:=Lib.hid ho;have hf4:=hf.c4;generalize hkl:(ta.parts ++ tb.parts).length = kl at *;clear ho hor3 hbr3 hmid3 hkl y0 y1 y2 y3 k0 k1 k2 k3;go_wp2_with fail;refine HV.out.mono ?_
         rintro e w5 ⟨rfl,k5⟩;have hcf5:=(hf.keep k5).c4;have Z5:=Blk.new w5 39 #[.int .i64 4,.int .i64 0,.slice none 0 0,.slice Ak kl ck];have K6:=below_new w5 (.cells #[.int .i64 4,.int .i64 0,.slice none 0 0,.slice Ak kl ck] 39);have O6:=(O1.below k5).below K6;have Q6:=below_up (below_up Q1 k5 Q1.size) K6 (Nat.le_trans Q1.size k5.size);have M6:=(M1.below k5).below K6;have P6:=HOX.out.below (k5.trans (K6.mono k5.size));have A6:=Lib.hid (ANode.mono (anode_of P6) hs3)
         have hne6:∀ i,(Value.slice Ao3 lc.length co3).ownBlock = some i → (Value.slice Ak kl ck).ownBlock ≠ some i:=fun i e1 e2 => by
          have:=(hOlt i e1).2;have:=P6.lt i e2;omega
         have hkv6:=P6.low;have hl64:lc.length + 1 ≤ 1000000:=by have:=HBD3;omega
         clear hf hf4 O1 Q1 M1 HOX P6;go_wp2_with (at_builtin;refine wpList_app1 rfl _ _ rfl w1.heap.size _ lc rfl O6 _ rfl Z5 A6.out hne6 ⟨_,_,_,rfl⟩ hkv6 hl64 Q6.size ?_;intro v7 w7 ho7 hg7 hl7)
         rw [← HMT.out] at ho7;have Q7:=Q6.grown hg7 Q6.size (fun g e => (O6.lt g e).1)
         have M7:=M6.grown hg7 hob3;have hm6:=M6.1;go_roundw
         case rel =>
          refine ⟨q + 1,by go_num,by omega,ho7,Q7,M7,fun g e => ?_⟩
          rcases hl7 with h | h
          ·exact hob3 g (h.symm.trans e)
          ·rw [h] at e
           cases e
           exact .inr hm6
         case measure => simp [intOf];omega
       ·obtain rfl:q = tp.length:=by omega
        rw [List.take_length,← HCT2.out] at hor3;have HO3:=Lib.hid hor3;clear hor3;go_wp2_with fail;go_roundw
        case rel => exact ⟨j + 1,by go_num,by omega,HO3.out,hbr3,hmid3,hob3⟩
        case measure => simp [intOf];omega
     ·obtain rfl:j = la.length:=by omega
      rw [List.take_length,← HOS.out] at hor2;have HO2:=Lib.hid hor2;clear hor2;go_wp2_with fail;go_roundw
      case rel => exact ⟨k + 1,by go_num,by omega,HO2.out,hbr2⟩
      case measure => simp [intOf];omega
   ·obtain rfl:k = yt.refs.length:=by omega
    rw [outF_all yt AL h0] at hor;obtain ⟨n7,xs7,o7,a7⟩:=hor;have HFin:=Lib.hid (show OwnA w B wr w.heap.size _ (altF yt AL) from ⟨n7,xs7,ownsRow_mono o7 hs1,a7.step (fun a b c d f h hr => ⟨h.mono hs1,hr⟩)⟩)
    clear o7 a7;go_wp2_with fail;exact bodyPost_ret (results_tmp2 rfl _ _ _) rfl ⟨_,rfl,HFin.out,hbw⟩
def OwnN (W:World) (base:Nat) (v:Value) (n:Nat):Prop:=∃ xs,W.ownsRow base 39 4 v n xs ∧ ∀ x ∈ xs,x.oneCell' = true
def SrcN (W:World) (u:Value) (n:Nat):Prop :=
 (u = .slice none 0 0 ∧ n = 0) ∨ ∃ (b o c:Nat) (cs:List Value),u = .slice (some ⟨b,o,none⟩) n c ∧ cs.length = n * 4 ∧ b < W.heap.size ∧ (∀ x ∈ cs,x.oneCell' = true) ∧ ∀ (j:Nat) (x:Value),cs[j]? = some x → W.cell? ⟨b,o + j,none⟩ = some x
theorem OwnN.nil (W:World) (base:Nat):OwnN W base (.slice none 0 0) 0:=⟨[],World.ownsRow_nil _ _ _ _,by simp⟩
theorem OwnN.lt {W:World} {base n:Nat} {v:Value} (h:OwnN W base v n):∀ k,v.ownBlock = some k → base ≤ k:=by
 obtain ⟨xs,h,_⟩:=h;exact fun k hk => (h.lt k hk).1
theorem OwnN.mono {W:World} {base base' n:Nat} {v:Value} (h:OwnN W base v n) (hb:base' ≤ base):OwnN W base' v n:=by
 obtain ⟨xs,h,h1⟩:=h;exact ⟨xs,ownsRow_mono h hb,h1⟩
theorem OwnN.below {W W':World} {base n:Nat} {v:Value} (h:OwnN W base v n) (hb:Below W.heap.size W W'):OwnN W' base v n:=by
 obtain ⟨xs,h,h1⟩:=h;refine ⟨xs,h.kept (belowG hb) ?_,h1⟩
 rcases h.2 with ⟨e,_⟩ | ⟨k,c,cur,e,_⟩
 ·subst e;exact .inl rfl
 ·subst e;exact .inr (by simp [Value.ownBlock])
theorem OwnN.slice {W:World} {base n:Nat} {v:Value} (h:OwnN W base v n):∃ A c,v = .slice A n c:=by
 obtain ⟨xs,⟨h1,h2⟩,_⟩:=h;rcases h2 with ⟨rfl,rfl⟩ | ⟨g,cap,cur,rfl,_⟩
 ·exact ⟨_,_,rfl⟩
 ·exact ⟨_,_,rfl⟩
theorem Rep.nil_cap {W:World} {B n c sz:Nat} {ds:List D} (h:Rep W B (.slice none n c) (.s sz ds)):c = 0:=by
 cases h with
 | nil => rfl
theorem Rep.blk_lt {W:World} {B b o n c sz:Nat} {ds:List D} (h:Rep W B (.slice (some ⟨b,o,none⟩) n c) (.s sz ds)):b < B:=by
 cases h with
 | s hc hd hn hb cells sub => exact hb
theorem Rep.srcN {W:World} {B:Nat} {u:Value} {l:List F} (h:Rep W B u (.s 4 (l.flatMap F.cells))) (hB:B ≤ W.heap.size):SrcN W u l.length:=by
 have hfl:=flat_length (l:=l) (f:=F.cells) (k:=4) (fun x _ => x.cells_length)
 obtain ⟨A,n,c,rfl,hn,hl,hc⟩:=h.slice;obtain rfl:n = l.length:=by omega
 by_cases h0:0 < l.length
 ·obtain ⟨b,o,cs,rfl,hb,hr,hcell⟩:=hc h0
  exact .inr ⟨b,o,c,cs,rfl,hr.1.trans hl,Nat.lt_of_lt_of_le hb hB,cells_one hr,hcell⟩
 ·have hz:l.length = 0:=by omega
  rw [hz] at hn h ⊢
  cases A with
  | none =>
   have hc0:c = 0:=Rep.nil_cap h;rw [hc0];exact .inl ⟨rfl,rfl⟩
  | some ad =>
   obtain ⟨b,o,rfl⟩:=h.spot ad rfl;refine .inr ⟨b,o,c,[],rfl,by simp,Nat.lt_of_lt_of_le (Rep.blk_lt h) hB,by simp,by simp⟩
theorem ANodes.one {w0 W:World} {B base:Nat} {r:Option Nat}:∀ {xs:List Value} {l:List F},ANodes w0 B W base r xs l → ∀ x ∈ xs,x.oneCell' = true
 | [],[],_,x,hx => by simp at hx
 | a :: b :: c :: d :: xs,f :: l,h,x,hx => by
  obtain ⟨A1,n1,q1,A2,n2,q2,rfl,rfl,rfl,rfl⟩:=h.1.1.form;simp only [List.mem_cons] at hx;rcases hx with rfl | rfl | rfl | rfl | hx
  ·rfl
  ·rfl
  ·rfl
  ·rfl
  ·exact ANodes.one h.2 x hx
 | [],_ :: _,h,_,_ => h.elim
 | [_],_,h,_,_ => by cases ‹List F› <;> exact h.elim
 | [_,_],_,h,_,_ => by cases ‹List F› <;> exact h.elim
 | [_,_,_],_,h,_,_ => by cases ‹List F› <;> exact h.elim
 | _ :: _ :: _ :: _ :: _,[],h,_,_ => h.elim
theorem row_srcN {W:World} {base n:Nat} {v:Value} {xs:List Value} (h1:W.ownsRow base 39 4 v n xs) (h2:∀ x ∈ xs,x.oneCell' = true):SrcN W v n:=by
 rcases h1.2 with ⟨rfl,hn⟩ | ⟨g,cap,cur,rfl,hg,hb,hnc,hcap,hcur,hx⟩
 ·exact .inl ⟨rfl,hn⟩
 ·refine .inr ⟨g,0,cap,xs,rfl,h1.1,(h1.lt g rfl).2,h2,fun j u hu => ?_⟩
  have hj:j < xs.length:=by
   rcases Nat.lt_or_ge j xs.length with h | h
   ·exact h
   ·rw [List.getElem?_eq_none h] at hu;cases hu
  rw [Nat.zero_add,h1.cellAt j (by rw [← h1.1];exact hj),hu]
theorem OwnA.srcN {w0 W:World} {B base:Nat} {v:Value} {l:List F} (h:OwnA w0 B W base v l):SrcN W v l.length:=by
 obtain ⟨n,xs,h1,h2⟩:=h;have:=h2.length;have:=h1.1;obtain rfl:n = l.length:=by omega
 exact row_srcN h1 h2.one
theorem OwnR.srcN {w0 W:World} {B base:Nat} {v:Value} {l:List F} (h:OwnR w0 B W base v (l.flatMap F.cells)):SrcN W v l.length:=(OwnA.of_ownR h).srcN
theorem OwnN.srcN {W:World} {base n:Nat} {v:Value} (h:OwnN W base v n):SrcN W v n:=by
 obtain ⟨xs,h1,h2⟩:=h;exact row_srcN h1 h2
theorem SrcN.slice {W:World} {u:Value} {n:Nat} (h:SrcN W u n):∃ A c,u = .slice A n c:=by
 rcases h with ⟨rfl,rfl⟩ | ⟨b,o,c,cs,rfl,_⟩
 ·exact ⟨_,_,rfl⟩
 ·exact ⟨_,_,rfl⟩
theorem run_appN (w:World) (ty:TypeId) (base:Nat) (v:Value) (n:Nat) (hown:OwnN w base v n) (src:Value) (m:Nat) (hr:SrcN w src m) (hl:n + m ≤ 1000000) (hbase:base ≤ w.heap.size) :
  ∃ v' w',(Builtin.append_ #[32,32] ty #[v,src]).run Tryz.prog w = .ok v' w' ∧ OwnN w' base v' (n + m) ∧ w.grownBy w' v.ownBlock:=by
 obtain ⟨xs,h1,hx1⟩:=hown;obtain ⟨i0,hi,hz0,hz1,hz2⟩:=info_parts Tryz.info39;rcases hr with ⟨rfl,rfl⟩ | ⟨b,o,c,cs,rfl,hcl,hlt,hone,hcell⟩
 ·exact ⟨v,w,run_append_owned_none (P:=Tryz.prog) (w:=w) base 32 ty 39 i0 4 Tryz.underlying32 hi v _ _ h1,⟨xs,h1,hx1⟩,World.grownBy.refl w _⟩
 ·obtain ⟨v',w',q1,q2,q3,_,_⟩:=run_append_own_at (P:=Tryz.prog) w base 32 ty 39 i0 _ 4 64 Tryz.underlying32 hi hz0 hz1 hz2 rfl (by decide) v _ _ h1 ⟨b,o,none⟩ m c cs hcl
   (fun j u hu => by
    rw [Addr.add_lit];exact hcell j u hu) hone (by unfold maxLen;omega) (by omega) hbase
  exact ⟨v',w',q1,⟨_,q2,fun x hx => (List.mem_append.1 hx).elim (hx1 x) (hone x)⟩,q3⟩
theorem wpList_appN {w:World} {ops:Array Oper} {rest:List Oper} {o:Oper} {a:Act} {Q:Exit → Act → World → Prop} (hgd:o.guard = none) (s x:Operand)
  (ho:o.op = .call { callee:=.builtin .append,args:=#[s,x],argTypes:=#[32,32] })
  (base:Nat) (v:Value) (n:Nat) (hs:a.eval s = v) (hown:OwnN w base v n) (src:Value) (m:Nat) (hx:a.eval x = src) (hr:SrcN w src m) (hl:n + m ≤ 1000000) (hbase:base ≤ w.heap.size)
  (h:∀ v' w',OwnN w' base v' (n + m) → w.grownBy w' v.ownBlock → wpList Tryz.prog ops Q rest (a.put o.dst v') w'):wpList Tryz.prog ops Q (o :: rest) a w :=
 wpList_plain hgd fun _ hK =>
  let ⟨v',w',hrun,h2,h3⟩:=run_appN w o.type base v n hown src m hr hl hbase
  wp_app_run s x 32 v _ v' ho hs hx hrun (hK _ _ (h v' w' h2 h3))
theorem refAlts_any (l:List Cl) (hok:OkCl l) (hal:AltsOk l) (i:Nat) (hi:i < l.length) (v:Value) (w:World) (B:Nat) (hBw:B ≤ w.heap.size) (hr:Rep w B v (.s 5 (l.flatMap Cl.cells))) :
  Calls Tryz.prog 200 #[v,.int .i64 (i:Int)] w fun e w' => ∃ u,e = .returned (.tuple #[u,.int .i64 0]) ∧ SrcN w' u ((altsL l (i + 1)).getD i []).length ∧ Below w.heap.size w w':=by
 have HC:=Lib.hid (refcheck_any l hok i hi v w B hBw hr);have HA:=Lib.hid (fun (W:World) (hW:Below w.heap.size w W) => refalts_any l hok hal (i + 1) i (by omega) (by omega) v W B (Nat.le_trans hBw hW.size) (hr.keep (fun p hp => hW.cell (Nat.lt_of_lt_of_le hp hBw)) (Nat.le_refl _)))
 obtain ⟨A,c,rfl,hc,_⟩:=hr.claims;clear hr hok hal;go_enter Tryz.func200,Tryz.ntmps200
 go_wp2_with fail;refine HC.out.mono ?_
 rintro e w1 ⟨rfl,hb1⟩;go_wp2_with fail;refine (HA.out _ hb1).mono ?_
 rintro e w2 ⟨u,rfl,hu,hb2⟩;have HS:=Lib.hid hu.srcN;clear hu;go_wp2_with fail;exact bodyPost_ret (results_tmp2 rfl _ _ _) rfl ⟨_,rfl,HS.out,below_up hb1 hb2 hb1.size⟩
theorem disparts_any:∀ (n:Nat) (l:List F),sizeL l ≤ n → n ≤ 100000 → ∀ (v:Value) (w:World) (B:Nat),B ≤ w.heap.size → Rep w B v (.s 4 (l.flatMap F.cells)) →
  Calls Tryz.prog 176 #[v] w fun e w' => ∃ u,e = .returned u ∧ OwnN w' w.heap.size u (l.flatMap F.tops).length ∧ Below w.heap.size w w':=by
 intro n
 induction n with
 | zero =>
  intro l hl hn v w B hBw hr
  have hl0:l = []:=by
   cases l with
   | nil => rfl
   | cons a l => have:=a.size_pos;simp only [sizeL] at hl;omega
  subst hl0;obtain ⟨A,c,rfl,hc,_⟩:=hr.formulas;clear hr;go_enter Tryz.func176,Tryz.ntmps176
  go_wp2_with fail;go_loopw [3,8] (fun u i wr => u = .slice none 0 0 ∧ i = .int .i64 0 ∧ wr = w) (fun _ _ _ => 0)
  case atStart => exact ⟨rfl,rfl,rfl⟩
  case round =>
   obtain ⟨rfl,rfl,rfl⟩:=hrel;go_wp2_with fail;go_ret;exact ⟨_,rfl,OwnN.nil _ _,Below.refl _ _⟩
 | succ n ih =>
  intro l hl hn v w B hBw hr
  have hT:(l.flatMap F.tops).length ≤ 100000:=by
   have h1:=topsL_le l;rw [topsL_eq] at h1;omega
  obtain ⟨A,c,rfl,hc,hcell⟩:=hr.formulas
  have hlen:l.length ≤ 100000:=by
   have:=kids_le l;have h2:=nodesL_length l;rw [nodesL_eq,nodes_flat_length] at h2;omega
  have HCELL:=Lib.hid hcell;have HIH:=Lib.hid ih;have HT:=Lib.hid (fun k (hk:k < l.length) => tops_take l k hk)
  have HL:=Lib.hid (fun k (hk:k < l.length) => tops_take_le l k hk)
  have HS:=Lib.hid (fun (f:F) (h:f ∈ l) => sizeL_mem h)
  clear hr hcell ih;go_enter Tryz.func176,Tryz.ntmps176
  go_wp2_with fail;go_loopw [3,8] (fun u i wr => ∃ k:Nat,i = .int .i64 (k:Int) ∧ k ≤ l.length ∧ OwnN wr w.heap.size u ((l.take k).flatMap F.tops).length ∧ Below w.heap.size w wr) (fun _ i _ => l.length - (intOf i).toNat)
  case atStart => exact ⟨0,rfl,Nat.zero_le _,OwnN.nil _ _,Below.refl _ _⟩
  case round =>
   obtain ⟨k,rfl,hk,hor,hbr⟩:=hrel;by_cases hlt:k < l.length
   ·obtain ⟨b,o,y,rfl,hb,hy,c0,c1,c2,c3⟩:=HCELL.out k hlt
    have hb':b < w.heap.size:=Nat.lt_of_lt_of_le hb hBw;have d0:=(hbr.cell (p:=⟨b,o + k * 4,none⟩) hb').trans c0;have d1:=(hbr.cell (p:=⟨b,o + k * 4 + 1,none⟩) hb').trans c1;have d2:=(hbr.cell (p:=⟨b,o + k * 4 + 2,none⟩) hb').trans c2;have d3:=(hbr.cell (p:=⟨b,o + k * 4 + 3,none⟩) hb').trans c3;have hsz:=HS.out _ (List.getElem_mem hlt);have hT1:=congrArg List.length (HT.out k hlt);have hL1:=HL.out k hlt;rw [← hy] at hsz hT1 hL1;rw [List.length_append] at hT1;have hT2:=Lib.hid hT1;have hR0:=below_new wr (.cells #[y.a,y.b,y.c,y.d] 39);have hbr0:=hbr.trans (hR0.mono hbr.size);have X0:=Blk.new wr 39 #[y.a,y.b,y.c,y.d];have O0:=hor.below hR0;have hk0:∀ p:Addr,p.block < B → (wr.alloc (.cells #[y.a,y.b,y.c,y.d] 39)).cell? p = w.cell? p:=fun p hp => hbr0.cell (Nat.lt_of_lt_of_le hp hBw)
    have hb0s:=hbr0.size;by_cases h5:y.t.op = 5
    ·rw [F.tops_or h5] at hT2 hL1
     have HI:=Lib.hid (HIH.out y.t.kids (by have:=y.t.size_eq';omega) (by omega) y.d _ B (Nat.le_trans hBw hbr0.size) (y.parts.2.2.2.keep hk0 (Nat.le_refl _)))
     obtain ⟨A1,n1,q1,A2,n2,q2,e1,e2,e3,e4⟩:=node_form y.h;rw [h5] at e1;rw [e1,e2,e3,e4] at X0 O0 hbr0 HI hb0s;rw [e1] at d0;rw [e2] at d1;rw [e3] at d2;rw [e4] at d3;clear e1 e2 e3 e4 hor hT1 c0 c1 c2 c3 hk0 hy h5 hR0;generalize y.t.n = nn at *;generalize (y.t.kids.flatMap F.tops).length = m at *;generalize ((l.take k).flatMap F.tops).length = nk at *;have hcx:=X0.c4;go_wp2_with fail;generalize wr.alloc (.cells #[.int .i64 5,.int .i64 nn,.slice A1 n1 q1,.slice A2 n2 q2] 39) = wa at *;refine HI.out.mono ?_
     rintro e w2 ⟨v2,rfl,ho2,hb2⟩;have hbr2:=hbr0.trans (hb2.mono hbr0.size);go_wp2_with (at_builtin;refine wpList_appN rfl _ _ rfl w.heap.size _ nk rfl (O0.below hb2) _ m rfl ho2.srcN (by omega) hbr2.size ?_;intro v3 w3 ho3 hg3)
     rw [← hT2.out] at ho3;have hb3:=hbr2.grown hg3 hbr2.size (O0.lt);go_roundw
     case rel => exact ⟨k + 1,by go_num,by omega,ho3,hb3⟩
     case measure => simp [intOf];omega
    ·rw [F.tops_no h5,List.length_singleton] at hT2 hL1
     have hne:(y.t.op == 5) = false:=by simpa using h5
     have S0:=(ownR_one (w0:=w) (base:=0) (W:=wr.alloc (.cells #[y.a,y.b,y.c,y.d] 39)) (t:=y.t) (Nat.zero_le _) y.h).srcN;rw [List.length_singleton,World.size_alloc] at S0;have hR1:=below_new (wr.alloc (.cells #[y.a,y.b,y.c,y.d] 39)) (.cells #[y.a,y.b,y.c,y.d] 39);have O1:=O0.below hR1;have hbr1:=hbr0.trans (hR1.mono hbr0.size);obtain ⟨A1,n1,q1,A2,n2,q2,e1,e2,e3,e4⟩:=node_form y.h;rw [e1,e2,e3,e4] at X0 S0 O1 hbr1 hR1;rw [e1] at d0;rw [e2] at d1;rw [e3] at d2;rw [e4] at d3;clear e1 e2 e3 e4 hor hT1 c0 c1 c2 c3 hk0 hy h5 hR0 hbr0 O0 hb0s;generalize y.t.n = nn at *;generalize y.t.op = op at *;generalize ((l.take k).flatMap F.tops).length = nk at *;have hcx:=X0.c4;have hs1:=hbr1.size;go_wp2_with (at_builtin;refine wpList_appN rfl _ _ rfl w.heap.size _ nk rfl O1 _ 1 rfl S0 (by omega) hs1 ?_;intro v3 w3 ho3 hg3)
     rw [← hT2.out] at ho3;have hb3:=hbr1.grown hg3 hs1 (O1.lt);go_roundw
     case rel => exact ⟨k + 1,by go_num,by omega,ho3,hb3⟩
     case measure => simp [intOf];omega
   ·obtain rfl:k = l.length:=by omega
    rw [List.take_length] at hor;have HO:=Lib.hid hor;clear hor;go_wp2_with fail;go_ret;exact ⟨_,rfl,HO.out,hbr⟩
end Go.Proofs.YtbeaijjaecaidaaGreatDoor
