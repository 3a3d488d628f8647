import Derived.Test.YtglkadmfjaecmaaGreatDoorD08
set_option maxRecDepth 100000
set_option maxHeartbeats 16000000
namespace Go.Proofs.YtglkadmfjaecmaaGreatDoor
open Go.RowKit Go.Shelf Tryz
open Go.Value renaming slice->I, int->Z
open Go.IntKind renaming i64->G
open Go.Obj renaming cells->O
attribute [local go_sem] Oper.semAt_some
variable {B base' sz:Nat} {W W' W2 w w0:World} {ds:List D} {l:List F} {u:Value} {xs:List Value}
def Mid (W2:World) (s:Nat) (W:World):Prop:=W2.heap.size <= W.heap.size /\ ∀ g,s <= g -> g < W2.heap.size -> W.heap[g]? = W2.heap[g]?
theorem Mid.below {s:Nat} (h:Mid W2 s W) (b:Bl W W'):Mid W2 s W':=⟨aj h.1 b.size,fun g h1 a => (b.block g (ah a h.1)).trans (h.2 g h1 a)⟩
theorem Mid.grown {s:Nat} {row:Option Nat} (h:Mid W2 s W) (b:W.grownBy W' row) (hr:∀ g,row = some g -> g < s ∨ W2.heap.size <= g):Mid W2 s W' :=
 ⟨aj h.1 b.size,fun g h1 a => (b.block g (ah a h.1) (fun e => by have:=hr _ e.symm;omega)).trans (h.2 g h1 a)⟩
theorem Zdz.mid {s:Nat} {a b c d:Value} {f:F} (h:Zdz w0 B W2 s a b c d f) (hm:Mid W2 s W):Zdz w0 B W s a b c d f:=by
 rcases h with h | ⟨h1,p,A,t,C,r,i,v⟩
 ·exact .inl h
 ·refine .inr ⟨h1,p,A,t,C,r,fun g m => ⟨(i g m).1,ah (i g m).2 hm.1⟩,?_⟩;rcases v with h | ⟨b',o,k,q,cs,rfl,y,e,hl,hr,hc⟩
  ·exact .inl h
  ·exact .inr ⟨b',o,k,q,cs,rfl,y,ah e hm.1,hl,hr,fun j x z => (dc (hm.2 b' (i b' rfl).1 e)).trans (hc j x z)⟩
theorem Zgx {base:Nat} (a:base <= W.heap.size):Zcm w0 B (W.alloc (O #[] 46)) base (I (some ⟨W.heap.size,0,none⟩) 0 0) (([]:List F).flatMap F.cells) :=
 ⟨0,[],⟨rfl,.inr ⟨W.heap.size,0,#[],rfl,a,heap_alloc_new W _,ag _,bi _,rfl,rfl⟩⟩,Zax.nil _ _⟩
theorem Ydy {base:Nat} {a b:F} (h:Zcm w0 B W base u ((a.parts ++ b.parts).flatMap F.cells)):Zdz w0 B W base (Z G 4) (Z G 0) (I none 0 0) u (Zgp a b) :=
 .inr ⟨rfl,rfl,rfl,rfl,rfl,rfl,fun g c => ⟨h.lt g c,h.low g c⟩,h.src⟩
theorem Ydz {base:Nat} {a b:F} (h:Zcm w0 B W base u ((a.parts ++ b.parts).flatMap F.cells)) (e:Below B w0 W) (c:B <= W.heap.size):Zax W W.heap.size [Z G 4,Z G 0,I none 0 0,u] (Zgp a b).cells:=by
 rw [Zjq];exact Zax.cons (.v _) (Zax.cons (.v _) (Zax.cons (.nil 8) (Zax.cons (h.src.rep (fun p d => e.cell d) c) (Zax.nil _ _))))
theorem Zkc {base:Nat} {e:TypeId} {n:Nat} {v:Value} (h:w.ownsRow base e sz v n xs) (c:base' <= base):w.ownsRow base' e sz v n xs:=by
 obtain ⟨h1,b⟩:=h;refine ⟨h1,?_⟩;rcases b with b | ⟨g,cap,a,e,f,d⟩
 ·exact .inl b
 ·exact .inr ⟨g,cap,a,e,aj c f,d⟩
theorem Zte (l:List Cl) (f7:Zs2 l) (fs:Zlw l):∀ (n i:Nat),i < n -> n <= l.length -> ∀ (v:Value) (w:World) (B:Nat),B <= w.heap.size -> Rep w B v (.s 5 (l.flatMap Cl.cells)) ->
  Calls prog 222 #[v,Z G (i:Int)] w fun e w' => ∃ u,e = .returned (.tuple #[u,.bool true]) /\ Zh0 w B w' w.heap.size u ((Zdg l (i + 1)).getD i []) /\ Bl w w':=by
 intro n;induction n with
 | zero => intro i hi;omega
 | succ n ih =>
 intro i hi j2 v w B bk hr;have HR:=ae hr;obtain ⟨A,c,rfl,hc,el⟩:=hr.claims;have hl:=f7.1;have gc:i < l.length:=by omega
 obtain ⟨b,o,y,rfl,hb,hy,c0,c1,c2,c3,c4⟩:=el i gc;have fr:b < w.heap.size:=ah hb bk;obtain ⟨fy,h1,ft⟩:=f7.2 i gc;have fx:=fs i gc;have en:=Zc4 l (i + 1) i (by omega) (by omega);rw [<- hy] at fy h1 ft fx en;rw [en];have gd:=fs.len i (by omega);have g4:∀ (r:Nat) (W:World),r < i -> Bl w W -> Calls prog 222 #[I (some ⟨b,o,none⟩) l.length c,Z G (r:Int)] W fun e w' => ∃ u,e = .returned (.tuple #[u,.bool true]) /\ Zh0 w B w' W.heap.size u ((Zdg l i).getD r []) /\ Bl W w':=fun r W i1 hW => by
  have hk:∀ p:Addr,p.block < B -> W.cell? p = w.cell? p:=fun p hp => hW.cell (ah hp bk);refine (ih r (by omega) (by omega) _ W B (aj bk hW.size) (HR.out.keep hk (ag _))).mono ?_;rintro e w' ⟨u,he,ho,hb⟩;rw [Zc4 l (r + 1) r (by omega) (by omega)] at ho;rw [Zc4 l i r i1 (by omega)];exact ⟨u,he,ho.at (fun p hp => (hk p hp).symm),hb⟩
 have jp:=ae g4;have HT:=ae (Ztb y.t.body.size w B y.body bk (ag _) (by have:=ft.1;omega));generalize Zdg l i = AL at *;obtain ⟨A0,q0,f0,hz,cq⟩:=y.hr.row;rw [Zb1] at f0 hz;have js:=ae cq;obtain ⟨A1,n1,q1,A2,n2,q2,f1,f2,f3,f4⟩:=Zaq y.h;dsimp only [Zko.body] at HT;rw [f0] at c0;rw [f1] at c1 HT;rw [f2] at c2 HT;rw [f3] at c3 HT;rw [f4] at c4 HT;have d5:=ae fx;have h3:=ae fy;clear f0 f1 f2 f3 f4 hy ft en g4 ih el cq f7 fs hr fx fy;obtain ⟨yr,ya,yb,yc,yd,yt,jm,yh⟩:=y;dsimp only at *;clear jm yh;generalize hop:yt.body.op = op at *;generalize hnn:yt.body.n = nn at *;clear hop hnn;go_enter func222,ntmps222;go_wp2_with fail;refine HT.out.mono ?_;rintro e w1 ⟨u1,rfl,f6,b1⟩;have e0:=(b1.cell (p:=⟨b,o + i * 5,none⟩) fr).trans c0;obtain ⟨D0,d0,rfl,jy,e6⟩:=f6.src.nodes;by_cases h0:yt.refs = []
 ·have h7:yt.refs.length = 0:=by rw [h0];rfl
  have hA:Zno yt AL = yt.body.tops:=by unfold Zno;rw [if_pos h0]
  have HA:=ae hA;have HO:=ae (Zh0.of_ownR f6);rw [h7] at e0;have kd:decide ((yt.body.tops.length:Int) <= 64) = true:=by simp;exact_mod_cast d5.out.1
  clear c0 c1 c2 c3 c4 hA f6 e6;go_wp2_with fail;exact bodyPost_ret (results_tmp2 rfl _ _ _) rfl ⟨_,rfl,by rw [HA.out];exact HO.out,b1⟩
 ·have j8:((yt.refs.length:Int) == 0) = false:=by
   have:yt.refs.length ≠ 0:=fun e => h0 (bj e);simp;omega
  have e6:=ae e6;clear c0 c1 c2 c3 c4;go_wp2_with fail;have hg:=b1.size;go_loopw [7,8] (fun u j wr => ∃ k:Nat,j = Z G (k:Int) /\ k <= yt.refs.length /\ Zh0 w B wr w1.heap.size u (Zxu yt AL k) /\ Bl w1 wr) (fun _ j _ => yt.refs.length - (intOf j).toNat)
  case atStart => exact ⟨0,rfl,bi _,Zh0.nil _ _ _ _,ap _ _⟩
  case round =>
   obtain ⟨k,rfl,hk,cr,dp⟩:=hrel;have e7:=b1.trans (dp.mono b1.size);have g0:=(dp.cell (p:=⟨b,o + i * 5,none⟩) (ah fr b1.size)).trans e0;by_cases cs:k < yt.refs.length
   ·obtain ⟨b3,o3,i2,jn,c0⟩:=js.out k _ (Zbx yt.refs k cs);subst i2;have g1:=(e7.cell (p:=⟨b3,o3 + k,none⟩) (ah jn bk)).trans c0;have ga:=h3.out k cs;have jw:0 <= yt.refs[k]:=ga.1;have jv:yt.refs[k] < (i:Int):=ga.2.1;have d4:((yt.refs[k].toNat:Nat):Int) = yt.refs[k]:=by omega
    have HC:=jp.out yt.refs[k].toNat wr (by omega) e7;rw [d4] at HC;have HC:=ae HC;have g8:=Zlz d5.out h0 cs;have i0:=ae (Zlx yt AL k cs);have id:=ae (fun j (hj:j < (AL.getD yt.refs[k].toNat []).length) => Zly (AL.getD yt.refs[k].toNat []) yt.body.tops j hj);have ge:=ae (fun j (hj:j < (AL.getD yt.refs[k].toNat []).length) i hi => Znq d5.out h0 cs hj i hi);have hn:=ae (fun j (hj:j < (AL.getD yt.refs[k].toNat []).length) i (hi:i < yt.body.tops.length) => Yfu d5.out h0 cs hj hi);have jz:=gd yt.refs[k].toNat;have j9:=d5.out.1;have kg:=ae gd;clear d4 c0 ga gd;generalize yt.refs[k] = r at *;generalize AL.getD r.toNat [] = la at *;generalize hLO:Zxu yt AL k = lo at *;generalize yt.body.tops = tp at *;obtain ⟨P,it,j7⟩:=Zz7 _ _ _ g8;have j5:¬ ((64:Int) < (lo.length:Int) + (P:Int)):=by omega
    clear g8;obtain ⟨Ao,co,rfl,_⟩:=cr.slice;go_wp2_with fail;refine HC.out.mono ?_;rintro e w2 ⟨u2,rfl,hx,fo⟩;obtain ⟨Ax,cx,rfl,kh,HX⟩:=hx.nodes;have HX:=ae HX;have h2:=cr.below fo;have h4:=Zaa dp fo dp.size;have h6:∀ g,(Value.slice Ao lo.length co).ownBlock = some g -> g < wr.heap.size ∨ w2.heap.size <= g:=fun g e => .inl (cr.lt g e).2;have jx:w1.heap.size <= wr.heap.size:=dp.size;have ka:=(fo.cell (p:=⟨b,o + i * 5,none⟩) (ah fr e7.size)).trans g0;clear cr g1 hx HC;generalize wr.heap.size = s at *;go_wp2_with fail;clear it;go_loopw [7,11] (fun u j wr => ∃ j':Nat,j = Z G (j':Int) /\ j' <= la.length /\ Zh0 w B wr w1.heap.size u (lo ++ Zcx (la.take j') tp) /\ Bl w1 wr /\ Mid w2 s wr /\ ∀ g,u.ownBlock = some g -> g < s ∨ w2.heap.size <= g) (fun _ j _ => la.length - (intOf j).toNat)
    case atStart => exact ⟨0,rfl,bi _,by rw [show Zcx (la.take 0) tp = [] from rfl,bv];exact h2,h4,⟨ag _,fun _ _ _ => rfl⟩,h6⟩
    case round =>
     obtain ⟨j,rfl,hj,b2,fm,f9,gf⟩:=hrel;by_cases cp:j < la.length
     ·obtain ⟨gx,a1,a2,a3,a4,rfl,ez,d6,x0,x1,x2,x3,ha⟩:=HX.out j cp;have jt:∃ z,z = la[j]:=⟨_,rfl⟩;have jo:=ae (fun i hi => ge.out j cp i hi);have hd:=ae (fun i hi => hn.out j cp i hi);have d7:lo ++ Zcx (la.take (j + 1)) tp = lo ++ Zcx (la.take j) tp ++ tp.map (Zgp la[j]):=by rw [id.out j cp,ay]
      have d7:=ae d7;generalize la[j] = ta at *;obtain ⟨kf,j0,j1,j3,j4,kb,rfl,rfl,rfl,rfl⟩:=ha.form;generalize lo ++ Zcx (la.take j) tp = lj at *;obtain ⟨kc,j6,rfl,_⟩:=b2.slice;go_wp2_with fail;go_loopw [7,12] (fun u jj wr => ∃ q:Nat,jj = Z G (q:Int) /\ q <= tp.length /\ Zh0 w B wr w1.heap.size u (lj ++ (tp.take q).map (Zgp ta)) /\ Bl w1 wr /\ Mid w2 s wr /\ ∀ g,u.ownBlock = some g -> g < s ∨ w2.heap.size <= g) (fun _ jj _ => tp.length - (intOf jj).toNat)
      case atStart => exact ⟨0,rfl,bi _,by rw [show (tp.take 0).map (Zgp ta) = [] from rfl,bv];exact b2,fm,f9,gf⟩
      case round =>
       obtain ⟨q,rfl,hq,bo,av,aq,eg⟩:=hrel;have hv:=jo.out q hq;by_cases eo:q < tp.length
       ·obtain ⟨b4,o4,yb,rfl,c6,hh,z0,z1,z2,z3⟩:=e6.out q eo;have be:=b1.trans (av.mono b1.size);have k0:=(av.cell (p:=⟨b4,o4 + q * 4,none⟩) c6).trans z0;have k1:=(av.cell (p:=⟨b4,o4 + q * 4 + 1,none⟩) c6).trans z1;have k2:=(av.cell (p:=⟨b4,o4 + q * 4 + 2,none⟩) c6).trans z2;have k3:=(av.cell (p:=⟨b4,o4 + q * 4 + 3,none⟩) c6).trans z3;have y0:=(dc (a:=⟨gx,0 + j * 4,none⟩) (aq.2 gx ez d6)).trans x0;have y1:=(dc (a:=⟨gx,0 + j * 4 + 1,none⟩) (aq.2 gx ez d6)).trans x1;have y2:=(dc (a:=⟨gx,0 + j * 4 + 2,none⟩) (aq.2 gx ez d6)).trans x2;have y3:=(dc (a:=⟨gx,0 + j * 4 + 3,none⟩) (aq.2 gx ez d6)).trans x3;rw [cz] at y0 y1 y2 y3;have cm:gx < wr.heap.size:=ah d6 aq.1;have cn:b4 < wr.heap.size:=ah c6 av.size;have gk:=ha.mid aq;have ej:=ae (fun (W:World) (hW:Bl wr W) => Zrc (gk.below hW) (Below.mono (be.trans (hW.mono be.size)) bk) (aj bk (aj be.size hW.size)));have bc:=ae (fun (W:World) (hW:Bl wr W) => Zkb w B yb W (Below.mono (be.trans (hW.mono be.size)) bk) (aj bk (aj be.size hW.size)));have b6:=hd.out q eo;have ev:lj ++ (tp.take (q + 1)).map (Zgp ta) = lj ++ (tp.take q).map (Zgp ta) ++ [Zgp ta tp[q]]:=by rw [Zvt (Zgp ta) tp q eo,ay]
        obtain ⟨A3,n3,q3,A4,n4,q4,e1,e2,e3,e4⟩:=Zaq yb.h;rw [<- hh] at b6 ev;have ev:=ae ev;have b6:=ae b6;rw [e1] at bc k0;rw [e2] at bc k1;rw [e3] at bc k2;rw [e4] at bc k3;have ke:=Below.mono be bk;clear e1 e2 e3 e4 hh z0 z1 z2 z3 x0 x1 x2 x3 gk;generalize yb.t = tb at *;generalize lj ++ (tp.take q).map (Zgp ta) = lc at *;obtain ⟨h9,h5,rfl,_⟩:=bo.slice;obtain ⟨wa,i3⟩:∃ z:World,z = wr:=⟨_,rfl⟩;subst i3;go_upto_region 17 with fail;obtain ⟨PP,gb⟩:∃ z,z = ta.parts ++ tb.parts:=⟨_,rfl⟩;have bl:=ae gb;go_cut [13] from 79 to 93 (fun u wx => ∃ (g:Nat) (kv:Value),u = .pointer (some ⟨g,0,none⟩) /\ Blk wx g 46 #[Z G 4,Z G 0,I none 0 0,kv] /\ Zcm w B wx wa.heap.size kv (PP.flatMap F.cells) /\ Bl wa wx)
        case first => as_aux_lemma =>
         have ab:(ta.parts ++ tb.parts).length <= 96:=Zrb b6.out;clear gb;refine Znr ?_;refine wp_region_held_drew (S:=(fun w' => Bl wa w')) (by kernel_rfl) ?_ (fun m => ?_)
         ·first | done | ((try dsimp only);exact (ap _ _).drew)
         generalize wa.drew = wd at *;refine tq 1 80 rfl ?_;refine tq 2 81 rfl ?_;refine tq 3 82 rfl ?_;refine tq 4 83 rfl ?_ (hy:=by intro w' bp;(try dsimp only at bp);have c0:=(bp.cell (p:=⟨gx,j * 4,none⟩) cm).trans y0;have c1:=(bp.cell (p:=⟨gx,j * 4 + 1,none⟩) cm).trans y1;have c2:=(bp.cell (p:=⟨gx,j * 4 + 2,none⟩) cm).trans y2;have c3:=(bp.cell (p:=⟨gx,j * 4 + 3,none⟩) cm).trans y3;go_simp;try (with_reducible rfl));refine tq 7 86 rfl ?_;refine tq 8 87 rfl ?_;refine tq 9 88 rfl ?_;refine tq 10 89 rfl ?_ (hy:=by intro w' bp;(try dsimp only at bp);have c0:=(bp.cell (p:=⟨b4,o4 + q * 4,none⟩) cn).trans k0;have c1:=(bp.cell (p:=⟨b4,o4 + q * 4 + 1,none⟩) cn).trans k1;have c2:=(bp.cell (p:=⟨b4,o4 + q * 4 + 2,none⟩) cn).trans k2;have c3:=(bp.cell (p:=⟨b4,o4 + q * 4 + 3,none⟩) cn).trans k3;go_simp;try (with_reducible rfl));refine wpAnyH_ready (rs:=[0,5,14]) (by kernel_rfl) (by simp) (AllReadyH.cons (o:=⟨some 79,_,_,_,_,_⟩) rfl (fun K E => ?_) (AllReadyH.cons (o:=⟨some 84,_,_,_,_,_⟩) rfl (fun K E => ?_) (AllReadyH.cons (o:=⟨some 13,_,_,_,_,_⟩) rfl (fun K E => ?_) AllReadyH.nil)))
         ·skip;have bf:=m.size;obtain ⟨af,ad⟩:∃ z,wd.heap.size = z:=⟨_,rfl⟩;obtain ⟨dd,dy⟩:∃ z,wd.alloc (O #[] 46) = z:=⟨_,rfl⟩;have gn:Bl wd dd:=by rw [<- dy];exact Zab _ _
          have U:Zcm w B dd wa.heap.size (I (some ⟨af,0,none⟩) 0 0) (([]:List F).flatMap F.cells):=by rw [<- dy,<- ad];exact Zgx bf
          go_simp;(try rw [dy]);(try rw [ad]);refine E.out _ _ (m.trans (gn.mono m.size)) fun m => ?_;clear E K;(try simp only [pS,pB,pZ,pC]);refine rd2 5 (some 84) 14 (some 13) (by kernel_rfl) rfl rfl (fun K E => ?_) fun K E => ?_
          ·skip;go_simp;(refine (ej.out _ m).mono ?_;rintro e a5 ⟨es,rfl,T,a8⟩;obtain ⟨e5,ex,rfl,_⟩:=T.slice);refine E.out _ _ (m.trans (a8.mono m.size)) fun m => ?_;clear E K;(try simp only [pS,pB,pZ,pC]);have U:=U.below a8;refine rd2 6 (some 85) 14 (some 13) (by kernel_rfl) rfl rfl (fun K E => ?_) fun K E => ?_
           ·skip;refine Zb2 _ _ rfl wa.heap.size _ [] rfl U _ ta.parts rfl T (by have:=ab;simp at this ⊢;omega) m.size ?_;intro an bg J am bh;have T:=True.intro;refine E.out _ _ ?_ (fun m => ?_)
            ·exact m.grown am m.size (fun q e => U.lt q e)
            clear E K;(try simp only [pS,pB,pZ,pC]);obtain ⟨ce,cb,rfl,_⟩:=J.src.slice;refine rd2 11 (some 90) 14 (some 13) (by kernel_rfl) rfl rfl (fun K E => ?_) fun K E => ?_
            ·skip;go_simp;(refine (bc.out _ m).mono ?_;rintro e a9 ⟨bz,rfl,Q,R⟩;obtain ⟨bx,b0,rfl,_⟩:=Q.slice);refine E.out _ _ (m.trans (R.mono m.size)) fun m => ?_;clear E K;(try simp only [pS,pB,pZ,pC]);have J:=J.below R;refine rd2 12 (some 91) 14 (some 13) (by kernel_rfl) rfl rfl (fun K E => ?_) fun K E => ?_
             ·skip;refine Zb2 _ _ rfl wa.heap.size _ ta.parts rfl J _ tb.parts rfl Q (by have:=ab;simp at this ⊢;omega) m.size ?_;intro aa a0 N Y al;have Q:=True.intro;refine E.out _ _ ?_ (fun m => ?_)
              ·exact m.grown Y m.size (fun q e => J.lt q e)
              clear E K;(try simp only [pS,pB,pZ,pC]);rw [<- bl.out] at N;obtain ⟨bs,bq,rfl,_⟩:=N.src.slice;refine tq 13 92 rfl ?_;have a6:=m.size;obtain ⟨H,L⟩:∃ z,a0.heap.size = z:=⟨_,rfl⟩;obtain ⟨hu,ec⟩:∃ z,a0.alloc (O #[Z G 0,Z G 0,I none 0 0,I none 0 0] 46) = z:=⟨_,rfl⟩;have fh:Bl a0 hu:=by rw [<- ec];exact Zab _ _
              have x:∀ q,_ = some q -> q ≠ H:=fun q e => by have:=N.low q e;omega
              have C:Blk hu H 46 #[Z G 0,Z G 0,I none 0 0,I none 0 0]:=by rw [<- ec,<- L];exact Blk.new _ _ _
              have N:=N.below fh;refine rd 14 (some 13) rfl fun K E => ?_;go_simp;(try rw [ec]);(try rw [L]);refine E.out _ _ (m.trans (fh.mono m.size)) fun m => ?_;clear E K;(try simp only [pS,pB,pZ,pC]);have X:wa.heap.size <= H:=by omega
              obtain ⟨FF,OO,SS⟩:=Zcp m C X N (fun e => x _ e rfl);refine rd 15 none rfl fun K E => ?_;refine Zbq C _ _ rfl rfl rfl ?_ rfl;simp only [Act.put];refine E.out _ _ ?_ (fun m => ?_)
              ·exact SS
              clear E K;refine dn ?_;refine ⟨?_,rfl⟩;go_wp2_with fail;go_meet;exact ⟨_,_,rfl,FF,OO,SS⟩
             ·skip;have a6:=m.size;obtain ⟨H,L⟩:∃ z,a9.heap.size = z:=⟨_,rfl⟩;obtain ⟨hw,ek⟩:∃ z,a9.alloc (O #[Z G 0,Z G 0,I none 0 0,I none 0 0] 46) = z:=⟨_,rfl⟩;have ea:Bl a9 hw:=by rw [<- ek];exact Zab _ _
              have x:∀ q,_ = some q -> q ≠ H:=fun q e => by have:=J.low q e;omega
              have C:Blk hw H 46 #[Z G 0,Z G 0,I none 0 0,I none 0 0]:=by rw [<- ek,<- L];exact Blk.new _ _ _
              have J:=J.below ea;have Q:=Q.below ea;go_simp;(try rw [ek]);(try rw [L]);refine E.out _ _ (m.trans (ea.mono m.size)) fun m => ?_;clear E K;(try simp only [pS,pB,pZ,pC]);have M:=C.lt;refine rd 12 (some 91) rfl fun K E => ?_;refine Zb2 _ _ rfl wa.heap.size _ ta.parts rfl J _ tb.parts rfl Q (by have:=ab;simp at this ⊢;omega) m.size ?_;intro aa a0 N Y al;have Q:=True.intro;have C:=C.grown Y (fun e => x _ e.symm rfl);have x:∀ q,aa.ownBlock = some q -> q ≠ H:=fun q e => by rcases al with h | h;exact x q (h.symm.trans e);(rw [h] at e;cases e;have:=M;omega)
              refine E.out _ _ ?_ (fun m => ?_)
              ·exact m.grown Y m.size (fun q e => J.lt q e)
              clear E K;(try simp only [pS,pB,pZ,pC]);rw [<- bl.out] at N;obtain ⟨bs,bq,rfl,_⟩:=N.src.slice;refine tq 13 92 rfl ?_;have X:wa.heap.size <= H:=by omega
              obtain ⟨FF,OO,SS⟩:=Zcp m C X N (fun e => x _ e rfl);refine rd 15 none rfl fun K E => ?_;refine Zbq C _ _ rfl rfl rfl ?_ rfl;simp only [Act.put];refine E.out _ _ ?_ (fun m => ?_)
              ·exact SS
              clear E K;refine dn ?_;refine ⟨?_,rfl⟩;go_wp2_with fail;go_meet;exact ⟨_,_,rfl,FF,OO,SS⟩
            ·skip;have a6:=m.size;obtain ⟨H,L⟩:∃ z,bg.heap.size = z:=⟨_,rfl⟩;obtain ⟨g5,cu⟩:∃ z,bg.alloc (O #[Z G 0,Z G 0,I none 0 0,I none 0 0] 46) = z:=⟨_,rfl⟩;have fa:Bl bg g5:=by rw [<- cu];exact Zab _ _
             have x:∀ q,_ = some q -> q ≠ H:=fun q e => by have:=J.low q e;omega
             have C:Blk g5 H 46 #[Z G 0,Z G 0,I none 0 0,I none 0 0]:=by rw [<- cu,<- L];exact Blk.new _ _ _
             have J:=J.below fa;go_simp;(try rw [cu]);(try rw [L]);refine E.out _ _ (m.trans (fa.mono m.size)) fun m => ?_;clear E K;(try simp only [pS,pB,pZ,pC]);refine rd 11 (some 90) rfl fun K E => ?_;go_simp;(refine (bc.out _ m).mono ?_;rintro e a9 ⟨bz,rfl,Q,R⟩;obtain ⟨bx,b0,rfl,_⟩:=Q.slice);refine E.out _ _ (m.trans (R.mono m.size)) fun m => ?_;clear E K;(try simp only [pS,pB,pZ,pC]);have J:=J.below R;have C:=C.keep R;have M:=C.lt;refine rd 12 (some 91) rfl fun K E => ?_;refine Zb2 _ _ rfl wa.heap.size _ ta.parts rfl J _ tb.parts rfl Q (by have:=ab;simp at this ⊢;omega) m.size ?_;intro aa a0 N Y al;have Q:=True.intro;have C:=C.grown Y (fun e => x _ e.symm rfl);have x:∀ q,aa.ownBlock = some q -> q ≠ H:=fun q e => by rcases al with h | h;exact x q (h.symm.trans e);(rw [h] at e;cases e;have:=M;omega)
             refine E.out _ _ ?_ (fun m => ?_)
             ·exact m.grown Y m.size (fun q e => J.lt q e)
             clear E K;(try simp only [pS,pB,pZ,pC]);rw [<- bl.out] at N;obtain ⟨bs,bq,rfl,_⟩:=N.src.slice;refine tq 13 92 rfl ?_;have X:wa.heap.size <= H:=by omega
             obtain ⟨FF,OO,SS⟩:=Zcp m C X N (fun e => x _ e rfl);refine rd 15 none rfl fun K E => ?_;refine Zbq C _ _ rfl rfl rfl ?_ rfl;simp only [Act.put];refine E.out _ _ ?_ (fun m => ?_)
             ·exact SS
             clear E K;refine dn ?_;refine ⟨?_,rfl⟩;go_wp2_with fail;go_meet;exact ⟨_,_,rfl,FF,OO,SS⟩
           ·skip;have a6:=m.size;obtain ⟨H,L⟩:∃ z,a5.heap.size = z:=⟨_,rfl⟩;obtain ⟨hm,c9⟩:∃ z,a5.alloc (O #[Z G 0,Z G 0,I none 0 0,I none 0 0] 46) = z:=⟨_,rfl⟩;have d1:Bl a5 hm:=by rw [<- c9];exact Zab _ _
            have x:∀ q,_ = some q -> q ≠ H:=fun q e => by have:=U.low q e;omega
            have C:Blk hm H 46 #[Z G 0,Z G 0,I none 0 0,I none 0 0]:=by rw [<- c9,<- L];exact Blk.new _ _ _
            have U:=U.below d1;have T:=T.below d1;go_simp;(try rw [c9]);(try rw [L]);refine E.out _ _ (m.trans (d1.mono m.size)) fun m => ?_;clear E K;(try simp only [pS,pB,pZ,pC]);have V:=C.lt;refine rd 6 (some 85) rfl fun K E => ?_;refine Zb2 _ _ rfl wa.heap.size _ [] rfl U _ ta.parts rfl T (by have:=ab;simp at this ⊢;omega) m.size ?_;intro an bg J am bh;have T:=True.intro;have C:=C.grown am (fun e => x _ e.symm rfl);have x:∀ q,an.ownBlock = some q -> q ≠ H:=fun q e => by rcases bh with h | h;exact x q (h.symm.trans e);(rw [h] at e;cases e;have:=V;omega)
            refine E.out _ _ ?_ (fun m => ?_)
            ·exact m.grown am m.size (fun q e => U.lt q e)
            clear E K;(try simp only [pS,pB,pZ,pC]);obtain ⟨ce,cb,rfl,_⟩:=J.src.slice;refine rd 11 (some 90) rfl fun K E => ?_;go_simp;(refine (bc.out _ m).mono ?_;rintro e a9 ⟨bz,rfl,Q,R⟩;obtain ⟨bx,b0,rfl,_⟩:=Q.slice);refine E.out _ _ (m.trans (R.mono m.size)) fun m => ?_;clear E K;(try simp only [pS,pB,pZ,pC]);have C:=C.keep R;have J:=J.below R;have M:=C.lt;refine rd 12 (some 91) rfl fun K E => ?_;refine Zb2 _ _ rfl wa.heap.size _ ta.parts rfl J _ tb.parts rfl Q (by have:=ab;simp at this ⊢;omega) m.size ?_;intro aa a0 N Y al;have Q:=True.intro;have C:=C.grown Y (fun e => x _ e.symm rfl);have x:∀ q,aa.ownBlock = some q -> q ≠ H:=fun q e => by rcases al with h | h;exact x q (h.symm.trans e);(rw [h] at e;cases e;have:=M;omega)
            refine E.out _ _ ?_ (fun m => ?_)
            ·exact m.grown Y m.size (fun q e => J.lt q e)
            clear E K;(try simp only [pS,pB,pZ,pC]);rw [<- bl.out] at N;obtain ⟨bs,bq,rfl,_⟩:=N.src.slice;refine tq 13 92 rfl ?_;have X:wa.heap.size <= H:=by omega
            obtain ⟨FF,OO,SS⟩:=Zcp m C X N (fun e => x _ e rfl);refine rd 15 none rfl fun K E => ?_;refine Zbq C _ _ rfl rfl rfl ?_ rfl;simp only [Act.put];refine E.out _ _ ?_ (fun m => ?_)
            ·exact SS
            clear E K;refine dn ?_;refine ⟨?_,rfl⟩;go_wp2_with fail;go_meet;exact ⟨_,_,rfl,FF,OO,SS⟩
          ·skip;have a6:=m.size;obtain ⟨H,L⟩:∃ z,dd.heap.size = z:=⟨_,rfl⟩;obtain ⟨gp,cv⟩:∃ z,dd.alloc (O #[Z G 0,Z G 0,I none 0 0,I none 0 0] 46) = z:=⟨_,rfl⟩;have fi:Bl dd gp:=by rw [<- cv];exact Zab _ _
           have x:∀ q,_ = some q -> q ≠ H:=fun q e => by have:=U.low q e;omega
           have C:Blk gp H 46 #[Z G 0,Z G 0,I none 0 0,I none 0 0]:=by rw [<- cv,<- L];exact Blk.new _ _ _
           have U:=U.below fi;go_simp;(try rw [cv]);(try rw [L]);refine E.out _ _ (m.trans (fi.mono m.size)) fun m => ?_;clear E K;(try simp only [pS,pB,pZ,pC]);refine rd 5 (some 84) rfl fun K E => ?_;go_simp;(refine (ej.out _ m).mono ?_;rintro e a5 ⟨es,rfl,T,a8⟩;obtain ⟨e5,ex,rfl,_⟩:=T.slice);refine E.out _ _ (m.trans (a8.mono m.size)) fun m => ?_;clear E K;(try simp only [pS,pB,pZ,pC]);have U:=U.below a8;have C:=C.keep a8;have V:=C.lt;refine rd 6 (some 85) rfl fun K E => ?_;refine Zb2 _ _ rfl wa.heap.size _ [] rfl U _ ta.parts rfl T (by have:=ab;simp at this ⊢;omega) m.size ?_;intro an bg J am bh;have T:=True.intro;have C:=C.grown am (fun e => x _ e.symm rfl);have x:∀ q,an.ownBlock = some q -> q ≠ H:=fun q e => by rcases bh with h | h;exact x q (h.symm.trans e);(rw [h] at e;cases e;have:=V;omega)
           refine E.out _ _ ?_ (fun m => ?_)
           ·exact m.grown am m.size (fun q e => U.lt q e)
           clear E K;(try simp only [pS,pB,pZ,pC]);obtain ⟨ce,cb,rfl,_⟩:=J.src.slice;refine rd 11 (some 90) rfl fun K E => ?_;go_simp;(refine (bc.out _ m).mono ?_;rintro e a9 ⟨bz,rfl,Q,R⟩;obtain ⟨bx,b0,rfl,_⟩:=Q.slice);refine E.out _ _ (m.trans (R.mono m.size)) fun m => ?_;clear E K;(try simp only [pS,pB,pZ,pC]);have C:=C.keep R;have J:=J.below R;have M:=C.lt;refine rd 12 (some 91) rfl fun K E => ?_;refine Zb2 _ _ rfl wa.heap.size _ ta.parts rfl J _ tb.parts rfl Q (by have:=ab;simp at this ⊢;omega) m.size ?_;intro aa a0 N Y al;have Q:=True.intro;have C:=C.grown Y (fun e => x _ e.symm rfl);have x:∀ q,aa.ownBlock = some q -> q ≠ H:=fun q e => by rcases al with h | h;exact x q (h.symm.trans e);(rw [h] at e;cases e;have:=M;omega)
           refine E.out _ _ ?_ (fun m => ?_)
           ·exact m.grown Y m.size (fun q e => J.lt q e)
           clear E K;(try simp only [pS,pB,pZ,pC]);rw [<- bl.out] at N;obtain ⟨bs,bq,rfl,_⟩:=N.src.slice;refine tq 13 92 rfl ?_;have X:wa.heap.size <= H:=by omega
           obtain ⟨FF,OO,SS⟩:=Zcp m C X N (fun e => x _ e rfl);refine rd 15 none rfl fun K E => ?_;refine Zbq C _ _ rfl rfl rfl ?_ rfl;simp only [Act.put];refine E.out _ _ ?_ (fun m => ?_)
           ·exact SS
           clear E K;refine dn ?_;refine ⟨?_,rfl⟩;go_wp2_with fail;go_meet;exact ⟨_,_,rfl,FF,OO,SS⟩
         ·skip;go_simp;(refine (ej.out _ m).mono ?_;rintro e a5 ⟨es,rfl,T,a8⟩;obtain ⟨e5,ex,rfl,_⟩:=T.slice);refine E.out _ _ (m.trans (a8.mono m.size)) fun m => ?_;clear E K;(try simp only [pS,pB,pZ,pC]);refine rd2 0 (some 79) 14 (some 13) (by kernel_rfl) rfl rfl (fun K E => ?_) fun K E => ?_
          ·skip;have bf:=m.size;obtain ⟨af,ad⟩:∃ z,a5.heap.size = z:=⟨_,rfl⟩;obtain ⟨dr,d2⟩:∃ z,a5.alloc (O #[] 46) = z:=⟨_,rfl⟩;have fl:Bl a5 dr:=by rw [<- d2];exact Zab _ _
           have T:=T.below fl;have U:Zcm w B dr wa.heap.size (I (some ⟨af,0,none⟩) 0 0) (([]:List F).flatMap F.cells):=by rw [<- d2,<- ad];exact Zgx bf
           go_simp;(try rw [d2]);(try rw [ad]);refine E.out _ _ (m.trans (fl.mono m.size)) fun m => ?_;clear E K;(try simp only [pS,pB,pZ,pC]);refine rd2 6 (some 85) 14 (some 13) (by kernel_rfl) rfl rfl (fun K E => ?_) fun K E => ?_
           ·skip;refine Zb2 _ _ rfl wa.heap.size _ [] rfl U _ ta.parts rfl T (by have:=ab;simp at this ⊢;omega) m.size ?_;intro an bg J am bh;have T:=True.intro;refine E.out _ _ ?_ (fun m => ?_)
            ·exact m.grown am m.size (fun q e => U.lt q e)
            clear E K;(try simp only [pS,pB,pZ,pC]);obtain ⟨ce,cb,rfl,_⟩:=J.src.slice;refine rd2 11 (some 90) 14 (some 13) (by kernel_rfl) rfl rfl (fun K E => ?_) fun K E => ?_
            ·skip;go_simp;(refine (bc.out _ m).mono ?_;rintro e a9 ⟨bz,rfl,Q,R⟩;obtain ⟨bx,b0,rfl,_⟩:=Q.slice);refine E.out _ _ (m.trans (R.mono m.size)) fun m => ?_;clear E K;(try simp only [pS,pB,pZ,pC]);have J:=J.below R;refine rd2 12 (some 91) 14 (some 13) (by kernel_rfl) rfl rfl (fun K E => ?_) fun K E => ?_
             ·skip;refine Zb2 _ _ rfl wa.heap.size _ ta.parts rfl J _ tb.parts rfl Q (by have:=ab;simp at this ⊢;omega) m.size ?_;intro aa a0 N Y al;have Q:=True.intro;refine E.out _ _ ?_ (fun m => ?_)
              ·exact m.grown Y m.size (fun q e => J.lt q e)
              clear E K;(try simp only [pS,pB,pZ,pC]);rw [<- bl.out] at N;obtain ⟨bs,bq,rfl,_⟩:=N.src.slice;refine tq 13 92 rfl ?_;have a6:=m.size;obtain ⟨H,L⟩:∃ z,a0.heap.size = z:=⟨_,rfl⟩;obtain ⟨gs,em⟩:∃ z,a0.alloc (O #[Z G 0,Z G 0,I none 0 0,I none 0 0] 46) = z:=⟨_,rfl⟩;have fg:Bl a0 gs:=by rw [<- em];exact Zab _ _
              have x:∀ q,_ = some q -> q ≠ H:=fun q e => by have:=N.low q e;omega
              have C:Blk gs H 46 #[Z G 0,Z G 0,I none 0 0,I none 0 0]:=by rw [<- em,<- L];exact Blk.new _ _ _
              have N:=N.below fg;refine rd 14 (some 13) rfl fun K E => ?_;go_simp;(try rw [em]);(try rw [L]);refine E.out _ _ (m.trans (fg.mono m.size)) fun m => ?_;clear E K;(try simp only [pS,pB,pZ,pC]);have X:wa.heap.size <= H:=by omega
              obtain ⟨FF,OO,SS⟩:=Zcp m C X N (fun e => x _ e rfl);refine rd 15 none rfl fun K E => ?_;refine Zbq C _ _ rfl rfl rfl ?_ rfl;simp only [Act.put];refine E.out _ _ ?_ (fun m => ?_)
              ·exact SS
              clear E K;refine dn ?_;refine ⟨?_,rfl⟩;go_wp2_with fail;go_meet;exact ⟨_,_,rfl,FF,OO,SS⟩
             ·skip;have a6:=m.size;obtain ⟨H,L⟩:∃ z,a9.heap.size = z:=⟨_,rfl⟩;obtain ⟨g9,dv⟩:∃ z,a9.alloc (O #[Z G 0,Z G 0,I none 0 0,I none 0 0] 46) = z:=⟨_,rfl⟩;have c7:Bl a9 g9:=by rw [<- dv];exact Zab _ _
              have x:∀ q,_ = some q -> q ≠ H:=fun q e => by have:=J.low q e;omega
              have C:Blk g9 H 46 #[Z G 0,Z G 0,I none 0 0,I none 0 0]:=by rw [<- dv,<- L];exact Blk.new _ _ _
              have J:=J.below c7;have Q:=Q.below c7;go_simp;(try rw [dv]);(try rw [L]);refine E.out _ _ (m.trans (c7.mono m.size)) fun m => ?_;clear E K;(try simp only [pS,pB,pZ,pC]);have M:=C.lt;refine rd 12 (some 91) rfl fun K E => ?_;refine Zb2 _ _ rfl wa.heap.size _ ta.parts rfl J _ tb.parts rfl Q (by have:=ab;simp at this ⊢;omega) m.size ?_;intro aa a0 N Y al;have Q:=True.intro;have C:=C.grown Y (fun e => x _ e.symm rfl);have x:∀ q,aa.ownBlock = some q -> q ≠ H:=fun q e => by rcases al with h | h;exact x q (h.symm.trans e);(rw [h] at e;cases e;have:=M;omega)
              refine E.out _ _ ?_ (fun m => ?_)
              ·exact m.grown Y m.size (fun q e => J.lt q e)
              clear E K;(try simp only [pS,pB,pZ,pC]);rw [<- bl.out] at N;obtain ⟨bs,bq,rfl,_⟩:=N.src.slice;refine tq 13 92 rfl ?_;have X:wa.heap.size <= H:=by omega
              obtain ⟨FF,OO,SS⟩:=Zcp m C X N (fun e => x _ e rfl);refine rd 15 none rfl fun K E => ?_;refine Zbq C _ _ rfl rfl rfl ?_ rfl;simp only [Act.put];refine E.out _ _ ?_ (fun m => ?_)
              ·exact SS
              clear E K;refine dn ?_;refine ⟨?_,rfl⟩;go_wp2_with fail;go_meet;exact ⟨_,_,rfl,FF,OO,SS⟩
            ·skip;have a6:=m.size;obtain ⟨H,L⟩:∃ z,bg.heap.size = z:=⟨_,rfl⟩;obtain ⟨fn,cg⟩:∃ z,bg.alloc (O #[Z G 0,Z G 0,I none 0 0,I none 0 0] 46) = z:=⟨_,rfl⟩;have eb:Bl bg fn:=by rw [<- cg];exact Zab _ _
             have x:∀ q,_ = some q -> q ≠ H:=fun q e => by have:=J.low q e;omega
             have C:Blk fn H 46 #[Z G 0,Z G 0,I none 0 0,I none 0 0]:=by rw [<- cg,<- L];exact Blk.new _ _ _
             have J:=J.below eb;go_simp;(try rw [cg]);(try rw [L]);refine E.out _ _ (m.trans (eb.mono m.size)) fun m => ?_;clear E K;(try simp only [pS,pB,pZ,pC]);refine rd 11 (some 90) rfl fun K E => ?_;go_simp;(refine (bc.out _ m).mono ?_;rintro e a9 ⟨bz,rfl,Q,R⟩;obtain ⟨bx,b0,rfl,_⟩:=Q.slice);refine E.out _ _ (m.trans (R.mono m.size)) fun m => ?_;clear E K;(try simp only [pS,pB,pZ,pC]);have J:=J.below R;have C:=C.keep R;have M:=C.lt;refine rd 12 (some 91) rfl fun K E => ?_;refine Zb2 _ _ rfl wa.heap.size _ ta.parts rfl J _ tb.parts rfl Q (by have:=ab;simp at this ⊢;omega) m.size ?_;intro aa a0 N Y al;have Q:=True.intro;have C:=C.grown Y (fun e => x _ e.symm rfl);have x:∀ q,aa.ownBlock = some q -> q ≠ H:=fun q e => by rcases al with h | h;exact x q (h.symm.trans e);(rw [h] at e;cases e;have:=M;omega)
             refine E.out _ _ ?_ (fun m => ?_)
             ·exact m.grown Y m.size (fun q e => J.lt q e)
             clear E K;(try simp only [pS,pB,pZ,pC]);rw [<- bl.out] at N;obtain ⟨bs,bq,rfl,_⟩:=N.src.slice;refine tq 13 92 rfl ?_;have X:wa.heap.size <= H:=by omega
             obtain ⟨FF,OO,SS⟩:=Zcp m C X N (fun e => x _ e rfl);refine rd 15 none rfl fun K E => ?_;refine Zbq C _ _ rfl rfl rfl ?_ rfl;simp only [Act.put];refine E.out _ _ ?_ (fun m => ?_)
             ·exact SS
             clear E K;refine dn ?_;refine ⟨?_,rfl⟩;go_wp2_with fail;go_meet;exact ⟨_,_,rfl,FF,OO,SS⟩
           ·skip;have a6:=m.size;obtain ⟨H,L⟩:∃ z,dr.heap.size = z:=⟨_,rfl⟩;obtain ⟨fb,ch⟩:∃ z,dr.alloc (O #[Z G 0,Z G 0,I none 0 0,I none 0 0] 46) = z:=⟨_,rfl⟩;have cf:Bl dr fb:=by rw [<- ch];exact Zab _ _
            have x:∀ q,_ = some q -> q ≠ H:=fun q e => by have:=U.low q e;omega
            have C:Blk fb H 46 #[Z G 0,Z G 0,I none 0 0,I none 0 0]:=by rw [<- ch,<- L];exact Blk.new _ _ _
            have T:=T.below cf;have U:=U.below cf;go_simp;(try rw [ch]);(try rw [L]);refine E.out _ _ (m.trans (cf.mono m.size)) fun m => ?_;clear E K;(try simp only [pS,pB,pZ,pC]);have V:=C.lt;refine rd 6 (some 85) rfl fun K E => ?_;refine Zb2 _ _ rfl wa.heap.size _ [] rfl U _ ta.parts rfl T (by have:=ab;simp at this ⊢;omega) m.size ?_;intro an bg J am bh;have T:=True.intro;have C:=C.grown am (fun e => x _ e.symm rfl);have x:∀ q,an.ownBlock = some q -> q ≠ H:=fun q e => by rcases bh with h | h;exact x q (h.symm.trans e);(rw [h] at e;cases e;have:=V;omega)
            refine E.out _ _ ?_ (fun m => ?_)
            ·exact m.grown am m.size (fun q e => U.lt q e)
            clear E K;(try simp only [pS,pB,pZ,pC]);obtain ⟨ce,cb,rfl,_⟩:=J.src.slice;refine rd 11 (some 90) rfl fun K E => ?_;go_simp;(refine (bc.out _ m).mono ?_;rintro e a9 ⟨bz,rfl,Q,R⟩;obtain ⟨bx,b0,rfl,_⟩:=Q.slice);refine E.out _ _ (m.trans (R.mono m.size)) fun m => ?_;clear E K;(try simp only [pS,pB,pZ,pC]);have C:=C.keep R;have J:=J.below R;have M:=C.lt;refine rd 12 (some 91) rfl fun K E => ?_;refine Zb2 _ _ rfl wa.heap.size _ ta.parts rfl J _ tb.parts rfl Q (by have:=ab;simp at this ⊢;omega) m.size ?_;intro aa a0 N Y al;have Q:=True.intro;have C:=C.grown Y (fun e => x _ e.symm rfl);have x:∀ q,aa.ownBlock = some q -> q ≠ H:=fun q e => by rcases al with h | h;exact x q (h.symm.trans e);(rw [h] at e;cases e;have:=M;omega)
            refine E.out _ _ ?_ (fun m => ?_)
            ·exact m.grown Y m.size (fun q e => J.lt q e)
            clear E K;(try simp only [pS,pB,pZ,pC]);rw [<- bl.out] at N;obtain ⟨bs,bq,rfl,_⟩:=N.src.slice;refine tq 13 92 rfl ?_;have X:wa.heap.size <= H:=by omega
            obtain ⟨FF,OO,SS⟩:=Zcp m C X N (fun e => x _ e rfl);refine rd 15 none rfl fun K E => ?_;refine Zbq C _ _ rfl rfl rfl ?_ rfl;simp only [Act.put];refine E.out _ _ ?_ (fun m => ?_)
            ·exact SS
            clear E K;refine dn ?_;refine ⟨?_,rfl⟩;go_wp2_with fail;go_meet;exact ⟨_,_,rfl,FF,OO,SS⟩
          ·skip;have a6:=m.size;obtain ⟨H,L⟩:∃ z,a5.heap.size = z:=⟨_,rfl⟩;obtain ⟨b5,b8⟩:∃ z,a5.alloc (O #[Z G 0,Z G 0,I none 0 0,I none 0 0] 46) = z:=⟨_,rfl⟩;have dz:Bl a5 b5:=by rw [<- b8];exact Zab _ _
           have C:Blk b5 H 46 #[Z G 0,Z G 0,I none 0 0,I none 0 0]:=by rw [<- b8,<- L];exact Blk.new _ _ _
           have T:=T.below dz;go_simp;(try rw [b8]);(try rw [L]);refine E.out _ _ (m.trans (dz.mono m.size)) fun m => ?_;clear E K;(try simp only [pS,pB,pZ,pC]);have bn:=C.lt;have bf:=m.size;have bn:=C.lt;obtain ⟨af,ad⟩:∃ z,b5.heap.size = z:=⟨_,rfl⟩;obtain ⟨fd,cc⟩:∃ z,b5.alloc (O #[] 46) = z:=⟨_,rfl⟩;have cl:Bl b5 fd:=by rw [<- cc];exact Zab _ _
           have T:=T.below cl;have C:=C.keep cl;have U:Zcm w B fd wa.heap.size (I (some ⟨af,0,none⟩) 0 0) (([]:List F).flatMap F.cells):=by rw [<- cc,<- ad];exact Zgx bf
           have x:∀ q,(Value.slice (some ⟨af,0,none⟩) 0 0).ownBlock = some q -> q ≠ H:=fun q e => by have e2:af = q:=Option.some.inj e;omega
           refine rd 0 (some 79) rfl fun K E => ?_;go_simp;(try rw [cc]);(try rw [ad]);refine E.out _ _ (m.trans (cl.mono m.size)) fun m => ?_;clear E K;(try simp only [pS,pB,pZ,pC]);have V:=C.lt;refine rd 6 (some 85) rfl fun K E => ?_;refine Zb2 _ _ rfl wa.heap.size _ [] rfl U _ ta.parts rfl T (by have:=ab;simp at this ⊢;omega) m.size ?_;intro an bg J am bh;have T:=True.intro;have C:=C.grown am (fun e => x _ e.symm rfl);have x:∀ q,an.ownBlock = some q -> q ≠ H:=fun q e => by rcases bh with h | h;exact x q (h.symm.trans e);(rw [h] at e;cases e;have:=V;omega)
           refine E.out _ _ ?_ (fun m => ?_)
           ·exact m.grown am m.size (fun q e => U.lt q e)
           clear E K;(try simp only [pS,pB,pZ,pC]);obtain ⟨ce,cb,rfl,_⟩:=J.src.slice;refine rd 11 (some 90) rfl fun K E => ?_;go_simp;(refine (bc.out _ m).mono ?_;rintro e a9 ⟨bz,rfl,Q,R⟩;obtain ⟨bx,b0,rfl,_⟩:=Q.slice);refine E.out _ _ (m.trans (R.mono m.size)) fun m => ?_;clear E K;(try simp only [pS,pB,pZ,pC]);have C:=C.keep R;have J:=J.below R;have M:=C.lt;refine rd 12 (some 91) rfl fun K E => ?_;refine Zb2 _ _ rfl wa.heap.size _ ta.parts rfl J _ tb.parts rfl Q (by have:=ab;simp at this ⊢;omega) m.size ?_;intro aa a0 N Y al;have Q:=True.intro;have C:=C.grown Y (fun e => x _ e.symm rfl);have x:∀ q,aa.ownBlock = some q -> q ≠ H:=fun q e => by rcases al with h | h;exact x q (h.symm.trans e);(rw [h] at e;cases e;have:=M;omega)
           refine E.out _ _ ?_ (fun m => ?_)
           ·exact m.grown Y m.size (fun q e => J.lt q e)
           clear E K;(try simp only [pS,pB,pZ,pC]);rw [<- bl.out] at N;obtain ⟨bs,bq,rfl,_⟩:=N.src.slice;refine tq 13 92 rfl ?_;have X:wa.heap.size <= H:=by omega
           obtain ⟨FF,OO,SS⟩:=Zcp m C X N (fun e => x _ e rfl);refine rd 15 none rfl fun K E => ?_;refine Zbq C _ _ rfl rfl rfl ?_ rfl;simp only [Act.put];refine E.out _ _ ?_ (fun m => ?_)
           ·exact SS
           clear E K;refine dn ?_;refine ⟨?_,rfl⟩;go_wp2_with fail;go_meet;exact ⟨_,_,rfl,FF,OO,SS⟩
         ·skip;have a6:=m.size;obtain ⟨H,L⟩:∃ z,wd.heap.size = z:=⟨_,rfl⟩;obtain ⟨b7,ci⟩:∃ z,wd.alloc (O #[Z G 0,Z G 0,I none 0 0,I none 0 0] 46) = z:=⟨_,rfl⟩;have f5:Bl wd b7:=by rw [<- ci];exact Zab _ _
          have C:Blk b7 H 46 #[Z G 0,Z G 0,I none 0 0,I none 0 0]:=by rw [<- ci,<- L];exact Blk.new _ _ _
          go_simp;(try rw [ci]);(try rw [L]);refine E.out _ _ (m.trans (f5.mono m.size)) fun m => ?_;clear E K;(try simp only [pS,pB,pZ,pC]);have bn:=C.lt;refine rd2 0 (some 79) 5 (some 84) (by kernel_rfl) rfl rfl (fun K E => ?_) fun K E => ?_
          ·skip;have bf:=m.size;have bn:=C.lt;obtain ⟨af,ad⟩:∃ z,b7.heap.size = z:=⟨_,rfl⟩;obtain ⟨fe,ca⟩:∃ z,b7.alloc (O #[] 46) = z:=⟨_,rfl⟩;have d3:Bl b7 fe:=by rw [<- ca];exact Zab _ _
           have C:=C.keep d3;have U:Zcm w B fe wa.heap.size (I (some ⟨af,0,none⟩) 0 0) (([]:List F).flatMap F.cells):=by rw [<- ca,<- ad];exact Zgx bf
           have x:∀ q,(Value.slice (some ⟨af,0,none⟩) 0 0).ownBlock = some q -> q ≠ H:=fun q e => by have e2:af = q:=Option.some.inj e;omega
           go_simp;(try rw [ca]);(try rw [ad]);refine E.out _ _ (m.trans (d3.mono m.size)) fun m => ?_;clear E K;(try simp only [pS,pB,pZ,pC]);refine rd 5 (some 84) rfl fun K E => ?_;go_simp;(refine (ej.out _ m).mono ?_;rintro e a5 ⟨es,rfl,T,a8⟩;obtain ⟨e5,ex,rfl,_⟩:=T.slice);refine E.out _ _ (m.trans (a8.mono m.size)) fun m => ?_;clear E K;(try simp only [pS,pB,pZ,pC]);have C:=C.keep a8;have U:=U.below a8;have V:=C.lt;refine rd 6 (some 85) rfl fun K E => ?_;refine Zb2 _ _ rfl wa.heap.size _ [] rfl U _ ta.parts rfl T (by have:=ab;simp at this ⊢;omega) m.size ?_;intro an bg J am bh;have T:=True.intro;have C:=C.grown am (fun e => x _ e.symm rfl);have x:∀ q,an.ownBlock = some q -> q ≠ H:=fun q e => by rcases bh with h | h;exact x q (h.symm.trans e);(rw [h] at e;cases e;have:=V;omega)
           refine E.out _ _ ?_ (fun m => ?_)
           ·exact m.grown am m.size (fun q e => U.lt q e)
           clear E K;(try simp only [pS,pB,pZ,pC]);obtain ⟨ce,cb,rfl,_⟩:=J.src.slice;refine rd 11 (some 90) rfl fun K E => ?_;go_simp;(refine (bc.out _ m).mono ?_;rintro e a9 ⟨bz,rfl,Q,R⟩;obtain ⟨bx,b0,rfl,_⟩:=Q.slice);refine E.out _ _ (m.trans (R.mono m.size)) fun m => ?_;clear E K;(try simp only [pS,pB,pZ,pC]);have C:=C.keep R;have J:=J.below R;have M:=C.lt;refine rd 12 (some 91) rfl fun K E => ?_;refine Zb2 _ _ rfl wa.heap.size _ ta.parts rfl J _ tb.parts rfl Q (by have:=ab;simp at this ⊢;omega) m.size ?_;intro aa a0 N Y al;have Q:=True.intro;have C:=C.grown Y (fun e => x _ e.symm rfl);have x:∀ q,aa.ownBlock = some q -> q ≠ H:=fun q e => by rcases al with h | h;exact x q (h.symm.trans e);(rw [h] at e;cases e;have:=M;omega)
           refine E.out _ _ ?_ (fun m => ?_)
           ·exact m.grown Y m.size (fun q e => J.lt q e)
           clear E K;(try simp only [pS,pB,pZ,pC]);rw [<- bl.out] at N;obtain ⟨bs,bq,rfl,_⟩:=N.src.slice;refine tq 13 92 rfl ?_;have X:wa.heap.size <= H:=by omega
           obtain ⟨FF,OO,SS⟩:=Zcp m C X N (fun e => x _ e rfl);refine rd 15 none rfl fun K E => ?_;refine Zbq C _ _ rfl rfl rfl ?_ rfl;simp only [Act.put];refine E.out _ _ ?_ (fun m => ?_)
           ·exact SS
           clear E K;refine dn ?_;refine ⟨?_,rfl⟩;go_wp2_with fail;go_meet;exact ⟨_,_,rfl,FF,OO,SS⟩
          ·skip;go_simp;(refine (ej.out _ m).mono ?_;rintro e a5 ⟨es,rfl,T,a8⟩;obtain ⟨e5,ex,rfl,_⟩:=T.slice);refine E.out _ _ (m.trans (a8.mono m.size)) fun m => ?_;clear E K;(try simp only [pS,pB,pZ,pC]);have C:=C.keep a8;have bf:=m.size;have bn:=C.lt;obtain ⟨af,ad⟩:∃ z,a5.heap.size = z:=⟨_,rfl⟩;obtain ⟨e8,cd⟩:∃ z,a5.alloc (O #[] 46) = z:=⟨_,rfl⟩;have b9:Bl a5 e8:=by rw [<- cd];exact Zab _ _
           have C:=C.keep b9;have T:=T.below b9;have U:Zcm w B e8 wa.heap.size (I (some ⟨af,0,none⟩) 0 0) (([]:List F).flatMap F.cells):=by rw [<- cd,<- ad];exact Zgx bf
           have x:∀ q,(Value.slice (some ⟨af,0,none⟩) 0 0).ownBlock = some q -> q ≠ H:=fun q e => by have e2:af = q:=Option.some.inj e;omega
           refine rd 0 (some 79) rfl fun K E => ?_;go_simp;(try rw [cd]);(try rw [ad]);refine E.out _ _ (m.trans (b9.mono m.size)) fun m => ?_;clear E K;(try simp only [pS,pB,pZ,pC]);have V:=C.lt;refine rd 6 (some 85) rfl fun K E => ?_;refine Zb2 _ _ rfl wa.heap.size _ [] rfl U _ ta.parts rfl T (by have:=ab;simp at this ⊢;omega) m.size ?_;intro an bg J am bh;have T:=True.intro;have C:=C.grown am (fun e => x _ e.symm rfl);have x:∀ q,an.ownBlock = some q -> q ≠ H:=fun q e => by rcases bh with h | h;exact x q (h.symm.trans e);(rw [h] at e;cases e;have:=V;omega)
           refine E.out _ _ ?_ (fun m => ?_)
           ·exact m.grown am m.size (fun q e => U.lt q e)
           clear E K;(try simp only [pS,pB,pZ,pC]);obtain ⟨ce,cb,rfl,_⟩:=J.src.slice;refine rd 11 (some 90) rfl fun K E => ?_;go_simp;(refine (bc.out _ m).mono ?_;rintro e a9 ⟨bz,rfl,Q,R⟩;obtain ⟨bx,b0,rfl,_⟩:=Q.slice);refine E.out _ _ (m.trans (R.mono m.size)) fun m => ?_;clear E K;(try simp only [pS,pB,pZ,pC]);have C:=C.keep R;have J:=J.below R;have M:=C.lt;refine rd 12 (some 91) rfl fun K E => ?_;refine Zb2 _ _ rfl wa.heap.size _ ta.parts rfl J _ tb.parts rfl Q (by have:=ab;simp at this ⊢;omega) m.size ?_;intro aa a0 N Y al;have Q:=True.intro;have C:=C.grown Y (fun e => x _ e.symm rfl);have x:∀ q,aa.ownBlock = some q -> q ≠ H:=fun q e => by rcases al with h | h;exact x q (h.symm.trans e);(rw [h] at e;cases e;have:=M;omega)
           refine E.out _ _ ?_ (fun m => ?_)
           ·exact m.grown Y m.size (fun q e => J.lt q e)
           clear E K;(try simp only [pS,pB,pZ,pC]);rw [<- bl.out] at N;obtain ⟨bs,bq,rfl,_⟩:=N.src.slice;refine tq 13 92 rfl ?_;have X:wa.heap.size <= H:=by omega
           obtain ⟨FF,OO,SS⟩:=Zcp m C X N (fun e => x _ e rfl);refine rd 15 none rfl fun K E => ?_;refine Zbq C _ _ rfl rfl rfl ?_ rfl;simp only [Act.put];refine E.out _ _ ?_ (fun m => ?_)
           ·exact SS
           clear E K;refine dn ?_;refine ⟨?_,rfl⟩;go_wp2_with fail;go_meet;exact ⟨_,_,rfl,FF,OO,SS⟩
        case rest =>
         obtain ⟨g,kv,rfl,hf,ho,ey⟩:=hcut;obtain ⟨wx,rfl⟩:∃ z:World,z = wc:=⟨_,rfl⟩;subst gb;have e9:=be.trans (ey.mono be.size);have il:=av.size;obtain ⟨Ak,ck,rfl,_⟩:=ho.src.slice;have HV:=Zfa wx wx.heap.size (ag _) ⟨_,_,_,_,Zgp ta tb,Ydz ho (Below.mono e9 bk) (aj bk e9.size)⟩ b6.out;dsimp only at HV;have HV:=ae HV;have gl:=bo.lt;have O1:=bo.below ey;have Q1:=Zaa av ey av.size;have M1:=aq.below ey;have ht:=ae ho;have jr:=hf.c4;generalize hkl:(ta.parts ++ tb.parts).length = kl at *;clear ho bo av aq hkl y0 y1 y2 y3 k0 k1 k2 k3;go_wp2_with fail;refine HV.out.mono ?_;rintro e w5 ⟨rfl,k5⟩;have ju:=(hf.keep k5).c4;have Z5:=Blk.new w5 46 #[Z G 4,Z G 0,I none 0 0,I Ak kl ck];have K6:=Zab w5 (O #[Z G 4,Z G 0,I none 0 0,I Ak kl ck] 46);have O6:=(O1.below k5).below K6;have Q6:=Zaa (Zaa Q1 k5 Q1.size) K6 (aj Q1.size k5.size);have M6:=(M1.below k5).below K6;have P6:=ht.out.below (k5.trans (K6.mono k5.size));have A6:=ae (Zdz.mono (Ydy P6) il);have hs:∀ i,(Value.slice h9 lc.length h5).ownBlock = some i -> (Value.slice Ak kl ck).ownBlock ≠ some i:=fun i e1 e2 => by
          have:=(gl i e1).2;have:=P6.lt i e2;omega
         have g7:=P6.low;have g3:lc.length + 1 <= 1000000:=by have:=hv;omega
         clear hf jr O1 Q1 M1 ht P6;go_wp2_with (at_builtin;refine Ztd rfl _ _ rfl w1.heap.size _ lc rfl O6 _ rfl Z5 A6.out hs ⟨_,_,_,rfl⟩ g7 g3 Q6.size ?_;intro v7 w7 g6 gz h8);rw [<- ev.out] at g6;have Q7:=Q6.grown gz Q6.size (fun g e => (O6.lt g e).1);have M7:=M6.grown gz eg;have jq:=M6.1;go_roundw
         case rel =>
          refine ⟨q + 1,by go_num,by omega,g6,Q7,M7,fun g e => ?_⟩;rcases h8 with h | h
          ·exact eg g (h.symm.trans e)
          ·rw [h] at e;cases e;exact .inr jq
         case measure => simp [intOf];omega
       ·obtain rfl:q = tp.length:=by omega
        rw [df,<- d7.out] at bo;have ib:=ae bo;clear bo;go_wp2_with fail;go_roundw
        case rel => exact ⟨j + 1,by go_num,by omega,ib.out,av,aq,eg⟩
        case measure => simp [intOf];omega
     ·obtain rfl:j = la.length:=by omega
      rw [df,<- i0.out] at b2;have ii:=ae b2;clear b2;go_wp2_with fail;go_roundw
      case rel => exact ⟨k + 1,by go_num,by omega,ii.out,fm⟩
      case measure => simp [intOf];omega
   ·obtain rfl:k = yt.refs.length:=by omega
    rw [Zvs yt AL h0] at cr;obtain ⟨n7,jl,o7,a7⟩:=cr;have g2:=ae (show Zh0 w B wr w.heap.size _ (Zno yt AL) from ⟨n7,jl,Zkc o7 hg,a7.step (fun a b c d f h hr => ⟨h.mono hg,hr⟩)⟩);clear o7 a7;go_wp2_with fail;exact bodyPost_ret (results_tmp2 rfl _ _ _) rfl ⟨_,rfl,g2.out,e7⟩
def Zi7 (W:World) (base:Nat) (v:Value) (n:Nat):Prop:=∃ xs,W.ownsRow base 46 4 v n xs /\ ∀ x ∈ xs,x.oneCell' = true
def Ycx (W:World) (u:Value) (n:Nat):Prop :=
 (u = I none 0 0 /\ n = 0) ∨ ∃ (b o c:Nat) (cs:List Value),u = I (some ⟨b,o,none⟩) n c /\ cs.length = n * 4 /\ b < W.heap.size /\ (∀ x ∈ cs,x.oneCell' = true) /\ ∀ (j:Nat) (x:Value),cs[j]? = some x -> W.cell? ⟨b,o + j,none⟩ = some x
theorem Zi7.nil (W:World) (base:Nat):Zi7 W base (I none 0 0) 0:=⟨[],d8 _ _ _ _,by simp⟩
theorem Zi7.lt {base n:Nat} {v:Value} (h:Zi7 W base v n):∀ k,v.ownBlock = some k -> base <= k:=by
 obtain ⟨xs,h,_⟩:=h;exact fun k a => (h.lt k a).1
theorem Zi7.mono {base n:Nat} {v:Value} (h:Zi7 W base v n) (a:base' <= base):Zi7 W base' v n:=by
 obtain ⟨xs,h,h1⟩:=h;exact ⟨xs,Zkc h a,h1⟩
theorem Zi7.below {base n:Nat} {v:Value} (h:Zi7 W base v n) (a:Bl W W'):Zi7 W' base v n:=by
 obtain ⟨xs,h,h1⟩:=h;refine ⟨xs,h.kept (Zvu a) ?_,h1⟩;rcases h.2 with ⟨e,_⟩ | ⟨k,c,b,e,_⟩
 ·subst e;exact .inl rfl
 ·subst e;exact .inr (by simp [Value.ownBlock])
theorem Zi7.slice {base n:Nat} {v:Value} (h:Zi7 W base v n):∃ A c,v = I A n c:=by
 obtain ⟨xs,⟨h1,b⟩,_⟩:=h;rcases b with ⟨rfl,rfl⟩ | ⟨g,cap,a,rfl,_⟩
 ·exact ⟨_,_,rfl⟩
 ·exact ⟨_,_,rfl⟩
theorem Rep.nil_cap {n c:Nat} (h:Rep W B (I none n c) (.s sz ds)):c = 0:=by
 cases h with
 | nil => rfl
theorem Rep.blk_lt {b o n c:Nat} (h:Rep W B (I (some ⟨b,o,none⟩) n c) (.s sz ds)):b < B:=by
 cases h with
 | s hc hd hn hb cells sub => exact hb
theorem Rep.srcN (h:Rep W B u (.s 4 (l.flatMap F.cells))) (e:B <= W.heap.size):Ycx W u l.length:=by
 have j:=Zai (l:=l) (f:=F.cells) (k:=4) (fun x _ => x.cells_length);obtain ⟨A,n,c,rfl,hn,hl,hc⟩:=h.slice;obtain rfl:n = l.length:=by omega
 by_cases i:0 < l.length
 ·obtain ⟨b,o,cs,rfl,g,hr,a⟩:=hc i;exact .inr ⟨b,o,c,cs,rfl,hr.1.trans hl,ah g e,Zlv hr,a⟩
 ·have m:l.length = 0:=by omega
  rw [m] at hn h ⊢;cases A with
  | none =>
   have d:c = 0:=Rep.nil_cap h;rw [d];exact .inl ⟨rfl,rfl⟩
  | some ad =>
   obtain ⟨b,o,rfl⟩:=h.spot ad rfl;refine .inr ⟨b,o,c,[],rfl,by simp,ah (Rep.blk_lt h) e,by simp,by simp⟩
theorem Zco.one {w0 W:World} {B base:Nat} {r:Option Nat}:∀ {xs:List Value} {l:List F},Zco w0 B W base r xs l -> ∀ x ∈ xs,x.oneCell' = true
 | [],[],_,x,e => by simp at e
 | a :: b :: c :: d :: xs,f :: l,h,x,e => by
  obtain ⟨m,k,g,o,i,j,rfl,rfl,rfl,rfl⟩:=h.1.1.form;simp only [dt] at e;rcases e with rfl | rfl | rfl | rfl | e
  ·rfl
  ·rfl
  ·rfl
  ·rfl
  ·exact Zco.one h.2 x e
 | [],_ :: _,h,_,_ => h.elim
 | [_],_,h,_,_ => by cases ‹List F› <;> exact h.elim
 | [_,_],_,h,_,_ => by cases ‹List F› <;> exact h.elim
 | [_,_,_],_,h,_,_ => by cases ‹List F› <;> exact h.elim
 | _ :: _ :: _ :: _ :: _,[],h,_,_ => h.elim
theorem Zvv {base n:Nat} {v:Value} {xs:List Value} (h1:W.ownsRow base 46 4 v n xs) (f:∀ x ∈ xs,x.oneCell' = true):Ycx W v n:=by
 rcases h1.2 with ⟨rfl,hn⟩ | ⟨g,cap,d,rfl,k,m,i,b,c,o⟩
 ·exact .inl ⟨rfl,hn⟩
 ·refine .inr ⟨g,0,cap,xs,rfl,h1.1,(h1.lt g rfl).2,f,fun j u a => ?_⟩;have e:j < xs.length:=by
   rcases ir j xs.length with h | h
   ·exact h
   ·rw [gj h] at a;cases a
  rw [cz,h1.cellAt j (by rw [<- h1.1];exact e),a]
theorem Zh0.srcN {base:Nat} {v:Value} (h:Zh0 w0 B W base v l):Ycx W v l.length:=by
 obtain ⟨n,xs,h1,a⟩:=h;have:=a.length;have:=h1.1;obtain rfl:n = l.length:=by omega
 exact Zvv h1 a.one
theorem Zcm.srcN {base:Nat} {v:Value} (h:Zcm w0 B W base v (l.flatMap F.cells)):Ycx W v l.length:=(Zh0.of_ownR h).srcN
theorem Zi7.srcN {base n:Nat} {v:Value} (h:Zi7 W base v n):Ycx W v n:=by
 obtain ⟨xs,h1,a⟩:=h;exact Zvv h1 a
theorem Ycx.slice {n:Nat} (h:Ycx W u n):∃ A c,u = I A n c:=by
 rcases h with ⟨rfl,rfl⟩ | ⟨b,o,c,cs,rfl,_⟩
 ·exact ⟨_,_,rfl⟩
 ·exact ⟨_,_,rfl⟩
theorem Yd0 (w:World) (ty:TypeId) (base:Nat) (v:Value) (n:Nat) (g:Zi7 w base v n) (src:Value) (m:Nat) (hr:Ycx w src m) (hl:n + m <= 1000000) (d:base <= w.heap.size) :
  ∃ i f,(Builtin.append_ #[39,39] ty #[v,src]).run prog w = .ok i f /\ Zi7 f base i (n + m) /\ w.grownBy f v.ownBlock:=by
 obtain ⟨xs,h1,h⟩:=g;obtain ⟨i0,hi,q,k,p⟩:=info_parts info46;rcases hr with ⟨rfl,rfl⟩ | ⟨b,o,c,cs,rfl,r,s,a,e⟩
 ·exact ⟨v,w,run_append_owned_none (P:=prog) (w:=w) base 39 ty 46 i0 4 underlying39 hi v _ _ h1,⟨xs,h1,h⟩,World.grownBy.refl w _⟩
 ·obtain ⟨i,f,y,z,A,_,_⟩:=run_append_own_at (P:=prog) w base 39 ty 46 i0 _ 4 64 underlying39 hi q k p rfl (by decide) v _ _ h1 ⟨b,o,none⟩ m c cs r
   (fun j u t => by
    rw [Addr.add_lit];exact e j u t) a (by unfold maxLen;omega) (by omega) d
  exact ⟨i,f,y,⟨_,z,fun x C => (List.mem_append.1 C).elim (h x) (a x)⟩,A⟩
theorem Ze5 {ops:Array Oper} {rest:List Oper} {o:Oper} {a:Act} {Q:Exit -> Act -> World -> Prop} (f:o.guard = none) (s x:Operand)
  (ho:o.op = .call {callee:=.builtin .append,args:=#[s,x],argTypes:=#[39,39] })
  (base:Nat) (v:Value) (n:Nat) (hs:a.eval s = v) (d:Zi7 w base v n) (src:Value) (m:Nat) (g:a.eval x = src) (hr:Ycx w src m) (hl:n + m <= 1000000) (b:base <= w.heap.size)
  (h:∀ e c,Zi7 c base e (n + m) -> w.grownBy c v.ownBlock -> wpList prog ops Q rest (a.put o.dst e) c):wpList prog ops Q (o :: rest) a w :=
 wpList_plain f fun _ i =>
  let ⟨e,c,hrun,h2,h3⟩:=Yd0 w o.type base v n d src m hr hl b
  Zct s x 39 v _ e ho hs g hrun (i _ _ (h e c h2 h3))
theorem Ztf (l:List Cl) (a:Zs2 l) (f:Zlw l) (i:Nat) (hi:i < l.length) (v:Value) (w:World) (B:Nat) (d:B <= w.heap.size) (hr:Rep w B v (.s 5 (l.flatMap Cl.cells))) :
  Calls prog 203 #[v,Z G (i:Int)] w fun e h => ∃ u,e = .returned (.tuple #[u,Z G 0]) /\ Ycx h u ((Zdg l (i + 1)).getD i []).length /\ Bl w h:=by
 have m:=ae (Zq1 l a i hi v w B d hr);have r:=ae (fun (W:World) (k:Bl w W) => Zte l a f (i + 1) i (by omega) (by omega) v W B (aj d k.size) (hr.keep (fun p o => k.cell (ah o d)) (ag _)));obtain ⟨A,c,rfl,hc,_⟩:=hr.claims;clear hr a f;go_enter func203,ntmps203;go_wp2_with fail;refine m.out.mono ?_;rintro e t ⟨rfl,b⟩;go_wp2_with fail;refine (r.out _ b).mono ?_;rintro e w2 ⟨u,rfl,j,g⟩;have q:=ae j.srcN;clear j;go_wp2_with fail;exact bodyPost_ret (results_tmp2 rfl _ _ _) rfl ⟨_,rfl,q.out,Zaa b g b.size⟩
theorem Zre:∀ (n:Nat) (l:List F),Zbr l <= n -> n <= 100000 -> ∀ (v:Value) (w:World) (B:Nat),B <= w.heap.size -> Rep w B v (.s 4 (l.flatMap F.cells)) ->
  Calls prog 211 #[v] w fun e w' => ∃ u,e = .returned u /\ Zi7 w' w.heap.size u (l.flatMap F.tops).length /\ Bl w w':=by
 intro n;induction n with
 | zero =>
  intro l hl hn v w B J hr;have am:l = []:=by
   cases l with
   | nil => rfl
   | cons a l => have:=a.size_pos;simp only [Zbr] at hl;omega
  subst am;obtain ⟨A,c,rfl,hc,_⟩:=hr.formulas;clear hr;go_enter func211,ntmps211;go_wp2_with fail;go_loopw [3,8] (fun u i wr => u = I none 0 0 /\ i = Z G 0 /\ wr = w) (fun _ _ _ => 0)
  case atStart => exact ⟨rfl,rfl,rfl⟩
  case round =>
   obtain ⟨rfl,rfl,rfl⟩:=hrel;go_wp2_with fail;go_ret;exact ⟨_,rfl,Zi7.nil _ _,ap _ _⟩
 | succ n ih =>
  intro l hl hn v w B J hr;have hT:(l.flatMap F.tops).length <= 100000:=by
   have h1:=Zop l;rw [Zoo] at h1;omega
  obtain ⟨A,c,rfl,hc,C⟩:=hr.formulas;have aq:l.length <= 100000:=by
   have:=kids_le l;have h2:=Zeu l;rw [Zim,Zal] at h2;omega
  have V:=ae C;have ad:=ae ih;have HT:=ae (fun k (hk:k < l.length) => Ze4 l k hk);have HL:=ae (fun k (hk:k < l.length) => Zeh l k hk);have HS:=ae (fun (f:F) (h:f ∈ l) => Zll h);clear hr C ih;go_enter func211,ntmps211;go_wp2_with fail;go_loopw [3,8] (fun u i wr => ∃ k:Nat,i = Z G (k:Int) /\ k <= l.length /\ Zi7 wr w.heap.size u ((l.take k).flatMap F.tops).length /\ Bl w wr) (fun _ i _ => l.length - (intOf i).toNat)
  case atStart => exact ⟨0,rfl,bi _,Zi7.nil _ _,ap _ _⟩
  case round =>
   obtain ⟨k,rfl,hk,q,j⟩:=hrel;by_cases H:k < l.length
   ·obtain ⟨b,o,y,rfl,hb,hy,c0,c1,c2,c3⟩:=V.out k H;have L:b < w.heap.size:=ah hb J;have d0:=(j.cell (p:=⟨b,o + k * 4,none⟩) L).trans c0;have d1:=(j.cell (p:=⟨b,o + k * 4 + 1,none⟩) L).trans c1;have d2:=(j.cell (p:=⟨b,o + k * 4 + 2,none⟩) L).trans c2;have d3:=(j.cell (p:=⟨b,o + k * 4 + 3,none⟩) L).trans c3;have al:=HS.out _ (aw H);have x:=congrArg List.length (HT.out k H);have U:=HL.out k H;rw [<- hy] at al x U;rw [ai] at x;have K:=ae x;have M:=Zab wr (O #[y.a,y.b,y.c,y.d] 46);have g:=j.trans (M.mono j.size);have X0:=Blk.new wr 46 #[y.a,y.b,y.c,y.d];have O0:=q.below M;have Y:∀ p:Addr,p.block < B -> (wr.alloc (O #[y.a,y.b,y.c,y.d] 46)).cell? p = w.cell? p:=fun p hp => g.cell (ah hp J);have N:=g.size;by_cases h5:y.t.op = 5
    ·rw [F.tops_or h5] at K U;have HI:=ae (ad.out y.t.kids (by have:=y.t.size_eq';omega) (by omega) y.d _ B (aj J g.size) (y.parts.2.2.2.keep Y (ag _)));obtain ⟨A1,n1,q1,A2,n2,q2,P,X,R,e4⟩:=Zaq y.h;rw [h5] at P;rw [P,X,R,e4] at X0 O0 g HI N;rw [P] at d0;rw [X] at d1;rw [R] at d2;rw [e4] at d3;clear P X R e4 q x c0 c1 c2 c3 Y hy h5 M;generalize y.t.n = nn at *;generalize (y.t.kids.flatMap F.tops).length = m at *;generalize ((l.take k).flatMap F.tops).length = nk at *;have an:=X0.c4;go_wp2_with fail;generalize wr.alloc _=wa at *;refine HI.out.mono ?_;rintro e w2 ⟨v2,rfl,af,aa⟩;have z:=g.trans (aa.mono g.size);go_wp2_with (at_builtin;refine Ze5 rfl _ _ rfl w.heap.size _ nk rfl (O0.below aa) _ m rfl af.srcN (by omega) z.size ?_;intro v3 w3 r Q);rw [<- K.out] at r;have S:=z.grown Q z.size (O0.lt);go_roundw
     case rel => exact ⟨k + 1,by go_num,by omega,r,S⟩
     case measure => simp [intOf];omega
    ·rw [F.tops_no h5,ei] at K U;have av:(y.t.op == 5) = false:=by simpa using h5
     have S0:=(Zf8 (w0:=w) (base:=0) (W:=wr.alloc (O #[y.a,y.b,y.c,y.d] 46)) (t:=y.t) (bi _) y.h).srcN;rw [ei,ax] at S0;have T:=Zab (wr.alloc (O #[y.a,y.b,y.c,y.d] 46)) (O #[y.a,y.b,y.c,y.d] 46);have O1:=O0.below T;have E:=g.trans (T.mono g.size);obtain ⟨A1,n1,q1,A2,n2,q2,P,X,R,e4⟩:=Zaq y.h;rw [P,X,R,e4] at X0 S0 O1 E T;rw [P] at d0;rw [X] at d1;rw [R] at d2;rw [e4] at d3;clear P X R e4 q x c0 c1 c2 c3 Y hy h5 M g O0 N;generalize y.t.n = nn at *;generalize y.t.op = op at *;generalize ((l.take k).flatMap F.tops).length = nk at *;have an:=X0.c4;have ab:=E.size;go_wp2_with (at_builtin;refine Ze5 rfl _ _ rfl w.heap.size _ nk rfl O1 _ 1 rfl S0 (by omega) ab ?_;intro v3 w3 r Q);rw [<- K.out] at r;have S:=E.grown Q ab (O1.lt);go_roundw
     case rel => exact ⟨k + 1,by go_num,by omega,r,S⟩
     case measure => simp [intOf];omega
   ·obtain rfl:k = l.length:=by omega
    rw [df] at q;have HO:=ae q;clear q;go_wp2_with fail;go_ret;exact ⟨_,rfl,HO.out,j⟩
end Go.Proofs.YtglkadmfjaecmaaGreatDoor
