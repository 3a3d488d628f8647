/- The alternatives of a claim, in the program. claims.Alts: the alternatives of a claim, by a map of those of the claims ahead. -/
import Derived.Test.YtbeaijjaecaidaaGreatDoorM07
import Derived.Test.YtbeaijjaecaidaaGreatDoorM05
import Derived.Test.YtbeaijjaecaidaaGreatDoorM06
import Derived.Test.YtbeaijjaecaidaaGreatDoorM01
import Derived.Maps.OwnSet
import Derived.BigQuiet
set_option maxRecDepth 100000
set_option maxHeartbeats 16000000
namespace Go.Proofs.YtbeaijjaecaidaaGreatDoor
open Go.RowKit Go.Shelf
attribute [local go_sem] Oper.semAt_some
def tokR (v:Value):Option (DataW Value × List MemPlace):=some (.held v,[])
theorem belowG {w w':World} (hb:Below w.heap.size w w'):w.grownBy w' none:=⟨hb.os,hb.tape,hb.output,hb.size,fun i hi _ => hb.block i hi⟩
theorem zero_forms (w:World):(zeroValue 32).run Tryz.prog w = .ok (.slice none 0 0) w:=by
 go_simp
theorem wpList_lookup_tok {w:World} {ops:Array Oper} {rest:List Oper} {o:Oper} {a:Act} {Q:Exit → Act → World → Prop} (hg:o.guard = none) (m x:Operand) (hop:o.op = Op.lookup 228 m x true)
  (b n:Nat) (D:DataW Value) (hm:a.eval m = .map (some b)) (hown:w.ownsMap Tryz.prog 3 tokR b n D) (r:Int) (hr0:0 ≤ r) (hr1:r ≤ 1000000) (hx:a.eval x = .int .i64 r) (u:Value) (hhas:Maps.has D (.int .i64 r) = true) (hat:D.atKey (.int .i64 r) (.held (.slice none 0 0)) = .held u)
  (hK:wpList Tryz.prog ops Q rest (a.put o.dst (.tuple #[u,.bool true])) w):wpList Tryz.prog ops Q (o :: rest) a w:=by
 refine wpList_lookup_own_ok w hg m x _ hop 3 32 (Maps.int_keyed Tryz.underlying3) Tryz.underlying228 tokR (zero_forms w) (.held (.slice none 0 0)) [] rfl b n D hm hown _ (.int .i64 r) hx (Maps.keyOf_int_mk Tryz.underlying3 (WalkArith.wf_i64 ⟨by omega,by omega⟩)) (fun v ps hv => ?_)
 rw [hat] at hv;cases hv
 rw [hhas];exact hK
theorem alternatives_any (w:World) (x:CNode w w.heap.size) (A:List (List F)) (hok:AltOk x.t A) (hts:x.t.body.size ≤ 1000000) (hrl:x.t.refs.length ≤ 8)
  (mb n:Nat) (Dm:DataW Value) (hmb:w.ownsMap Tryz.prog 3 tokR mb n Dm)
  (hAl:∀ j,(A.getD j []).length ≤ 64) (hlr0:∀ k (h:k < x.t.refs.length),0 ≤ x.t.refs[k] ∧ x.t.refs[k] ≤ 1000000)
  (hlk:∀ r ∈ x.t.refs,∃ u,Maps.has Dm (.int .i64 r) = true ∧ Dm.atKey (.int .i64 r) (.held (.slice none 0 0)) = .held u ∧ Rep w w.heap.size u (.s 4 ((A.getD r.toNat []).flatMap F.cells))) :
  Calls Tryz.prog 194 #[.agg #[x.r,x.a,x.b,x.c,x.d],.map (some mb)] w fun e w' => ∃ u,e = .returned (.tuple #[u,.bool true]) ∧ Rep w' w'.heap.size u (.s 4 ((altF x.t A).flatMap F.cells)) ∧ Below w.heap.size w w':=by
 have b0:=(Blk.new w 169 #[x.r,x.a,x.b,x.c,x.d]).alloc (.cells #[.slice none 0 0] 32);have b1:=Blk.new (w.alloc (.cells #[x.r,x.a,x.b,x.c,x.d] 169)) 32 #[.slice none 0 0];rw [World.size_alloc] at b1;have b0c:=b0.c5;have b2:=Blk.new ((w.alloc (.cells #[x.r,x.a,x.b,x.c,x.d] 169)).alloc (.cells #[.slice none 0 0] 32)) 39 #[x.a,x.b,x.c,x.d];rw [World.size_alloc,World.size_alloc] at b2;have hB0:Below w.heap.size w (((w.alloc (.cells #[x.r,x.a,x.b,x.c,x.d] 169)).alloc (.cells #[.slice none 0 0] 32)).alloc (.cells #[x.a,x.b,x.c,x.d] 39)):=((below_new w _).alloc (by simp) _).alloc (by simp;omega) _
 have hsz:(((w.alloc (.cells #[x.r,x.a,x.b,x.c,x.d] 169)).alloc (.cells #[.slice none 0 0] 32)).alloc (.cells #[x.a,x.b,x.c,x.d] 39)).heap.size = w.heap.size + 1 + 1 + 1:=by simp
 refine (callsIn_wide (n:=5)).1 ?_
 refine callsIn_of_wp_marks Tryz.func194 rfl trivial ?_ rfl
 simp only [Tryz.ntmps194,List.size_toArray,List.length_cons,List.length_nil,Nat.reduceAdd,Nat.reduceSub,Array.replicate_succ,Array.replicate_zero,List.push_toArray,List.append_toArray,List.nil_append,List.cons_append];refine wpIn_wide.2 ?_
 go_wp2_with (go_at_call 204;refine (tops_any _ _ _ _ _).mono ?_;rintro e w' ⟨rfl,rfl⟩)
 have b0:=b0.alloc (.cells #[x.a,x.b,x.c,x.d] 39);have b1:=b1.alloc (.cells #[x.a,x.b,x.c,x.d] 39);have hmW:=(((hmb.alloc (.cells #[x.r,x.a,x.b,x.c,x.d] 169)).alloc (.cells #[.slice none 0 0] 32)).alloc (.cells #[x.a,x.b,x.c,x.d] 39));generalize (((w.alloc (.cells #[x.r,x.a,x.b,x.c,x.d] 169)).alloc (.cells #[.slice none 0 0] 32)).alloc (.cells #[x.a,x.b,x.c,x.d] 39)) = wr at *;clear b0c;have hnode:∃ y:FNode w w.heap.size,y = x.body:=⟨_,rfl⟩;have hKB:∀ (W:World) (l:Nat) (o o':Obj),wr.heap.size ≤ l → W.heap[l]? = some o → o.isCells = false → o.isWalk = false → KeepT topT w.heap.size W (W.putObj l o'):=KeepT.put (by rw [hsz];omega)
 refine (wpIn_wide (n:=5)).1 ?_
 refine wpIn_rangeFunc_ownH rfl (by omega) (gf:=214) (lb:=#[.pointer (some ⟨w.heap.size + 1 + 1,0,none⟩)]) rfl trivial (enters_of Tryz.func214 (by kernel_rfl) rfl)
  (tops_stops (fun _ => True) (fun _ _ _ _ => trivial) (5 - 1) w w.heap.size (Nat.le_refl _) x.body trivial hts (w.heap.size + 1 + 1) _ b2 (KeepT.below hB0 (Nat.le_refl _))) KeepT.trans hKB (Below.refl _ _) (fun _ => rfl)
  (fun pre W => TopI w x (pre.map (fun y => y.1.t)) W ∧ Below w.heap.size w W ∧ w.heap.size + 1 + 1 ≤ W.heap.size)
  (fun _ _ _ => False)
  (OwnFrom.and (topI_own w x (fun (pre:List (PNode (fun _ => True) w w.heap.size)) => pre.map (fun y => y.1.t)) _) (OwnFrom.and (ownFrom_below (Nat.le_refl _) (by rw [hsz];omega)) (fun _ _ _ _ hs hg _ => Nat.le_trans hs hg.size)))
  (fun _ _ _ _ _ hs _ _ => hs)
  ⟨⟨_,b1,OwnR.nil _ _ _ _,b0⟩,hB0,by rw [hsz];omega⟩
  (fun y a' W => ∃ g,a' = { tmps:=#[.agg #[x.r,x.a,x.b,x.c,x.d],.map (some mb),.pointer (some ⟨w.heap.size,0,none⟩),undef,.slice none 0 0,.bool false,.pointer (some ⟨w.heap.size + 1,0,none⟩),.slice none 0 0,.pointer (some ⟨g,0,none⟩),undef,undef,undef,undef,undef,undef,undef,undef,undef,.pointer (some ⟨w.heap.size,1,none⟩),.agg #[x.a,x.b,x.c,x.d],.func (.func 214) #[] #[.pointer (some ⟨w.heap.size + 1 + 1,0,none⟩)],.agg #[y.1.a,y.1.b,y.1.c,y.1.d],undef,undef,undef,undef,undef,undef,undef,undef,undef,undef,undef,undef,undef,undef,undef,undef,undef,undef,undef,undef,undef,undef,undef,undef,undef,undef,undef,undef,undef,undef,undef,undef,undef,undef,undef,undef,undef,undef,undef,undef,undef,undef,undef,undef,undef,undef,undef,undef,undef,undef,undef,undef,undef,undef,undef,undef,undef,undef,undef,undef,undef,undef,undef,undef,undef,undef,undef,undef,undef,undef],defers:=[] } ∧ Blk W g 39 #[y.1.a,y.1.b,y.1.c,y.1.d] ∧ (∃ cs,Blk W (w.heap.size + 1) 32 cs) ∧ ∀ v,Blk W (w.heap.size + 1) 32 #[v] → v.ownBlock ≠ some g)
  (fun y a' _ X Y row hs hg hrow => by
   obtain ⟨g,e,h1,h2,h3⟩:=hs;obtain ⟨cs,h2⟩:=h2
   have hr:some (w.heap.size + 1) ≠ row:=fun e => by
    obtain ⟨_,o,ho,hoc⟩:=hrow _ e.symm;rw [show X.heap[w.heap.size + 1]? = _ from h2] at ho
    cases ho
    cases hoc
   exact ⟨g,e,blk_own g 39 (fun _:Unit => #[y.1.a,y.1.b,y.1.c,y.1.d]) () X Y row h1 hg (fun r e => (hrow r e).2),⟨cs,h2.grown hg hr⟩,fun v hv => h3 v ((hg.block _ h2.lt hr).symm.trans hv)⟩)
  ?assign ?body ?done ?stop
 case assign =>
  rintro l pre ⟨⟨ya,yb,yc,yd,yt,yh⟩,_⟩ W K ⟨hI,hB,hs⟩ hK
  have hK':=hK _ (W.alloc (.cells #[ya,yb,yc,yd] 39)) ((KeepsOthers.alloc _ _).from _) (KeepT.alloc W hB.size _) ⟨topI_own w x (fun (_:Unit) => pre.map (fun y => y.1.t)) 0 () W _ none hI (World.grownBy_alloc W _ none) (fun _ e => by cases e),hB.alloc hB.size _,by rw [World.size_alloc];omega⟩ ⟨W.heap.size,rfl,Blk.new _ _ _,⟨_,hI.choose_spec.1.alloc _⟩,fun v hv => by
   obtain ⟨v0,i1,i2,_⟩:=hI;have i3:=i1.alloc (.cells #[ya,yb,yc,yd] 39);unfold Blk at hv i3;rw [hv] at i3;cases i3
   intro e;have:=i2.low _ e;omega⟩
  obtain ⟨A1,n1,q1,A2,n2,q2,e1,e2,e3,e4⟩:=node_form yh;dsimp only at *;subst e1 e2 e3 e4;clear b0 b1 b2 hB0 hmW hsz hlk hmb hok hK hI hKB;have HK:=Lib.hid hK';clear hK'
  gi_wp2_with fail
  exact HK.out
 case body =>
  rintro k pre ⟨⟨ya,yb,yc,yd,yt,yh⟩,_⟩ a' W hlk hrec ⟨⟨v,hv,hR,hX⟩,hB,hs⟩ ⟨g,rfl,hG,_,hne⟩ hlt;have hne:=hne v hv;have hlt1:=hv.lt;obtain ⟨A0,c0,rfl,hc0⟩:=hR.src.slice;have hc:=hv.c1;have hYH:=Lib.hid yh;obtain ⟨A1,n1,q1,A2,n2,q2,e1,e2,e3,e4⟩:=node_form yh;dsimp only at *;subst e1 e2 e3 e4;clear b0 b1 b2 hB0 hmW hsz hlk hmb hok hKB
  have hpl:pre.length + 1 ≤ 1000000:=by
   have:=F.tops_le x.body.t;have h2:x.body.t.size ≤ 1000000:=hts;omega
  have hml:(pre.map (fun y => y.1.t)).length + 1 ≤ 1000000:=by rw [List.length_map];exact hpl
  generalize hl:pre.map (fun y => y.1.t) = l at *
  gi_wp2_with fail
  refine region_in (S:=(fun w' => Blk w' g 39 #[.int .i64 yt.op,.int .i64 yt.n,.slice A1 n1 q1,.slice A2 n2 q2])) (by kernel_rfl) (by kernel_rfl) ?_ (fun hHeld => ?_)
  ·first | done | ((try dsimp only);exact hG)
  have hc1:W.drew.cell? ⟨w.heap.size + 1,0,none⟩ = some (.slice A0 l.length c0):=hc.1;refine th 1 23 rfl (fun _ hSw => hSw.c4) ?_
  refine rd2 0 (some 22) 3 (some 25) (by kernel_rfl) rfl rfl (fun K hK => ?_) fun K hK => ?_
  ·skip
   go_simp;skip;refine hK.out _ _ (hHeld) fun hHeld => ?_
   clear hK K;(try simp only [pS,pB,pZ,pC]);refine tq 2 24 rfl ?_
   refine rd 3 (some 25) rfl fun K hK => ?_
   go_simp;skip;refine hK.out _ _ (hHeld.alloc _) fun hHeld => ?_
   clear hK K;(try simp only [pS,pB,pZ,pC]);have HZ:=(ownR_one (w0:=w) (B:=w.heap.size) (base:=0) (W:=W.drew) (t:=zF) (Nat.zero_le _) (zF_rep _ _)).src;have HR1:OwnR w w.heap.size (W.drew.alloc (.cells #[.int .i64 0,.int .i64 0,.slice none 0 0,.slice none 0 0] 39)) (w.heap.size + 1 + 1) (.slice A0 l.length c0) (l.flatMap F.cells):=OwnR.below (w:=W.drew) hR (below_new _ _);refine rd 4 (some 26) rfl fun K hK => ?_
   refine wp_appR _ _ rfl (w.heap.size + 1 + 1) _ l rfl HR1 _ [zF] rfl HZ (by simp;omega) (by simp;omega) ?_
   intro v2 W2 o2 g2 l2;refine hK.out _ _ ?_ (fun hHeld => ?_)
   ·exact (hHeld.grown g2 (fun e => hne e.symm))
   clear hK K
   have HB:Blk W2 (w.heap.size + 1) 32 #[.slice A0 l.length c0]:=((show Blk W.drew _ _ _ from hv).alloc _).grown g2 (fun e => by
    obtain ⟨_,cur,hB2⟩:=HR1.block e.symm;exact absurd ((show Blk W.drew _ _ _ from hv).alloc _) (fun h3 => (h3.ne hB2 (by decide)) rfl))
   have HKF:KeepF w.heap.size W W2:=((KeepF.refl _ W).drew.alloc (by simp;exact hB.size) _).grown HR1 g2 (by omega) (by simp;have:=hB.size;omega)
   obtain ⟨row,cap,rfl,hbr,⟨cur,hcur⟩,hcap,⟨p0,p1,p2,p3,⟨q0,z0⟩,⟨q1',z1⟩,⟨q2',z2⟩,q3',z3⟩,o3⟩:=o2.put hYH.out
   have hrg:row ≠ g:=by
    rintro rfl;rcases l2 with e | e
    ·exact hne e.symm
    ·have:=hG.lt
     simp [Value.ownBlock] at e;omega
   have hcb:=HB.c1;(try simp only [pS,pB,pZ,pC]);have hll:(l.length:Int) < (l.length:Int) + 1:=by omega
   refine tq 5 27 rfl ?_
   have hbx:w.heap.size + 1 ≠ row:=HB.ne hcur (by decide)
   have hgb:g ≠ w.heap.size + 1:=(hHeld.ne HB (by decide))
   have HX2:Blk W2 w.heap.size 169 #[x.r,x.a,x.b,x.c,x.d]:=((show Blk W.drew _ _ _ from hX).alloc _).grown g2 (fun e => by
    obtain ⟨_,cur,hB2⟩:=HR1.block e.symm;exact absurd ((show Blk W.drew _ _ _ from hX).alloc _) (fun h3 => (h3.ne hB2 (by decide)) rfl))
   have hxr:w.heap.size ≠ row:=HX2.ne hcur (by decide)
   have hS2:=g2.size;refine rd2 6 none 7 none (by kernel_rfl) rfl rfl (fun K hK => ?_) fun K hK => ?_
   ·skip
    have O4:OwnR w w.heap.size ((st4at W2 row (l.length * 4) (.int .i64 yt.op) (.int .i64 yt.n) (.slice A1 n1 q1) (.slice A2 n2 q2)).setCell ⟨w.heap.size + 1,0,none⟩ (.slice (some ⟨row,0,none⟩) (l.length + 1) cap)) (w.heap.size + 1 + 1) (.slice (some ⟨row,0,none⟩) (l.length + 1) cap) ((l ++ [yt]).flatMap F.cells):=o3.far (by simp [Value.ownBlock];omega) _
    have HB4:=(HB.far4at hbx (l.length * 4) (.int .i64 yt.op) (.int .i64 yt.n) (.slice A1 n1 q1) (.slice A2 n2 q2));have HX4:=((HX2.far4at hxr (l.length * 4) (.int .i64 yt.op) (.int .i64 yt.n) (.slice A1 n1 q1) (.slice A2 n2 q2))).far (p:=⟨w.heap.size + 1,0,none⟩) (by simp) (.slice (some ⟨row,0,none⟩) (l.length + 1) cap)
    have HK4:=(HKF.st4at hcur (by unfold topT;decide) (by omega) (l.length * 4) (.int .i64 yt.op) (.int .i64 yt.n) (.slice A1 n1 q1) (.slice A2 n2 q2)).set HB4 (by unfold topT;decide) (by omega) 0 (.slice (some ⟨row,0,none⟩) (l.length + 1) cap)
    have hcb4:=HB4.c1;have HT4:=Lib.hid (show TopI w x (l ++ [yt]) _ from ⟨_,HB4.set1 (.slice (some ⟨row,0,none⟩) (l.length + 1) cap),O4,HX4⟩)
    have HK4:=Lib.hid HK4;have HG3:=hHeld.far4at (Ne.symm hrg) (l.length * 4) (.int .i64 yt.op) (.int .i64 yt.n) (.slice A1 n1 q1) (.slice A2 n2 q2);have HG4:=HG3.far (p:=⟨w.heap.size + 1,0,none⟩) hgb (.slice (some ⟨row,0,none⟩) (l.length + 1) cap);clear O4 HB4 HX4 HB HX2 hX HKF;unfold st4at at hcb4 HT4 HK4 HG3 HG4;go_simp;skip;refine hK.out _ _ (HG3) fun hHeld => ?_
    clear hK K;(try simp only [pS,pB,pZ,pC]);refine rd 7 none rfl fun K hK => ?_
    go_simp;skip;refine hK.out _ _ (HG4) fun hHeld => ?_
    clear hK K;(try simp only [pS,pB,pZ,pC]);refine dn ?_
    refine ⟨?_,fun h => by cases h⟩
    gi_wp2_with fail
    exact ⟨HK4.out.1.from _,HK4.out.2,by rw [List.map_append,hl];exact HT4.out,hB.trans HK4.out.2.1,Nat.le_trans hs HK4.out.1.size⟩
   ·skip
    have O2:=o2.far (b:=w.heap.size + 1) (by simp [Value.ownBlock];omega) (.slice (some ⟨row,0,none⟩) (l.length + 1) cap)
    have HB3:=HB.set1 (.slice (some ⟨row,0,none⟩) (l.length + 1) cap);have HK3:=HKF.set HB (by unfold topT;decide) (by omega) 0 (.slice (some ⟨row,0,none⟩) (l.length + 1) cap)
    have HX3:=HX2.far (p:=⟨w.heap.size + 1,0,none⟩) (by simp) (.slice (some ⟨row,0,none⟩) (l.length + 1) cap)
    have HG3:=hHeld.far (p:=⟨w.heap.size + 1,0,none⟩) hgb (.slice (some ⟨row,0,none⟩) (l.length + 1) cap);clear q0 z0 q1' z1 q2' z2 q3' z3 o3;obtain ⟨row',cap',e,hbr',⟨cur',hcur'⟩,hcap',⟨p0',p1',p2',p3',⟨q0,z0⟩,⟨q1',z1⟩,⟨q2',z2⟩,q3',z3⟩,o3⟩:=O2.put hYH.out;cases e
    have HB4:=(HB3.far4at hbx (l.length * 4) (.int .i64 yt.op) (.int .i64 yt.n) (.slice A1 n1 q1) (.slice A2 n2 q2));have HX4:=((HX3.far4at hxr (l.length * 4) (.int .i64 yt.op) (.int .i64 yt.n) (.slice A1 n1 q1) (.slice A2 n2 q2)));have HK4:=(HK3.st4at hcur' (by unfold topT;decide) (by omega) (l.length * 4) (.int .i64 yt.op) (.int .i64 yt.n) (.slice A1 n1 q1) (.slice A2 n2 q2))
    have HT4:=Lib.hid (show TopI w x (l ++ [yt]) _ from ⟨_,HB4,o3,HX4⟩)
    have HK4:=Lib.hid HK4;have HG4:=HG3.far4at (Ne.symm hrg) (l.length * 4) (.int .i64 yt.op) (.int .i64 yt.n) (.slice A1 n1 q1) (.slice A2 n2 q2);clear o3 HB4 HX4 HB HX2 hX HKF HB3 HX3 HK3;unfold st4at at HT4 HK4 HG4;go_simp;skip;refine hK.out _ _ (HG3) fun hHeld => ?_
    clear hK K;(try simp only [pS,pB,pZ,pC]);refine rd 6 none rfl fun K hK => ?_
    go_simp;skip;refine hK.out _ _ (HG4) fun hHeld => ?_
    clear hK K;(try simp only [pS,pB,pZ,pC]);refine dn ?_
    refine ⟨?_,fun h => by cases h⟩
    gi_wp2_with fail
    exact ⟨HK4.out.1.from _,HK4.out.2,by rw [List.map_append,hl];exact HT4.out,hB.trans HK4.out.2.1,Nat.le_trans hs HK4.out.1.size⟩
  ·skip
   go_simp;skip;refine hK.out _ _ (hHeld.alloc _) fun hHeld => ?_
   clear hK K;(try simp only [pS,pB,pZ,pC]);have hc2:(W.drew.alloc (.cells #[.int .i64 0,.int .i64 0,.slice none 0 0,.slice none 0 0] 39)).cell? ⟨w.heap.size + 1,0,none⟩ = some (.slice A0 l.length c0):=(World.cell?_alloc_lt W.drew _ _ hv.lt).trans hc1
   refine rd 0 (some 22) rfl fun K hK => ?_
   go_simp;skip;refine hK.out _ _ (hHeld) fun hHeld => ?_
   clear hK K;(try simp only [pS,pB,pZ,pC]);have HZ:=(ownR_one (w0:=w) (B:=w.heap.size) (base:=0) (W:=W.drew) (t:=zF) (Nat.zero_le _) (zF_rep _ _)).src;have HR1:OwnR w w.heap.size (W.drew.alloc (.cells #[.int .i64 0,.int .i64 0,.slice none 0 0,.slice none 0 0] 39)) (w.heap.size + 1 + 1) (.slice A0 l.length c0) (l.flatMap F.cells):=OwnR.below (w:=W.drew) hR (below_new _ _);refine tq 2 24 rfl ?_
   refine rd 4 (some 26) rfl fun K hK => ?_
   refine wp_appR _ _ rfl (w.heap.size + 1 + 1) _ l rfl HR1 _ [zF] rfl HZ (by simp;omega) (by simp;omega) ?_
   intro v2 W2 o2 g2 l2;refine hK.out _ _ ?_ (fun hHeld => ?_)
   ·exact (hHeld.grown g2 (fun e => hne e.symm))
   clear hK K
   have HB:Blk W2 (w.heap.size + 1) 32 #[.slice A0 l.length c0]:=((show Blk W.drew _ _ _ from hv).alloc _).grown g2 (fun e => by
    obtain ⟨_,cur,hB2⟩:=HR1.block e.symm;exact absurd ((show Blk W.drew _ _ _ from hv).alloc _) (fun h3 => (h3.ne hB2 (by decide)) rfl))
   have HKF:KeepF w.heap.size W W2:=((KeepF.refl _ W).drew.alloc (by simp;exact hB.size) _).grown HR1 g2 (by omega) (by simp;have:=hB.size;omega)
   obtain ⟨row,cap,rfl,hbr,⟨cur,hcur⟩,hcap,⟨p0,p1,p2,p3,⟨q0,z0⟩,⟨q1',z1⟩,⟨q2',z2⟩,q3',z3⟩,o3⟩:=o2.put hYH.out
   have hrg:row ≠ g:=by
    rintro rfl;rcases l2 with e | e
    ·exact hne e.symm
    ·have:=hG.lt
     simp [Value.ownBlock] at e;omega
   have hcb:=HB.c1;(try simp only [pS,pB,pZ,pC]);have hll:(l.length:Int) < (l.length:Int) + 1:=by omega
   refine tq 5 27 rfl ?_
   have hbx:w.heap.size + 1 ≠ row:=HB.ne hcur (by decide)
   have hgb:g ≠ w.heap.size + 1:=(hHeld.ne HB (by decide))
   have HX2:Blk W2 w.heap.size 169 #[x.r,x.a,x.b,x.c,x.d]:=((show Blk W.drew _ _ _ from hX).alloc _).grown g2 (fun e => by
    obtain ⟨_,cur,hB2⟩:=HR1.block e.symm;exact absurd ((show Blk W.drew _ _ _ from hX).alloc _) (fun h3 => (h3.ne hB2 (by decide)) rfl))
   have hxr:w.heap.size ≠ row:=HX2.ne hcur (by decide)
   have hS2:=g2.size;refine rd2 6 none 7 none (by kernel_rfl) rfl rfl (fun K hK => ?_) fun K hK => ?_
   ·skip
    have O4:OwnR w w.heap.size ((st4at W2 row (l.length * 4) (.int .i64 yt.op) (.int .i64 yt.n) (.slice A1 n1 q1) (.slice A2 n2 q2)).setCell ⟨w.heap.size + 1,0,none⟩ (.slice (some ⟨row,0,none⟩) (l.length + 1) cap)) (w.heap.size + 1 + 1) (.slice (some ⟨row,0,none⟩) (l.length + 1) cap) ((l ++ [yt]).flatMap F.cells):=o3.far (by simp [Value.ownBlock];omega) _
    have HB4:=(HB.far4at hbx (l.length * 4) (.int .i64 yt.op) (.int .i64 yt.n) (.slice A1 n1 q1) (.slice A2 n2 q2));have HX4:=((HX2.far4at hxr (l.length * 4) (.int .i64 yt.op) (.int .i64 yt.n) (.slice A1 n1 q1) (.slice A2 n2 q2))).far (p:=⟨w.heap.size + 1,0,none⟩) (by simp) (.slice (some ⟨row,0,none⟩) (l.length + 1) cap)
    have HK4:=(HKF.st4at hcur (by unfold topT;decide) (by omega) (l.length * 4) (.int .i64 yt.op) (.int .i64 yt.n) (.slice A1 n1 q1) (.slice A2 n2 q2)).set HB4 (by unfold topT;decide) (by omega) 0 (.slice (some ⟨row,0,none⟩) (l.length + 1) cap)
    have hcb4:=HB4.c1;have HT4:=Lib.hid (show TopI w x (l ++ [yt]) _ from ⟨_,HB4.set1 (.slice (some ⟨row,0,none⟩) (l.length + 1) cap),O4,HX4⟩)
    have HK4:=Lib.hid HK4;have HG3:=hHeld.far4at (Ne.symm hrg) (l.length * 4) (.int .i64 yt.op) (.int .i64 yt.n) (.slice A1 n1 q1) (.slice A2 n2 q2);have HG4:=HG3.far (p:=⟨w.heap.size + 1,0,none⟩) hgb (.slice (some ⟨row,0,none⟩) (l.length + 1) cap);clear O4 HB4 HX4 HB HX2 hX HKF;unfold st4at at hcb4 HT4 HK4 HG3 HG4;go_simp;skip;refine hK.out _ _ (HG3) fun hHeld => ?_
    clear hK K;(try simp only [pS,pB,pZ,pC]);refine rd 7 none rfl fun K hK => ?_
    go_simp;skip;refine hK.out _ _ (HG4) fun hHeld => ?_
    clear hK K;(try simp only [pS,pB,pZ,pC]);refine dn ?_
    refine ⟨?_,fun h => by cases h⟩
    gi_wp2_with fail
    exact ⟨HK4.out.1.from _,HK4.out.2,by rw [List.map_append,hl];exact HT4.out,hB.trans HK4.out.2.1,Nat.le_trans hs HK4.out.1.size⟩
   ·skip
    have O2:=o2.far (b:=w.heap.size + 1) (by simp [Value.ownBlock];omega) (.slice (some ⟨row,0,none⟩) (l.length + 1) cap)
    have HB3:=HB.set1 (.slice (some ⟨row,0,none⟩) (l.length + 1) cap);have HK3:=HKF.set HB (by unfold topT;decide) (by omega) 0 (.slice (some ⟨row,0,none⟩) (l.length + 1) cap)
    have HX3:=HX2.far (p:=⟨w.heap.size + 1,0,none⟩) (by simp) (.slice (some ⟨row,0,none⟩) (l.length + 1) cap)
    have HG3:=hHeld.far (p:=⟨w.heap.size + 1,0,none⟩) hgb (.slice (some ⟨row,0,none⟩) (l.length + 1) cap);clear q0 z0 q1' z1 q2' z2 q3' z3 o3;obtain ⟨row',cap',e,hbr',⟨cur',hcur'⟩,hcap',⟨p0',p1',p2',p3',⟨q0,z0⟩,⟨q1',z1⟩,⟨q2',z2⟩,q3',z3⟩,o3⟩:=O2.put hYH.out;cases e
    have HB4:=(HB3.far4at hbx (l.length * 4) (.int .i64 yt.op) (.int .i64 yt.n) (.slice A1 n1 q1) (.slice A2 n2 q2));have HX4:=((HX3.far4at hxr (l.length * 4) (.int .i64 yt.op) (.int .i64 yt.n) (.slice A1 n1 q1) (.slice A2 n2 q2)));have HK4:=(HK3.st4at hcur' (by unfold topT;decide) (by omega) (l.length * 4) (.int .i64 yt.op) (.int .i64 yt.n) (.slice A1 n1 q1) (.slice A2 n2 q2))
    have HT4:=Lib.hid (show TopI w x (l ++ [yt]) _ from ⟨_,HB4,o3,HX4⟩)
    have HK4:=Lib.hid HK4;have HG4:=HG3.far4at (Ne.symm hrg) (l.length * 4) (.int .i64 yt.op) (.int .i64 yt.n) (.slice A1 n1 q1) (.slice A2 n2 q2);clear o3 HB4 HX4 HB HX2 hX HKF HB3 HX3 HK3;unfold st4at at HT4 HK4 HG4;go_simp;skip;refine hK.out _ _ (HG3) fun hHeld => ?_
    clear hK K;(try simp only [pS,pB,pZ,pC]);refine rd 6 none rfl fun K hK => ?_
    go_simp;skip;refine hK.out _ _ (HG4) fun hHeld => ?_
    clear hK K;(try simp only [pS,pB,pZ,pC]);refine dn ?_
    refine ⟨?_,fun h => by cases h⟩
    gi_wp2_with fail
    exact ⟨HK4.out.1.from _,HK4.out.2,by rw [List.map_append,hl];exact HT4.out,hB.trans HK4.out.2.1,Nat.le_trans hs HK4.out.1.size⟩
 case done =>
  rintro D ys W hD hys ⟨⟨v,hv,hR,hX⟩,hB,hs⟩ hK;rw [hys,show x.body.t = x.t.body from rfl] at hR
  obtain ⟨A0,q0,f0,hq0,hcellR⟩:=x.hr.row;rw [ints_length] at f0 hq0;obtain ⟨D0,d0,rfl,hd0,HND⟩:=hR.src.nodes;have HND:=Lib.hid HND;have hc1:=hv.c1;rw [f0] at hX ⊢;have hcX:=hX.c5;by_cases h0:x.t.refs = []
  ·have hl0:x.t.refs.length = 0:=by rw [h0];rfl
   have hA:altF x.t A = x.t.body.tops:=by unfold altF;rw [if_pos h0]
   rw [hl0] at hcX ⊢;have HA:=Lib.hid hA;clear hA;have hle:decide ((x.t.body.tops.length:Int) ≤ 64) = true:=by simp;exact_mod_cast hok.1
   have HFin:=Lib.hid (fun (q:Nat) => (show Rep ((W.drewN q).putObj D (.deferred none)) ((W.drewN q).putObj D (.deferred none)).heap.size _ _ ∧ Below w.heap.size w ((W.drewN q).putObj D (.deferred none)) from by
    have hBn:Below w.heap.size w (W.drewN q):=below_drewN hB q;have hB2:=hBn.trans (belowK_b (w:=w) (Nat.le_refl _) (W.drewN q) D _ (.deferred none) (by omega) hK rfl rfl)
    exact ⟨((show OwnR w w.heap.size (W.drewN q) _ _ _ from hR).kept (grownBy_putObj' (W.drewN q) D (.deferred none)) (fun r e => by cases e;exact ⟨_,hK,rfl⟩)).src.rep (fun p hp => hB2.cell hp) (Nat.le_trans hB.size (by simp)),hB2⟩))
   clear hcellR hlk hR hX hv b0 b1 b2 hB0 hmb hmW hKB;go_wp2_with fail;go_quiet (fail);go_wp2_with fail;refine ⟨by simp,.inl ⟨_,_,rfl,run_takeDeferred hK,?_⟩⟩
   exact ⟨_,results_tmp2 rfl _ _ _,_,rfl,by rw [HA.out];exact (HFin.out _).1,(HFin.out _).2⟩
  ·have hnz:((x.t.refs.length:Int) == 0) = false:=by
    have:x.t.refs.length ≠ 0:=fun e => h0 (List.eq_nil_of_length_eq_zero e)
    simp;omega
   have hmW2:=hmb.kept (belowG hB) (by simp)
   have HLK:=Lib.hid hlk;have HCR:=Lib.hid hcellR;have HOK:=Lib.hid hok;have HLR:=Lib.hid hlr0;clear hlr0 hlk hcellR b0 b1 b2 hB0 hmb hmW hKB hok;go_wp2_with fail;go_loopw [7,39] (fun u i wr => ∃ k:Nat,i = .int .i64 (k:Int) ∧ k ≤ x.t.refs.length ∧ OwnL wr W.heap.size 39 4 u ((outF x.t A k).flatMap F.cells) ∧ Below W.heap.size W wr) (fun _ i _ => x.t.refs.length - (intOf i).toNat)
   case atStart => exact ⟨0,rfl,Nat.zero_le _,OwnL.nil _ _ _ _,Below.refl _ _⟩
   case round =>
    obtain ⟨k,rfl,hk,hor,hbr⟩:=hrel;by_cases hlt:k < x.t.refs.length
    ·obtain ⟨b,o,hA0,hb,c0⟩:=HCR.out k _ (ints_get x.t.refs k hlt)
     subst hA0;have hbw:=hB.trans (hbr.mono hB.size);have e0:=(hbw.cell (p:=⟨b,o + k,none⟩) hb).trans c0;obtain ⟨u,hhas,hat,hu⟩:=HLK.out _ (List.getElem_mem hlt);have hbd:=out_bound HOK.out h0 hlt;obtain ⟨Au,cu,rfl,hcu,hcellU⟩:=hu.formulas;have HCU:=Lib.hid hcellU;obtain ⟨Ao,co,rfl,_⟩:=hor.src;have HOS:=Lib.hid (outF_succ x.t A k hlt);have HCT:=Lib.hid (fun j (hj:j < (A.getD x.t.refs[k].toNat []).length) => crossF_take (A.getD x.t.refs[k].toNat []) x.t.body.tops j hj)
     have HCP:=Lib.hid (fun j => crossF_pre (A.getD x.t.refs[k].toNat []) x.t.body.tops j)
     have HBD2:=Lib.hid (fun j (hj:j < (A.getD x.t.refs[k].toNat []).length) i hi => out_bound2 HOK.out h0 hlt hj i hi)
     have HOKF:=Lib.hid (fun j (hj:j < (A.getD x.t.refs[k].toNat []).length) i (hi:i < x.t.body.tops.length) => out_ok HOK.out h0 hlt hj hi)
     have hlr:=HLR.out k hlt;generalize x.t.refs[k] = r at *;have hmr:=hmW2.kept (belowG hbr) (by simp)
     have hcb:=(hbr.cell (p:=⟨w.heap.size + 1,0,none⟩) hv.lt).trans hc1.1;have hla:=hAl r.toNat;have htp:=HOK.out.1
     have hnl:(A.getD r.toNat []).length ≤ 64 ∨ x.t.body.tops.length = 0:=by
      rcases Nat.eq_zero_or_pos x.t.body.tops.length with h | h
      ·exact .inr h
      ·refine .inl (Nat.le_trans ?_ (Nat.le_trans (Nat.le_add_left _ _) hbd))
       exact Nat.le_mul_of_pos_right _ h
     generalize hLA:A.getD r.toNat [] = la at *;generalize hLO:outF x.t A k = lo at *;generalize hLT2:x.t.body.tops = tp at *;obtain ⟨P,hw1,hw2⟩:=alt_num _ _ _ hbd;have HBD:=Lib.hid hbd;have hw4:¬ ((64:Int) < (lo.length:Int) + (P:Int)):=by omega
     clear hbd hnl;go_wp2_with (at_lookup;refine wpList_lookup_tok rfl _ _ rfl mb n Dm rfl hmr r (by omega) (by omega) rfl _ hhas hat ?_)
     clear hat hhas e0 hmr c0;go_loopw [7,64] (fun u i wr => ∃ j:Nat,i = .int .i64 (j:Int) ∧ j ≤ la.length ∧ OwnL wr W.heap.size 39 4 u ((lo ++ crossF (la.take j) tp).flatMap F.cells) ∧ Below W.heap.size W wr) (fun _ i _ => la.length - (intOf i).toNat)
     case atStart => exact ⟨0,rfl,Nat.zero_le _,by rw [show crossF (la.take 0) tp = [] from rfl,List.append_nil];exact hor,hbr⟩
     case round =>
      obtain ⟨j,rfl,hj,hor2,hbr2⟩:=hrel;by_cases hltj:j < la.length
      ·obtain ⟨b1,o1,ya,rfl,hb1,hya,c0,c1,c2,c3⟩:=HCU.out j hltj
       have hbw2:=hB.trans (hbr2.mono hB.size);have g0:=(hbw2.cell (p:=⟨b1,o1 + j * 4,none⟩) hb1).trans c0;have g1:=(hbw2.cell (p:=⟨b1,o1 + j * 4 + 1,none⟩) hb1).trans c1;have g2:=(hbw2.cell (p:=⟨b1,o1 + j * 4 + 2,none⟩) hb1).trans c2;have g3:=(hbw2.cell (p:=⟨b1,o1 + j * 4 + 3,none⟩) hb1).trans c3;have hcb2:=(hbr2.cell (p:=⟨w.heap.size + 1,0,none⟩) hv.lt).trans hc1.1;have hlt2:w.heap.size + 1 < wr.heap.size:=Nat.lt_of_lt_of_le hv.lt hbr2.size;have HPA:=Lib.hid (fun (w1:World) (hb:Below w.heap.size w w1) => parts_src w w.heap.size ya w1 hb hb.size)
       have HB2:=Lib.hid (fun i hi => HBD2.out j hltj i hi)
       have HOK2:=Lib.hid (fun i hi => HOKF.out j hltj i hi)
       have HCT2:lo ++ crossF (la.take (j + 1)) tp = lo ++ crossF (la.take j) tp ++ tp.map (andF la[j]):=by rw [HCT.out j hltj,List.append_assoc]
       obtain ⟨A1,n1,q1,A2,n2,q2,e1,e2,e3,e4⟩:=node_form ya.h;rw [← hya] at HB2 HOK2 HCT2;have HCT2:=Lib.hid HCT2;rw [e1] at HPA g0;rw [e2] at HPA g1;rw [e3] at HPA g2;rw [e4] at HPA g3;clear e1 e2 e3 e4 hya c0 c1 c2 c3;generalize ya.t = ta at *;generalize lo ++ crossF (la.take j) tp = lj at *;have X0:=Blk.new wr 39 #[.int .i64 ta.op,.int .i64 ta.n,.slice A1 n1 q1,.slice A2 n2 q2];have Q0:=hbr2.alloc hbr2.size (.cells #[.int .i64 ta.op,.int .i64 ta.n,.slice A1 n1 q1,.slice A2 n2 q2] 39);have O0:=OwnL.below hor2 (below_new wr (.cells #[.int .i64 ta.op,.int .i64 ta.n,.slice A1 n1 q1,.slice A2 n2 q2] 39));obtain ⟨Ao2,co2,rfl,_⟩:=hor2.src;go_wp2_with fail;have hne2:(Value.slice Ao2 lj.length co2).ownBlock ≠ some wr.heap.size:=fun e => by have:=(hor2.lt _ e).2;omega
       clear hor2 hbr2 g0 g1 g2 g3 hcb2;generalize wr.alloc (.cells #[.int .i64 ta.op,.int .i64 ta.n,.slice A1 n1 q1,.slice A2 n2 q2] 39) = wa at *;generalize wr.heap.size = ga at *;go_loopw [7,70] (fun u i wr => ∃ q:Nat,i = .int .i64 (q:Int) ∧ q ≤ tp.length ∧ OwnL wr W.heap.size 39 4 u ((lj ++ (tp.take q).map (andF ta)).flatMap F.cells) ∧ Below W.heap.size W wr ∧ Blk wr ga 39 #[.int .i64 ta.op,.int .i64 ta.n,.slice A1 n1 q1,.slice A2 n2 q2] ∧ u.ownBlock ≠ some ga) (fun _ i _ => tp.length - (intOf i).toNat)
       case atStart => exact ⟨0,rfl,Nat.zero_le _,by rw [show (tp.take 0).map (andF ta) = [] from rfl,List.append_nil];exact O0,Q0,X0,hne2⟩
       case round =>
        obtain ⟨q,rfl,hq,hor3,hbr3,hga,hne3⟩:=hrel;have HBD3:=HB2.out q hq;clear O0 Q0 X0 hne2;by_cases hltq:q < tp.length
        ·obtain ⟨b2,o2,yb,hD0,hb2,hyb,c0,c1,c2,c3⟩:=HND.out q hltq
         subst hD0;have hbw3:=hB.trans (hbr3.mono hB.size);have g0:=(hbr3.cell (p:=⟨b2,o2 + q * 4,none⟩) hb2).trans c0;have g1:=(hbr3.cell (p:=⟨b2,o2 + q * 4 + 1,none⟩) hb2).trans c1;have g2:=(hbr3.cell (p:=⟨b2,o2 + q * 4 + 2,none⟩) hb2).trans c2;have g3:=(hbr3.cell (p:=⟨b2,o2 + q * 4 + 3,none⟩) hb2).trans c3;have HPB:=Lib.hid (fun (w1:World) (hb:Below w.heap.size w w1) => parts_src w w.heap.size yb w1 hb hb.size)
         have HOK3:=HOK2.out q hltq;have HMT:lj ++ (tp.take (q + 1)).map (andF ta) = lj ++ (tp.take q).map (andF ta) ++ [andF ta tp[q]]:=by rw [map_take (andF ta) tp q hltq,List.append_assoc]
         obtain ⟨A3,n3,q3,A4,n4,q4,e1,e2,e3,e4⟩:=node_form yb.h;rw [← hyb] at HOK3 HMT;have HMT:=Lib.hid HMT;have HOK3:=Lib.hid HOK3;rw [e1] at HPB g0;rw [e2] at HPB g1;rw [e3] at HPB g2;rw [e4] at HPB g3;clear e1 e2 e3 e4 hyb c0 c1 c2 c3;generalize yb.t = tb at *;generalize lj ++ (tp.take q).map (andF ta) = lc at *;have hfb:=wr.heap.size;have Y0:=Blk.new wr 39 #[.int .i64 tb.op,.int .i64 tb.n,.slice A3 n3 q3,.slice A4 n4 q4];have Q0:=hbr3.alloc hbr3.size (.cells #[.int .i64 tb.op,.int .i64 tb.n,.slice A3 n3 q3,.slice A4 n4 q4] 39);have O0:=OwnL.below hor3 (below_new wr (.cells #[.int .i64 tb.op,.int .i64 tb.n,.slice A3 n3 q3,.slice A4 n4 q4] 39));have X0:=hga.alloc (.cells #[.int .i64 tb.op,.int .i64 tb.n,.slice A3 n3 q3,.slice A4 n4 q4] 39);obtain ⟨Ao3,co3,rfl,_⟩:=hor3.src;go_upto_region 19 with fail;clear hor3 hbr3 g0 g1 g2 g3 hbw3 hga hfb;generalize wr.alloc (.cells #[.int .i64 tb.op,.int .i64 tb.n,.slice A3 n3 q3,.slice A4 n4 q4] 39) = w1 at *;generalize wr.heap.size = gb at *;obtain ⟨PP,hPP⟩:∃ z,z = ta.parts ++ tb.parts:=⟨_,rfl⟩;go_cut [17] from 74 to 81 (fun u wx => ∃ (g:Nat) (kv:Value),u = .pointer (some ⟨g,0,none⟩) ∧ Blk wx g 39 #[.int .i64 4,.int .i64 0,.slice none 0 0,kv] ∧ OwnR w w.heap.size wx w1.heap.size kv (PP.flatMap F.cells) ∧ Below w1.heap.size w1 wx)
         case first => as_aux_lemma =>
          have HPP:=Lib.hid hPP;have HL96:PP.length ≤ 1000:=by rw [hPP];exact Nat.le_trans (okAnd_len HOK3.out) (by omega)
          have hbw1:Below w.heap.size w w1:=hB.trans (Q0.mono hB.size)
          /- CLR -/
          clear hPP
          try clear hts
          try clear hrl
          try clear b0
          try clear hsz
          try clear hnode
          try clear hys
          try clear hs
          try clear hK
          try clear hq0
          try clear hnz
          try clear hmW2
          try clear HLK
          try clear HOK
          try clear HLR
          try clear hk
          try clear hbr
          try clear hlt
          try clear hb
          try clear hX
          try clear f0
          try clear hcX
          try clear HCR
          try clear hbw
          try clear hLA
          try clear hcu
          try clear hLO
          try clear hor
          try clear hLT2
          try clear hd0
          try clear HCT
          try clear HCP
          try clear HOKF
          try clear HOS
          try clear HBD2
          try clear hw1
          try clear hw2
          try clear HBD
          try clear hw4
          try clear hj
          try clear hltj
          try clear hu
          try clear hcellU
          try clear HCU
          try clear hb1
          try clear hbw2
          try clear HB2
          try clear HOK2
          try clear HCT2
          try clear hlt2
          try clear HBD3
          try clear hltq
          try clear hq
          try clear HND
          try clear HMT
          try clear HOK3
          try clear O0
          try clear hne3
          try clear hb2
          try clear hlr
          try clear hc1
          try clear hcb
          try clear hD
          try clear h0
          try clear hv
          try clear hR
          refine drawn_norm ?_
          refine wp_region_held_drew (S:=(fun w' => Blk w' ga 39 #[.int .i64 ta.op,.int .i64 ta.n,.slice A1 n1 q1,.slice A2 n2 q2] ∧ Blk w' gb 39 #[.int .i64 tb.op,.int .i64 tb.n,.slice A3 n3 q3,.slice A4 n4 q4] ∧ Below w1.heap.size w1 w')) (by kernel_rfl) ?_ (fun hHeld => ?_)
          ·first | done | ((try dsimp only);exact ⟨X0,Y0,(Below.refl _ _).drew⟩)
          generalize w1.drew = wd at *;refine th 0 74 rfl (fun _ hSw => hSw.1.c4) ?_
          refine th 2 76 rfl (fun _ hSw => hSw.2.1.c4) ?_
          refine rd2 1 (some 75) 7 (some 17) (by kernel_rfl) rfl rfl (fun K hK => ?_) fun K hK => ?_
          ·skip
           go_simp
           (refine (HPA.out _ (hbw1.trans (hHeld.2.2.mono hbw1.size))).mono ?_;rintro e W75 ⟨u75,rfl,r75,k75⟩;obtain ⟨A75,c75,rfl,_⟩:=r75.slice)
           refine hK.out _ _ (⟨hHeld.1.keep k75,hHeld.2.1.keep k75,hHeld.2.2.trans (k75.mono hHeld.2.2.size)⟩) fun hHeld => ?_
           clear hK K;(try simp only [pS,pB,pZ,pC]);refine rd2 3 (some 77) 7 (some 17) (by kernel_rfl) rfl rfl (fun K hK => ?_) fun K hK => ?_
           ·skip
            go_simp
            (refine (HPB.out _ (hbw1.trans (hHeld.2.2.mono hbw1.size))).mono ?_;rintro e W77 ⟨u77,rfl,r77,k77⟩;obtain ⟨A77,c77,rfl,_⟩:=r77.slice)
            refine hK.out _ _ (⟨hHeld.1.keep k77,hHeld.2.1.keep k77,hHeld.2.2.trans (k77.mono hHeld.2.2.size)⟩) fun hHeld => ?_
            clear hK K;(try simp only [pS,pB,pZ,pC]);have r75:=r75.below k77;refine rd2 4 (some 78) 7 (some 17) (by kernel_rfl) rfl rfl (fun K hK => ?_) fun K hK => ?_
            ·skip
             have hb78:=hHeld.2.2.size;obtain ⟨gb78,hgb78⟩:∃ z,W77.heap.size = z:=⟨_,rfl⟩;obtain ⟨wn1,hwn1⟩:∃ z,W77.alloc (.cells #[.slice A75 ta.parts.length c75,.slice A77 tb.parts.length c77] 32) = z:=⟨_,rfl⟩;have kwn1:Below W77.heap.size W77 wn1:=by rw [← hwn1];exact below_new _ _
             have b78:Blk wn1 gb78 32 #[.slice A75 ta.parts.length c75,.slice A77 tb.parts.length c77]:=by rw [← hwn1,← hgb78];exact Blk.new _ _ _
             have r75:=r75.below kwn1;have r77:=r77.below kwn1;go_simp
             (try rw [hwn1]);(try rw [hgb78])
             refine hK.out _ _ (⟨hHeld.1.keep kwn1,hHeld.2.1.keep kwn1,hHeld.2.2.trans (kwn1.mono hHeld.2.2.size)⟩) fun hHeld => ?_
             clear hK K;(try simp only [pS,pB,pZ,pC]);refine rd2 5 (some 79) 7 (some 17) (by kernel_rfl) rfl rfl (fun K hK => ?_) fun K hK => ?_
             ·skip
              have hB79:=hHeld.2.2.size;go_simp
              (refine (concat2 w w.heap.size ta.parts tb.parts PP HPP.out _ _ _ _ b78 r75 r77 HL96).mono ?_;rintro e W79 ⟨u79,rfl,o79,k79⟩;obtain ⟨A79,c79,rfl,_⟩:=o79.src.slice)
              refine hK.out _ _ (⟨hHeld.1.keep k79,hHeld.2.1.keep k79,hHeld.2.2.trans (k79.mono hHeld.2.2.size)⟩) fun hHeld => ?_
              clear hK K;(try simp only [pS,pB,pZ,pC]);have o79:=o79.mono (base':=w1.heap.size) hB79;have r75:=r75.below k79;have r77:=r77.below k79;have b78:=b78.keep k79;refine tq 6 80 rfl ?_
              have hf17:=hHeld.2.2.size;obtain ⟨gf17,hgf17⟩:∃ z,W79.heap.size = z:=⟨_,rfl⟩;obtain ⟨wn2,hwn2⟩:∃ z,W79.alloc (.cells #[.int .i64 0,.int .i64 0,.slice none 0 0,.slice none 0 0] 39) = z:=⟨_,rfl⟩;have kwn2:Below W79.heap.size W79 wn2:=by rw [← hwn2];exact below_new _ _
              have f17:Blk wn2 gf17 39 #[.int .i64 0,.int .i64 0,.slice none 0 0,.slice none 0 0]:=by rw [← hwn2,← hgf17];exact Blk.new _ _ _
              have hne17:(Value.slice A79 PP.length c79).ownBlock ≠ some gf17:=fun e => by have:=o79.low _ e;omega
              have r75:=r75.below kwn2;have r77:=r77.below kwn2;have b78:=b78.keep kwn2;have o79:=o79.below kwn2;refine rd 7 (some 17) rfl fun K hK => ?_
              go_simp
              (try rw [hwn2]);(try rw [hgf17])
              refine hK.out _ _ (⟨hHeld.1.keep kwn2,hHeld.2.1.keep kwn2,hHeld.2.2.trans (kwn2.mono hHeld.2.2.size)⟩) fun hHeld => ?_
              clear hK K;(try simp only [pS,pB,pZ,pC]);obtain ⟨SS,FF,OO⟩:=and_done (l:=PP) hHeld.1 hHeld.2.1 hHeld.2.2 f17 (by rw [← hgf17];exact hf17) X0.lt Y0.lt o79 hne17
              refine rd 8 none rfl fun K hK => ?_
              refine wp_store4 f17 _ _ rfl rfl rfl ?_ rfl
              simp only [Act.put];refine hK.out _ _ ?_ (fun hHeld => ?_)
              ·exact SS
              clear hK K;generalize st4 _ _ _ _ _ _ = wz at *;(try simp only [pS,pB,pZ,pC]);refine dn ?_
              refine ⟨?_,rfl⟩
              go_wp2_with fail;go_meet;exact ⟨_,_,rfl,FF,OO,SS.2.2⟩
             ·skip
              have hf17:=hHeld.2.2.size;obtain ⟨gf17,hgf17⟩:∃ z,wn1.heap.size = z:=⟨_,rfl⟩;obtain ⟨wn3,hwn3⟩:∃ z,wn1.alloc (.cells #[.int .i64 0,.int .i64 0,.slice none 0 0,.slice none 0 0] 39) = z:=⟨_,rfl⟩;have kwn3:Below wn1.heap.size wn1 wn3:=by rw [← hwn3];exact below_new _ _
              have f17:Blk wn3 gf17 39 #[.int .i64 0,.int .i64 0,.slice none 0 0,.slice none 0 0]:=by rw [← hwn3,← hgf17];exact Blk.new _ _ _
              have r75:=r75.below kwn3;have r77:=r77.below kwn3;have b78:=b78.keep kwn3;go_simp
              (try rw [hwn3]);(try rw [hgf17])
              refine hK.out _ _ (⟨hHeld.1.keep kwn3,hHeld.2.1.keep kwn3,hHeld.2.2.trans (kwn3.mono hHeld.2.2.size)⟩) fun hHeld => ?_
              clear hK K;(try simp only [pS,pB,pZ,pC]);have hB79:=hHeld.2.2.size;refine rd 5 (some 79) rfl fun K hK => ?_
              go_simp
              (refine (concat2 w w.heap.size ta.parts tb.parts PP HPP.out _ _ _ _ b78 r75 r77 HL96).mono ?_;rintro e W79 ⟨u79,rfl,o79,k79⟩;obtain ⟨A79,c79,rfl,_⟩:=o79.src.slice)
              refine hK.out _ _ (⟨hHeld.1.keep k79,hHeld.2.1.keep k79,hHeld.2.2.trans (k79.mono hHeld.2.2.size)⟩) fun hHeld => ?_
              clear hK K;(try simp only [pS,pB,pZ,pC]);have hne17:(Value.slice A79 PP.length c79).ownBlock ≠ some gf17:=fun e => by have:=o79.lt _ e;have:=f17.lt;omega
              have o79:=o79.mono (base':=w1.heap.size) hB79;have r75:=r75.below k79;have r77:=r77.below k79;have b78:=b78.keep k79;have f17:=f17.keep k79;refine tq 6 80 rfl ?_
              obtain ⟨SS,FF,OO⟩:=and_done (l:=PP) hHeld.1 hHeld.2.1 hHeld.2.2 f17 (by rw [← hgf17];exact hf17) X0.lt Y0.lt o79 hne17
              refine rd 8 none rfl fun K hK => ?_
              refine wp_store4 f17 _ _ rfl rfl rfl ?_ rfl
              simp only [Act.put];refine hK.out _ _ ?_ (fun hHeld => ?_)
              ·exact SS
              clear hK K;generalize st4 _ _ _ _ _ _ = wz at *;(try simp only [pS,pB,pZ,pC]);refine dn ?_
              refine ⟨?_,rfl⟩
              go_wp2_with fail;go_meet;exact ⟨_,_,rfl,FF,OO,SS.2.2⟩
            ·skip
             have hf17:=hHeld.2.2.size;obtain ⟨gf17,hgf17⟩:∃ z,W77.heap.size = z:=⟨_,rfl⟩;obtain ⟨wn4,hwn4⟩:∃ z,W77.alloc (.cells #[.int .i64 0,.int .i64 0,.slice none 0 0,.slice none 0 0] 39) = z:=⟨_,rfl⟩;have kwn4:Below W77.heap.size W77 wn4:=by rw [← hwn4];exact below_new _ _
             have f17:Blk wn4 gf17 39 #[.int .i64 0,.int .i64 0,.slice none 0 0,.slice none 0 0]:=by rw [← hwn4,← hgf17];exact Blk.new _ _ _
             have r75:=r75.below kwn4;have r77:=r77.below kwn4;go_simp
             (try rw [hwn4]);(try rw [hgf17])
             refine hK.out _ _ (⟨hHeld.1.keep kwn4,hHeld.2.1.keep kwn4,hHeld.2.2.trans (kwn4.mono hHeld.2.2.size)⟩) fun hHeld => ?_
             clear hK K;(try simp only [pS,pB,pZ,pC]);have hb78:=hHeld.2.2.size;obtain ⟨gb78,hgb78⟩:∃ z,wn4.heap.size = z:=⟨_,rfl⟩;obtain ⟨wn5,hwn5⟩:∃ z,wn4.alloc (.cells #[.slice A75 ta.parts.length c75,.slice A77 tb.parts.length c77] 32) = z:=⟨_,rfl⟩;have kwn5:Below wn4.heap.size wn4 wn5:=by rw [← hwn5];exact below_new _ _
             have b78:Blk wn5 gb78 32 #[.slice A75 ta.parts.length c75,.slice A77 tb.parts.length c77]:=by rw [← hwn5,← hgb78];exact Blk.new _ _ _
             have r75:=r75.below kwn5;have r77:=r77.below kwn5;have f17:=f17.keep kwn5;refine rd 4 (some 78) rfl fun K hK => ?_
             go_simp
             (try rw [hwn5]);(try rw [hgb78])
             refine hK.out _ _ (⟨hHeld.1.keep kwn5,hHeld.2.1.keep kwn5,hHeld.2.2.trans (kwn5.mono hHeld.2.2.size)⟩) fun hHeld => ?_
             clear hK K;(try simp only [pS,pB,pZ,pC]);have hB79:=hHeld.2.2.size;refine rd 5 (some 79) rfl fun K hK => ?_
             go_simp
             (refine (concat2 w w.heap.size ta.parts tb.parts PP HPP.out _ _ _ _ b78 r75 r77 HL96).mono ?_;rintro e W79 ⟨u79,rfl,o79,k79⟩;obtain ⟨A79,c79,rfl,_⟩:=o79.src.slice)
             refine hK.out _ _ (⟨hHeld.1.keep k79,hHeld.2.1.keep k79,hHeld.2.2.trans (k79.mono hHeld.2.2.size)⟩) fun hHeld => ?_
             clear hK K;(try simp only [pS,pB,pZ,pC]);have hne17:(Value.slice A79 PP.length c79).ownBlock ≠ some gf17:=fun e => by have:=o79.lt _ e;have:=f17.lt;omega
             have o79:=o79.mono (base':=w1.heap.size) hB79;have r75:=r75.below k79;have r77:=r77.below k79;have f17:=f17.keep k79;have b78:=b78.keep k79;refine tq 6 80 rfl ?_
             obtain ⟨SS,FF,OO⟩:=and_done (l:=PP) hHeld.1 hHeld.2.1 hHeld.2.2 f17 (by rw [← hgf17];exact hf17) X0.lt Y0.lt o79 hne17
             refine rd 8 none rfl fun K hK => ?_
             refine wp_store4 f17 _ _ rfl rfl rfl ?_ rfl
             simp only [Act.put];refine hK.out _ _ ?_ (fun hHeld => ?_)
             ·exact SS
             clear hK K;generalize st4 _ _ _ _ _ _ = wz at *;(try simp only [pS,pB,pZ,pC]);refine dn ?_
             refine ⟨?_,rfl⟩
             go_wp2_with fail;go_meet;exact ⟨_,_,rfl,FF,OO,SS.2.2⟩
           ·skip
            have hf17:=hHeld.2.2.size;obtain ⟨gf17,hgf17⟩:∃ z,W75.heap.size = z:=⟨_,rfl⟩;obtain ⟨wn6,hwn6⟩:∃ z,W75.alloc (.cells #[.int .i64 0,.int .i64 0,.slice none 0 0,.slice none 0 0] 39) = z:=⟨_,rfl⟩;have kwn6:Below W75.heap.size W75 wn6:=by rw [← hwn6];exact below_new _ _
            have f17:Blk wn6 gf17 39 #[.int .i64 0,.int .i64 0,.slice none 0 0,.slice none 0 0]:=by rw [← hwn6,← hgf17];exact Blk.new _ _ _
            have r75:=r75.below kwn6;go_simp
            (try rw [hwn6]);(try rw [hgf17])
            refine hK.out _ _ (⟨hHeld.1.keep kwn6,hHeld.2.1.keep kwn6,hHeld.2.2.trans (kwn6.mono hHeld.2.2.size)⟩) fun hHeld => ?_
            clear hK K;(try simp only [pS,pB,pZ,pC]);refine rd 3 (some 77) rfl fun K hK => ?_
            go_simp
            (refine (HPB.out _ (hbw1.trans (hHeld.2.2.mono hbw1.size))).mono ?_;rintro e W77 ⟨u77,rfl,r77,k77⟩;obtain ⟨A77,c77,rfl,_⟩:=r77.slice)
            refine hK.out _ _ (⟨hHeld.1.keep k77,hHeld.2.1.keep k77,hHeld.2.2.trans (k77.mono hHeld.2.2.size)⟩) fun hHeld => ?_
            clear hK K;(try simp only [pS,pB,pZ,pC]);have r75:=r75.below k77;have f17:=f17.keep k77;have hb78:=hHeld.2.2.size;obtain ⟨gb78,hgb78⟩:∃ z,W77.heap.size = z:=⟨_,rfl⟩;obtain ⟨wn7,hwn7⟩:∃ z,W77.alloc (.cells #[.slice A75 ta.parts.length c75,.slice A77 tb.parts.length c77] 32) = z:=⟨_,rfl⟩;have kwn7:Below W77.heap.size W77 wn7:=by rw [← hwn7];exact below_new _ _
            have b78:Blk wn7 gb78 32 #[.slice A75 ta.parts.length c75,.slice A77 tb.parts.length c77]:=by rw [← hwn7,← hgb78];exact Blk.new _ _ _
            have r75:=r75.below kwn7;have f17:=f17.keep kwn7;have r77:=r77.below kwn7;refine rd 4 (some 78) rfl fun K hK => ?_
            go_simp
            (try rw [hwn7]);(try rw [hgb78])
            refine hK.out _ _ (⟨hHeld.1.keep kwn7,hHeld.2.1.keep kwn7,hHeld.2.2.trans (kwn7.mono hHeld.2.2.size)⟩) fun hHeld => ?_
            clear hK K;(try simp only [pS,pB,pZ,pC]);have hB79:=hHeld.2.2.size;refine rd 5 (some 79) rfl fun K hK => ?_
            go_simp
            (refine (concat2 w w.heap.size ta.parts tb.parts PP HPP.out _ _ _ _ b78 r75 r77 HL96).mono ?_;rintro e W79 ⟨u79,rfl,o79,k79⟩;obtain ⟨A79,c79,rfl,_⟩:=o79.src.slice)
            refine hK.out _ _ (⟨hHeld.1.keep k79,hHeld.2.1.keep k79,hHeld.2.2.trans (k79.mono hHeld.2.2.size)⟩) fun hHeld => ?_
            clear hK K;(try simp only [pS,pB,pZ,pC]);have hne17:(Value.slice A79 PP.length c79).ownBlock ≠ some gf17:=fun e => by have:=o79.lt _ e;have:=f17.lt;omega
            have o79:=o79.mono (base':=w1.heap.size) hB79;have r75:=r75.below k79;have f17:=f17.keep k79;have r77:=r77.below k79;have b78:=b78.keep k79;refine tq 6 80 rfl ?_
            obtain ⟨SS,FF,OO⟩:=and_done (l:=PP) hHeld.1 hHeld.2.1 hHeld.2.2 f17 (by rw [← hgf17];exact hf17) X0.lt Y0.lt o79 hne17
            refine rd 8 none rfl fun K hK => ?_
            refine wp_store4 f17 _ _ rfl rfl rfl ?_ rfl
            simp only [Act.put];refine hK.out _ _ ?_ (fun hHeld => ?_)
            ·exact SS
            clear hK K;generalize st4 _ _ _ _ _ _ = wz at *;(try simp only [pS,pB,pZ,pC]);refine dn ?_
            refine ⟨?_,rfl⟩
            go_wp2_with fail;go_meet;exact ⟨_,_,rfl,FF,OO,SS.2.2⟩
          ·skip
           have hf17:=hHeld.2.2.size;obtain ⟨gf17,hgf17⟩:∃ z,wd.heap.size = z:=⟨_,rfl⟩;obtain ⟨wn8,hwn8⟩:∃ z,wd.alloc (.cells #[.int .i64 0,.int .i64 0,.slice none 0 0,.slice none 0 0] 39) = z:=⟨_,rfl⟩;have kwn8:Below wd.heap.size wd wn8:=by rw [← hwn8];exact below_new _ _
           have f17:Blk wn8 gf17 39 #[.int .i64 0,.int .i64 0,.slice none 0 0,.slice none 0 0]:=by rw [← hwn8,← hgf17];exact Blk.new _ _ _
           go_simp
           (try rw [hwn8]);(try rw [hgf17])
           refine hK.out _ _ (⟨hHeld.1.keep kwn8,hHeld.2.1.keep kwn8,hHeld.2.2.trans (kwn8.mono hHeld.2.2.size)⟩) fun hHeld => ?_
           clear hK K;(try simp only [pS,pB,pZ,pC]);refine rd 1 (some 75) rfl fun K hK => ?_
           go_simp
           (refine (HPA.out _ (hbw1.trans (hHeld.2.2.mono hbw1.size))).mono ?_;rintro e W75 ⟨u75,rfl,r75,k75⟩;obtain ⟨A75,c75,rfl,_⟩:=r75.slice)
           refine hK.out _ _ (⟨hHeld.1.keep k75,hHeld.2.1.keep k75,hHeld.2.2.trans (k75.mono hHeld.2.2.size)⟩) fun hHeld => ?_
           clear hK K;(try simp only [pS,pB,pZ,pC]);have f17:=f17.keep k75;refine rd 3 (some 77) rfl fun K hK => ?_
           go_simp
           (refine (HPB.out _ (hbw1.trans (hHeld.2.2.mono hbw1.size))).mono ?_;rintro e W77 ⟨u77,rfl,r77,k77⟩;obtain ⟨A77,c77,rfl,_⟩:=r77.slice)
           refine hK.out _ _ (⟨hHeld.1.keep k77,hHeld.2.1.keep k77,hHeld.2.2.trans (k77.mono hHeld.2.2.size)⟩) fun hHeld => ?_
           clear hK K;(try simp only [pS,pB,pZ,pC]);have f17:=f17.keep k77;have r75:=r75.below k77;have hb78:=hHeld.2.2.size;obtain ⟨gb78,hgb78⟩:∃ z,W77.heap.size = z:=⟨_,rfl⟩;obtain ⟨wn9,hwn9⟩:∃ z,W77.alloc (.cells #[.slice A75 ta.parts.length c75,.slice A77 tb.parts.length c77] 32) = z:=⟨_,rfl⟩;have kwn9:Below W77.heap.size W77 wn9:=by rw [← hwn9];exact below_new _ _
           have b78:Blk wn9 gb78 32 #[.slice A75 ta.parts.length c75,.slice A77 tb.parts.length c77]:=by rw [← hwn9,← hgb78];exact Blk.new _ _ _
           have f17:=f17.keep kwn9;have r75:=r75.below kwn9;have r77:=r77.below kwn9;refine rd 4 (some 78) rfl fun K hK => ?_
           go_simp
           (try rw [hwn9]);(try rw [hgb78])
           refine hK.out _ _ (⟨hHeld.1.keep kwn9,hHeld.2.1.keep kwn9,hHeld.2.2.trans (kwn9.mono hHeld.2.2.size)⟩) fun hHeld => ?_
           clear hK K;(try simp only [pS,pB,pZ,pC]);have hB79:=hHeld.2.2.size;refine rd 5 (some 79) rfl fun K hK => ?_
           go_simp
           (refine (concat2 w w.heap.size ta.parts tb.parts PP HPP.out _ _ _ _ b78 r75 r77 HL96).mono ?_;rintro e W79 ⟨u79,rfl,o79,k79⟩;obtain ⟨A79,c79,rfl,_⟩:=o79.src.slice)
           refine hK.out _ _ (⟨hHeld.1.keep k79,hHeld.2.1.keep k79,hHeld.2.2.trans (k79.mono hHeld.2.2.size)⟩) fun hHeld => ?_
           clear hK K;(try simp only [pS,pB,pZ,pC]);have hne17:(Value.slice A79 PP.length c79).ownBlock ≠ some gf17:=fun e => by have:=o79.lt _ e;have:=f17.lt;omega
           have o79:=o79.mono (base':=w1.heap.size) hB79;have f17:=f17.keep k79;have r75:=r75.below k79;have r77:=r77.below k79;have b78:=b78.keep k79;refine tq 6 80 rfl ?_
           obtain ⟨SS,FF,OO⟩:=and_done (l:=PP) hHeld.1 hHeld.2.1 hHeld.2.2 f17 (by rw [← hgf17];exact hf17) X0.lt Y0.lt o79 hne17
           refine rd 8 none rfl fun K hK => ?_
           refine wp_store4 f17 _ _ rfl rfl rfl ?_ rfl
           simp only [Act.put];refine hK.out _ _ ?_ (fun hHeld => ?_)
           ·exact SS
           clear hK K;generalize st4 _ _ _ _ _ _ = wz at *;(try simp only [pS,pB,pZ,pC]);refine dn ?_
           refine ⟨?_,rfl⟩
           go_wp2_with fail;go_meet;exact ⟨_,_,rfl,FF,OO,SS.2.2⟩
         case rest =>
          obtain ⟨g,kv,rfl,hf,ho,hbx⟩:=hcut;obtain ⟨wx,rfl⟩:∃ z:World,z = wc:=⟨_,rfl⟩;subst hPP;have hbw1:Below w.heap.size w w1:=hB.trans (Q0.mono hB.size);have hbwx:=hbw1.trans (hbx.mono hbw1.size);obtain ⟨Ak,ck,rfl,_⟩:=ho.src.slice;have HV:=valid_any wx wx.heap.size (Nat.le_refl _) ⟨_,_,_,_,andF ta tb,and_rep ho hbwx⟩ HOK3.out;dsimp only at HV;have HV:=Lib.hid HV;have hOlt:=O0.lt;have hoB:∀ g,(Value.slice Ao3 lc.length co3).ownBlock = some g → w.heap.size ≤ g ∧ g < w1.heap.size:=fun g e => ⟨Nat.le_trans hB.size (hOlt g e).1,(hOlt g e).2⟩
          have X1:=X0.keep hbx;have O1:=O0.below hbx;have Q1:=below_up Q0 hbx Q0.size;have HOX:=Lib.hid ho;generalize hkl:(ta.parts ++ tb.parts).length = kl at *;clear ho X0 O0 Q0 hOlt hkl;have hcf:=hf.c4;clear Y0 hlt2 hbw2;go_wp2_with fail;refine HV.out.mono ?_
          rintro e w5 ⟨rfl,k5⟩;have hcf5:=(hf.keep k5).c4;have Z5:=Blk.new w5 39 #[.int .i64 4,.int .i64 0,.slice none 0 0,.slice Ak kl ck];have K6:=below_new w5 (.cells #[.int .i64 4,.int .i64 0,.slice none 0 0,.slice Ak kl ck] 39);have X6:=(X1.keep k5).alloc (.cells #[.int .i64 4,.int .i64 0,.slice none 0 0,.slice Ak kl ck] 39);have O6:=(O1.below k5).below K6;have Q6:=below_up (below_up Q1 k5 Q1.size) K6 (Nat.le_trans Q1.size k5.size);have P6:=and_mask (HOX.out.below (k5.trans (K6.mono k5.size))) (hbwx.trans ((k5.trans (K6.mono k5.size)).mono hbwx.size)) hoB;have R6:=Lib.hid (one_mask Z5 P6 (fun e => by have:=(hoB _ e).2;have:=hbx.size;have:=k5.size;omega))
          have hs6:ga < (w5.alloc (.cells #[.int .i64 4,.int .i64 0,.slice none 0 0,.slice Ak kl ck] 39)).heap.size:=X6.lt;have hl64:lc.length + 1 ≤ 1000000:=by have:=HBD3;omega
          clear hf hcf P6 X1 O1 Q1 HOX Z5 hbx;go_wp2_with (at_builtin;refine wpList_appF rfl _ _ rfl W.heap.size _ lc rfl O6 _ [andF ta tb] rfl R6.out (by simpa using hl64) (Nat.le_trans Q6.size (Nat.le_refl _)) ?_;intro v7 w7 ho7 hg7 hl7)
          rw [← HMT.out] at ho7;have Q7:=Q6.grown hg7 Q6.size (fun g e => (O6.lt g e).1)
          have X7:=X6.grown hg7 (fun e => hne3 e.symm)
          go_roundw
          case rel =>
           refine ⟨q + 1,by go_num,by omega,ho7,Q7,X7,fun e => ?_⟩
           rcases hl7 with h | h
           ·exact hne3 (h.symm.trans e)
           ·rw [h] at e
            cases e
            exact absurd hs6 (Nat.lt_irrefl _)
          case measure => simp [intOf];omega
        ·obtain rfl:q = tp.length:=by omega
         rw [List.take_length,← HCT2.out] at hor3;have HO3:=Lib.hid hor3;clear hor3;go_wp2_with fail;go_roundw
         case rel => exact ⟨j + 1,by go_num,by omega,HO3.out,hbr3⟩
         case measure => simp [intOf];omega
      ·obtain rfl:j = la.length:=by omega
       rw [List.take_length,← HOS.out] at hor2;have HO2:=Lib.hid hor2;clear hor2;go_wp2_with fail;go_roundw
       case rel => exact ⟨k + 1,by go_num,by omega,HO2.out,hbr2⟩
       case measure => simp [intOf];omega
    ·obtain rfl:k = x.t.refs.length:=by omega
     rw [outF_all x.t A h0] at hor;have hbw:=hB.trans (hbr.mono hB.size);have hKr:wr.heap[D]? = some (.deferred (some [])):=(hbr.block D (Array.getElem?_eq_some_iff.1 hK).1).trans hK
     have HFin:=Lib.hid (show Rep (wr.putObj D (.deferred none)) (wr.putObj D (.deferred none)).heap.size _ _ ∧ Below w.heap.size w (wr.putObj D (.deferred none)) from by
      refine ⟨(hor.rep.putObj (.deferred none) hKr rfl).more (by simp),hbw.trans (belowK_b (w:=w) (Nat.le_refl _) wr D _ (.deferred none) (by omega) hKr rfl rfl)⟩)
     clear hor;go_wp2_with fail;refine ⟨by simp,.inl ⟨_,_,rfl,run_takeDeferred hKr,?_⟩⟩
     exact ⟨_,results_tmp2 rfl _ _ _,_,rfl,HFin.out.1,HFin.out.2⟩
 case stop =>
  rintro D c pre W _ _ h _;exact h.elim
def OfMap (W:World) (mb k:Nat) (D:DataW Value) (A:List (List F)):Prop :=
 W.ownsMap Tryz.prog 3 tokR mb k D ∧ ∀ m,m < k → ∃ u,Maps.has D (.int .i64 (m:Int)) = true ∧ D.atKey (.int .i64 (m:Int)) (.held (.slice none 0 0)) = .held u ∧ Rep W W.heap.size u (.s 4 ((A.getD m []).flatMap F.cells))
theorem OfMap.below {W W':World} {mb k:Nat} {D:DataW Value} {A:List (List F)} (h:OfMap W mb k D A) (hb:Below W.heap.size W W'):OfMap W' mb k D A :=
 ⟨h.1.kept (belowG hb) (by simp),fun m hm => by
  obtain ⟨u,h1,h2,h3⟩:=h.2 m hm;exact ⟨u,h1,h2,h3.keep (fun p hp => hb.cell hp) hb.size⟩⟩
theorem OfMap.put {W W':World} {mb k:Nat} {D:DataW Value} {A A':List (List F)} (h:OfMap W mb k D A) (hA:∀ m,m < k → A'.getD m [] = A.getD m []) {u:Value} (hu:Rep W W.heap.size u (.s 4 ((A'.getD k []).flatMap F.cells)))
  (ho:W'.ownsMap Tryz.prog 3 tokR mb (k + 1) (D.put (.int .i64 (k:Int)) (.held u))) (hg:W.grownBy W' (some mb)):OfMap W' mb (k + 1) (D.put (.int .i64 (k:Int)) (.held u)) A':=by
 have hk:∀ (p:Addr) (x:Value),p.block < W.heap.size → W.cell? p = some x → W'.cell? p = some x:=fun p x hp hc => by
  have hne:p.block ≠ mb:=fun e => by
   obtain ⟨o2,h2,h3⟩:=cells_of_cell hc;obtain ⟨es,clock,h4,_⟩:=h.1;rw [e,h4] at h2;cases h2
   cases h3
  rw [World.cell?_of_block (hg.block p.block hp (fun e => hne (by cases e;rfl)))]
  exact hc
 refine ⟨ho,fun m hm => ?_⟩
 by_cases hmk:m = k
 ·subst hmk
  exact ⟨u,Maps.has_put_same h.1.isMap (by trivial) _,Maps.atKey_put_same h.1.isMap (by trivial) _ _,hu.mono hk hg.size⟩
 ·obtain ⟨u',h1,h2,h3⟩:=h.2 m (by omega)
  have hne:(Lit.int .i64 (m:Int)) ≠ .int .i64 (k:Int):=fun e => by cases e;omega
  refine ⟨u',by rw [Maps.has_put_other hne];exact h1,by rw [Maps.atKey_put_other hne];exact h2,?_⟩
  rw [hA m (by omega)]
  exact h3.mono hk hg.size
theorem altsL_stay (l:List Cl) (k m:Nat) (h:k < l.length) (hm:m < k):(altsL l (k + 1)).getD m [] = (altsL l k).getD m []:=by
 rw [altsL_get l (k + 1) m (by omega) (by omega),altsL_get l k m hm (by omega)]
theorem AltsOk.len {l:List Cl} (h:AltsOk l) (k:Nat) (hk:k ≤ l.length) (j:Nat):((altsL l k).getD j []).length ≤ 64:=by
 by_cases hj:j < k
 ·rw [altsL_get l k j hj hk]
  exact (h j (by omega)).2.1
 ·rw [List.getD_eq_getElem?_getD,List.getElem?_eq_none (by rw [altsL_length];omega)]
  simp
theorem alts_any (l:List Cl) (hok:OkCl l) (hal:AltsOk l) (i:Nat) (hi:i < l.length) (v:Value) (w:World) (B:Nat) (hBw:B ≤ w.heap.size) (hr:Rep w B v (.s 5 (l.flatMap Cl.cells))) :
  Calls Tryz.prog 177 #[v,.int .i64 (i:Int)] w fun e w' => ∃ u,e = .returned (.tuple #[u,.int .i64 0]) ∧ Rep w' w'.heap.size u (.s 4 (((altsL l (i + 1)).getD i []).flatMap F.cells)) ∧ Below w.heap.size w w':=by
 have HC:=Lib.hid (check_any l hok i hi v w B hBw hr);obtain ⟨A,c,rfl,hc,hcell⟩:=hr.claims;have HCELL:=Lib.hid hcell;have HOK:=Lib.hid hok;have HAL:=Lib.hid hal;have hl:=hok.1;clear hr hcell hok hal;go_enter Tryz.func177,Tryz.ntmps177
 go_wp2_with fail;refine HC.out.mono ?_
 rintro e w1 ⟨rfl,hb1⟩;have hM0:OfMap (w1.alloc (.map #[] 0)) w1.heap.size 0 (.map []) (altsL l 0):=⟨World.ownsMap_made w1 Tryz.prog 3 tokR,fun m hm => by omega⟩
 have hb2:=hb1.alloc hb1.size (.map #[] 0);have hmb:=hb1.size;have hmk:=run_makeMap (P:=Tryz.prog) 228 w1;go_wp2_with fail;clear hmk;generalize w1.alloc (.map #[] 0) = w2 at *;generalize w1.heap.size = mb at *;go_loopw [26] (fun j wr => ∃ k:Nat,j = .int .i64 (k:Int) ∧ k ≤ i + 1 ∧ (∃ D,OfMap wr mb k D (altsL l k)) ∧ Below w.heap.size w wr) (fun j _ => i + 1 - (intOf j).toNat)
 case atStart => exact ⟨0,rfl,Nat.zero_le _,⟨_,hM0⟩,hb2⟩
 case round =>
  obtain ⟨k,rfl,hk,⟨D,hM⟩,hB⟩:=hrel;by_cases hlt:k < i + 1
  ·have hkl:k < l.length:=by omega
   obtain ⟨b,o,y,rfl,hb,hy,c0,c1,c2,c3,c4⟩:=HCELL.out k hkl;have hb':b < w.heap.size:=Nat.lt_of_lt_of_le hb hBw;have e0:=(hB.cell (p:=⟨b,o + k * 5,none⟩) hb').trans c0;have e1:=(hB.cell (p:=⟨b,o + k * 5 + 1,none⟩) hb').trans c1;have e2:=(hB.cell (p:=⟨b,o + k * 5 + 2,none⟩) hb').trans c2;have e3:=(hB.cell (p:=⟨b,o + k * 5 + 3,none⟩) hb').trans c3;have e4:=(hB.cell (p:=⟨b,o + k * 5 + 4,none⟩) hb').trans c4;obtain ⟨hro,hrl,hof⟩:=HOK.out.2 k hkl;have hao:=HAL.out k hkl;have hget:=altsL_get l (k + 1) k (by omega) (by omega)
   rw [← hy] at hro hrl hof hao hget;have HGET:=Lib.hid hget
   have HA:=Lib.hid (fun (W:World) (hW:Below wr.heap.size wr W) =>
    have hbW:=hB.trans (hW.mono hB.size);have hMW:=hM.below hW;have hkeep:∀ p:Addr,p.block < B → W.cell? p = w.cell? p:=fun p hp => hbW.cell (Nat.lt_of_lt_of_le hp hBw)
    alternatives_any W ⟨y.r,y.a,y.b,y.c,y.d,y.t,y.hr.keep hkeep (Nat.le_trans hBw hbW.size),y.h.keep hkeep (Nat.le_trans hBw hbW.size)⟩ (altsL l k) hao (by have:=hof.1;dsimp only;omega) hrl mb k D hMW.1 (HAL.out.len k (by omega)) (fun q hq => by
     have:=hro q hq
     exact ⟨this.1,Int.le_trans (Int.le_of_lt this.2.1) (by omega)⟩) (fun r hr => by
     obtain ⟨q,hq,rfl⟩:=List.getElem_of_mem hr;have h1:=hro q hq;obtain ⟨u,u1,u2,u3⟩:=hMW.2 (y.t.refs[q].toNat) (by have:=h1.1;have:=h1.2.1;omega)
     have h2:((y.t.refs[q].toNat:Nat):Int) = y.t.refs[q]:=by have:=h1.1;omega
     rw [h2] at u1 u2;exact ⟨u,u1,u2,u3⟩))
   obtain ⟨A0,q0,A1,n1,q1,A2,n2,q2,f0,f1,f2,f3,f4⟩:=clm_form y;dsimp only at HA;rw [f0,f1,f2,f3,f4] at HA;rw [f0] at e0;rw [f1] at e1;rw [f2] at e2;rw [f3] at e3;rw [f4] at e4;clear c0 c1 c2 c3 c4 f0 f1 f2 f3 f4 hy hro hof hao hget;generalize altF y.t (altsL l k) = al at *;generalize y.t.refs.length = rl at *;generalize y.t.body.op = op at *;generalize y.t.body.n = nn at *;have Q0:=below_new wr (.cells #[.slice A0 rl q0,.int .i64 op,.int .i64 nn,.slice A1 n1 q1,.slice A2 n2 q2] 169);go_wp2_with fail;refine (HA.out _ Q0).mono ?_
   rintro e w3 ⟨u,rfl,hu,hb3⟩;have Q3:=Q0.trans (hb3.mono Q0.size);have M3:=hM.below Q3;have B3:=hB.trans (Q3.mono hB.size);clear e0 e1 e2 e3 e4;go_wp2_with (at_mapUpdate;refine wpList_mapUpdate_own _ rfl _ _ _ 228 rfl 3 32 (Maps.int_keyed Tryz.underlying3) Tryz.underlying228 tokR mb k D rfl M3.1 (by unfold maxLen;omega) (.int .i64 (k:Int)) u (.int .i64 (k:Int)) rfl rfl (Maps.keyOf_int_mk Tryz.underlying3 (WalkArith.wf_i64 ⟨by omega,by omega⟩)) (.held u) [] rfl ?_;intro w4 ho4 hg4)
   have M4:=M3.put (A':=altsL l (k + 1)) (fun m hm => altsL_stay l k m hkl hm) (by rw [HGET.out];exact hu) ho4 hg4
   have B4:=B3.grown hg4 B3.size (fun g e => by cases e;exact hmb)
   go_roundw
   case rel => exact ⟨k + 1,by go_num,by omega,⟨_,M4⟩,B4⟩
   case measure => simp [intOf];omega
  ·obtain rfl:k = i + 1:=by omega
   obtain ⟨u,u1,u2,u3⟩:=hM.2 i (by omega)
   have HU:=Lib.hid u3;clear u3;go_wp2_with (at_lookup;refine wpList_lookup_tok rfl _ _ rfl mb (i + 1) D rfl hM.1 (i:Int) (by omega) (by omega) rfl _ u1 u2 ?_)
   exact bodyPost_ret (results_tmp2 rfl _ _ _) rfl ⟨_,rfl,HU.out,hB⟩
end Go.Proofs.YtbeaijjaecaidaaGreatDoor
