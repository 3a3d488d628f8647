import Derived.Test.YtglkadmfjaecmaaGreatDoorD05
set_option maxRecDepth 100000
set_option maxHeartbeats 16000000
namespace Go.Proofs.YtglkadmfjaecmaaGreatDoor
open Go.RowKit Go.Shelf Tryz
open Go.Value renaming slice->I, int->O
open Go.IntKind renaming i64->Z
open Go.Ending renaming returned->V
open Go.Obj renaming cells->U
attribute [local go_sem] Oper.semAt_some
variable {B i:Nat} {K:Act -> World -> Prop} {Q:Exit -> Act -> World -> Prop} {W w w' w0 w2 wr:World} {bs:List Nat} {cs:Array Value} {ds:List D} {o:Oper} {ops:Array Oper} {u:Value}
theorem Ygx (t:F):Zen t = Zq0 t ++ t.kids.flatMap Zen:=by
 unfold Zen;rw [t.nodes_eq,de,List.flatMap_assoc]
theorem Zlt:∀ l:List F,(∀ y ∈ l,Zeg y /\ y.kids.length <= 1000000) -> (l.flatMap Zq0).length <= 200 * l.length
 | [],_ => by simp
 | y :: l,h => by
  have h1:=Zlt l (fun y hy => h y (dh _ hy));have a:=Zvq (h y da).1 (h y da).2;rw [de,ai,au];omega
theorem Zz4:∀ {t y:F},y ∈ t.nodes -> y.size <= t.size:=by
 intro t;induction h:t.size using Nat.strongRecOn generalizing t with
 | _ n ih =>
  intro y hy;rw [F.nodes_eq] at hy;rcases List.mem_cons.1 hy with rfl | hy
  ·omega
  ·obtain ⟨k,a,hy⟩:=List.mem_flatMap.1 hy;have hs:=F.kid_size a;have:=ih k.size (by omega) rfl hy;omega
theorem Zis (t:F):t.kids.length < t.size:=by
 have h1:=kids_le t.kids;have a:=t.nodes_length;rw [t.nodes_eq,au,Zal] at a;omega
theorem OkN.all {t:F} (h:OkN t):∀ y ∈ t.nodes,Zeg y /\ y.kids.length <= 1000000:=fun y hy => ⟨h.2 y hy,by
 have h1:=Zz4 hy;have a:=Zis y;have b:=h.1;omega⟩
theorem OkN.take_len {t:F} (h:OkN t) (k:Nat):((t.kids.take k).flatMap Zen).length <= 19200:=by
 have e:(t.kids.take k).flatMap Zen = ((t.kids.take k).flatMap F.nodes).flatMap Zq0:=by
  rw [List.flatMap_assoc];rfl
 rw [e];have h1:=Zlt ((t.kids.take k).flatMap F.nodes) (fun y hy => h.all y (by
  rw [F.nodes_eq];obtain ⟨a,b,hy⟩:=List.mem_flatMap.1 hy;exact dh _ (List.mem_flatMap.2 ⟨a,ed b,hy⟩)))
 rw [Zal] at h1;have f:=Zev t.kids k;have g:=h.1;have d:Zbr t.kids <= 96:=by
  have c:=t.nodes_length;rw [t.nodes_eq,au,Zal] at c;omega
 omega
theorem OkN.len {t:F} (h:OkN t):(Zen t).length <= 19200:=by
 have h1:=Zlt t.nodes h.all;rw [F.nodes_length] at h1;have:=h.1;unfold Zen;omega
theorem Ygy {ins:List Iv} (hl:ins.length <= 1) (h:∀ x ∈ ins,Yfp x) (k:Nat):((ins.take k).flatMap fun x => Zc0 x.nums).length <= 90:=by
 match ins,hl,h with
 | [],_,_ => simp
 | [z],_,h2 =>
  cases k with
  | zero => simp
  | succ k => simpa using Zlp (h2 z da)
def Zst (w wr:World) (t:TypeId) (cs:Array Value) (u:Value) (bs:List Nat):Prop:=Blk wr w.heap.size t cs /\ Bl w wr /\ Zd2 wr (w.heap.size + 1) u bs
theorem Zst.call {t:TypeId} (h:Zst w wr t cs u bs) (a:Bl wr w2):Zst w w2 t cs u bs :=
 ⟨h.1.keep a,Zaa h.2.1 a h.2.1.size,h.2.2.below a⟩
theorem Zst.app {t:TypeId} {v:Value} {ds:List Nat} (h:Zst w wr t cs u bs) (ho:Zd2 w2 (w.heap.size + 1) v ds) (a:wr.grownBy w2 u.ownBlock):Zst w w2 t cs v ds :=
 ⟨h.1.grown a (fun e => by have:=h.2.2.lt _ e.symm;omega),h.2.1.grown a h.2.1.size (h.2.2.mono (gq _)).lt,ho⟩
theorem Zst.size {t:TypeId} (h:Zst w wr t cs u bs):w.heap.size + 1 <= wr.heap.size:=h.1.lt
theorem Zj9:∀ (n:Nat) (w:World) (B:Nat) (x:Zan w B),B <= w.heap.size -> x.t.size <= n -> OkN x.t ->
  Calls prog 137 #[.agg #[x.a,x.b,x.c,x.d]] w fun e w' => ∃ v,e = V v /\ Zd2 w' w.heap.size v (Zen x.t) /\ Bl w w':=by
 intro n;induction n with
 | zero => intro w B x _ h;have:=x.t.size_pos;omega
 | succ n ih =>
  intro w B x C hx s;have bc:=s.1;have a7:x.t.kids.length <= 96:=by have:=Zis x.t;omega
  have HK:=ae (fun (k:F) (h:k ∈ x.t.kids) => (⟨F.kid_size h,Zk3 x.t s k h⟩:k.size < x.t.size /\ OkN k));have a2:=ae s.take_len;have hn:=s.node;have q:=Znm hn;have a3:=q.1;have be:0 <= x.t.op /\ x.t.op <= 6:=by rcases hn with h | h | h | h | h <;> omega
  have a9:0 <= x.t.n /\ x.t.n <= 64:=by rcases hn with h | h | h | h | h <;> omega
  have J:=ae q.2;have hE:=Ygx x.t;unfold Zq0 at hE;have HE:=ae hE;obtain ⟨e1,e2,r3,r4⟩:=x.parts;obtain ⟨A1,X,e3,a0,G⟩:=r3.ivs;obtain ⟨A,c,e4,hc,r⟩:=r4.formulas;have a4:=ae G;have M:=ae r;obtain ⟨xa,xb,xc,xd,Y,xh⟩:=x;dsimp only at *;subst e1 e2 e3 e4;clear r3 r4 s a0 G xh hn q hE r;generalize Zen Y = out at *;generalize Y.kids = kids at *;generalize Y.size = sz at *;generalize Y.op = op at *;generalize Y.n = nn at *;generalize Y.ins = ins at *;have HO:=ae (fun W => Zcf op (by omega) (by omega) W);have an:=ae (fun W => Zcf nn (by omega) (by omega) W);have a1:=ae (fun W => Zcf (ins.length:Int) (by omega) (by omega) W);have al:=ae (fun W => Zcf (kids.length:Int) (by omega) (by omega) W);have l1:=Za2 (n:=op) (by omega) (by omega);have l2:=Za2 (n:=nn) (by omega) (by omega);have l3:=Za2 (n:=(ins.length:Int)) (by omega) (by omega);have l4:=Za2 (n:=(kids.length:Int)) (by omega) (by omega);have B0:=Blk.new w 46 #[O Z op,O Z nn,I A1 ins.length X,I A kids.length c];have P0:=Zab w (U #[O Z op,O Z nn,I A1 ins.length X,I A kids.length c] 46);go_enter func137,ntmps137;go_upto_region 1 with fail;generalize w.alloc _=wa at *;refine wp_region_held_drew (S:=(fun w' => Blk w' w.heap.size 46 #[O Z op,O Z nn,I A1 ins.length X,I A kids.length c] /\ Bl w w')) (by kernel_rfl) ?_ (fun f => ?_)
  ·first | done | ((try dsimp only);exact ⟨B0,P0.drew⟩)
  clear B0 P0;generalize wa.drew = wb at *;refine tq 0 6 rfl ?_;refine th 1 7 rfl (fun _ P => P.1.c4) ?_;refine tq 3 9 rfl ?_;refine th 4 10 rfl (fun _ P => P.1.c4) ?_;have af:=f.1.lt;refine rd 2 (some 8) rfl fun K H => ?_;go_simp;(refine (HO.out _).mono ?_;rintro e w1 ⟨v1,rfl,o1,k1⟩);refine H.out _ _ (⟨f.1.keep k1,f.2.trans (k1.mono f.2.size)⟩) fun f => ?_;clear H K;(try simp only [pS,pB,pZ,pC]);have av:=f.1.lt;refine rd 5 (some 11) rfl fun K H => ?_;go_simp;(refine (an.out _).mono ?_;rintro e w2 ⟨v2,rfl,o2,k2⟩);refine H.out _ _ (⟨f.1.keep k2,f.2.trans (k2.mono f.2.size)⟩) fun f => ?_;clear H K;(try simp only [pS,pB,pZ,pC]);have L:Zd2 w2 (w.heap.size + 1) v1 (Zbl op):=(o1.mono af).below k2;refine rd 6 (some 12) rfl fun K H => ?_;refine Zzq _ _ rfl (w.heap.size + 1) v1 _ rfl L v2 _ rfl o2.rep (by omega) f.1.lt ?_;intro v3 w3 o3 g3;have T:Zst w w3 46 #[O Z op,O Z nn,I A1 ins.length X,I A kids.length c] v3 (Zbl op ++ Zbl nn):=Zst.app ⟨f.1,f.2,L⟩ o3 g3;refine H.out _ _ ?_ (fun f => ?_)
  ·exact ⟨T.1,T.2.1⟩
  clear H K;(try simp only [pS,pB,pZ,pC]);refine tq 7 3 rfl ?_;refine dn ?_;clear f af av o1 o2 o3 k1 k2 L g3;have am:=T.1.c4;have b0:(Zbl op ++ Zbl nn).length <= 20:=by rw [ai];omega
  generalize hb0:Zbl op ++ Zbl nn = bs0 at *;go_wp2_with (first
   | (go_at_call 90;refine (a1.out _).mono ?_;rintro e w4 ⟨v4,rfl,o4,k4⟩)
   | (at_builtin;refine Za7 rfl _ _ rfl (w.heap.size + 1) v3 bs0 rfl (T.call k4).2.2 _ _ rfl o4.rep (by omega) (T.call k4).size ?_;intro v5 w5 o5 g5))
  have W5:=(T.call k4).app o5 g5;clear T am o4 k4 o5 g5;have b1:(bs0 ++ Zbl (ins.length:Int)).length <= 30:=by rw [ai];omega
  generalize hb1:bs0 ++ Zbl (ins.length:Int) = bs1 at *;go_loopw [3,4] (fun u i wr => ∃ k:Nat,i = O Z (k:Int) /\ k <= ins.length /\ Zst w wr 46 #[O Z op,O Z nn,I A1 ins.length X,I A kids.length c] u (bs1 ++ (ins.take k).flatMap fun x => Zc0 x.nums)) (fun _ i _ => ins.length - (intOf i).toNat)
  case atStart => exact ⟨0,rfl,bi _,by simpa using W5⟩
  case round =>
   obtain ⟨k,rfl,hk,j⟩:=hrel;have ab:=j.1.c4;have aq:=Ygy a3 J.out k;have aa:(bs1 ++ (ins.take k).flatMap fun x => Zc0 x.nums).length <= 200:=by rw [ai];omega
   by_cases m:k < ins.length
   ·obtain ⟨b,o,rfl,hb,d0,d1,d2,d3,d4,d5,d6,d7⟩:=a4.out k m;have g:b < w.heap.size:=ah hb C;have l:=j.2.1;have c0:=(l.cell (p:=⟨b,o + k * 8,none⟩) g).trans d0;have c1:=(l.cell (p:=⟨b,o + k * 8 + 1,none⟩) g).trans d1;have c2:=(l.cell (p:=⟨b,o + k * 8 + 2,none⟩) g).trans d2;have c3:=(l.cell (p:=⟨b,o + k * 8 + 3,none⟩) g).trans d3;have c4:=(l.cell (p:=⟨b,o + k * 8 + 4,none⟩) g).trans d4;have c5:=(l.cell (p:=⟨b,o + k * 8 + 5,none⟩) g).trans d5;have c6:=(l.cell (p:=⟨b,o + k * 8 + 6,none⟩) g).trans d6;have c7:=(l.cell (p:=⟨b,o + k * 8 + 7,none⟩) g).trans d7;have hz:=J.out ins[k] (aw m);have HN:=ae (fun W => Zz3 ins[k] (Zlo hz) W);have a6:=Zlp hz;have HT:bs1 ++ (ins.take (k + 1)).flatMap (fun x => Zc0 x.nums) = bs1 ++ ((ins.take k).flatMap fun x => Zc0 x.nums) ++ Zc0 ins[k].nums:=by
     rw [dq,ak m,bm];simp
    have R:=ae HT;clear d0 d1 d2 d3 d4 d5 d6 d7 HT hz l W5;generalize ins[k] = z at *;generalize bs1 ++ ((ins.take k).flatMap fun x => Zc0 x.nums) = bsk at *;go_wp2_with (first
     | (go_at_call 176;refine (HN.out _).mono ?_;rintro e w6 ⟨v6,rfl,o6,N⟩)
     | (at_builtin;refine Za7 rfl _ _ rfl (w.heap.size + 1) _ bsk rfl (j.call N).2.2 _ _ rfl o6.rep (by omega) (j.call N).size ?_;intro v7 w7 o7 g7))
    have W7:=(j.call N).app o7 g7;rw [<- R.out] at W7;go_roundw
    case rel => exact ⟨k + 1,by go_num,by omega,W7⟩
    case measure => simp [intOf];omega
   ·obtain rfl:k = ins.length:=by omega
    rw [df] at *;clear W5;generalize hb2:bs1 ++ ins.flatMap (fun x => Zc0 x.nums) = bs2 at *;go_wp2_with (first
     | (go_at_call 90;refine (al.out _).mono ?_;rintro e w8 ⟨v8,rfl,o8,k8⟩)
     | (at_builtin;refine Za7 rfl _ _ rfl (w.heap.size + 1) _ bs2 rfl (j.call k8).2.2 _ _ rfl o8.rep (by omega) (j.call k8).size ?_;intro v9 w9 o9 g9))
    have W9:=(j.call k8).app o9 g9;clear j ab o8 k8 o9 g9;have b3:(bs2 ++ Zbl (kids.length:Int)).length <= 300:=by rw [ai];omega
    generalize hb3:bs2 ++ Zbl (kids.length:Int) = bs3 at *;clear aq aa hk m;go_loopw [3,5] (fun u i wr => ∃ k:Nat,i = O Z (k:Int) /\ k <= kids.length /\ Zst w wr 46 #[O Z op,O Z nn,I A1 ins.length X,I A kids.length c] u (bs3 ++ (kids.take k).flatMap Zen)) (fun _ i _ => kids.length - (intOf i).toNat)
    case atStart => exact ⟨0,rfl,bi _,by simpa using W9⟩
    case round =>
     obtain ⟨k,rfl,hk,j⟩:=hrel;have ab:=j.1.c4;have a5:=a2.out k;have aa:(bs3 ++ (kids.take k).flatMap Zen).length <= 19500:=by rw [ai];omega
     by_cases m:k < kids.length
     ·obtain ⟨b,o,y,rfl,hb,hy,c0,c1,c2,c3⟩:=M.out k m;have g:b < w.heap.size:=ah hb C;have d0:=(j.2.1.cell (p:=⟨b,o + k * 4,none⟩) g).trans c0;have d1:=(j.2.1.cell (p:=⟨b,o + k * 4 + 1,none⟩) g).trans c1;have d2:=(j.2.1.cell (p:=⟨b,o + k * 4 + 2,none⟩) g).trans c2;have d3:=(j.2.1.cell (p:=⟨b,o + k * 4 + 3,none⟩) g).trans c3;have E:=HK.out _ (aw m);have HT:bs3 ++ (kids.take (k + 1)).flatMap Zen = bs3 ++ ((kids.take k).flatMap Zen) ++ Zen kids[k]:=by
       rw [dq,ak m,bm];simp
      rw [<- hy] at E HT;have a8:=E.2.len;have R:=ae HT;have HI:=ae (ih _ B ⟨y.a,y.b,y.c,y.d,y.t,y.h.keep (fun p hp => j.2.1.cell (ah hp C)) (ag _)⟩ (aj C j.2.1.size) (by dsimp only;omega) E.2);clear c0 c1 c2 c3 ih hy E HT W9;dsimp only at HI;obtain ⟨ya,yb,yc,yd,yt,yh⟩:=y;obtain ⟨A2,n1,q2,A3,n2,q3,e1,e2,e3,e4⟩:=Zaq yh;dsimp only at *;subst e1 e2 e3 e4;clear yh;generalize bs3 ++ ((kids.take k).flatMap Zen) = bsk at *;go_wp2_with (first
       | (go_at_call 137;refine HI.out.mono ?_;rintro e w6 ⟨v6,rfl,o6,N⟩)
       | (at_builtin;refine Za7 rfl _ _ rfl (w.heap.size + 1) _ bsk rfl (j.call N).2.2 _ _ rfl o6.rep (by omega) (j.call N).size ?_;intro v7 w7 o7 g7))
      have W7:=(j.call N).app o7 g7;rw [<- R.out] at W7;go_roundw
      case rel => exact ⟨k + 1,by go_num,by omega,W7⟩
      case measure => simp [intOf];omega
     ·obtain rfl:k = kids.length:=by omega
      rw [df] at j;have ad:=ae j;clear W9 j;go_wp2_with fail;go_ret;refine ⟨_,rfl,?_,ad.out.2.1⟩;have hO:=ad.out.2.2.mono (gq _);rw [HE.out];exact hO
theorem Zs7 (w:World) (B:Nat) (f:B <= w.heap.size) (x:Zan w B) (h:OkF x.t) :
  Calls prog 93 #[.agg #[x.a,x.b,x.c,x.d]] w fun e w' => ∃ v,e = V (.tuple #[v,O Z 0]) /\ Zd2 w' w.heap.size v (Zen x.t) /\ Bl w w':=by
 have R:=ae (fun (W:World) (j:Bl w W) => Zfa W B (aj f j.size) (x.up (B':=B) (fun p q => j.cell (ah q f)) (ag _)) h);have M:=ae (fun (W:World) (j:Bl w W) => Zj9 x.t.size W B (x.up (B':=B) (fun p q => j.cell (ah q f)) (ag _)) (aj f j.size) (ag _) ⟨h.1,h.2.2⟩);obtain ⟨xa,xb,xc,xd,m,y⟩:=x;obtain ⟨A,z,s,C,H,E,N,X,P,Y⟩:=Zaq y;dsimp only [Zan.up] at *;subst N X P Y;clear y h;generalize Zen m = out at *;generalize m.op = op at *;generalize m.n = nn at *;have G:=Blk.new w 46 #[O Z op,O Z nn,I A z s,I C H E];have l:=Zab w (U #[O Z op,O Z nn,I A z s,I C H E] 46);go_enter func93,ntmps93;go_wp2_with fail;refine (R.out _ l).mono ?_;rintro e w1 ⟨rfl,g⟩;have J:=G.keep g;have k:=Zaa l g l.size;have T:=J.c4;clear G l g;go_wp2_with fail;refine (M.out _ k).mono ?_;rintro e w2 ⟨v2,rfl,L,r⟩;have S:=Zaa k r k.size;go_wp2_with fail;exact bodyPost_ret (results_tmp2 rfl _ _ _) rfl ⟨_,rfl,L.mono k.size,S⟩
theorem Zb6.app {a b:List Nat} (h:Zb6 a) (k:Zb6 b):Zb6 (a ++ b):=fun x c => by
 rcases List.mem_append.1 c with h1 | h1
 ·exact h x h1
 ·exact k x h1
theorem Zb6.flat {α:Type} {f:α -> List Nat} {l:List α} (h:∀ x ∈ l,Zb6 (f x)):Zb6 (l.flatMap f):=fun x b => by
 obtain ⟨a,c,b⟩:=List.mem_flatMap.1 b;exact h a c x b
theorem Zos (n:Nat):Zb6 (uvL n):=by
 induction n using Nat.strongRecOn with
 | _ n ih =>
  by_cases h:n < 128
  ·rw [Zf5 h];intro x a;rw [List.mem_singleton.1 a];omega
  ·rw [Znj (by omega)];intro x a;rcases List.mem_cons.1 a with rfl | a
   ·omega
   ·exact ih (n / 128) (by omega) x a
theorem Zc3 (n:Int):Zb6 (Zbl n):=Zos _
theorem Znn (l:List Int):Zb6 (Zc0 l):=(Zos _).app (Zb6.flat fun x _ => Zc3 x)
theorem Zit {l:List Nat} (h:Zb6 l):Zb6 (Zef l):=(Zos _).app h
theorem Zxr (y:F):Zb6 (Zq0 y):=((((Zc3 _).app (Zc3 _)).app (Zc3 _)).app (Zb6.flat fun _ _ => Znn _)).app (Zc3 _)
theorem Zhg (t:F):Zb6 (Zen t):=Zb6.flat fun y _ => Zxr y
def Zqd (c:Cl):List Nat:=Zc0 c.refs ++ Zef (Zen c.body)
def Zgw (l:List Cl):List Nat:=Zbl (l.length:Int) ++ l.flatMap Zqd
theorem Zlu (l:List Cl):Zb6 (Zgw l):=(Zc3 _).app (Zb6.flat fun _ _ => (Znn _).app (Zit (Zhg _)))
theorem Zjo {r:List Int} (hi:i <= 1000) (h:Zd5 r i):Yc5 r:=fun n hn => by
 obtain ⟨k,a,rfl⟩:=ee hn;have:=h k a;omega
theorem Ydo {c:Cl} (hi:i <= 1000) (h:Zd5 c.refs i) (hl:c.refs.length <= 8) (a:OkF c.body):(Zqd c).length <= 19400:=by
 have h1:=Zcj (Zjo hi h);have d:=Za9 (n:=c.refs.length) (by omega);have e:=OkN.len (t:=c.body) ⟨a.1,a.2.2⟩;have b:=Za9 (n:=(Zen c.body).length) (by omega);unfold Zqd Zc0 Zef;simp only [ai];omega
theorem Zs2.take_len {l:List Cl} (h:Zs2 l) (k:Nat):((l.take k).flatMap Zqd).length <= 620800:=by
 have key:∀ m:List Cl,(∀ c ∈ m,(Zqd c).length <= 19400) -> (m.flatMap Zqd).length <= 19400 * m.length:=by
  intro m;induction m with
  | nil => simp
  | cons a m ih =>
   intro hm;have h1:=hm a da;have e:=ih (fun c hc => hm c (dh _ hc));rw [de,ai,au];omega
 have h1:=key (l.take k) (fun c hc => by
  obtain ⟨i,hi,rfl⟩:=ee (ed hc);obtain ⟨a,b,d⟩:=h.2 i hi;exact Ydo (by have:=h.1;omega) a b d)
 have e:=List.length_take_le' k l;have f:=h.1;omega
theorem Zd2.keepG {j:World} {base g:Nat} {cs:List Nat} {v:Value} (p:Ze0 W base g bs) (m:Bl W j) (ho:Zd2 j W.heap.size v cs) (k:Zc2 g base j w2):Zd2 w2 W.heap.size v cs:=by
 obtain ⟨_,q,s,l,b⟩:=p;obtain ⟨c,_⟩:=k.2 q (l.keep m);obtain ⟨n,h1,h⟩:=ho;refine ⟨n,h1,?_⟩;rcases h with h | ⟨i,cap,f,e,a,d,rest⟩
 ·exact .inl h
 ·refine .inr ⟨i,cap,f,e,a,(c i (Array.getElem?_eq_some_iff.1 d).1 ?_ ?_).trans d,rest⟩
  ·have:=l.lt;omega
  ·intro r;have:=(b.lt i r).2;omega
theorem Ydp (l:List Cl) (J:Zs2 l) (v:Value) (w:World) (B:Nat) (f:B <= w.heap.size) (hr:Rep w B v (.s 5 (l.flatMap Cl.cells))) :
  Calls prog 124 #[v] w fun e w' => ∃ u,e = V (.tuple #[u,O Z 0]) /\ Zd2 w' w.heap.size u (Zgw l) /\ Bl w w':=by
 have HV:=ae (fun (W:World) (d:Bl w W) => Zjn l J v W B (aj f d.size) (hr.keep (fun p hp => d.cell (ah hp f)) (ag _)));obtain ⟨A,c,rfl,hc,x⟩:=hr.claims;have an:=ae J.take_len;obtain ⟨hl,hi⟩:=J;have HI:=ae hi;have H:=ae x;have aq:=Za2 (n:=(l.length:Int)) (by omega) (by omega);clear hr x hi;go_enter func124,ntmps124;go_wp2_with fail;refine (HV.out _ (ap _ _)).mono ?_;rintro e M ⟨rfl,C⟩;have G1:=Blk.new M 164 #[I none 0 0];have P1:=C.alloc C.size (U #[I none 0 0] 164);have ad:=C.size;have W1:Ze0 (M.alloc (U #[I none 0 0] 164)) w.heap.size M.heap.size []:=⟨ad,_,0,G1,d8 _ _ _ _⟩;go_wp2_with fail;generalize M.heap.size = g at *;generalize M.alloc _=w2 at *;refine (Zdy g w.heap.size [] (l.length:Int) w2 (by omega) (by omega) W1 (by simp)).mono ?_;rintro e w3 ⟨⟨v3,rfl⟩,P,k3⟩;rw [dm] at P;have P3:=P1.trans k3.1;clear W1 G1 P1 C k3;go_wp2_with fail;go_loopw [23] (fun j wr => ∃ k:Nat,j = O Z (k:Int) /\ k <= l.length /\ Ze0 wr w.heap.size g (Zbl (l.length:Int) ++ (l.take k).flatMap Zqd) /\ Bl w wr) (fun j _ => l.length - (intOf j).toNat)
 case atStart => exact ⟨0,rfl,bi _,by simpa using P,P3⟩
 case round =>
  obtain ⟨k,rfl,hk,d,z⟩:=hrel;have av:=an.out k;have aa:(Zbl (l.length:Int) ++ (l.take k).flatMap Zqd).length <= 621000:=by rw [ai];omega
  by_cases G:k < l.length
  ·obtain ⟨b,o,y,rfl,hb,hy,c0,c1,c2,c3,c4⟩:=H.out k G;have m:b < w.heap.size:=ah hb f;have e0:=(z.cell (p:=⟨b,o + k * 5,none⟩) m).trans c0;have e1:=(z.cell (p:=⟨b,o + k * 5 + 1,none⟩) m).trans c1;have e2:=(z.cell (p:=⟨b,o + k * 5 + 2,none⟩) m).trans c2;have e3:=(z.cell (p:=⟨b,o + k * 5 + 3,none⟩) m).trans c3;have e4:=(z.cell (p:=⟨b,o + k * 5 + 4,none⟩) m).trans c4;obtain ⟨E,R,q⟩:=HI.out k G;have HT:Zbl (l.length:Int) ++ (l.take (k + 1)).flatMap Zqd = Zbl (l.length:Int) ++ (l.take k).flatMap Zqd ++ Zc0 l[k].refs ++ Zef (Zen l[k].body):=by
    rw [dq,ak G,bm];simp [Zqd]
   rw [<- hy] at E R q HT;have ab:=ae HT;have a:∀ W,Bl w W -> ∀ p:Addr,p.block < B -> W.cell? p = w.cell? p:=fun W d p hp => d.cell (ah hp f);have HE:=ae (fun (W:World) (d:Bl w W) => Zz1 W B (aj f d.size) (y.body.up (a W d) (ag _)) q);have HR:=ae (fun (W:World) (d:Bl w W) => (y.hr.keep (a W d) f:Rep W w.heap.size y.r _));have L:=ae (Zjo (i:=k) (by omega) E);have a0:=OkN.len (t:=y.t.body) ⟨q.1,q.2.2⟩;have af:=ae (Zhg y.t.body);have a1:(Zc0 y.t.refs).length <= 100:=by
    have h1:=Zcj L.out;have h2:=Za9 (n:=y.t.refs.length) (by omega);unfold Zc0;rw [ai];omega
   obtain ⟨A0,Y,A1,T,q1,X,n2,q2,f0,f1,f2,S,f4⟩:=Ziq y;dsimp only [Zan.up,Zko.body] at HE;rw [f0] at HR;rw [f1,f2,S,f4] at HE;rw [f0] at e0;rw [f1] at e1;rw [f2] at e2;rw [S] at e3;rw [f4] at e4;clear c0 c1 c2 c3 c4 f0 f1 f2 S f4 hy E q a HT P;generalize Zen y.t.body = fb at *;generalize y.t.refs = rs at *;generalize y.t.body.op = op at *;generalize y.t.body.n = nn at *;generalize Zbl (l.length:Int) ++ (l.take k).flatMap Zqd = bs at *;have X0:=Blk.new wr 129 #[I A0 rs.length Y,O Z op,O Z nn,I A1 T q1,I X n2 q2];have N:=z.alloc z.size (U #[I A0 rs.length Y,O Z op,O Z nn,I A1 T q1,I X n2 q2] 129);have W0:=d.alloc (U #[I A0 rs.length Y,O Z op,O Z nn,I A1 T q1,I X n2 q2] 129);go_wp2_with fail;generalize wr.alloc _=wa at *;refine (HE.out _ N).mono ?_;rintro e w4 ⟨v4,rfl,o4,h⟩;have X4:=X0.keep h;have Q4:=Zaa N h N.size;have W4:=W0.grown h;have al:=X4.c5;clear e0 e1 e2 e3 e4 X0;go_wp2_with fail;refine (Yie g w.heap.size bs rs _ w4 W4 (by omega) L.out (HR.out _ Q4)).mono ?_;rintro e w5 ⟨⟨v5,rfl⟩,W5,k5⟩;have o5:=Zd2.keepG W0 h o4 k5;have Q5:=Q4.trans k5.1.1;clear o4 W4 Q4 k5 al X4 W0 N h;go_wp2_with fail;refine (Zk0 g w.heap.size _ fb v4 w5 W5 (by rw [ai];omega) (by omega) af.out o5.rep).mono ?_;rintro e w6 ⟨⟨v6,rfl⟩,W6,k6⟩;have Q6:=Q5.trans k6.1;rw [<- ab.out] at W6;clear W5 Q5 k6 o5;go_wp2_with fail;go_roundw
   case rel => exact ⟨k + 1,by go_num,by omega,W6,Q6⟩
   case measure => simp [intOf];omega
  ·obtain rfl:k = l.length:=by omega
   rw [df] at d aa;have HW:=ae d;clear d P;go_wp2_with fail;refine (Zir g w.heap.size _ wr HW.out (by omega)).mono ?_;rintro e w7 ⟨v7,rfl,o7,am⟩;go_wp2_with fail;exact bodyPost_ret (results_tmp2 rfl _ _ _) rfl ⟨_,rfl,o7.mono z.size,Zaa z am z.size⟩
theorem Zs8 (r:List Int) (i:Nat) (hl:r.length <= 1000) (d:Zd5 r i) (v:Value) (w:World) (B:Nat) (hr:Rep w B v (.s 1 (Zdv (Zdj r)))) :
  Calls prog 177 #[v,O Z (i:Int)] w fun e w' => e = V (.bool true) /\ ∃ n,w' = w.drewN n:=by
 obtain ⟨A,c,rfl,hc,a⟩:=hr.row;rw [Zb1] at hc ⊢;clear hr;go_enter func177,ntmps177;go_wp2;go_loopw [5] (fun j wr => ∃ k:Nat,j = O Z (k:Int) /\ k <= r.length /\ ∃ n,wr = w.drewN n) (fun j _ => r.length - (intOf j).toNat)
 case atStart => exact ⟨0,rfl,bi _,0,rfl⟩
 case round =>
  obtain ⟨k,rfl,t,n,rfl⟩:=hrel;by_cases f:k < r.length
  ·obtain ⟨b,o,rfl,q,l⟩:=a k _ (Zbx r k f);have h1:=(d k f).1;have p:=(d k f).2.1;have d1:decide (r[k] < (0:Int)) = false:=by simp;omega
   have d2:decide ((i:Int) <= r[k]) = false:=by simp;omega
   cases k with
   | zero =>
    rw [Nat.add_zero] at l;generalize r[0] = z at *;clear a d;go_upto_region 4 with fail;go_quiet (fail);go_wp2;go_roundw
    case rel => exact ⟨1,by go_num,by omega,_,rfl⟩
    case measure => simp [intOf];omega
   | succ j =>
    obtain ⟨b',o',h,_,c1⟩:=a j _ (Zbx r j (by omega));cases h;have m:=(d (j + 1) f).2.2 (by omega);have g:r[j + 1 - 1] = r[j]:=rfl;rw [g] at m;have x:decide (r[j + 1] <= r[j]) = false:=by simp;omega
    clear g;generalize r[j + 1] = z at *;generalize r[j] = y at *;clear a d;go_upto_region 4 with fail;go_quiet (fail);go_wp2;go_roundw
    case rel => exact ⟨j + 1 + 1,by go_num,by omega,_,rfl⟩
    case measure => simp [intOf];omega
  ·obtain rfl:k = r.length:=by omega
   clear a d;go_wp2_with fail;go_ret;exact ⟨rfl,_,rfl⟩
theorem Zf7 (l:List Cl) (M:Zs2 l) (v:Value) (w:World) (B:Nat) (m:B <= w.heap.size) (hr:Rep w B v (.s 5 (l.flatMap Cl.cells))) :
  Calls prog 138 #[v] w fun e w' => e = V (O Z 0) /\ Bl w w':=by
 obtain ⟨A,c,rfl,hc,f⟩:=hr.claims;obtain ⟨hl,hi⟩:=M;have HI:=ae hi;have x:=ae f;have d0:decide ((32:Int) < (l.length:Int)) = false:=by simp;omega
 clear hr f hi;go_enter func138,ntmps138;go_wp2_with fail;go_loopw [3] (fun j wr => ∃ k:Nat,j = O Z (k:Int) /\ k <= l.length /\ Bl w wr) (fun j _ => l.length - (intOf j).toNat)
 case atStart => exact ⟨0,rfl,bi _,ap _ _⟩
 case round =>
  obtain ⟨k,rfl,hk,g⟩:=hrel;by_cases C:k < l.length
  ·obtain ⟨b,o,y,rfl,hb,hy,c0,c1,c2,X,c4⟩:=x.out k C;have d:b < w.heap.size:=ah hb m;have e0:=(g.cell (p:=⟨b,o + k * 5,none⟩) d).trans c0;have R:=(g.cell (p:=⟨b,o + k * 5 + 1,none⟩) d).trans c1;have T:=(g.cell (p:=⟨b,o + k * 5 + 2,none⟩) d).trans c2;have S:=(g.cell (p:=⟨b,o + k * 5 + 3,none⟩) d).trans X;have Y:=(g.cell (p:=⟨b,o + k * 5 + 4,none⟩) d).trans c4;obtain ⟨h,E,q⟩:=HI.out k C;rw [<- hy] at h E q;have a:∀ W,Bl w W -> ∀ p:Addr,p.block < B -> W.cell? p = w.cell? p:=fun W z p hp => z.cell (ah hp m);have HR:=ae (fun (W:World) (z:Bl w W) => Zs8 y.t.refs k (by omega) h y.r W B (y.hr.keep (a W z) (ag _)));have J:=ae (fun (W:World) (z:Bl w W) => Zfa W B (aj m z.size) (y.body.up (a W z) (ag _)) q);obtain ⟨A0,q0,A1,n1,q1,A2,n2,q2,N,H,f2,G,f4⟩:=Ziq y;dsimp only [Zan.up,Zko.body] at J;have d1:decide ((8:Int) < (y.t.refs.length:Int)) = false:=by simp;omega
   rw [N] at HR;rw [H,f2,G,f4] at J;rw [N] at e0;rw [H] at R;rw [f2] at T;rw [G] at S;rw [f4] at Y;clear c0 c1 c2 X c4 N H f2 G f4 hy h q a;generalize y.t.refs.length = rl at *;generalize y.t.body.op = op at *;generalize y.t.body.n = nn at *;go_wp2_with fail;refine (HR.out _ g).mono ?_;rintro e w1 ⟨rfl,n,rfl⟩;have L:=Zag g n;go_wp2_with fail;refine (J.out _ L).mono ?_;rintro e w2 ⟨rfl,P⟩;have Q2:=Zaa L P L.size;clear e0 R T S Y;go_wp2_with fail;go_roundw
   case rel => exact ⟨k + 1,by go_num,by omega,Q2⟩
   case measure => simp [intOf];omega
  ·obtain rfl:k = l.length:=by omega
   go_wp2_with fail;go_ret;exact ⟨rfl,g⟩
theorem Zot (l:List Cl) (P:Zs2 l) (v:Value) (w:World) (B:Nat) (q:B <= w.heap.size) (hr:Rep w B v (.s 5 (l.flatMap Cl.cells))) :
  Calls prog 139 #[v] w fun e w' => ∃ u,e = V u /\ Zd2 w' w.heap.size u (Zgw l) /\ Bl w w':=by
 obtain ⟨A,c,rfl,hc,m⟩:=hr.claims;have ad:=ae P.take_len;obtain ⟨hl,hi⟩:=P;have HI:=ae hi;have G:=ae m;have af:=Za2 (n:=(l.length:Int)) (by omega) (by omega);have HN:=ae (fun W => Zcf (l.length:Int) (by omega) (by omega) W);clear hr m hi;go_enter func139,ntmps139;go_wp2_with fail;refine (HN.out _).mono ?_;rintro e w1 ⟨v1,rfl,o1,aa⟩;go_wp2_with fail;go_loopw [3,4] (fun u j wr => ∃ k:Nat,j = O Z (k:Int) /\ k <= l.length /\ Zd2 wr w.heap.size u (Zbl (l.length:Int) ++ (l.take k).flatMap Zqd) /\ Bl w wr) (fun _ j _ => l.length - (intOf j).toNat)
 case atStart => exact ⟨0,rfl,bi _,by simpa using o1,aa⟩
 case round =>
  obtain ⟨k,rfl,hk,h,f⟩:=hrel;have al:=ad.out k;have am:(Zbl (l.length:Int) ++ (l.take k).flatMap Zqd).length <= 621000:=by rw [ai];omega
  by_cases z:k < l.length
  ·obtain ⟨b,o,y,rfl,hb,hy,c0,c1,c2,c3,c4⟩:=G.out k z;have a:b < w.heap.size:=ah hb q;have e0:=(f.cell (p:=⟨b,o + k * 5,none⟩) a).trans c0;have e1:=(f.cell (p:=⟨b,o + k * 5 + 1,none⟩) a).trans c1;have e2:=(f.cell (p:=⟨b,o + k * 5 + 2,none⟩) a).trans c2;have T:=(f.cell (p:=⟨b,o + k * 5 + 3,none⟩) a).trans c3;have e4:=(f.cell (p:=⟨b,o + k * 5 + 4,none⟩) a).trans c4;obtain ⟨x,R,g⟩:=HI.out k z;have HT:Zbl (l.length:Int) ++ (l.take (k + 1)).flatMap Zqd = Zbl (l.length:Int) ++ (l.take k).flatMap Zqd ++ Zc0 l[k].refs ++ Zef (Zen l[k].body):=by
    rw [dq,ak z,bm];simp [Zqd]
   rw [<- hy] at x R g HT;have X:=ae HT;have d:∀ W,Bl w W -> ∀ p:Addr,p.block < B -> W.cell? p = w.cell? p:=fun W H p hp => H.cell (ah hp q);have E:=Zjo (i:=k) (by omega) x;have HR:=ae (fun (W:World) (H:Bl w W) => Zli y.t.refs y.r W (by omega) E (y.hr.keep (d W H) (aj q H.size)));have Y:=ae (fun (W:World) (H:Bl w W) => Zj9 y.t.body.size W B (y.body.up (d W H) (ag _)) (aj q H.size) (ag _) ⟨g.1,g.2.2⟩);have av:=OkN.len (t:=y.t.body) ⟨g.1,g.2.2⟩;have a1:(Zc0 y.t.refs).length <= 100:=by
    have h1:=Zcj E;have h2:=Za9 (n:=y.t.refs.length) (by omega);unfold Zc0;rw [ai];omega
   have ab:(Zef (Zen y.t.body)).length <= 20000:=by
    have h2:=Za9 (n:=(Zen y.t.body).length) (by omega);unfold Zef;rw [ai];omega
   obtain ⟨A0,q0,A1,n1,q1,A2,n2,q2,f0,f1,f2,S,f4⟩:=Ziq y;dsimp only [Zan.up,Zko.body] at Y;rw [f0] at HR;rw [f1,f2,S,f4] at Y;rw [f0] at e0;rw [f1] at e1;rw [f2] at e2;rw [S] at T;rw [f4] at e4;clear c0 c1 c2 c3 c4 f0 f1 f2 S f4 hy x g HT o1 E d;generalize Zen y.t.body = fb at *;generalize y.t.refs = rs at *;generalize y.t.body.op = op at *;generalize y.t.body.n = nn at *;generalize Zbl (l.length:Int) ++ (l.take k).flatMap Zqd = bs at *;go_wp2_with fail;refine (HR.out _ f).mono ?_;rintro e w2 ⟨v2,rfl,o2,J⟩;have Q2:=Zaa f J f.size;go_wp2_with (at_builtin;refine Za7 rfl _ _ rfl w.heap.size _ bs rfl (h.below J) _ (Zc0 rs) rfl o2.rep (by omega) Q2.size ?_;intro v3 w3 o3 g3;have C:=Q2.grown g3 Q2.size h.lt;(have a2:=(C.cell (p:=⟨b,o + k * 5 + 1,none⟩) a).trans ((f.cell (p:=⟨b,o + k * 5 + 1,none⟩) a).symm.trans e1));(have a0:=(C.cell (p:=⟨b,o + k * 5 + 2,none⟩) a).trans ((f.cell (p:=⟨b,o + k * 5 + 2,none⟩) a).symm.trans e2));(have an:=(C.cell (p:=⟨b,o + k * 5 + 3,none⟩) a).trans ((f.cell (p:=⟨b,o + k * 5 + 3,none⟩) a).symm.trans T));(have aq:=(C.cell (p:=⟨b,o + k * 5 + 4,none⟩) a).trans ((f.cell (p:=⟨b,o + k * 5 + 4,none⟩) a).symm.trans e4));clear e0 e1 e2 T e4 o2);refine (Y.out _ C).mono ?_;rintro e w4 ⟨v4,rfl,o4,M⟩;have Q4:=Zaa C M C.size;have N:=o3.below M;go_wp2_with fail;refine (Zhd v4 fb w4 (by omega) o4.rep).mono ?_;rintro e w5 ⟨v5,rfl,o5,L⟩;have Q5:=Zaa Q4 L Q4.size;go_wp2_with (at_builtin;refine Za7 rfl _ _ rfl w.heap.size _ (bs ++ Zc0 rs) rfl (N.below L) _ (Zef fb) rfl o5.rep (by rw [ai];omega) Q5.size ?_;intro v6 w6 o6 g6;have Q6:=Q5.grown g6 Q5.size N.lt);rw [<- X.out] at o6;go_roundw
   case rel => exact ⟨k + 1,by go_num,by omega,o6,Q6⟩
   case measure => simp [intOf];omega
  ·obtain rfl:k = l.length:=by omega
   rw [df] at h;have HW:=ae h;clear h o1;go_wp2_with fail;go_ret;exact ⟨_,rfl,HW.out,f⟩
theorem Zs9 (l:List Cl) (f:Zs2 l) (v:Value) (w:World) (B:Nat) (d:B <= w.heap.size) (hr:Rep w B v (.s 5 (l.flatMap Cl.cells))) :
  Calls prog 94 #[v] w fun e w' => ∃ u,e = V (.tuple #[u,O Z 0]) /\ Zd2 w' w.heap.size u (Zgw l) /\ Bl w w':=by
 have q:=ae (Zf7 l f v w B d hr);have m:=ae (fun (W:World) (h:Bl w W) => Zot l f v W B (aj d h.size) (hr.keep (fun p j => h.cell (ah j d)) (ag _)));obtain ⟨A,c,rfl,hc,b⟩:=hr.claims;clear hr b;go_enter func94,ntmps94;go_wp2_with fail;refine q.out.mono ?_;rintro e r ⟨rfl,a⟩;go_wp2_with fail;refine (m.out _ a).mono ?_;rintro e w2 ⟨v2,rfl,k,g⟩;go_wp2_with fail;exact bodyPost_ret (results_tmp2 rfl _ _ _) rfl ⟨_,rfl,k.mono a.size,Zaa a g a.size⟩
theorem Zz5 (l:List Cl) (a:Zs2 l) (i:Nat) (hi:i < l.length) (v:Value) (w:World) (B:Nat) (f:B <= w.heap.size) (hr:Rep w B v (.s 5 (l.flatMap Cl.cells))) :
  Calls prog 225 #[v,O Z (i:Int)] w fun e w' => e = V (O Z 0) /\ Bl w w':=by
 have g:=ae (Zjn l a v w B f hr);obtain ⟨A,c,rfl,hc,b⟩:=hr.claims;have d1:decide ((i:Int) < 0) = false:=by simp
 have d2:decide ((l.length:Int) <= (i:Int)) = false:=by simp;omega
 have hl:=a.1;clear hr b a;go_enter func225,ntmps225;go_wp2_with fail;refine g.out.mono ?_;rintro e h ⟨rfl,d⟩;go_wp2_with fail;go_ret;exact ⟨rfl,d⟩
theorem Zq1 (l:List Cl) (a:Zs2 l) (i:Nat) (hi:i < l.length) (v:Value) (w:World) (B:Nat) (f:B <= w.heap.size) (hr:Rep w B v (.s 5 (l.flatMap Cl.cells))) :
  Calls prog 221 #[v,O Z (i:Int)] w fun e w' => e = V (O Z 0) /\ Bl w w':=by
 have g:=ae (Zf7 l a v w B f hr);obtain ⟨A,c,rfl,hc,b⟩:=hr.claims;have d1:decide ((i:Int) < 0) = false:=by simp
 have d2:decide ((l.length:Int) <= (i:Int)) = false:=by simp;omega
 have hl:=a.1;clear hr b a;go_enter func221,ntmps221;go_wp2_with fail;refine g.out.mono ?_;rintro e h ⟨rfl,d⟩;go_wp2_with fail;go_ret;exact ⟨rfl,d⟩
def F.parts (t:F):List F:=if t.op = 4 then t.kids else [t]
theorem Zlv {cs:List Value} {l:List F} (h:Zax w B cs (l.flatMap F.cells)):∀ u ∈ cs,u.oneCell' = true:=by
 intro u e;obtain ⟨j,b,rfl⟩:=ee e;have hl:=h.1;have hd:(l.flatMap F.cells)[j]? = some (l.flatMap F.cells)[j]:=ak (by omega);have hr:=h.2 j _ _ (ak b) hd;have hm:(l.flatMap F.cells)[j] ∈ l.flatMap F.cells:=aw _;obtain ⟨t,_,a⟩:=List.mem_flatMap.1 hm;generalize (l.flatMap F.cells)[j] = d at *;generalize cs[j] = x at *;rw [F.cells_eq] at a;simp only [dt,dl,or_false] at a;rcases a with rfl | rfl | rfl | rfl
 ·cases hr;rfl
 ·cases hr;rfl
 ·obtain ⟨A,n,c,rfl,_⟩:=hr.slice;rfl
 ·obtain ⟨A,n,c,rfl,_⟩:=hr.slice;rfl
theorem info46:(prog.info? 46).map (fun i => (i.zero,i.size,i.bytes)) = some (some (.agg #[O Z 0,O Z 0,I none 0 0,I none 0 0]),4,64):=by kernel_rfl
theorem Ydq (w:World) (ty:TypeId) (base:Nat) (v:Value) (l:List F) (y:Zji w base 46 4 v (l.flatMap F.cells)) (src:Value) (m:List F) (hr:Rep (Zjh w v.ownBlock) w.heap.size src (.s 4 (m.flatMap F.cells))) (hl:l.length + m.length <= 1000000) (a:base <= w.heap.size) :
  ∃ h w',(Builtin.append_ #[39,39] ty #[v,src]).run prog w = .ok h w' /\ Zji w' base 46 4 h ((l ++ m).flatMap F.cells) /\ w.grownBy w' v.ownBlock /\ (h.ownBlock = v.ownBlock ∨ h.ownBlock = some w.heap.size):=by
 obtain ⟨n,xs,h1,H⟩:=y;obtain ⟨i0,hi,E,p,z⟩:=info_parts info46;have al:=h1.1;have am:=Zai (l:=l) (f:=F.cells) (k:=4) (fun x _ => x.cells_length);have aa:=Zai (l:=m) (f:=F.cells) (k:=4) (fun x _ => x.cells_length);have ab:=H.1;have M:n = l.length:=by omega
 subst M;rw [bm];obtain ⟨A,k,c,rfl,hk,af,d⟩:=hr.slice;have X:k = m.length:=by omega
 subst X;cases A with
 | none =>
  have h0:m = []:=by
   cases m with
   | nil => rfl
   | cons x r =>
    obtain ⟨b,o,cs,e,_⟩:=d (by simp);cases e
  subst h0;have N:c = 0:=by
   cases hr;rfl
  subst N;exact ⟨v,w,run_append_owned_none (P:=prog) (w:=w) base 39 ty 46 i0 4 underlying39 hi v _ _ h1,⟨_,xs,h1,by simpa using H⟩,World.grownBy.refl w _,.inl rfl⟩
 | some ad =>
  by_cases S:m.length = 0
  ·have e0:m = []:=bj S;subst e0;obtain ⟨h,w',R,T,C,_,G⟩:=run_append_own_at (P:=prog) w base 39 ty 46 i0 _ 4 64 underlying39 hi E p z rfl (by decide) v _ _ h1 ad 0 c [] rfl (fun j u t => by simp at t) (fun u t => by simp at t) (by unfold maxLen;omega) (by omega) a;exact ⟨h,w',R,Zji.step h1 H (Zax.nil _ _) T C G,C,G⟩
  ·obtain ⟨b,o,cs,e,hb,g,q⟩:=d (by omega);cases e;have J:v.ownBlock ≠ some b:=fun e => by
    have L:0 < cs.length:=by have:=g.1;omega
    have Y:=q 0 _ (ak L);rw [e,Zlj hb rfl] at Y;cases Y
   obtain ⟨h,w',R,T,C,_,G⟩:=run_append_own_at (P:=prog) w base 39 ty 46 i0 _ 4 64 underlying39 hi E p z rfl (by decide) v _ _ h1 ⟨b,o,none⟩ m.length c cs (by have:=g.1;omega)
    (fun j u t => by
     rw [Addr.add_lit,<- q j u t];exact (Zd6 J).symm) (Zlv g) (by unfold maxLen;omega) (by omega) a
   exact ⟨h,w',R,Zji.step h1 H g T C G,C,G⟩
theorem Ygz {a:Act} (s x:Operand)
  (ho:o.op = .call {callee:=.builtin .append,args:=#[s,x],argTypes:=#[39,39] })
  (base:Nat) (v:Value) (l:List F) (hs:a.eval s = v) (d:Zji w base 46 4 v (l.flatMap F.cells)) (src:Value) (m:List F) (e:a.eval x = src) (hr:Rep (Zjh w v.ownBlock) w.heap.size src (.s 4 (m.flatMap F.cells))) (hl:l.length + m.length <= 1000000) (b:base <= w.heap.size)
  (h:∀ c w',Zji w' base 46 4 c ((l ++ m).flatMap F.cells) -> w.grownBy w' v.ownBlock -> (c.ownBlock = v.ownBlock ∨ c.ownBlock = some w.heap.size) -> K (a.put o.dst c) w'):o.wp prog a w K Q :=
 let ⟨c,w',hrun,h2,h3,h4⟩:=Ydq w o.type base v l d src m hr hl b
 Zct s x 39 v src c ho hs e hrun (h c w' h2 h3 h4)
theorem Zta {rest:List Oper} {o:Oper} {a:Act} (e:o.guard = none) (s x:Operand)
  (ho:o.op = .call {callee:=.builtin .append,args:=#[s,x],argTypes:=#[39,39] })
  (base:Nat) (v:Value) (l:List F) (hs:a.eval s = v) (d:Zji w base 46 4 v (l.flatMap F.cells)) (src:Value) (m:List F) (f:a.eval x = src) (hr:Rep (Zjh w v.ownBlock) w.heap.size src (.s 4 (m.flatMap F.cells))) (hl:l.length + m.length <= 1000000) (b:base <= w.heap.size)
  (h:∀ c w',Zji w' base 46 4 c ((l ++ m).flatMap F.cells) -> w.grownBy w' v.ownBlock -> (c.ownBlock = v.ownBlock ∨ c.ownBlock = some w.heap.size) -> wpList prog ops Q rest (a.put o.dst c) w'):wpList prog ops Q (o :: rest) a w :=
 wpList_plain e fun _ g => Ygz s x ho base v l hs d src m f hr hl b fun c w' j p k => g _ _ (h c w' j p k)
def Zcm (w0:World) (B:Nat) (w:World) (base:Nat) (v:Value) (ds:List D):Prop:=∃ n xs,w.ownsRow base 46 4 v n xs /\ Zax w0 B xs ds
def Zjp (w0:World) (B:Nat) (w:World) (u:Value) (ds:List D):Prop :=
 (u = I none 0 0 /\ ds = []) ∨ ∃ b o k c cs,u = I (some ⟨b,o,none⟩) k c /\ k <= c /\ b < w.heap.size /\ cs.length = k * 4 /\ Zax w0 B cs ds /\ ∀ (j:Nat) (x:Value),cs[j]? = some x -> w.cell? ⟨b,o + j,none⟩ = some x
theorem Zcm.nil (w0:World) (B:Nat) (w:World) (base:Nat):Zcm w0 B w base (I none 0 0) []:=⟨0,[],d8 _ _ _ _,Zax.nil _ _⟩
theorem Zcm.lt {base:Nat} {v:Value} (h:Zcm w0 B w base v ds):∀ k,v.ownBlock = some k -> base <= k:=by
 obtain ⟨n,b,h,_⟩:=h;exact fun k a => (h.lt k a).1
theorem Zcm.low {base:Nat} {v:Value} (h:Zcm w0 B w base v ds):∀ k,v.ownBlock = some k -> k < w.heap.size:=by
 obtain ⟨n,b,h,_⟩:=h;exact fun k a => (h.lt k a).2
theorem Zcm.below {base:Nat} {v:Value} (h:Zcm w0 B w base v ds) (a:Bl w w'):Zcm w0 B w' base v ds:=by
 obtain ⟨n,d,h1,f⟩:=h;have g:w.grownBy w' none:=⟨a.os,a.tape,a.output,a.size,fun i hi _ => a.block i hi⟩
 refine ⟨n,d,h1.kept g ?_,f⟩;rcases h1.2 with ⟨e,_⟩ | ⟨k,c,b,e,_⟩
 ·subst e;exact .inl rfl
 ·subst e;exact .inr (by simp [Value.ownBlock])
theorem Zcm.mono {base base':Nat} {v:Value} (h:Zcm w0 B w base v ds) (c:base' <= base):Zcm w0 B w base' v ds:=by
 obtain ⟨n,d,⟨h1,b⟩,k⟩:=h;refine ⟨n,d,⟨h1,?_⟩,k⟩;rcases b with b | ⟨g,cap,a,e,j,f⟩
 ·exact .inl b
 ·exact .inr ⟨g,cap,a,e,aj c j,f⟩
theorem Zcm.src {base:Nat} {v:Value} (h:Zcm w0 B w base v ds):Zjp w0 B w v ds:=by
 obtain ⟨n,a,h1,e⟩:=h;rcases h1.2 with ⟨rfl,hn⟩ | ⟨g,cap,k,rfl,m,p,c,d,f,q⟩
 ·have hl:=h1.1;rw [hn,io] at hl;exact .inl ⟨rfl,bj (by rw [<- e.1];exact hl)⟩
 ·refine .inr ⟨g,0,n,cap,a,rfl,c,(h1.lt g rfl).2,h1.1,e,fun j u b => ?_⟩;have l:j < a.length:=by
   rcases ir j a.length with h | h
   ·exact h
   ·rw [gj h] at b;cases b
  rw [cz,h1.cellAt j (by rw [<- h1.1];exact l),b]
theorem Zjp.below (h:Zjp w0 B w u ds) (d:Bl w w'):Zjp w0 B w' u ds:=by
 rcases h with h | ⟨b,o,k,c,cs,rfl,f,a,hl,hr,hc⟩
 ·exact .inl h
 ·exact .inr ⟨b,o,k,c,cs,rfl,f,ah a d.size,hl,hr,fun j x e => (d.cell (p:=⟨b,o + j,none⟩) a).trans (hc j x e)⟩
theorem Zjp.grown {row:Option Nat} (h:Zjp w0 B w u ds) (f:w.grownBy w' row) (d:∀ g,row = some g -> u.ownBlock ≠ some g):Zjp w0 B w' u ds:=by
 rcases h with h | ⟨b,o,k,c,cs,rfl,l,a,hl,hr,hc⟩
 ·exact .inl h
 ·exact .inr ⟨b,o,k,c,cs,rfl,l,ah a f.size,hl,hr,fun j x m => (dc (f.block b a (fun e => d b e.symm rfl))).trans (hc j x m)⟩
theorem Rep.src (h:Rep w0 B u (.s 4 ds)) (b:Below B w0 w) (a:B <= w.heap.size):Zjp w0 B w u ds:=by
 cases h with
 | nil => exact .inl ⟨rfl,rfl⟩
 | s hc hd hn hlt cells sub => exact .inr ⟨_,_,_,_,_,rfl,hn,ah hlt a,hc,⟨hc.trans hd.symm,sub⟩,fun j x c => (b.cell (p:=⟨_,_,none⟩) hlt).trans (cells j x c)⟩
theorem Zjp.slice {m:List F} (h:Zjp w0 B w u (m.flatMap F.cells)):∃ A c,u = I A m.length c /\ m.length <= c:=by
 have a:=Zai (l:=m) (f:=F.cells) (k:=4) (fun x _ => x.cells_length);rcases h with ⟨rfl,h⟩ | ⟨b,o,k,c,cs,rfl,e,d,hl,hr,hc⟩
 ·rw [h,dk] at a;obtain rfl:m = []:=bj (by omega);exact ⟨_,_,rfl,ag _⟩
 ·have:=hr.1;obtain rfl:k = m.length:=by omega
  exact ⟨_,_,rfl,e⟩
theorem Zjp.rep (h:Zjp w0 B w u ds) (f:∀ p:Addr,p.block < B -> w.cell? p = w0.cell? p) (e:B <= w.heap.size):Rep w w.heap.size u (.s 4 ds):=by
 rcases h with ⟨rfl,rfl⟩ | ⟨b,o,k,c,cs,rfl,a,d,hl,hr,hc⟩
 ·exact .nil 4
 ·exact Rep.mk (by rw [<- hr.1,hl]) a d (hr.keep f e) hc
theorem Zjp.nodes {l:List F} (h:Zjp w0 B w u (l.flatMap F.cells)):∃ (A:Option Addr) (c:Nat),u = I A l.length c /\ l.length <= c /\
  ∀ (k:Nat) (m:k < l.length),∃ (b o:Nat) (y:Zan w0 B),A = some ⟨b,o,none⟩ /\ b < w.heap.size /\ y.t = l[k] /\ w.cell? ⟨b,o + k * 4,none⟩ = some y.a /\ w.cell? ⟨b,o + k * 4 + 1,none⟩ = some y.b /\ w.cell? ⟨b,o + k * 4 + 2,none⟩ = some y.c /\ w.cell? ⟨b,o + k * 4 + 3,none⟩ = some y.d:=by
 have r:=Zai (l:=l) (f:=F.cells) (k:=4) (fun x _ => x.cells_length);rcases h with ⟨rfl,h⟩ | ⟨b,o,n,c,cs,rfl,p,q,hl,hr,g⟩
 ·rw [h,dk] at r;obtain rfl:l = []:=bj (by omega);exact ⟨none,0,rfl,ag _,fun k m => absurd m (jf k)⟩
 ·have h1:=hr.1;obtain rfl:n = l.length:=by omega
  refine ⟨_,c,rfl,p,fun k m => ?_⟩;have E:=Zcd (l:=l) (f:=F.cells) (k:=4) (i:=k) (a:=l[k]) (fun x _ => x.cells_length) (ak m);have j:=(hr.drop (k * 4)).take 4;rw [E] at j;have C:k * 4 < cs.length:=by omega
  have s:k * 4 + 1 < cs.length:=by omega
  have v:k * 4 + 2 < cs.length:=by omega
  have z:k * 4 + 3 < cs.length:=by omega
  have e:(cs.drop (k * 4)).take 4 = [cs[k * 4],cs[k * 4 + 1],cs[k * 4 + 2],cs[k * 4 + 3]]:=by
   rw [ct C,ct s,ct v,ct z];rfl
  rw [e] at j;exact ⟨b,o,⟨cs[k * 4],cs[k * 4 + 1],cs[k * 4 + 2],cs[k * 4 + 3],l[k],j⟩,rfl,q,rfl,g _ _ (ak C),g _ _ (ak s),g _ _ (ak v),g _ _ (ak z)⟩
theorem Ydr (w:World) (ty:TypeId) (base:Nat) (v:Value) (l:List F) (p:Zcm w0 B w base v (l.flatMap F.cells)) (src:Value) (m:List F) (hr:Zjp w0 B w src (m.flatMap F.cells)) (hl:l.length + m.length <= 1000000) (d:base <= w.heap.size) :
  ∃ g w',(Builtin.append_ #[39,39] ty #[v,src]).run prog w = .ok g w' /\ Zcm w0 B w' base g ((l ++ m).flatMap F.cells) /\ w.grownBy w' v.ownBlock /\ (g.ownBlock = v.ownBlock ∨ g.ownBlock = some w.heap.size):=by
 obtain ⟨n,z,h1,t⟩:=p;obtain ⟨i0,hi,s,q,r⟩:=info_parts info46;have S:=Zai (l:=l) (f:=F.cells) (k:=4) (fun x _ => x.cells_length);have C:=Zai (l:=m) (f:=F.cells) (k:=4) (fun x _ => x.cells_length);have H:=t.1;have R:=h1.1;obtain rfl:n = l.length:=by omega
 rw [bm];rcases hr with ⟨rfl,h⟩ | ⟨b,o,k,c,cs,rfl,J,A,y,a,e⟩
 ·rw [h,bv];exact ⟨v,w,run_append_owned_none (P:=prog) (w:=w) base 39 ty 46 i0 4 underlying39 hi v _ _ h1,⟨_,z,h1,t⟩,World.grownBy.refl w _,.inl rfl⟩
 ·have:=a.1;obtain rfl:k = m.length:=by omega
  obtain ⟨g,w',G,L,M,_,N⟩:=run_append_own_at (P:=prog) w base 39 ty 46 i0 _ 4 64 underlying39 hi s q r rfl (by decide) v _ _ h1 ⟨b,o,none⟩ m.length c cs y
   (fun j u E => by
    rw [Addr.add_lit];exact e j u E) (Zlv a) (by unfold maxLen;omega) (by omega) d
  exact ⟨g,w',G,⟨_,_,L,t.append a⟩,M,N⟩
theorem Zb2 {a:Act} (s x:Operand)
  (ho:o.op = .call {callee:=.builtin .append,args:=#[s,x],argTypes:=#[39,39] })
  (base:Nat) (v:Value) (l:List F) (hs:a.eval s = v) (d:Zcm w0 B w base v (l.flatMap F.cells)) (src:Value) (m:List F) (e:a.eval x = src) (hr:Zjp w0 B w src (m.flatMap F.cells)) (hl:l.length + m.length <= 1000000) (b:base <= w.heap.size)
  (h:∀ c w',Zcm w0 B w' base c ((l ++ m).flatMap F.cells) -> w.grownBy w' v.ownBlock -> (c.ownBlock = v.ownBlock ∨ c.ownBlock = some w.heap.size) -> K (a.put o.dst c) w'):o.wp prog a w K Q :=
 let ⟨c,w',hrun,h2,h3,h4⟩:=Ydr w o.type base v l d src m hr hl b
 Zct s x 39 v src c ho hs e hrun (h c w' h2 h3 h4)
theorem Zhy {rest:List Oper} {o:Oper} {a:Act} (e:o.guard = none) (s x:Operand)
  (ho:o.op = .call {callee:=.builtin .append,args:=#[s,x],argTypes:=#[39,39] })
  (base:Nat) (v:Value) (l:List F) (hs:a.eval s = v) (d:Zcm w0 B w base v (l.flatMap F.cells)) (src:Value) (m:List F) (f:a.eval x = src) (hr:Zjp w0 B w src (m.flatMap F.cells)) (hl:l.length + m.length <= 1000000) (b:base <= w.heap.size)
  (h:∀ c w',Zcm w0 B w' base c ((l ++ m).flatMap F.cells) -> w.grownBy w' v.ownBlock -> (c.ownBlock = v.ownBlock ∨ c.ownBlock = some w.heap.size) -> wpList prog ops Q rest (a.put o.dst c) w'):wpList prog ops Q (o :: rest) a w :=
 wpList_plain e fun _ g => Zb2 s x ho base v l hs d src m f hr hl b fun c w' j p k => g _ _ (h c w' j p k)
theorem Zf8 {base:Nat} {a b c d:Value} {t:F} (e:base <= W.heap.size) (h:Zax w0 B [a,b,c,d] t.cells) :
  Zcm w0 B (W.alloc (U #[a,b,c,d] 46)) base (I (some ⟨W.heap.size,0,none⟩) 1 1) ([t].flatMap F.cells):=by
 refine ⟨1,[a,b,c,d],⟨rfl,.inr ⟨W.heap.size,1,#[a,b,c,d],rfl,e,heap_alloc_new W _,ag _,by unfold maxLen;omega,rfl,rfl⟩⟩,?_⟩;have f:[t].flatMap F.cells = t.cells:=by simp
 rw [f];exact h
theorem Yds (w0:World) (B n:Nat) (hn:n <= 1000000) (w:World) :
  Calls prog 243 #[I none 0 0,O Z (n:Int)] w fun e w' => ∃ v,e = V v /\ Zcm w0 B w' w.heap.size v [] /\ Bl w w':=by
 obtain ⟨i0,hi,b,g,c⟩:=info_parts info46;by_cases k:n = 0
 ·subst k;go_enter func243,ntmps243;go_wp2_with fail;go_ret;exact ⟨_,rfl,Zcm.nil _ _ _ _,ap _ _⟩
 ·have m:n <= grownCap w n 0 46:=grownCap_ge w _ _ _;have d:=grownCap_le_maxLen w n 0 46 (by unfold maxLen;omega);have h:∀ ty,(Builtin.append_ #[39,3] ty #[I none 0 0,O Z (n:Int)]).run prog w = _:=fun ty =>
   Lib.run_append_nil_zeros w 39 3 ty 46 i0 _ Z Z underlying39 underlying3 hi b n (by omega) (by omega) (by omega) (by rw [c];omega)
  have a:(Builtin.zeroCells (Value.agg #[O Z 0,O Z 0,I none 0 0,I none 0 0]).cells n ++ Builtin.zeroCells (Value.agg #[O Z 0,O Z 0,I none 0 0,I none 0 0]).cells (grownCap w n 0 46 - n)).size = grownCap w n 0 46 * 4:=by
   rw [Array.size_append];simp [Builtin.zeroCells,Value.cells];omega
  have f:=ae a;have j:grownCap w n 0 46 <= 9223372036854775807:=by unfold maxLen at d;omega
  generalize grownCap w n 0 46 = G at *;generalize Builtin.zeroCells (Value.agg #[O Z 0,O Z 0,I none 0 0,I none 0 0]).cells n ++ Builtin.zeroCells (Value.agg #[O Z 0,O Z 0,I none 0 0,I none 0 0]).cells (G - n) = cur at *;clear a b g c hi;have p:¬ ((n:Int) < 0):=by omega
  have l:¬ ((n:Int) = 0):=by omega
  go_enter func243,ntmps243;go_wp2_with (at_builtin;refine Lib.wpList_append_run _ rfl _ _ _ _ rfl _ _ rfl rfl _ _ (h _) ?_);go_ret;refine ⟨_,rfl,⟨0,[],⟨rfl,.inr ⟨w.heap.size,G,cur,rfl,ag _,?_,bi _,d,f.out,by simp⟩⟩,Zax.nil _ _⟩,?_⟩
  ·exact heap_alloc_new w.drew _
  ·exact (ap _ w).drew.alloc (by simp) _
theorem Zq2 {α:Type} (a:List (List α)) (k:Nat) (h:k < a.length):(a.take (k + 1)).flatten = (a.take k).flatten ++ a[k]:=by
 rw [dq,ak h,List.flatten_append];simp
theorem Zka {α:Type} (a:List (List α)) (k:Nat):((a.take k).flatten).length <= a.flatten.length:=by
 conv => rhs;rw [<- di k a]
 rw [List.flatten_append,ai];omega
theorem Zxs (w0:World) (B:Nat) (a:List (List F)) (g:Nat) (w:World) (T:g < w.heap.size) (f:∀ (k:Nat) (L:k < a.length),∃ u,w.cell? ⟨g,k,none⟩ = some u /\ Zjp w0 B w u (a[k].flatMap F.cells)) (hl:a.flatten.length <= 100000) (R:a.length <= 100000) :
  Calls prog 236 #[I (some ⟨g,0,none⟩) a.length a.length] w fun e w' => ∃ u,e = V u /\ Zcm w0 B w' w.heap.size u (a.flatten.flatMap F.cells) /\ Bl w w':=by
 have c:=ae f;have P:=ae (fun W => Yds w0 B a.flatten.length (by omega) W);clear f;go_enter func236,ntmps236;go_wp2_with fail;go_loopw [3,11] (fun s i wr => ∃ k:Nat,s = O Z (((a.take k).flatten.length:Nat):Int) /\ i = O Z (k:Int) /\ k <= a.length /\ w = wr) (fun _ i _ => a.length - (intOf i).toNat)
 case atStart => exact ⟨0,rfl,rfl,bi _,rfl⟩
 case round =>
  obtain ⟨k,rfl,rfl,L,rfl⟩:=hrel;by_cases j:k < a.length
  ·obtain ⟨u,z,l⟩:=c.out k j;obtain ⟨A1,q1,rfl,Y⟩:=l.slice;have h1:=Zq2 a k j;have x:=Zka a (k + 1);have r:=congrArg List.length h1;rw [ai] at r;have J:=ae r;rw [r] at x;clear l h1 r Y;generalize a[k].length = H at *;generalize (a.take k).flatten.length = S at *;have d0:¬ ((S:Int) + (H:Int) < 0):=by omega
   go_wp2_with fail;go_roundw
   case rel => exact ⟨k + 1,by rw [J.out];go_num,by go_num,by omega,trivial⟩
   case measure => simp [intOf];omega
  ·obtain rfl:k = a.length:=by omega
   rw [df];generalize hN:a.flatten.length = N at *;have M:=ae hN;clear hN;go_wp2_with fail;refine (P.out _).mono ?_;rintro e w1 ⟨v1,rfl,A,y⟩;go_wp2_with fail;go_loopw [6,27] (fun u i wr => ∃ k:Nat,i = O Z (k:Int) /\ k <= a.length /\ Zcm w0 B wr w.heap.size u ((a.take k).flatten.flatMap F.cells) /\ Bl w wr) (fun _ i _ => a.length - (intOf i).toNat)
   case atStart => exact ⟨0,rfl,bi _,by simpa using A,y⟩
   case round =>
    obtain ⟨k,rfl,E,d,b⟩:=hrel;by_cases h:k < a.length
    ·obtain ⟨u,z,l⟩:=c.out k h;have e0:=(b.cell (p:=⟨g,k,none⟩) T).trans z;have X:=ae (l.below b);have h1:=Zq2 a k h;have x:=Zka a (k + 1);rw [h1,ai,M.out] at x;have C:=ae h1;clear l h1 z;generalize a[k] = m at *;generalize (a.take k).flatten = bs at *;go_wp2_with (at_builtin;refine Zhy rfl _ _ rfl w.heap.size _ bs rfl d _ m rfl X.out (by omega) b.size ?_;intro v3 w3 q t _);rw [<- C.out] at q;have v:=b.grown t b.size d.lt;go_roundw
     case rel => exact ⟨k + 1,by go_num,by omega,q,v⟩
     case measure => simp [intOf];omega
    ·obtain rfl:k = a.length:=by omega
     rw [df] at d;have G:=ae d;clear d A;go_wp2_with fail;go_ret;exact ⟨_,rfl,G.out,b⟩
theorem Zjp.at (h:Zjp W B w u ds) (f:∀ p:Addr,p.block < B -> w0.cell? p = W.cell? p):Zjp w0 B w u ds:=by
 rcases h with h | ⟨b,o,k,c,cs,e,d,a,hl,hr,hc⟩
 ·exact .inl h
 ·exact .inr ⟨b,o,k,c,cs,e,d,a,hl,hr.keep f (ag _),hc⟩
theorem Ztb:∀ (n:Nat) (w:World) (B:Nat) (x:Zan w B),B <= w.heap.size -> x.t.size <= n -> n <= 100000 ->
  Calls prog 233 #[.agg #[x.a,x.b,x.c,x.d]] w fun e w' => ∃ u,e = V u /\ Zcm w B w' w.heap.size u (x.t.tops.flatMap F.cells) /\ Bl w w':=by
 intro n;induction n with
 | zero => intro w B x _ h;have:=x.t.size_pos;omega
 | succ n ih =>
  intro w B x j hx hn;have G:=Zab w (U #[x.a,x.b,x.c,x.d] 46);have X0:=Blk.new w 46 #[x.a,x.b,x.c,x.d];by_cases P:x.t.op = 5
  ·have H:=F.tops_or P;have Y:=F.tops_le x.t;rw [H] at Y ⊢;obtain ⟨A,c,hd,hc,m⟩:=x.parts.2.2.2.formulas;have v:=x.parts.1;have E:=x.parts.2.1;have N:=fun (k:F) (h:k ∈ x.t.kids) => F.kid_size h;have al:=ae N;have C:=ae m;have ad:=ae ih;have HT:=ae (fun k (S:k < x.t.kids.length) => Ze4 x.t.kids k S);have HL:=ae (fun k (S:k < x.t.kids.length) => Zeh x.t.kids k S);have av:=ae j;have M:=x.parts.2.2.1;obtain ⟨A1,n1,q1,ec,_⟩:=M.slice;have aq:x.t.kids.length <= 1000000:=by
    have h1:=kids_le x.t.kids;have h2:=x.t.nodes_length;rw [x.t.nodes_eq,au,Zal] at h2;omega
   rw [P] at v;rw [v,E,ec,hd] at G X0 ⊢;clear H N m ih v E ec hd M P;generalize x.t.n = xn at *;generalize x.t.kids = kids at *;go_enter func233,ntmps233;go_wp2_with fail;go_loopw [3,4] (fun u i wr => ∃ k:Nat,i = O Z (k:Int) /\ k <= kids.length /\ Zcm w B wr (w.heap.size + 1) u (((kids.take k).flatMap F.tops).flatMap F.cells) /\ Bl w wr /\ Blk wr w.heap.size 46 #[O Z 5,O Z xn,I A1 n1 q1,I A kids.length c]) (fun _ i _ => kids.length - (intOf i).toNat)
   case atStart => exact ⟨0,rfl,bi _,Zcm.nil _ _ _ _,G,X0⟩
   case round =>
    obtain ⟨k,rfl,S,g,f,X⟩:=hrel;have a0:=X.c4;by_cases z:k < kids.length
    ·obtain ⟨b,o,y,rfl,hb,hy,c0,c1,c2,c3⟩:=C.out k z;have r:b < w.heap.size:=ah hb j;have d0:=(f.cell (p:=⟨b,o + k * 4,none⟩) r).trans c0;have d1:=(f.cell (p:=⟨b,o + k * 4 + 1,none⟩) r).trans c1;have d2:=(f.cell (p:=⟨b,o + k * 4 + 2,none⟩) r).trans c2;have d3:=(f.cell (p:=⟨b,o + k * 4 + 3,none⟩) r).trans c3;have s:kids[k] ∈ kids:=aw _;have am:=al.out _ s;have H:=HT.out k z;have hL:=HL.out k z;rw [<- hy] at am H hL;have aa:=ae H;have HI:=ae (fun (W:World) (hW:Bl w W) => ad.out W B ⟨y.a,y.b,y.c,y.d,y.t,y.h.keep (fun p hp => hW.cell (ah hp j)) (ag _)⟩ (aj j hW.size) (by dsimp only;omega) (by omega));clear c0 c1 c2 c3 s hy H;dsimp only at HI;obtain ⟨ya,yb,yc,yd,yt,yh⟩:=y;obtain ⟨B1,m1,p1,B2,m2,p2,v,E,R,T⟩:=Zaq yh;dsimp only at *;subst v E R T;clear yh;generalize (kids.take k).flatMap F.tops = bs at *;generalize yt.tops = ms at *;go_wp2_with (first
      | (go_at_call 233;refine (HI.out _ f).mono ?_;rintro e w2 ⟨v2,rfl,af,l⟩)
      | (at_builtin;refine Zhy rfl _ _ rfl (w.heap.size + 1) _ bs rfl (g.below l) _ ms rfl (af.src.at (fun p hp => (f.cell (ah hp j)).symm)) (by omega) (aj X.lt l.size) ?_;intro v3 w3 J L _))
     rw [<- aa.out] at J;have ab:=(f.trans (l.mono f.size)).grown L (aj f.size l.size) (fun q hq => Nat.le_of_succ_le (g.lt q hq));have an:=(X.keep l).grown L (fun e => by have:=g.lt _ e.symm;omega);go_roundw
     case rel => exact ⟨k + 1,by go_num,by omega,J,ab,an⟩
     case measure => simp [intOf];omega
    ·obtain rfl:k = kids.length:=by omega
     rw [df] at g;have HO:=ae g;clear g;go_wp2_with fail;go_ret;exact ⟨_,rfl,HO.out.mono (gq _),f⟩
  ·rw [F.tops_no P];have a1:(x.t.op != 5) = true:=by simpa using P
   have Q0:=G.alloc G.size (U #[x.a,x.b,x.c,x.d] 46);have hR:=Zf8 (t:=x.t) G.size x.h;rw [ax] at hR;have HR:=ae hR;obtain ⟨A1,n1,q1,A2,n2,q2,v,E,R,T⟩:=Zaq x.h;rw [v,E,R,T] at HR Q0 ⊢;clear v E R T ih hR G X0;go_enter func233,ntmps233;go_wp2_with fail;go_ret;exact ⟨_,rfl,HR.out,Q0⟩
theorem Zq3:∀ (n:Nat) (w:World) (B:Nat) (x:Zan w B),B <= w.heap.size -> x.t.size <= n -> n <= 100000 ->
  Calls prog 202 #[.agg #[x.a,x.b,x.c,x.d]] w fun e w' => ∃ u,e = V u /\ Zcm w B w' w.heap.size u (x.t.tops.flatMap F.cells) /\ Bl w w':=by
 intro n;induction n with
 | zero => intro w B x _ h;have:=x.t.size_pos;omega
 | succ n ih =>
  intro w B x j hx hn;have G:=Zab w (U #[x.a,x.b,x.c,x.d] 46);have X0:=Blk.new w 46 #[x.a,x.b,x.c,x.d];by_cases P:x.t.op = 5
  ·have H:=F.tops_or P;have Y:=F.tops_le x.t;rw [H] at Y ⊢;obtain ⟨A,c,hd,hc,m⟩:=x.parts.2.2.2.formulas;have v:=x.parts.1;have E:=x.parts.2.1;have N:=fun (k:F) (h:k ∈ x.t.kids) => F.kid_size h;have al:=ae N;have C:=ae m;have ad:=ae ih;have HT:=ae (fun k (S:k < x.t.kids.length) => Ze4 x.t.kids k S);have HL:=ae (fun k (S:k < x.t.kids.length) => Zeh x.t.kids k S);have av:=ae j;have M:=x.parts.2.2.1;obtain ⟨A1,n1,q1,ec,_⟩:=M.slice;have aq:x.t.kids.length <= 1000000:=by
    have h1:=kids_le x.t.kids;have h2:=x.t.nodes_length;rw [x.t.nodes_eq,au,Zal] at h2;omega
   rw [P] at v;rw [v,E,ec,hd] at G X0 ⊢;clear H N m ih v E ec hd M P;generalize x.t.n = xn at *;generalize x.t.kids = kids at *;go_enter func202,ntmps202;go_wp2_with fail;go_loopw [3,4] (fun u i wr => ∃ k:Nat,i = O Z (k:Int) /\ k <= kids.length /\ Zcm w B wr (w.heap.size + 1) u (((kids.take k).flatMap F.tops).flatMap F.cells) /\ Bl w wr /\ Blk wr w.heap.size 46 #[O Z 5,O Z xn,I A1 n1 q1,I A kids.length c]) (fun _ i _ => kids.length - (intOf i).toNat)
   case atStart => exact ⟨0,rfl,bi _,Zcm.nil _ _ _ _,G,X0⟩
   case round =>
    obtain ⟨k,rfl,S,g,f,X⟩:=hrel;have a0:=X.c4;by_cases z:k < kids.length
    ·obtain ⟨b,o,y,rfl,hb,hy,c0,c1,c2,c3⟩:=C.out k z;have r:b < w.heap.size:=ah hb j;have d0:=(f.cell (p:=⟨b,o + k * 4,none⟩) r).trans c0;have d1:=(f.cell (p:=⟨b,o + k * 4 + 1,none⟩) r).trans c1;have d2:=(f.cell (p:=⟨b,o + k * 4 + 2,none⟩) r).trans c2;have d3:=(f.cell (p:=⟨b,o + k * 4 + 3,none⟩) r).trans c3;have s:kids[k] ∈ kids:=aw _;have am:=al.out _ s;have H:=HT.out k z;have hL:=HL.out k z;rw [<- hy] at am H hL;have aa:=ae H;have HI:=ae (fun (W:World) (hW:Bl w W) => ad.out W B ⟨y.a,y.b,y.c,y.d,y.t,y.h.keep (fun p hp => hW.cell (ah hp j)) (ag _)⟩ (aj j hW.size) (by dsimp only;omega) (by omega));clear c0 c1 c2 c3 s hy H;dsimp only at HI;obtain ⟨ya,yb,yc,yd,yt,yh⟩:=y;obtain ⟨B1,m1,p1,B2,m2,p2,v,E,R,T⟩:=Zaq yh;dsimp only at *;subst v E R T;clear yh;generalize (kids.take k).flatMap F.tops = bs at *;generalize yt.tops = ms at *;go_wp2_with (first
      | (go_at_call 202;refine (HI.out _ f).mono ?_;rintro e w2 ⟨v2,rfl,af,l⟩)
      | (at_builtin;refine Zhy rfl _ _ rfl (w.heap.size + 1) _ bs rfl (g.below l) _ ms rfl (af.src.at (fun p hp => (f.cell (ah hp j)).symm)) (by omega) (aj X.lt l.size) ?_;intro v3 w3 J L _))
     rw [<- aa.out] at J;have ab:=(f.trans (l.mono f.size)).grown L (aj f.size l.size) (fun q hq => Nat.le_of_succ_le (g.lt q hq));have an:=(X.keep l).grown L (fun e => by have:=g.lt _ e.symm;omega);go_roundw
     case rel => exact ⟨k + 1,by go_num,by omega,J,ab,an⟩
     case measure => simp [intOf];omega
    ·obtain rfl:k = kids.length:=by omega
     rw [df] at g;have HO:=ae g;clear g;go_wp2_with fail;go_ret;exact ⟨_,rfl,HO.out.mono (gq _),f⟩
  ·rw [F.tops_no P];have a1:(x.t.op != 5) = true:=by simpa using P
   have Q0:=G.alloc G.size (U #[x.a,x.b,x.c,x.d] 46);have hR:=Zf8 (t:=x.t) G.size x.h;rw [ax] at hR;have HR:=ae hR;obtain ⟨A1,n1,q1,A2,n2,q2,v,E,R,T⟩:=Zaq x.h;rw [v,E,R,T] at HR Q0 ⊢;clear v E R T ih hR G X0;go_enter func202,ntmps202;go_wp2_with fail;go_ret;exact ⟨_,rfl,HR.out,Q0⟩
theorem Zq4 (w0:World) (B:Nat) (x:Zan w0 B) (w:World) (r:Below B w0 w) (k:B <= w.heap.size) :
  Calls prog 237 #[.agg #[x.a,x.b,x.c,x.d]] w fun e w' => ∃ u,e = V u /\ Zjp w0 B w' u (x.t.parts.flatMap F.cells) /\ Bl w w':=by
 obtain ⟨E,C,z,G,A,y,j,q,m,l⟩:=Zaq x.h;have hr:=x.parts.2.2.2;have g:=Zab w (U #[x.a,x.b,x.c,x.d] 46);by_cases p:x.t.op = 4
 ·have f:=ae (hr.src (r.trans (g.mono k)) (aj k g.size));unfold F.parts;rw [if_pos p];rw [p] at j;rw [j,q,m,l] at f g ⊢;clear j q m l hr r;go_enter func237,ntmps237;go_wp2_with fail;go_ret;exact ⟨_,rfl,f.out,g⟩
 ·unfold F.parts;rw [if_neg p];have s:=g.alloc g.size (U #[x.a,x.b,x.c,x.d] 46);have f:=(Zf8 (base:=w.heap.size) (t:=x.t) g.size x.h).src;rw [ax] at f;have f:=ae f;have v:(x.t.op == 4) = false:=by simpa using p
  rw [j,q,m,l] at f s ⊢;clear j q m l hr g r;go_enter func237,ntmps237;go_wp2_with fail;go_ret;exact ⟨_,rfl,f.out,s⟩
theorem Zkb (w0:World) (B:Nat) (x:Zan w0 B) (w:World) (r:Below B w0 w) (k:B <= w.heap.size) :
  Calls prog 234 #[.agg #[x.a,x.b,x.c,x.d]] w fun e w' => ∃ u,e = V u /\ Zjp w0 B w' u (x.t.parts.flatMap F.cells) /\ Bl w w':=by
 obtain ⟨E,C,z,G,A,y,j,q,m,l⟩:=Zaq x.h;have hr:=x.parts.2.2.2;have g:=Zab w (U #[x.a,x.b,x.c,x.d] 46);by_cases p:x.t.op = 4
 ·have f:=ae (hr.src (r.trans (g.mono k)) (aj k g.size));unfold F.parts;rw [if_pos p];rw [p] at j;rw [j,q,m,l] at f g ⊢;clear j q m l hr r;go_enter func234,ntmps234;go_wp2_with fail;go_ret;exact ⟨_,rfl,f.out,g⟩
 ·unfold F.parts;rw [if_neg p];have s:=g.alloc g.size (U #[x.a,x.b,x.c,x.d] 46);have f:=(Zf8 (base:=w.heap.size) (t:=x.t) g.size x.h).src;rw [ax] at f;have f:=ae f;have v:(x.t.op == 4) = false:=by simpa using p
  rw [j,q,m,l] at f s ⊢;clear j q m l hr g r;go_enter func234,ntmps234;go_wp2_with fail;go_ret;exact ⟨_,rfl,f.out,s⟩
end Go.Proofs.YtglkadmfjaecmaaGreatDoor
