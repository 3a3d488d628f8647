import Derived.Test.YtglkadmfjaecmaaGreatDoorD04
set_option maxRecDepth 100000
set_option maxHeartbeats 16000000
namespace Go.Proofs.YtglkadmfjaecmaaGreatDoor
open Go.RowKit Go.Shelf Tryz
open Go.Value renaming bool->I, slice->G, int->O, pointer->U, agg->R
open Go.Ending renaming returned->Z
open Go.IntKind renaming i64->V
open Go.Obj renaming cells->J
attribute [local go_sem] Oper.semAt_some
variable {Q:Exit -> Act -> World -> Prop} {W w:World} {g l:Nat} {ops:Array Oper} {y:F}
def Zqw (g:Nat) (w w':World):Prop:=∀ v0,Blk w g 164 #[v0] -> (∀ i,i < w.heap.size -> i ≠ g -> v0.ownBlock ≠ some i -> w'.heap[i]? = w.heap[i]?) /\ ∃ v1,Blk w' g 164 #[v1] /\ (v1.ownBlock = v0.ownBlock ∨ ∀ i,v1.ownBlock = some i -> w.heap.size <= i)
def Zc2 (g base:Nat) (w w':World):Prop:=Za3 base w w' /\ Zqw g w w'
theorem Zqw.trans {a b c:World} (hs:a.heap.size <= b.heap.size) (h:Zqw g a b) (k:Zqw g b c):Zqw g a c:=fun p r => by
 obtain ⟨h1,q,m,d⟩:=h p r;obtain ⟨k1,v2,f,j⟩:=k q m;refine ⟨fun i hi o hr => (k1 i (by omega) o ?_).trans (h1 i hi o hr),v2,f,?_⟩
 ·rcases d with e | e
  ·rw [e];exact hr
  ·intro s;have:=e i s;omega
 ·rcases j with e | e
  ·rw [e];exact d
  ·exact .inr fun i hi => aj hs (e i hi)
theorem Zc2.refl (g base:Nat) (w:World):Zc2 g base w w:=⟨Za3.refl _ _,fun b a => ⟨fun _ _ _ _ => rfl,b,a,.inl rfl⟩⟩
theorem Zc2.trans {base:Nat} {a b c:World} (h:Zc2 g base a b) (k:Zc2 g base b c):Zc2 g base a c:=⟨h.1.trans k.1,h.2.trans h.1.1.size k.2⟩
theorem Zc2.below {base:Nat} {a:World} (h:Bl w a) (b:base <= w.heap.size):Zc2 g base w a :=
 ⟨Za3.below h (ag _) b,fun c d => ⟨fun i hi _ _ => h.block i hi,c,d.keep h,.inl rfl⟩⟩
theorem Zc2.alloc (g base:Nat) (w:World) (a:base <= w.heap.size) (o:Obj):Zc2 g base w (w.alloc o):=Zc2.below (Zab w o) a
theorem Yfr {a b:Option Nat} {n:Nat} (h:a = b ∨ a = some n):a = b ∨ ∀ i,a = some i -> n <= i:=by
 rcases h with h | h
 ·exact .inl h
 ·exact .inr fun i hi => by rw [h] at hi;cases hi;exact ag _
theorem Zvo {d:World} {base n m:Nat} {v b:Value} {t o:List Value} (k:base <= g) (q:Blk W g 164 #[v]) (f:W.ownsRow base 5 1 v n t)
  (c:d.ownsRow base 5 1 b m o) (a:W.grownBy d v.ownBlock) (h:b.ownBlock = v.ownBlock ∨ ∀ i,b.ownBlock = some i -> W.heap.size <= i) :
  Blk d g 164 #[v] /\ Blk (d.setCell ⟨g,0,none⟩ b) g 164 #[b] /\ (d.setCell ⟨g,0,none⟩ b).ownsRow base 5 1 b m o /\ Zc2 g base W (d.setCell ⟨g,0,none⟩ b):=by
 obtain ⟨k1,k2,s,u⟩:=Zol k q f c a;refine ⟨k1,k2,s,u,fun r j => ?_⟩;have e:r = v:=by
  have h1:=j.c1.1;have p:=q.c1.1;rw [h1] at p;exact Option.some.inj p
 subst e;refine ⟨fun i hi x hr => ?_,b,k2,h⟩;exact (je d ⟨g,0,none⟩ b i x).trans (a.block i hi (fun e => hr e.symm))
theorem Yfs (g base:Nat) (bs:List Nat) (n:Int) (w:World) (z:0 <= n) (hn:n < 18446744073709551616) (P:Ze0 w base g bs) (hl:bs.length <= 1000000000) :
  Calls prog 161 #[U (some ⟨g,0,none⟩),O .u64 n] w fun e M => (∃ v,e = Z v) /\ Ze0 M base g (bs ++ uvL n.toNat) /\ Zc2 g base w M:=by
 obtain ⟨i0,hi,u,p,s⟩:=info_parts info5;go_enter func161,ntmps161;go_wp2;go_loopw [1] (fun t wr => ∃ (m:Int) (b:List Nat),0 <= m /\ m < 18446744073709551616 /\ t = O .u64 m /\ Ze0 wr base g (bs ++ b) /\ Zc2 g base w wr /\ uvL n.toNat = b ++ uvL m.toNat) (fun t _ => (intOf t).toNat)
 case atStart => exact ⟨n,[],z,hn,rfl,by rw [bv];exact P,Zc2.refl _ _ _,rfl⟩
 case round =>
  obtain ⟨m,b,C,Y,rfl,⟨f,v,q,A,c⟩,N,j⟩:=hrel;have S:=ae j;have HL:b.length <= 9:=by
   have:=Za9 (n:=n.toNat) (by omega);rw [j,ai] at this;have:=Zzl m.toNat;omega
  have aa:q + 1 <= 1000000010:=by
   have:=c.1;rw [Za0,ai] at this;omega
  have ad:=A.lt;clear j hn z hl P;have hc:=A.c1;have ab:=Yia C;have o:base <= wr.heap.size:=by omega
  have L:=ae o;by_cases h:128 <= m
  ·have B:base <= (wr.alloc (J #[O .u8 (128 + m % 128)] 5)).heap.size:=by simp;omega
   clear o;go_wp2_with (at_builtin;refine wpList_append_own_at _ rfl _ _ 96 rfl base 5 i0 (O .u8 0) 1 1 underlying96 hi u p s rfl (by decide) v _ _ rfl (c.alloc _) ⟨wr.heap.size,0,none⟩ 1 1 [O .u8 (128 + m % 128)] rfl rfl (cell_one_new _ _ _) (Zje _) (by unfold maxLen;omega) (by omega) B ?_;intro T w1 a d _ i;obtain ⟨g1,r,rfl⟩:=ownsRow_succ a;obtain ⟨k1,k2,x,K⟩:=Zvo f (A.alloc _) (c.alloc _) a d (Yfr i);have H:=k1.c1;clear hc a d k1);go_roundw
   case rel =>
    have j:uvL n.toNat = (b ++ [(128 + m % 128).toNat]) ++ uvL (m / 128).toNat:=by
     have h2:=Znj (n:=m.toNat) (by omega);have X:(128 + m % 128).toNat = 128 + m.toNat % 128:=by omega
     have e2:(m / 128).toNat = m.toNat / 128:=by omega
     rw [S.out,h2,X,e2,ay];rfl
    have E:bys (bs ++ b) ++ [Value.int .u8 (128 + m % 128)] = bys (bs ++ (b ++ [(128 + m % 128).toNat])):=by rw [<- ay,Zgs (bs ++ b),Zhc (k:=(128 + m % 128).toNat) (by omega)]
    rw [E] at x;exact ⟨m / 128,b ++ [(128 + m % 128).toNat],by omega,by omega,rfl,⟨f,_,_,k2,x⟩,N.trans ((Zc2.alloc g base wr L.out _).trans K),j⟩
   case measure => simp [intOf];omega
  ·have B:base <= (wr.alloc (J #[O .u8 m] 5)).heap.size:=by simp;omega
   clear o;go_wp2_with (at_builtin;refine wpList_append_own_at _ rfl _ _ 96 rfl base 5 i0 (O .u8 0) 1 1 underlying96 hi u p s rfl (by decide) v _ _ rfl (c.alloc _) ⟨wr.heap.size,0,none⟩ 1 1 [O .u8 (m)] rfl rfl (cell_one_new _ _ _) (Zje _) (by unfold maxLen;omega) (by omega) B ?_;intro T w1 a d _ i;obtain ⟨g1,r,rfl⟩:=ownsRow_succ a;obtain ⟨k1,k2,x,K⟩:=Zvo f (A.alloc _) (c.alloc _) a d (Yfr i);have H:=k1.c1;clear hc a d k1);go_end0;have j:uvL n.toNat = b ++ [m.toNat]:=by rw [<- Zf5 (n:=m.toNat) (by omega)];exact S.out
   have E:bys (bs ++ b) ++ [Value.int .u8 m] = bys (bs ++ uvL n.toNat):=by rw [j,<- ay,Zgs (bs ++ b),Zhc (k:=m.toNat) (by omega)]
   rw [E] at x;exact ⟨⟨_,rfl⟩,⟨f,_,_,k2,x⟩,N.trans ((Zc2.alloc g base wr L.out _).trans K)⟩
theorem Yji (g base:Nat) (bs:List Nat) (n:Int) (w:World) (c:-9223372036854775808 <= n) (h1:n <= 9223372036854775807) (j:Ze0 w base g bs) (hl:bs.length <= 1000000000) :
  Calls prog 120 #[U (some ⟨g,0,none⟩),O V n] w fun e b => (∃ v,e = Z v) /\ Ze0 b base g (bs ++ Zbl n) /\ Zc2 g base w b:=by
 have f:=ae (fun W => Zzk n W c h1);have h:=ae (Yc4 c h1);have i:=ae (Int.toNat_natCast (zz n));clear c h1;go_enter func120,ntmps120;go_wp2_with (first
  | (go_at_call 162;refine (f.out _).mono ?_;rintro e b ⟨rfl,rfl⟩)
  | (go_at_call 161;refine (Yfs g base bs _ _ (Int.natCast_nonneg _) h.out j hl).mono ?_;rintro e b ⟨⟨v,rfl⟩,a,d⟩))
 go_end0;rw [i.out] at a;exact ⟨⟨_,rfl⟩,a,d⟩
theorem Zxf (g base:Nat) (bs:List Nat) (l:List Int) (A:Option Addr) (c:Nat) (w:World) (u:Ze0 w base g bs) (hl:bs.length + 10 * l.length <= 900000000) (j:Yc5 l) (d:∀ W',Zc2 g base w W' -> ∀ (k:Nat) (B:k < l.length),∃ b o,A = some ⟨b,o,none⟩ /\ W'.cell? ⟨b,o + k,none⟩ = some (O V l[k])) :
  Calls prog 164 #[U (some ⟨g,0,none⟩),G A l.length c] w fun e x => (∃ v,e = Z v) /\ Ze0 x base g (bs ++ Zc0 l) /\ Zc2 g base w x:=by
 have E:=ae (Za9 (n:=l.length) (by omega));go_enter func164,ntmps164;go_upto_region 1 with (go_at_call 161;refine (Yfs g base bs _ _ (by omega) (by omega) u (by omega)).mono ?_;rintro e M ⟨⟨v,rfl⟩,f,B⟩)
 rw [Int.toNat_natCast] at f;go_wp2_with fail;go_loopw [13] (fun i wr => ∃ k:Nat,i = O V (k:Int) /\ k <= l.length /\ Ze0 wr base g (bs ++ uvL l.length ++ (l.take k).flatMap Zbl) /\ Zc2 g base w wr) (fun i _ => l.length - (intOf i).toNat)
 case atStart => exact ⟨0,rfl,bi _,by simpa using f,B⟩
 case round =>
  obtain ⟨k,rfl,H,a,m⟩:=hrel;by_cases h:k < l.length
  ·obtain ⟨b,o,rfl,C⟩:=d wr m k h;have z:=ae (j l[k] (aw h));have t:(l.take (k + 1)).flatMap Zbl = (l.take k).flatMap Zbl ++ Zbl l[k]:=by
    rw [dq,ak h,bm];simp
   have t:=ae t;have s:(bs ++ uvL l.length ++ (l.take k).flatMap Zbl).length <= 1000000000:=by
    have h1:=Zcj (l:=l.take k) (fun n hn => j n (ed hn));have L:=E.out;have K:=List.length_take_le k l;simp only [ai];omega
   have s:=ae s;have r:=ae a;clear d a j u f;generalize l[k] = n at *;go_wp2_with (go_at_call 120;refine (Yji g base _ n _ z.out.1 z.out.2 r.out s.out).mono ?_;rintro e w2 ⟨⟨v,rfl⟩,p,q⟩);rw [ay,<- t.out] at p;go_roundw
   case rel => exact ⟨k + 1,by go_num,by omega,p,m.trans q⟩
   case measure => simp [intOf];omega
  ·obtain rfl:k = l.length:=by omega
   rw [df,ay] at a;have r:=ae a;clear a u f;go_wp2_with fail;go_end0;exact ⟨⟨_,rfl⟩,r.out,m⟩
theorem Yie (g base:Nat) (bs:List Nat) (l:List Int) (v:Value) (w:World) (j:Ze0 w base g bs) (hl:bs.length + 10 * l.length <= 900000000) (d:Yc5 l) (hr:Rep w base v (.s 1 (Zdv (Zdj l)))) :
  Calls prog 164 #[U (some ⟨g,0,none⟩),v] w fun e h => (∃ v,e = Z v) /\ Ze0 h base g (bs ++ Zc0 l) /\ Zc2 g base w h:=by
 obtain ⟨A,c,rfl,hc,a⟩:=hr.row;rw [Zb1] at hc ⊢;refine Zxf g base bs l A c w j hl d (fun W' q k m => ?_);obtain ⟨b,o,e,i,f⟩:=a k _ (Zbx l k m);exact ⟨b,o,e,(q.1.1.cell (p:=⟨b,o + k,none⟩) i).trans f⟩
theorem Zxg (A:Option Addr) (c:Nat) (cs:List Nat) (w:World) (hn:cs.length <= 3000000000) (hr:Rep w w.heap.size (G A cs.length c) (.s 1 (Zdv (bys cs)))) :
  Calls prog 166 #[G A cs.length c] w fun e H => ∃ v,e = Z v /\ Zd2 H w.heap.size v cs /\ Bl w H:=by
 obtain ⟨A',T,e,hc,d⟩:=hr.row;rw [Za0] at hc e;injection e with e1 e2 e3;subst e1 e3;have i:=hr.spot;have m:∀ W:World,(binOp .eql 96 (G A cs.length c) (G none 0 0)).run prog W = .ok (I A.isNone) W:=fun W => jk W _ _ A cs.length c 0 0 underlying96;cases A with
 | none =>
  have N:cs = []:=by
   cases cs with
   | nil => rfl
   | cons x l =>
    obtain ⟨b,o,h,_⟩:=d 0 _ rfl;cases h
  subst N;have q:=m;simp only [Option.isNone_none,dk] at q;clear m d hr i;go_enter func166,ntmps166;go_wp2_with fail;go_ret;exact ⟨_,rfl,Zd2.nil _ _,ap _ _⟩
 | some a =>
  obtain ⟨b,o,rfl⟩:=i a rfl;simp only [Option.isNone_some] at m;obtain ⟨i0,hi,B,r,z⟩:=info_parts info5;have f:∀ j u,(bys cs)[j]? = some u -> (w.alloc (J #[] 5)).cell? ((⟨b,o,none⟩:Addr).add j) = some u:=fun j u t => by
   obtain ⟨b',o',h,P,hc⟩:=d j u t;injection h with h;injection h with h1 h2;subst h1 h2;rw [Addr.add_lit];exact Lib.cell?_alloc_some _ hc
  have E:=ae f;have L:=gr w #[] 0 (base:=w.heap.size) (e:=5) (size:=1) (ag _) (bi _) rfl;clear d hr i f;go_enter func166,ntmps166;go_wp2_with (at_builtin;refine wpList_append_own _ rfl _ _ 96 rfl w.heap.size 5 i0 (O .u8 0) 1 1 underlying96 hi B r z rfl (by decide) (G (some ⟨w.heap.size,0,none⟩) 0 0) 0 [] rfl L ⟨b,o,none⟩ cs.length c (bys cs) rfl (by rw [Za0,iu]) E.out (fun u t => by obtain ⟨x,_,rfl⟩:=List.mem_map.1 t;rfl) (by unfold maxLen;omega) (by omega) (by simp) ?_;intro K S p C _);go_ret;refine ⟨K,rfl,?_,?_⟩
  ·exact ⟨_,by simpa using p⟩
  ·exact (Zab w _).grown C (by simp) (by intro k M;simp [Value.ownBlock] at M;omega)
theorem Zir (g base:Nat) (bs:List Nat) (w:World) (k:Ze0 w base g bs) (hl:bs.length <= 3000000000) :
  Calls prog 125 #[U (some ⟨g,0,none⟩)] w fun e d => ∃ v,e = Z v /\ Zd2 d w.heap.size v bs /\ Bl w d:=by
 obtain ⟨i,v,n,f,a⟩:=k;have hr:=Rep.of_own_plain a;obtain ⟨A,c,rfl⟩:=Zc1 a;have hn:=a.1;rw [Za0,iu] at hn;subst hn;have m:=f.c1;have h:=ae hr;clear hr f a;go_enter func125,ntmps125;go_wp2_with (go_at_call 166;refine (Zxg A c bs w hl h.out).mono ?_;rintro e d ⟨v,rfl,b,j⟩);go_ret;exact ⟨_,rfl,b,j⟩
theorem Ygw {D base:Nat} {ds:Option (List Deferred)} {v:Value} {bs:List Nat} (o':Obj) (h:Zd2 W base v bs) (b:W.heap[D]? = some (.deferred ds)):Zd2 (W.putObj D o') base v bs:=by
 obtain ⟨n,h⟩:=h;refine ⟨n,h.kept (grownBy_putObj' W D o') ?_⟩;rcases h.2 with ⟨rfl,_⟩ | ⟨k,cap,c,rfl,_,a,_⟩
 ·exact .inl rfl
 ·refine .inr fun e => ?_;obtain rfl:k = D:=by simpa [Value.ownBlock] using e
  rw [a] at b;cases b
def Yi3 (Q:Exit -> Act -> World -> Prop):Exit -> Act -> World -> Prop:=fun e a w => Q e a w /\ e ≠ .outgrown
theorem Zqx (h:LetsOut (Yi3 Q)):False:=by
 obtain ⟨_,_,h1⟩:=h;exact h1.2 rfl
theorem Zxh {n:Nat} {o:Oper} {a:Act} {K:Act -> World -> Prop} (hd:∀ c,o.op ≠ .defer c) (h:o.wp prog a w K (Yi3 Q)):o.wpIn (Fence.wide.inRound l) n prog a w K Q:=by
 refine ⟨fun _ _ => trivial,?_⟩;unfold Oper.wp at h;rw [Oper.semAt_eq _ _ _ hd];generalize (execOp a.eval o).run prog w = r at *;cases r with
 | ok nx w' =>
  cases nx with
  | value v => exact h
  | skip => exact h
  | defer d => exact h
  | enter f args =>
   refine ⟨fun b => (by cases b),CallsIn.inRound l (callsIn_wide.2 ?_)⟩;refine Calls.mono h (fun e i b => ?_);cases e with
   | returned v => exact b
   | panicked chain => exact b.1
   | outgrown => exact (Zqx b).elim
  | row row args =>
   refine ⟨fun b => (by cases b),fun c cs _ => ?_⟩;obtain ⟨v,i,r,s⟩:=(show Rows _ _ _ _ _ from h) c cs;exact ⟨v,i,r,stepsIn_wide.2 s⟩
  | _ => exact h.elim
 | halt b w' =>
  cases b with
  | panic v => exact h.1
  | _ => exact h.elim
theorem Zew {l n:Nat} {e:Region.Mode} {ops:Array Oper} {Q:Exit -> Act -> World -> Prop} {S:World -> Prop} (hd:∀ (i:Nat) (o:Oper) c,ops[i]? = some o -> o.op ≠ .defer c) :
  ∀ (fuel:Nat) (d:Array Bool) (a:Act) (w:World),wpAnyH prog e ops (Yi3 Q) S fuel d a w -> wpAnyIn (Fence.wide.inRound l) n prog e ops Q fuel d a w
 | 0,_,_,_,h => ⟨h.1,h.2.1⟩
 | fuel + 1,d,a,w,h => ⟨fun hr => (h.1 hr).1,fun i hi => by
  have b:=h.2 i hi;unfold wpOp at b;unfold wpOpIn;cases ho:ops[i]? with
  | none =>
   rw [ho] at b;exact Zew hd fuel _ _ _ b.2
  | some o =>
   rw [ho] at b;dsimp only at b ⊢;by_cases f:Region.wanted o (yielded ops a.tmps) = true
   ·rw [if_pos f] at b ⊢;rcases b with h1 | ⟨_,h1⟩
    ·exact Oper.wpIn_mono (fun k j m => Zew hd fuel _ k j m.2) (Zxh (hd i o · ho) h1)
    ·exact (Zqx h1).elim
   ·rw [if_neg f] at b ⊢;exact ⟨fun _ _ => trivial,Zew hd fuel _ _ _ b.2⟩⟩
def Zz0 (ops:Array Oper):Bool:=ops.all fun o => match o.op with | .defer _ => false | _ => true
theorem Zqy (h:Zz0 ops = true) (i:Nat) (o:Oper) (c:Call) (ho:ops[i]? = some o):o.op ≠ .defer c:=by
 obtain ⟨hi,e⟩:=Array.getElem?_eq_some_iff.1 ho;have h1:=Array.all_eq_true.1 h i hi;rw [e] at h1;intro hc;rw [hc] at h1;cases h1
theorem Zqz {n id:Nat} {S:World -> Prop} {a:Act} (hm:prog.follows .mixedOrders = true) (hd:Zz0 ops = true) (b:S w.drew)
  (h:S w.drew -> wpAnyH prog .any ops (Yi3 Q) S ops.size (Array.replicate ops.size false) a w.drew):(Code.region id ops true).wpIn (Fence.wide.inRound l) n prog Q a w :=
 wpIn_region_any hm (Zew (Zqy hd) _ _ _ _ (h b))
attribute [local go_sem ↓] Go.wp_at_zero Go.wp_at_succ
def Zi6 (b:Bool):Int:=if b then 1 else 0
def Iv.nums (x:Iv):List Int:=[x.ln,x.ld,x.hn,x.hd,Zi6 x.lo,Zi6 x.ho,Zi6 x.li,Zi6 x.hi]
def Zq0 (y:F):List Nat:=Zbl y.op ++ Zbl y.n ++ Zbl y.ins.length ++ y.ins.flatMap (fun x => Zc0 x.nums) ++ Zbl y.kids.length
def Zen (t:F):List Nat:=t.nodes.flatMap Zq0
theorem Zvp (b:Bool):0 <= Zi6 b /\ Zi6 b <= 1:=by cases b <;> decide
theorem Zlo {x:Iv} (h:Yfp x):Yc5 x.nums:=by
 obtain ⟨h1,b,c⟩:=h;obtain ⟨d,i,e,o⟩:=b.bd;have p:(-1073741824 <= x.hn /\ x.hn <= 1073741824) /\ 0 <= x.hd /\ x.hd <= 32768:=by
  rcases c with ⟨_,a,m,_⟩ | ⟨_,a,_⟩
  ·omega
  ·obtain ⟨c1,c2,j,c4⟩:=a.bd;omega
 have r:=Zvp x.lo;have f:=Zvp x.ho;have k:=Zvp x.li;have q:=Zvp x.hi;intro n hn;simp only [Iv.nums,dt,dl,or_false] at hn;omega
theorem Zlp {x:Iv} (h:Yfp x):(Zc0 x.nums).length <= 90:=by
 have h1:=Zcj (Zlo h);have a:=Za9 (n:=x.nums.length) (fw rfl);unfold Zc0;rw [ai];have:x.nums.length = 8:=rfl;omega
theorem Zvq (h:Zeg y) (i:y.kids.length <= 1000000):(Zq0 y).length <= 200:=by
 have b:0 <= y.op /\ y.op <= 6:=by rcases h with h | h | h | h | h <;> omega
 have hn:0 <= y.n /\ y.n <= 64:=by rcases h with h | h | h | h | h <;> omega
 have hi:Zxb y.ins:=by
  rcases h with h | h | h | h | h
  ·rw [h.2.2.1];exact ⟨by simp,fun _ h => by simp at h⟩
  ·rw [h.2.2.1];exact ⟨by simp,fun _ h => by simp at h⟩
  ·exact h.2.2.1
  ·rw [h.2.2.1];exact ⟨by simp,fun _ h => by simp at h⟩
  ·rw [h.2.2];exact ⟨by simp,fun _ h => by simp at h⟩
 have c:=Za2 (n:=y.op) (by omega) (by omega);have j:=Za2 (n:=y.n) (by omega) (by omega);have d:=Za2 (n:=(y.ins.length:Int)) (by omega) (by have:=hi.1;omega);have f:=Za2 (n:=(y.kids.length:Int)) (by omega) (by omega);have e:(y.ins.flatMap (fun x => Zc0 x.nums)).length <= 90:=by
  obtain ⟨hl,a⟩:=hi
  match y.ins,hl,a with
  | [],_,_ => simp
  | [x],_,a => simpa using Zlp (a x da)
 unfold Zq0;simp only [ai];omega
theorem Znm (h:Zeg y):Zxb y.ins:=by
 rcases h with h | h | h | h | h
 ·rw [h.2.2.1];exact ⟨by simp,fun _ h => by simp at h⟩
 ·rw [h.2.2.1];exact ⟨by simp,fun _ h => by simp at h⟩
 ·exact h.2.2.1
 ·rw [h.2.2.1];exact ⟨by simp,fun _ h => by simp at h⟩
 ·rw [h.2.2];exact ⟨by simp,fun _ h => by simp at h⟩
theorem OkN.node (h:OkN y):Zeg y:=h.2 y (by rw [F.nodes_eq];exact da)
theorem OkN.kids_le (h:OkN y):y.kids.length <= 1000000:=by
 have h1:=Go.Proofs.YtglkadmfjaecmaaGreatDoor.kids_le y.kids;have a:=y.nodes_length;rw [y.nodes_eq,au,Zal] at a;have:=h.1;omega
theorem Zs3 {w:World} {B:Nat}:∀ a:List (Zhx OkN w B),(a.flatMap fun y => Zq0 y.1.t).length <= 200 * a.length
 | [] => by simp
 | y :: a => by
  have h1:=Zs3 a;have b:=Zvq y.2.node y.2.kids_le;rw [de,ai,au];omega
theorem Zhf (b:Bool) (w:World) :
  Calls prog 165 #[I b] w fun e a => e = Z (O V (Zi6 b)) /\ w = a:=by
 cases b
 ·go_enter func165,ntmps165;go_wp2;go_ret;exact ⟨rfl,rfl⟩
 ·go_enter func165,ntmps165;go_wp2;go_ret;exact ⟨rfl,rfl⟩
theorem Yif {β:Type} (base g:Nat) (f:β -> List Nat):Own (fun s W => Ze0 W base g (f s)):=fun s X Y row hs d a => by
 obtain ⟨i,v,n,h1,c⟩:=hs;refine ⟨i,v,n,Zd7 g 164 (fun (_:Unit) => #[v]) () X Y row h1 d a,c.kept d ?_⟩;rcases c.2 with ⟨rfl,_⟩ | ⟨k,cap,h,rfl,_,b,_⟩
 ·exact .inl rfl
 ·refine .inr fun e => ?_;obtain ⟨o,ho,hc⟩:=a k e.symm;rw [b] at ho;cases ho;cases hc
theorem Za3.keepT {base B:Nat} {W':World} (h:Za3 base W W') (b:B <= base):Za1 Zgv B W W' :=
 ⟨h.1.mono b,fun i t cs a hi => h.blk hi (by rintro rfl;rcases a with h | h <;> cases h) (by rintro rfl;rcases a with h | h <;> cases h)⟩
theorem Zz1 (w:World) (B:Nat) (A:B <= w.heap.size) (x:Zan w B) (h:OkF x.t) :
  Calls prog 123 #[R #[x.a,x.b,x.c,x.d]] w fun e w' => ∃ v,e = Z (.tuple #[v,O V 0]) /\ Zd2 w' w.heap.size v (Zen x.t) /\ Bl w w':=by
 have bx:x.t.size <= 1000000:=by have:=h.1;omega
 have ck:x.t.size <= 96:=h.1;have HO:=ae h;have bl:=ae (show ∀ W,Bl w W -> ∀ p:Addr,p.block < B -> W.cell? p = w.cell? p from fun W hW p hp => hW.cell (ah hp A));clear h;refine (callsIn_wide (n:=6)).1 ?_;refine callsIn_of_wp_marks func123 rfl trivial ?_ rfl;simp only [ntmps123,ef,au,dk,Nat.reduceAdd,Nat.reduceSub,ff,ew,fp,fj,dm,dx];gi_wp2_with fail;refine ⟨trivial,?_⟩;have N:=Zab w (J #[x.a,x.b,x.c,x.d] 46);have B0:=Blk.new w 46 #[x.a,x.b,x.c,x.d];generalize w.alloc _=W0 at *;refine (callsIn_wide.2 (Zip W0 B (aj A N.size) (x.up (bl.out _ N) (ag _)) HO.out)).mono ?_;rintro e L ⟨rfl,an⟩;have al:=N.trans (an.mono N.size);have B1:=B0.keep an;clear B0 N an;have bz:=al.size;have B2:=(B1.alloc (J #[G none 0 0] 164)).alloc (J #[U (some ⟨L.heap.size,0,none⟩)] 195);have G2:=(Blk.new L 164 #[G none 0 0]).alloc (J #[U (some ⟨L.heap.size,0,none⟩)] 195);have P2:=Blk.new (L.alloc (J #[G none 0 0] 164)) 195 #[U (some ⟨L.heap.size,0,none⟩)];rw [ax] at P2;have a2:=(al.alloc al.size (J #[G none 0 0] 164)).alloc (by simp;omega) (J #[U (some ⟨L.heap.size,0,none⟩)] 195);have hz:((L.alloc (J #[G none 0 0] 164)).alloc (J #[U (some ⟨L.heap.size,0,none⟩)] 195)).heap.size = L.heap.size + 1 + 1:=by simp
 have c2:=B2.c4;gi_wp2_with fail;generalize (L.alloc (J #[G none 0 0] 164)).alloc (J #[U (some ⟨L.heap.size,0,none⟩)] 195) = w2 at *;have a7:Ze0 w2 w.heap.size L.heap.size []:=⟨bz,_,0,G2,d8 _ _ _ _⟩;generalize L.heap.size = g at *;refine ⟨trivial,?_⟩;refine (callsIn_wide.2 (Zio _ _ _ _ _)).mono ?_;rintro e w' ⟨rfl,rfl⟩;have P3:=P2.alloc (J #[x.a,x.b,x.c,x.d] 46);have b7:=a7.alloc (J #[x.a,x.b,x.c,x.d] 46);have B3:=Blk.new w2 46 #[x.a,x.b,x.c,x.d];have T:=a2.alloc a2.size (J #[x.a,x.b,x.c,x.d] 46);rw [hz] at B3;gi_wp2_with fail;clear B1 B2 G2 P2 a2 a7 al;generalize w2.alloc _=w3 at *;clear hz c2;have I1:OwnFrom w3.heap.size (fun (m:List (Zhx OkN w B)) W => Ze0 W w.heap.size g (m.flatMap fun y => Zq0 y.1.t)):=Own.from (fun s X Y row hs hg hr => Yif w.heap.size g (fun m:List (Zhx OkN w B) => m.flatMap fun y => Zq0 y.1.t) s X Y row hs hg hr) _
 have I2:OwnFrom w3.heap.size (fun (_:List (Zhx OkN w B)) W => Blk W (g + 1) 195 #[U (some ⟨g,0,none⟩)]):=Own.from (fun s X Y row hs hg hr => Zd7 (β:=List (Zhx OkN w B)) (g + 1) 195 (fun _ => #[U (some ⟨g,0,none⟩)]) s X Y row hs hg hr) _
 have I3:OwnFrom w3.heap.size (fun (_:List (Zhx OkN w B)) W => Bl w W):=ownFrom_below (ag _) T.size;refine wpIn_rangeFunc_ownH rfl (by omega) (gf:=195) (lb:=#[U (some ⟨g + 1 + 1,0,none⟩)]) rfl trivial (enters_of func195 (by kernel_rfl) rfl)
  (Zf6 OkN Zk3 (6 - 1) w B A x ⟨HO.out.1,HO.out.2.2⟩ bx (g + 1 + 1) w3 B3 (Za1.below T A)) Za1.trans (Za1.put (aj A T.size)) (ap _ _) (fun _ => rfl)
  _ (fun _ _ _ => False) (OwnFrom.and (OwnFrom.and I1 I2) I3)
  (fun _ _ _ _ _ hs _ _ => hs)
  ⟨⟨b7,P3⟩,T⟩
  (fun y a' W => ∃ Bx,Blk W Bx 46 #[y.1.a,y.1.b,y.1.c,y.1.d] /\ a' = { tmps:=#[R #[x.a,x.b,x.c,x.d],U (some ⟨w.heap.size,0,none⟩),G none 0 0,O V 0,O V 0,U (some ⟨g + 1,0,none⟩),U (some ⟨Bx,0,none⟩),undef,undef,R #[x.a,x.b,x.c,x.d],O V 0,O V 0,I false,undef,R #[G none 0 0],U (some ⟨g,0,none⟩),R #[x.a,x.b,x.c,x.d],.func (.func 195) #[] #[U (some ⟨g + 1 + 1,0,none⟩)],R #[y.1.a,y.1.b,y.1.c,y.1.d],undef,undef,undef,undef,undef,undef,undef,undef,undef,undef,undef,undef,undef,undef,undef,undef,undef,undef,undef,undef,undef,undef,undef,undef,undef,undef,undef,undef,undef,undef,undef,undef,undef,undef,undef,undef,undef,undef,undef,undef,undef,undef,undef,undef,undef,undef,undef,undef,undef,undef,undef,undef,undef,undef,undef],defers:=[] })
  (fun y a' _ X Y row hs hg hr => by obtain ⟨Bx,h2,h3⟩:=hs;exact ⟨Bx,Zd7 Bx 46 (fun (_:Unit) => #[y.1.a,y.1.b,y.1.c,y.1.d]) () X Y row h2 hg (fun r e => (hr r e).2),h3⟩)
  ?assign ?body ?done ?stop
 case assign =>
  rintro l m y W K ⟨⟨hw,hp⟩,hB⟩ q;obtain ⟨A1,n1,q1,A2,n2,q2,e1,e2,e3,e4⟩:=Zaq y.1.h;gi_wp2_with fail;rw [<- e1,<- e2,<- e3,<- e4];exact q _ _ ((KeepsOthers.alloc _ _).from _) (Za1.alloc W (aj A hB.size) _) ⟨⟨hw.alloc _,hp.alloc _⟩,hB.alloc hB.size _⟩ ⟨W.heap.size,Blk.new W _ _,rfl⟩
 case body =>
  rintro l m y a' W hl ⟨r,hr⟩ ⟨⟨hw,hp⟩,hB⟩ ⟨Bx,bX,rfl⟩ cr;have af:=y.2.node;obtain ⟨e1,e2,r3,r4⟩:=y.1.parts;obtain ⟨A1,q1,e3,_,be⟩:=r3.ivs;obtain ⟨A2,q2,e4,cg,cc⟩:=r4.formulas;clear cg cc;have co:=y.2.kids_le;have cu:0 <= y.1.t.op /\ y.1.t.op <= 6:=by rcases af with h | h | h | h | h <;> omega
  have hn:0 <= y.1.t.n /\ y.1.t.n <= 64:=by rcases af with h | h | h | h | h <;> omega
  have P:=Znm af;have bo:=Zs3 m;have ci:(m.flatMap fun y => Zq0 y.1.t).length <= 20000:=by omega
  have l1:=Za2 (n:=y.1.t.op) (by omega) (by omega);have l2:=Za2 (n:=y.1.t.n) (by omega) (by omega);have l3:=Za2 (n:=(y.1.t.ins.length:Int)) (by omega) (by have:=P.1;omega);have HE:(m ++ [y]).flatMap (fun y => Zq0 y.1.t) = (m.flatMap fun y => Zq0 y.1.t) ++ Zbl y.1.t.op ++ Zbl y.1.t.n ++ Zbl y.1.t.ins.length ++ y.1.t.ins.flatMap (fun x => Zc0 x.nums) ++ Zbl y.1.t.kids.length:=by
   rw [bm];simp only [de,er,bv,Zq0,ay]
  have bp:=ae HE;rw [e1,e2,e3,e4] at bX;have ch:=ae be;have E:=ae P;clear r3 r4 e1 e2 e3 e4 HE bo af be P;generalize (m.flatMap fun y => Zq0 y.1.t) = bs at *;generalize y.1.t.op = op at *;generalize y.1.t.n = nn at *;generalize y.1.t.ins = ins at *;generalize y.1.t.kids.length = kl at *;generalize y.1.a = ya;generalize y.1.b = yb;generalize y.1.c = yc;generalize y.1.d = yd;have b6:=bX.c4;have bg:=hp.c1.1;gi_wp2_with fail;refine ⟨trivial,?_⟩;refine (CallsIn.inRound l (callsIn_wide.2 (Zdy g w.heap.size bs op W (by omega) (by omega) hw (by omega)))).mono ?_;rintro e W1 ⟨⟨v1,rfl⟩,bk,k1⟩;have a3:=k1.blk bX (by decide) (by decide);have aq:=k1.blk hp (by decide) (by decide);have b9:=a3.c4;have b4:=aq.c1.1;clear b6 bg;gi_wp2_with fail;refine ⟨trivial,?_⟩;refine (CallsIn.inRound l (callsIn_wide.2 (Zdy g w.heap.size _ nn W1 (by omega) (by omega) bk (by rw [ai];omega)))).mono ?_;rintro e W2 ⟨⟨v2,rfl⟩,a6,k2⟩;have av:=k2.blk a3 (by decide) (by decide);have a1:=k2.blk aq (by decide) (by decide);have b5:=av.c4;have b2:=a1.c1.1;clear b9 b4 bk;gi_wp2_with fail;refine ⟨trivial,?_⟩;refine (CallsIn.inRound l (callsIn_wide.2 (Zdy g w.heap.size _ (ins.length:Int) W2 (by omega) (by have:=E.out.1;omega) a6 (by simp only [ai];omega)))).mono ?_;rintro e W3 ⟨⟨v3,rfl⟩,bn,k3⟩;have bh:=k3.blk av (by decide) (by decide);have bc:=k3.blk a1 (by decide) (by decide);have cl:=bh.c4;have cq:=bc.c1.1;have K3:=k1.trans (k2.trans k3);have am:=hB.trans K3.1;clear b5 b2 a6 k1 k2 k3 bX a3 av hp aq a1 hw;have cs:(bs ++ Zbl op ++ Zbl nn ++ Zbl (ins.length:Int)).length <= 20030:=by simp only [ai];omega
  generalize bs ++ Zbl op ++ Zbl nn ++ Zbl (ins.length:Int) = b3 at *;gi_wp2_with fail;have cp:ins.length <= 1:=E.out.1;gi_loopw [35] (fun i wr => ∃ k:Nat,i = O V (k:Int) /\ k <= ins.length /\ Ze0 wr w.heap.size g (b3 ++ (ins.take k).flatMap fun x => Zc0 x.nums) /\ Za3 w.heap.size W3 wr) (fun i _ => ins.length - (intOf i).toNat)
  case atStart => exact ⟨0,rfl,bi _,by simpa using bn,Za3.refl _ _⟩
  case round =>
   obtain ⟨k,rfl,hk,ab,M⟩:=hrel;have a4:=M.blk bh (by decide) (by decide);have ad:=M.blk bc (by decide) (by decide);have u:=am.trans M.1;have bq:((ins.take k).flatMap fun x => Zc0 x.nums).length <= 90:=by
    have h1:=E.out.1;have h2:=E.out.2
    match ins,h1,h2 with
    | [],_,_ => simp
    | [z],_,h2 =>
     cases k with
     | zero => simp
     | succ k => simpa using Zlp (h2 z da)
   by_cases aa:k < ins.length
   ·obtain ⟨b,o,rfl,hb,d0,d1,d2,d3,d4,d5,d6,d7⟩:=ch.out k aa;have C:b < w.heap.size:=ah hb A;have c0:=(u.cell (p:=⟨b,o + k * 8,none⟩) C).trans d0;have c1:=(u.cell (p:=⟨b,o + k * 8 + 1,none⟩) C).trans d1;have c2:=(u.cell (p:=⟨b,o + k * 8 + 2,none⟩) C).trans d2;have c3:=(u.cell (p:=⟨b,o + k * 8 + 3,none⟩) C).trans d3;have c4:=(u.cell (p:=⟨b,o + k * 8 + 4,none⟩) C).trans d4;have c5:=(u.cell (p:=⟨b,o + k * 8 + 5,none⟩) C).trans d5;have c6:=(u.cell (p:=⟨b,o + k * 8 + 6,none⟩) C).trans d6;have c7:=(u.cell (p:=⟨b,o + k * 8 + 7,none⟩) C).trans d7;have hz:=E.out.2 ins[k] (aw aa);have HN:=ae (Zlo hz);have cn:=Zlp hz;have HT:(ins.take (k + 1)).flatMap (fun x => Zc0 x.nums) = ((ins.take k).flatMap fun x => Zc0 x.nums) ++ Zc0 ins[k].nums:=by
     rw [dq,ak aa,bm];simp
    have cd:=ae HT;clear d0 d1 d2 d3 d4 d5 d6 d7 HT hz;generalize ins[k] = z at *;gi_wp2_with fail;have Z0:=Blk.new wr 181 #[iI z.ln,iI z.ld,iI z.hn,iI z.hd,I z.lo,I z.ho,I z.li,I z.hi];have P0:=ad.alloc (J #[iI z.ln,iI z.ld,iI z.hn,iI z.hd,I z.lo,I z.ho,I z.li,I z.hi] 181);have X0:=a4.alloc (J #[iI z.ln,iI z.ld,iI z.hn,iI z.hd,I z.lo,I z.ho,I z.li,I z.hi] 181);have A0:=ab.alloc (J #[iI z.ln,iI z.ld,iI z.hn,iI z.hd,I z.lo,I z.ho,I z.li,I z.hi] 181);have K0:=M.trans (Za3.alloc w.heap.size wr u.size (J #[iI z.ln,iI z.ld,iI z.hn,iI z.hd,I z.lo,I z.ho,I z.li,I z.hi] 181));clear a4 ad ab M u c0 c1 c2 c3 c4 c5 c6 c7;have HX:=ae X0;clear X0;generalize wr.alloc _=wa at *;refine Zqz (S:=(fun w' => Blk w' (g + 1) 195 #[U (some ⟨g,0,none⟩)] /\ Blk w' wr.heap.size 181 #[iI z.ln,iI z.ld,iI z.hn,iI z.hd,I z.lo,I z.ho,I z.li,I z.hi] /\ Za3 w.heap.size W3 w')) (by kernel_rfl) (by kernel_rfl) ?_ (fun f => ?_)
    ·first | done | ((try dsimp only);exact ⟨P0,Z0,K0.drew⟩)
    have A1:=A0.drew;clear P0 Z0 A0 K0;generalize wa.drew = wb at *;refine th 0 39 rfl (fun _ j => j.1.c1.1) ?_;refine tq 1 40 rfl ?_;refine tq 2 41 rfl ?_;refine th 3 42 rfl (fun _ j => j.2.1.c8) ?_;refine tq 4 43 rfl ?_;refine tq 5 44 rfl ?_;refine th 6 45 rfl (fun _ j => j.2.1.c8) ?_;refine tq 7 46 rfl ?_;refine tq 8 47 rfl ?_;refine th 9 48 rfl (fun _ j => j.2.1.c8) ?_;refine tq 10 49 rfl ?_;refine tq 11 50 rfl ?_;refine th 12 51 rfl (fun _ j => j.2.1.c8) ?_;refine tq 13 52 rfl ?_;refine th 14 53 rfl (fun _ j => j.2.1.c8) ?_;refine tq 16 55 rfl ?_;refine th 17 56 rfl (fun _ j => j.2.1.c8) ?_;refine tq 19 58 rfl ?_;refine th 20 59 rfl (fun _ j => j.2.1.c8) ?_;refine tq 22 61 rfl ?_;refine th 23 62 rfl (fun _ j => j.2.1.c8) ?_;refine rd 15 (some 54) rfl fun K q => ?_;go_simp;(refine (Zhf z.lo _).mono ?_;rintro e w' ⟨rfl,rfl⟩);refine q.out _ _ (f) fun f => ?_;clear q K;(try simp only [pS,pB,pZ,pC]);refine rd 18 (some 57) rfl fun K q => ?_;go_simp;(refine (Zhf z.ho _).mono ?_;rintro e w' ⟨rfl,rfl⟩);refine q.out _ _ (f) fun f => ?_;clear q K;(try simp only [pS,pB,pZ,pC]);refine rd 21 (some 60) rfl fun K q => ?_;go_simp;(refine (Zhf z.li _).mono ?_;rintro e w' ⟨rfl,rfl⟩);refine q.out _ _ (f) fun f => ?_;clear q K;(try simp only [pS,pB,pZ,pC]);refine rd 24 (some 63) rfl fun K q => ?_;go_simp;(refine (Zhf z.hi _).mono ?_;rintro e w' ⟨rfl,rfl⟩);refine q.out _ _ (f) fun f => ?_;clear q K;(try simp only [pS,pB,pZ,pC]);refine rd 25 (some 64) rfl fun K q => ?_;go_simp;skip;refine q.out _ _ (⟨f.1.alloc _,f.2.1.alloc _,f.2.2.trans (Za3.alloc _ _ (aj am.size f.2.2.1.size) _)⟩) fun f => ?_;clear q K;(try simp only [pS,pB,pZ,pC]);have A2:=A1.alloc (J #[iI z.ln,iI z.ld,iI z.hn,iI z.hd,iI (Zi6 z.lo),iI (Zi6 z.ho),iI (Zi6 z.li),iI (Zi6 z.hi)] 3);have Q2:=Blk.new wb 3 #[iI z.ln,iI z.ld,iI z.hn,iI z.hd,iI (Zi6 z.lo),iI (Zi6 z.ho),iI (Zi6 z.li),iI (Zi6 z.hi)];have H:(b3 ++ (ins.take k).flatMap fun x => Zc0 x.nums).length + 10 * z.nums.length <= 900000000:=by
     rw [ai];have:z.nums.length = 8:=rfl;omega
    refine rd 26 (some 65) rfl fun K q => ?_;go_simp;(refine (Zzp g w.heap.size _ z.nums 8 wb.heap.size _ rfl rfl _ A2 H HN.out Q2).mono ?_;rintro e w5 ⟨⟨v5,rfl⟩,A3,k5⟩);refine q.out _ _ (⟨k5.blk f.1 (by decide) (by decide),k5.blk f.2.1 (by decide) (by decide),f.2.2.trans k5⟩) fun f => ?_;clear q K;(try simp only [pS,pB,pZ,pC]);refine dn ?_;refine ⟨?_,fun h => by cases h⟩;rw [ay,<- cd.out] at A3;gi_wp2_with fail;go_roundw
    case rel => exact ⟨k + 1,by go_num,by omega,A3,f.2.2⟩
    case measure => simp [intOf];omega
   ·obtain rfl:k = ins.length:=by omega
    rw [df] at ab bq;have b0:=a4.c4;have cf:=ad.c1.1;have cb:=ae ab;have ce:=ae M;clear ab;gi_wp2_with fail;refine ⟨trivial,?_⟩;refine (CallsIn.inRound l (callsIn_wide.2 (Zdy g w.heap.size _ (kl:Int) wr (by omega) (by omega) cb.out (by rw [ai];omega)))).mono ?_;rintro e W5 ⟨⟨v5,rfl⟩,a9,k5⟩;rw [<- bp.out] at a9;have ca:=k5.blk ad (by decide) (by decide);have K5:=K3.trans (ce.out.trans k5);clear b0 cf;gi_wp2_with fail;exact ⟨K5.others.from _,K5.keepT A,⟨⟨a9,ca⟩,hB.trans K5.1⟩⟩
 case done =>
  rintro D ys W hD a0 ⟨⟨hw,hp⟩,hB⟩ q;have hE:(ys.flatMap fun y => Zq0 y.1.t) = Zen x.t:=by
   unfold Zen;rw [<- a0,List.flatMap_map]
  have cm:ys.length = x.t.size:=by
   have:=congrArg List.length a0;rw [ba,F.nodes_length] at this;exact this
  have H:=Zs3 ys;rw [hE] at hw H;have b1:(Zen x.t).length <= 3000000000:=by omega
  clear a0 hE H;have bg:=hp.c1.1;gi_wp2_with fail;refine ⟨trivial,?_⟩;refine (callsIn_wide.2 (Zir g w.heap.size _ W hw b1)).mono ?_;rintro e W2 ⟨v,rfl,bf,a8⟩;have a5:W2.heap[D]? = some (.deferred (some [])):=(a8.block D (Array.getElem?_eq_some_iff.1 q).1).trans q;have b8:=hB.trans (a8.mono hB.size);gi_wp2_with fail;refine ⟨by simp,.inl ⟨_,_,rfl,run_takeDeferred a5,?_⟩⟩;exact ⟨_,results_tmp2 rfl _ _ _,v,rfl,Ygw _ (bf.mono hB.size) a5,b8.trans (belowK_b (w:=w) (ag _) _ D _ _ (aj T.size hD) a5 rfl rfl)⟩
 case stop =>
  rintro D c m W _ _ h _;exact h.elim
theorem Zei (n d:Int) (h:Zgk n d) (w:World) :
  Calls prog 239 #[R #[O V n,O V d]] w fun e c => e = Z (I true) /\ Bl w c:=by
 obtain ⟨i,m,j,k⟩:=h.bd;have b:=ae (fun w => Zgu n d w);rw [h.1] at b;clear h;have f:=Blk.new w 38 #[O V n,O V d];go_enter func239,ntmps239;go_wp2_with (go_at_call 130;refine (b.out _).mono ?_;rintro e o ⟨rfl,a⟩;have hc:=(f.keep a).c2);go_ret;exact ⟨rfl,Zaa (Zab _ _) a (by simp)⟩
theorem Yig (w:World) :
  Calls prog 239 #[R #[O V 0,O V 0]] w fun e c => e = Z (I false) /\ Bl w c:=by
 have b:=ae (fun w => Zgu 0 0 w);have d:=Blk.new w 38 #[O V 0,O V 0];rw [show Zqc 0 0 = 1 by decide] at b;go_enter func239,ntmps239;go_wp2_with (go_at_call 130;refine (b.out _).mono ?_;rintro e f ⟨rfl,a⟩;have hc:=(d.keep a).c2);go_ret;exact ⟨rfl,Zaa (Zab _ _) a (by simp)⟩
theorem Zlq (ln ld hn hd:Int) (P Q:Int) (b:IntKind.i64.wrap (ln * hd) = P) (c:IntKind.i64.wrap (hn * ld) = Q) (h:P < Q) (w:World) :
  Calls prog 169 #[R #[O V ln,O V ld],R #[O V hn,O V hd]] w fun e a => e = Z (I true) /\ Bl w a:=by
 have h1:decide (P < Q) = true:=by simp;omega
 go_enter func169,ntmps169;go_wp2;go_ret;exact ⟨by rw [<- h1];rfl,(Zab _ _).alloc (by simp) _⟩
theorem Zs4 (ln ld:Int) (lo:Bool) (h:Zgk ln ld) (w:World) :
  Calls prog 231 #[R #[iI ln,iI ld,iI 0,iI 0,I lo,I false,I false,I true]] w fun e j => e = Z (I true) /\ Bl w j:=by
 have p:=ae (fun w => Zei ln ld h w);clear h;have q:=ae (fun w => Yig w);have o:=Blk.new w 181 #[iI ln,iI ld,iI 0,iI 0,I lo,I false,I false,I true];go_enter func231,ntmps231;go_wp2_with fail;refine (p.out _).mono ?_;rintro e r ⟨rfl,a⟩;have f:=o.keep a;have c:=f.c8;go_wp2_with fail;refine (q.out _).mono ?_;rintro e w2 ⟨rfl,b⟩;have k:=f.keep b;have m:=k.c8;clear c;go_wp2_with fail;have d:=Zaa (Zab _ _) a (by simp);have i:=Zaa d b d.size;go_ret;exact ⟨rfl,i⟩
theorem Zxi (ln ld hn hd:Int) (lo ho:Bool) (k:Zgk ln ld) (m:Zgk hn hd) (A:ln * hd < hn * ld) (M:¬ ln = hn) (w:World) :
  Calls prog 231 #[R #[iI ln,iI ld,iI hn,iI hd,I lo,I ho,I false,I false]] w fun e C => e = Z (I true) /\ Bl w C:=by
 have K:=ae (fun w => Zei ln ld k w);have L:=ae (fun w => Zei hn hd m w);obtain ⟨o,x,p,r⟩:=k.bd;obtain ⟨s,B,z,q⟩:=m.bd;have H:=ae (fun w => Zlq ln ld hn hd _ _ (Zjl (a:=ln) (b:=hd) p r s B) (Zjl (a:=hn) (b:=ld) z q o x) A w);clear k m A o x p r s B z q;have v:=Blk.new w 181 #[iI ln,iI ld,iI hn,iI hd,I lo,I ho,I false,I false];go_enter func231,ntmps231;go_wp2_with fail;refine (K.out _).mono ?_;rintro e P ⟨rfl,c⟩;have f:=v.keep c;have i:=f.c8;go_wp2_with fail;refine (L.out _).mono ?_;rintro e w2 ⟨rfl,d⟩;have u:=f.keep d;have E:=u.c8;clear i;have j:=Zaa (Zab _ _) c (by simp);have t:=Zaa j d j.size;clear f u v c d j;go_wp2_with fail;refine (H.out _).mono ?_;rintro e N ⟨rfl,h⟩;go_wp2_with fail;go_ret;exact ⟨rfl,Zaa t h t.size⟩
theorem Zxj (ln ld hd:Int) (lo ho:Bool) (k:Zgk ln ld) (m:Zgk ln hd) (A:ln * hd < ln * ld) (M:¬ ld = hd) (w:World) :
  Calls prog 231 #[R #[iI ln,iI ld,iI ln,iI hd,I lo,I ho,I false,I false]] w fun e C => e = Z (I true) /\ Bl w C:=by
 have K:=ae (fun w => Zei ln ld k w);have L:=ae (fun w => Zei ln hd m w);obtain ⟨o,x,p,r⟩:=k.bd;obtain ⟨s,B,z,q⟩:=m.bd;have H:=ae (fun w => Zlq ln ld ln hd _ _ (Zjl (a:=ln) (b:=hd) p r s B) (Zjl (a:=ln) (b:=ld) z q o x) A w);clear k m A o x p r s B z q;have v:=Blk.new w 181 #[iI ln,iI ld,iI ln,iI hd,I lo,I ho,I false,I false];go_enter func231,ntmps231;go_wp2_with fail;refine (K.out _).mono ?_;rintro e P ⟨rfl,c⟩;have f:=v.keep c;have i:=f.c8;go_wp2_with fail;refine (L.out _).mono ?_;rintro e w2 ⟨rfl,d⟩;have u:=f.keep d;have E:=u.c8;clear i;have j:=Zaa (Zab _ _) c (by simp);have t:=Zaa j d j.size;clear f u v c d j;go_wp2_with fail;refine (H.out _).mono ?_;rintro e N ⟨rfl,h⟩;go_wp2_with fail;go_ret;exact ⟨rfl,Zaa t h t.size⟩
theorem Zs5 (x:Iv) (h:Yfp x) (w:World) :
  Calls prog 231 #[R #[iI x.ln,iI x.ld,iI x.hn,iI x.hd,I x.lo,I x.ho,I x.li,I x.hi]] w fun e i => e = Z (I true) /\ Bl w i:=by
 obtain ⟨ln,ld,hn,hd,lo,ho,li,hi⟩:=x;obtain ⟨h1,a,f⟩:=h;dsimp only at h1 a f ⊢;subst h1;rcases f with ⟨d,c,b,j⟩ | ⟨d,c,b⟩
 ·subst d c b j;exact Zs4 ln ld lo a w
 ·subst d;by_cases e:ln = hn
  ·subst e;exact Zxj ln ld hd lo ho a c b (by rintro rfl;omega) w
  ·exact Zxi ln ld hn hd lo ho a c b e w
theorem Zs6 (l:List Iv) (hl:Zxb l) (v:Value) (w:World) (B:Nat) (M:B <= w.heap.size) (hr:Rep w B v (.s 8 (l.flatMap Iv.cells))) :
  Calls prog 220 #[v] w fun e C => e = Z (O V 0) /\ Bl w C:=by
 obtain ⟨A,c,rfl,hc,f⟩:=hr.ivs;clear hr;obtain ⟨z,j⟩:=hl;have L:=ae j;clear j;go_enter func220,ntmps220;go_wp2;go_loopw [3,4] (fun i _ wr => ∃ k:Nat,i = O V (k:Int) /\ k <= l.length /\ Bl w wr) (fun i _ _ => l.length - (intOf i).toNat)
 case atStart => exact ⟨0,rfl,bi _,ap _ _⟩
 case round =>
  obtain ⟨k,rfl,hk,d⟩:=hrel;by_cases h:k < l.length
  ·obtain rfl:k = 0:=by omega
   obtain ⟨b,o,rfl,Y,u,c1,c2,r,c4,c5,q,m⟩:=f 0 h;have K:=ae (L.out _ (aw h));simp only [io,Nat.add_zero] at u c1 c2 r c4 c5 q m;have a:b < w.heap.size:=by omega
   have E:=(d.cell (p:=⟨b,o,none⟩) a).trans u;have d1:=(d.cell (p:=⟨b,o + 1,none⟩) a).trans c1;have d2:=(d.cell (p:=⟨b,o + 2,none⟩) a).trans c2;have X:=(d.cell (p:=⟨b,o + 3,none⟩) a).trans r;have T:=(d.cell (p:=⟨b,o + 4,none⟩) a).trans c4;have H:=(d.cell (p:=⟨b,o + 5,none⟩) a).trans c5;have S:=(d.cell (p:=⟨b,o + 6,none⟩) a).trans q;have N:=(d.cell (p:=⟨b,o + 7,none⟩) a).trans m;clear u c1 c2 r c4 c5 q m f;generalize l[0] = x at *;go_upto_region 5 with (go_at_call 231;refine (Zs5 x K.out _).mono ?_;rintro e w1 ⟨rfl,t⟩)
   have Q:=Zaa d t d.size;clear E d1 d2 X T H S N;go_quiet (fail);go_wp2;go_roundw
   case rel => exact ⟨1,by go_num,by omega,Zag Q _⟩
   case measure => simp [intOf];omega
  ·obtain rfl:k = l.length:=by omega
   have P:decide ((32:Int) < (l.length:Int)) = false:=by simp;omega
   go_wp2_with fail;go_ret;exact ⟨rfl,d⟩
theorem Zlr:∀ (n:Nat) (w:World) (B:Nat) (x:Zan w B),B <= w.heap.size -> x.t.size <= n -> n <= 1000000 ->
  Calls prog 172 #[R #[x.a,x.b,x.c,x.d]] w fun e w' => e = Z (O V (x.t.deep:Int)) /\ Bl w w':=by
 intro n;induction n with
 | zero => intro w B x _ h;have:=x.t.size_pos;omega
 | succ n ih =>
  intro w B x z hx hn;obtain ⟨A,c,hd,hc,f⟩:=x.parts.2.2.2.formulas;have E:=x.t.deep_eq;have HK:=ae (fun (k:F) (h:k ∈ x.t.kids) => F.kid_size h);have M:x.t.kids.length <= 1000000:=by
   have h1:=kids_le x.t.kids;have r:=x.t.nodes_length;rw [x.t.nodes_eq,au,Zal] at r;omega
  have HD:=ae E;have H:Zbr x.t.kids <= 1000000:=by
   have r:=x.t.nodes_length;rw [x.t.nodes_eq,au,Zal] at r;omega
  have H:=ae H;rw [hd];generalize x.t.deep = dp at *;generalize x.t.kids = kids at *;generalize x.a = xa;generalize x.b = xb;generalize x.c = xc;clear E hd;go_enter func172,ntmps172;go_wp2;go_loopw [3,4] (fun n i wr => ∃ k:Nat,n = O V (Zdd (kids.take k):Int) /\ i = O V (k:Int) /\ k <= kids.length /\ Bl w wr /\ Blk wr w.heap.size 46 #[xa,xb,xc,G A kids.length c]) (fun _ i _ => kids.length - (intOf i).toNat)
  case atStart => exact ⟨0,rfl,rfl,bi _,Zab _ _,Blk.new w 46 #[xa,xb,xc,G A kids.length c]⟩
  case round =>
   obtain ⟨k,rfl,rfl,hk,s,X⟩:=hrel;have aa:=X.c4;by_cases v:k < kids.length
   ·obtain ⟨b,o,y,rfl,hb,hy,T,c1,c2,P⟩:=f k v;have j:b < w.heap.size:=by omega
    have d0:=(s.cell (p:=⟨b,o + k * 4,none⟩) j).trans T;have d1:=(s.cell (p:=⟨b,o + k * 4 + 1,none⟩) j).trans c1;have d2:=(s.cell (p:=⟨b,o + k * 4 + 2,none⟩) j).trans c2;have d3:=(s.cell (p:=⟨b,o + k * 4 + 3,none⟩) j).trans P;have q:kids[k] ∈ kids:=aw _;have K:=HK.out _ q;have Y:=ae (Zjm kids k v);rw [<- hy] at K Y;have m:=s;have N:=ae (ih _ B ⟨y.a,y.b,y.c,y.d,y.t,y.h.keep (fun p hp => m.cell (ah hp z)) (ag _)⟩ (aj z m.size) (by dsimp only;omega) (by omega));have g1:(y.t.deep:Int) <= 1000000:=by have:=F.deep_le y.t;omega
    clear T c1 c2 P f ih q hy;dsimp only at N;obtain ⟨ya,yb,yc,yd,S,yh⟩:=y;obtain ⟨A1,n1,q1,A2,n2,q2,e1,e2,e3,e4⟩:=Zaq yh;dsimp only at *;subst e1 e2 e3 e4;clear yh;go_wp2_with (go_at_call 172;refine N.out.mono ?_;rintro e w2 ⟨rfl,C⟩);have HM:=m.trans (C.mono m.size);have L:=X.keep C;go_roundw
    case rel =>
     refine ⟨k + 1,?_,by go_num,by omega,HM,L⟩;rw [Y.out];congr 1;rw [Nat.max_def];by_cases h1:Zdd (kids.take k) < S.deep
     ·rw [if_pos h1,if_pos (by omega)]
     ·rw [if_neg h1];by_cases r:Zdd (kids.take k) <= S.deep
      ·rw [if_pos r];omega
      ·rw [if_neg r]
    case measure => simp [intOf];omega
   ·obtain rfl:k = kids.length:=by omega
    have g1:((Zdd kids:Nat):Int) <= 1000000:=by
     have h1:=Zk2 kids;have r:=H.out;omega
    have u:((Zdd kids:Nat):Int) + 1 = (dp:Int):=by
     rw [HD.out];rfl
    have u:=ae u;go_wp2_with fail;go_ret;exact ⟨rfl,s⟩
theorem F.size_eq (t:F):t.size = 1 + Zbr t.kids:=by
 cases t;rw [F.size];rfl
theorem Zls:∀ (n:Nat) (w:World) (B:Nat) (x:Zan w B),B <= w.heap.size -> x.t.size <= n -> n <= 1000000 ->
  Calls prog 171 #[R #[x.a,x.b,x.c,x.d]] w fun e w' => e = Z (O V (x.t.size:Int)) /\ Bl w w':=by
 intro n;induction n with
 | zero => intro w B x _ h;have:=x.t.size_pos;omega
 | succ n ih =>
  intro w B x u hx hn;obtain ⟨A,c,hd,hc,f⟩:=x.parts.2.2.2.formulas;have z:=F.size_eq x.t;have HK:=ae (fun (k:F) (h:k ∈ x.t.kids) => F.kid_size h);have M:x.t.kids.length <= 1000000:=by
   have h1:=kids_le x.t.kids;have E:=x.t.nodes_length;rw [x.t.nodes_eq,au,Zal] at E;omega
  have HD:=ae z;have C:Zbr x.t.kids <= 1000000:=by
   have E:=x.t.nodes_length;rw [x.t.nodes_eq,au,Zal] at E;omega
  have C:=ae C;rw [hd];generalize x.t.size = dp at *;generalize x.t.kids = kids at *;generalize x.a = xa;generalize x.b = xb;generalize x.c = xc;clear z hd;go_enter func171,ntmps171;go_wp2;go_loopw [3,4] (fun n i wr => ∃ k:Nat,n = O V ((1 + Zbr (kids.take k):Nat):Int) /\ i = O V (k:Int) /\ k <= kids.length /\ Bl w wr /\ Blk wr w.heap.size 46 #[xa,xb,xc,G A kids.length c]) (fun _ i _ => kids.length - (intOf i).toNat)
  case atStart => exact ⟨0,rfl,rfl,bi _,Zab _ _,Blk.new w 46 #[xa,xb,xc,G A kids.length c]⟩
  case round =>
   obtain ⟨k,rfl,rfl,hk,r,T⟩:=hrel;have aa:=T.c4;by_cases s:k < kids.length
   ·obtain ⟨b,o,y,rfl,hb,hy,S,c1,c2,P⟩:=f k s;have j:b < w.heap.size:=by omega
    have d0:=(r.cell (p:=⟨b,o + k * 4,none⟩) j).trans S;have d1:=(r.cell (p:=⟨b,o + k * 4 + 1,none⟩) j).trans c1;have d2:=(r.cell (p:=⟨b,o + k * 4 + 2,none⟩) j).trans c2;have d3:=(r.cell (p:=⟨b,o + k * 4 + 3,none⟩) j).trans P;have q:kids[k] ∈ kids:=aw _;have K:=HK.out _ q;have X:=ae (Zjj kids k s);rw [<- hy] at K X;have m:=r;have N:=ae (ih _ B ⟨y.a,y.b,y.c,y.d,y.t,y.h.keep (fun p hp => m.cell (ah hp u)) (ag _)⟩ (aj u m.size) (by dsimp only;omega) (by omega));have g1:(y.t.size:Int) <= 1000000:=by omega
    have g2:(Zbr (kids.take k):Int) <= 1000000:=by have:=Zev kids k;have:=C.out;omega
    clear S c1 c2 P f ih q hy;dsimp only at N;obtain ⟨ya,yb,yc,yd,yt,Y⟩:=y;obtain ⟨A1,n1,q1,A2,n2,q2,e1,e2,e3,e4⟩:=Zaq Y;dsimp only at *;subst e1 e2 e3 e4;clear Y;go_wp2_with (go_at_call 171;refine N.out.mono ?_;rintro e w2 ⟨rfl,v⟩);have HM:=m.trans (v.mono m.size);have L:=T.keep v;go_roundw
    case rel =>
     refine ⟨k + 1,?_,by go_num,by omega,HM,L⟩;rw [X.out,<- i7];rfl
    case measure => simp [intOf];omega
   ·obtain rfl:k = kids.length:=by omega
    have g1:((Zbr kids:Nat):Int) <= 1000000:=by
     have E:=C.out;omega
    have H:=HD.out;go_wp2_with fail;go_ret;exact ⟨by rw [H,df];rfl,r⟩
section
variable (A1 A2:Option Addr) (c1 c2:Nat) (w:World)
theorem Zxk:Calls prog 201 #[R #[O V 0,O V 0,G A1 0 c1,G A2 0 c2]] w fun e a => e = Z (I true) /\ Bl w a:=by
 go_enter func201,ntmps201;go_wp2;go_ret;exact ⟨rfl,Zab _ _⟩
theorem Zxl (n:Int) (b:0 <= n) (h1:n < 64):Calls prog 201 #[R #[O V 1,O V n,G A1 0 c1,G A2 0 c2]] w fun e a => e = Z (I true) /\ Bl w a:=by
 go_enter func201,ntmps201;go_wp2;go_ret;exact ⟨rfl,Zab _ _⟩
theorem Zxm (n:Int) (h:0 <= n) (h1:n < 32) (m:Nat) (c:∀ W,Bl w W -> Calls prog 220 #[G A1 m c1] W fun e a => e = Z (O V 0) /\ Bl W a) :
  Calls prog 201 #[R #[O V 2,O V n,G A1 m c1,G A2 0 c2]] w fun e a => e = Z (I true) /\ Bl w a:=by
 have d:=ae c;clear c;go_enter func201,ntmps201;go_wp2_with (go_at_call 220;refine (d.out _ (Zab _ _)).mono ?_;rintro e f ⟨rfl,b⟩);go_ret;exact ⟨rfl,Zaa (Zab _ _) b (by simp)⟩
theorem Zxn:Calls prog 201 #[R #[O V 3,O V 0,G A1 0 c1,G A2 1 c2]] w fun e a => e = Z (I true) /\ Bl w a:=by
 go_enter func201,ntmps201;go_wp2;go_ret;exact ⟨rfl,Zab _ _⟩
theorem Zxo:Calls prog 201 #[R #[O V 6,O V 0,G A1 0 c1,G A2 1 c2]] w fun e a => e = Z (I true) /\ Bl w a:=by
 go_enter func201,ntmps201;go_wp2;go_ret;exact ⟨rfl,Zab _ _⟩
theorem Zxp (m:Nat):Calls prog 201 #[R #[O V 4,O V 0,G A1 0 c1,G A2 m c2]] w fun e a => e = Z (I true) /\ Bl w a:=by
 go_enter func201,ntmps201;go_wp2;go_ret;exact ⟨rfl,Zab _ _⟩
theorem Zxq (m:Nat):Calls prog 201 #[R #[O V 5,O V 0,G A1 0 c1,G A2 m c2]] w fun e a => e = Z (I true) /\ Bl w a:=by
 go_enter func201,ntmps201;go_wp2;go_ret;exact ⟨rfl,Zab _ _⟩
end
theorem Zoq (w:World) (B:Nat) (k:B <= w.heap.size) (x:Zan w B) (h:Zeg x.t) :
  Calls prog 201 #[R #[x.a,x.b,x.c,x.d]] w fun e s => e = Z (I true) /\ Bl w s:=by
 obtain ⟨v,A,o,z⟩:=x.parts;obtain ⟨A1,c1,m,_,_⟩:=o.ivs;obtain ⟨A2,c2,u,_,_⟩:=z.formulas;rw [v,A,m,u];rcases h with ⟨h1,f,i,j⟩ | ⟨h1,f,i,j⟩ | ⟨h1,f,i,j⟩ | ⟨h1,f,i,j⟩ | ⟨h1,f,i⟩
 ·rw [h1,f,i,j];exact Zxk A1 A2 c1 c2 w
 ·rw [h1,i,j];exact Zxl A1 A2 c1 c2 w _ f.1 f.2
 ·rw [h1,j];refine Zxm A1 A2 c1 c2 w _ f.1 f.2 _ (fun W q => ?_);rw [<- m];exact Zs6 _ i _ W B (aj k q.size) (o.keep (fun p r => q.cell (ah r k)) (ag _))
 ·rw [f,i,j];rcases h1 with h1 | h1
  ·rw [h1];exact Zxn A1 A2 c1 c2 w
  ·rw [h1];exact Zxo A1 A2 c1 c2 w
 ·rw [f,i];rcases h1 with h1 | h1
  ·rw [h1];exact Zxp A1 A2 c1 c2 w _
  ·rw [h1];exact Zxq A1 A2 c1 c2 w _
theorem Zz2:∀ (n:Nat) (w:World) (B:Nat) (x:Zan w B),B <= w.heap.size -> x.t.size <= n -> OkN x.t ->
  Calls prog 173 #[R #[x.a,x.b,x.c,x.d]] w fun e w' => e = Z (I true) /\ Bl w w':=by
 intro n;induction n with
 | zero => intro w B x _ h;have:=x.t.size_pos;omega
 | succ n ih =>
  intro w B x m hx r;have ad:=r.1;have ab:x.t.kids.length <= 96:=by
   have h1:=kids_le x.t.kids;have h2:=x.t.nodes_length;rw [x.t.nodes_eq,au,Zal] at h2;omega
  have HK:=ae (fun (k:F) (h:k ∈ x.t.kids) => (⟨F.kid_size h,Zk3 x.t r k h⟩:k.size < x.t.size /\ OkN k));have HF:=ae (fun (W:World) (hk:∀ p:Addr,p.block < B -> W.cell? p = w.cell? p) (f:B <= W.heap.size) => Zoq W B f (x.up hk (ag _)) (r.2 _ (by rw [F.nodes_eq];exact da)));obtain ⟨N,S,r3,r4⟩:=x.parts;obtain ⟨A1,M,H,L,K⟩:=r3.ivs;obtain ⟨A,c,X,hc,j⟩:=r4.formulas;obtain ⟨xa,xb,xc,xd,z,xh⟩:=x;dsimp only [Zan.up] at *;subst N S H X;clear r3 r4 r L K xh;generalize z.kids = kids at *;generalize z.size = sz at *;generalize z.op = op at *;generalize z.n = nn at *;generalize z.ins.length = il at *;have B0:=Blk.new w 46 #[O V op,O V nn,G A1 il M,G A kids.length c];go_enter func173,ntmps173;go_wp2_with fail;refine (HF.out _ (fun p T => (Zab w _).cell (ah T m)) (aj m (by simp))).mono ?_;rintro e w1 ⟨rfl,u⟩;have B1:=B0.keep u;have Y:=Zaa (Zab _ _) u (by simp);clear B0 u;have af:=B1.c4;go_wp2_with fail;go_loopw [3] (fun i wr => ∃ k:Nat,i = O V (k:Int) /\ k <= kids.length /\ Bl w wr /\ Blk wr w.heap.size 46 #[O V op,O V nn,G A1 il M,G A kids.length c]) (fun i _ => kids.length - (intOf i).toNat)
  case atStart => exact ⟨0,rfl,bi _,Y,B1⟩
  case round =>
   obtain ⟨k,rfl,hk,f,bX⟩:=hrel;have aa:=bX.c4;by_cases E:k < kids.length
   ·obtain ⟨b,o,y,rfl,hb,hy,c0,c1,c2,c3⟩:=j k E;have q:b < w.heap.size:=by omega
    have d0:=(f.cell (p:=⟨b,o + k * 4,none⟩) q).trans c0;have d1:=(f.cell (p:=⟨b,o + k * 4 + 1,none⟩) q).trans c1;have d2:=(f.cell (p:=⟨b,o + k * 4 + 2,none⟩) q).trans c2;have d3:=(f.cell (p:=⟨b,o + k * 4 + 3,none⟩) q).trans c3;have s:kids[k] ∈ kids:=aw _;have v:=HK.out _ s;rw [<- hy] at v;have HI:=ae (ih _ B ⟨y.a,y.b,y.c,y.d,y.t,y.h.keep (fun p T => f.cell (ah T m)) (ag _)⟩ (aj m f.size) (by dsimp only;omega) v.2);clear c0 c1 c2 c3 j ih s hy v;dsimp only at HI;obtain ⟨ya,yb,yc,yd,yt,yh⟩:=y;obtain ⟨A1,n1,M,A2,n2,q2,N,S,H,X⟩:=Zaq yh;dsimp only at *;subst N S H X;clear yh;go_wp2_with fail;refine HI.out.mono ?_;rintro e w2 ⟨rfl,C⟩;have HM:=f.trans (C.mono f.size);have P:=bX.keep C;go_wp2_with fail;go_roundw
    case rel => exact ⟨k + 1,by go_num,by omega,HM,P⟩
    case measure => simp [intOf];omega
   ·obtain rfl:k = kids.length:=by omega
    go_wp2_with fail;go_ret;exact ⟨rfl,f⟩
theorem Zfa (w:World) (B:Nat) (f:B <= w.heap.size) (x:Zan w B) (h:OkF x.t) :
  Calls prog 131 #[R #[x.a,x.b,x.c,x.d]] w fun e P => e = Z (O V 0) /\ Bl w P:=by
 obtain ⟨hs,hd,o⟩:=h;have N:(x.t.size:Int) <= 96:=by omega
 have aa:(x.t.deep:Int) <= 8:=by omega
 have X:=ae (fun (W:World) (i:Bl w W) => Zls x.t.size W B (x.up (B':=B) (fun p m => i.cell (ah m f)) (ag _)) (aj f i.size) (ag _) (by omega));have HD:=ae (fun (W:World) (i:Bl w W) => Zlr x.t.size W B (x.up (B':=B) (fun p m => i.cell (ah m f)) (ag _)) (aj f i.size) (ag _) (by omega));have S:=ae (fun (W:World) (i:Bl w W) => Zz2 x.t.size W B (x.up (B':=B) (fun p m => i.cell (ah m f)) (ag _)) (aj f i.size) (ag _) ⟨hs,o⟩);obtain ⟨xa,xb,xc,xd,s,E⟩:=x;obtain ⟨A1,H,C,A2,M,K,Y,e2,e3,e4⟩:=Zaq E;dsimp only [Zan.up] at *;subst Y e2 e3 e4;clear hs hd o E;generalize s.size = sz at *;generalize s.deep = dp at *;have g1:decide ((96:Int) < (sz:Int)) = false:=by simp;omega
 have g2:decide ((8:Int) < (dp:Int)) = false:=by simp;omega
 generalize s.op = op at *;generalize s.n = nn at *;have L:=Blk.new w 46 #[O V op,O V nn,G A1 H C,G A2 M K];have r:=Zab w (J #[O V op,O V nn,G A1 H C,G A2 M K] 46);go_enter func131,ntmps131;go_wp2_with fail;refine (X.out _ r).mono ?_;rintro e w1 ⟨rfl,j⟩;have u:=L.keep j;have q:=Zaa r j r.size;have z:=u.c4;clear L r j;go_wp2_with fail;refine (HD.out _ q).mono ?_;rintro e w2 ⟨rfl,k⟩;have B2:=u.keep k;have v:=Zaa q k q.size;have T:=B2.c4;clear u q k z;go_wp2_with fail;refine (S.out _ v).mono ?_;rintro e w3 ⟨rfl,A⟩;have P3:=Zaa v A v.size;go_wp2_with fail;go_ret;exact ⟨rfl,P3⟩
theorem Zor (b:Bool) (w:World) :
  Calls prog 204 #[I b] w fun e a => e = Z (O V (Zi6 b)) /\ w = a:=by
 cases b
 ·go_enter func204,ntmps204;go_wp2;go_ret;exact ⟨rfl,rfl⟩
 ·go_enter func204,ntmps204;go_wp2;go_ret;exact ⟨rfl,rfl⟩
theorem Zz3 (z:Iv) (h:Yc5 z.nums) (w:World) :
  Calls prog 176 #[R #[iI z.ln,iI z.ld,iI z.hn,iI z.hd,I z.lo,I z.ho,I z.li,I z.hi]] w fun e d => ∃ v,e = Z v /\ Zd2 d w.heap.size v (Zc0 z.nums) /\ Bl w d:=by
 have r:=ae h;clear h;have f:=Blk.new w 181 #[iI z.ln,iI z.ld,iI z.hn,iI z.hd,I z.lo,I z.ho,I z.li,I z.hi];have i:=Zab w (J #[iI z.ln,iI z.ld,iI z.hn,iI z.hd,I z.lo,I z.ho,I z.li,I z.hi] 181);go_enter func176,ntmps176;go_upto_region 1 with fail;generalize w.alloc _=o at *;refine wp_region_held_drew (S:=(fun d => Blk d w.heap.size 181 #[iI z.ln,iI z.ld,iI z.hn,iI z.hd,I z.lo,I z.ho,I z.li,I z.hi] /\ Bl w d)) (by kernel_rfl) ?_ (fun a => ?_)
 ·first | done | ((try dsimp only);exact ⟨f,i.drew⟩)
 clear f i;generalize o.drew = wb at *;refine tq 0 3 rfl ?_;refine tq 1 4 rfl ?_;refine th 2 5 rfl (fun _ b => b.1.c8) ?_;refine tq 3 6 rfl ?_;refine tq 4 7 rfl ?_;refine th 5 8 rfl (fun _ b => b.1.c8) ?_;refine tq 6 9 rfl ?_;refine tq 7 10 rfl ?_;refine th 8 11 rfl (fun _ b => b.1.c8) ?_;refine tq 9 12 rfl ?_;refine tq 10 13 rfl ?_;refine th 11 14 rfl (fun _ b => b.1.c8) ?_;refine tq 12 15 rfl ?_;refine th 13 16 rfl (fun _ b => b.1.c8) ?_;refine tq 15 18 rfl ?_;refine th 16 19 rfl (fun _ b => b.1.c8) ?_;refine tq 18 21 rfl ?_;refine th 19 22 rfl (fun _ b => b.1.c8) ?_;refine tq 21 24 rfl ?_;refine th 22 25 rfl (fun _ b => b.1.c8) ?_;refine rd 14 (some 17) rfl fun K c => ?_;go_simp;(refine (Zor z.lo _).mono ?_;rintro e d ⟨rfl,rfl⟩);refine c.out _ _ (a) fun a => ?_;clear c K;(try simp only [pS,pB,pZ,pC]);refine rd 17 (some 20) rfl fun K c => ?_;go_simp;(refine (Zor z.ho _).mono ?_;rintro e d ⟨rfl,rfl⟩);refine c.out _ _ (a) fun a => ?_;clear c K;(try simp only [pS,pB,pZ,pC]);refine rd 20 (some 23) rfl fun K c => ?_;go_simp;(refine (Zor z.li _).mono ?_;rintro e d ⟨rfl,rfl⟩);refine c.out _ _ (a) fun a => ?_;clear c K;(try simp only [pS,pB,pZ,pC]);refine rd 23 (some 26) rfl fun K c => ?_;go_simp;(refine (Zor z.hi _).mono ?_;rintro e d ⟨rfl,rfl⟩);refine c.out _ _ (a) fun a => ?_;clear c K;(try simp only [pS,pB,pZ,pC]);refine rd 24 (some 27) rfl fun K c => ?_;go_simp;skip;refine c.out _ _ (⟨a.1.alloc _,a.2.alloc a.2.size _⟩) fun a => ?_;clear c K;(try simp only [pS,pB,pZ,pC]);have p:=Blk.new wb 3 #[iI z.ln,iI z.ld,iI z.hn,iI z.hd,iI (Zi6 z.lo),iI (Zi6 z.ho),iI (Zi6 z.li),iI (Zi6 z.hi)];have q:Rep (wb.alloc (J #[iI z.ln,iI z.ld,iI z.hn,iI z.hd,iI (Zi6 z.lo),iI (Zi6 z.ho),iI (Zi6 z.li),iI (Zi6 z.hi)] 3)) (wb.alloc (J #[iI z.ln,iI z.ld,iI z.hn,iI z.hd,iI (Zi6 z.lo),iI (Zi6 z.ho),iI (Zi6 z.li),iI (Zi6 z.hi)] 3)).heap.size (G (some ⟨wb.heap.size,0,none⟩) 8 8) (.s 1 (Zdv (Zdj z.nums))) :=
  Rep.of_blk p rfl (Zax.of_plain _ _ _) (by simp)
 have k:=a.2;refine rd 25 (some 28) rfl fun K c => ?_;go_simp;(refine (Zli z.nums _ _ (by show 8 <= 1000000;omega) r.out q).mono ?_;rintro e u ⟨t,rfl,m,j⟩);refine c.out _ _ (⟨a.1.keep j,a.2.trans (j.mono a.2.size)⟩) fun a => ?_;clear c K;(try simp only [pS,pB,pZ,pC]);refine tq 26 2 rfl ?_;refine dn ?_;go_wp2_with fail;go_ret;exact ⟨_,rfl,m.mono k.size,a.2⟩
end Go.Proofs.YtglkadmfjaecmaaGreatDoor
