import Derived.Test.YtglkadmfjaecmaaGreatDoorD01
set_option maxRecDepth 100000
set_option maxHeartbeats 16000000
namespace Go.Proofs.YtglkadmfjaecmaaGreatDoor
open Go.RowKit Go.Shelf Tryz
open Go.Value renaming int->I, slice->G, pointer->U
open Go.Ending renaming returned->Z
open Go.Obj renaming cells->O
open Go.IntKind renaming i64->V
attribute [local go_sem] Oper.semAt_some
variable {B B' g g' n' sz:Nat} {H bs:List Nat} {K:Act -> World -> Prop} {Q:Exit -> Act -> World -> Prop} {W W' w w':World} {cs:Array Value} {ds:List D} {i j u v':Value} {news xs:List Value} {o:Oper} {ts:List TypeId}
def Blk (W:World) (g:Nat) (t:TypeId) (cs:Array Value):Prop:=W.heap[g]? = some (O cs t (0,0))
theorem Blk.lt {t:TypeId} (h:Blk W g t cs):g < W.heap.size:=(Array.getElem?_eq_some_iff.1 h).1
theorem Blk.cell {t:TypeId} (h:Blk W g t cs) (i:Nat):W.cell? ⟨g,i,none⟩ = cs[i]?:=cell_of_row W g i cs t (0,0) h
theorem Blk.cellAt {t:TypeId} (h:Blk W g t cs) (i:Nat) (v:Value) (a:cs[i]? = some v):W.cell? ⟨g,i,none⟩ = some v:=(h.cell i).trans a
theorem Blk.frozen {t:TypeId} (h:Blk W g t cs) (i:Nat):W.frozen? ⟨g,i,none⟩ = false:=by
 unfold Blk at h;simp [World.frozen?,h]
theorem Blk.new (W:World) (t:TypeId) (cs:Array Value):Blk (W.alloc (O cs t)) W.heap.size t cs:=heap_alloc_new W _
theorem Blk.drew {t:TypeId} (h:Blk W g t cs):Blk W.drew g t cs:=h
theorem Blk.drewN {t:TypeId} (h:Blk W g t cs) (n:Nat):Blk (W.drewN n) g t cs:=h
theorem Blk.alloc {t:TypeId} (h:Blk W g t cs) (o:Obj):Blk (W.alloc o) g t cs:=(Below.heap_alloc W o g h.lt).trans h
theorem Blk.set {t:TypeId} (h:Blk W g t cs) (i:Nat) (u:Value):Blk (W.setCell ⟨g,i,none⟩ u) g t (cs.setIfInBounds i u):=by
 unfold Blk at h ⊢;simp [World.setCell,Array.getElem?_modify,h]
theorem Blk.far {t:TypeId} (h:Blk W g t cs) {p:Addr} (a:g ≠ p.block) (u:Value):Blk (W.setCell p u) g t cs:=(je W p u g a).trans h
theorem Blk.under {t:TypeId} (h:Blk W g t cs) (b:Below B W W') (a:g < B):Blk W' g t cs:=(b.block g a).trans h
theorem Blk.keep {t:TypeId} (h:Blk W g t cs) (a:Bl W W'):Blk W' g t cs:=h.under a h.lt
theorem Blk.grown {t:TypeId} {row:Option Nat} (h:Blk W g t cs) (a:W.grownBy W' row) (b:some g ≠ row):Blk W' g t cs:=(a.block g h.lt b).trans h
theorem Blk.ne {t d:TypeId} {b:Array Value} (h:Blk W g t cs) (a:Blk W g' d b) (c:t ≠ d):g ≠ g':=by
 rintro rfl;unfold Blk at h a;rw [h] at a;injection a with a;injection a with _ ht;exact c ht
theorem Blk.c1 {t:TypeId} {a:Value} (h:Blk W g t #[a]):W.cell? ⟨g,0,none⟩ = some a /\ W.frozen? ⟨g,0,none⟩ = false:=⟨h.cell 0,h.frozen 0⟩
theorem Blk.c2 {t:TypeId} {a b:Value} (h:Blk W g t #[a,b]):W.cell? ⟨g,0,none⟩ = some a /\ W.cell? ⟨g,1,none⟩ = some b:=⟨h.cell 0,h.cell 1⟩
theorem Blk.f2 {t:TypeId} {a b:Value} (h:Blk W g t #[a,b]):W.frozen? ⟨g,0,none⟩ = false /\ W.frozen? ⟨g,1,none⟩ = false:=⟨h.frozen 0,h.frozen 1⟩
theorem Blk.c4 {t:TypeId} {a b c d:Value} (h:Blk W g t #[a,b,c,d]):W.cell? ⟨g,0,none⟩ = some a /\ W.cell? ⟨g,1,none⟩ = some b /\ W.cell? ⟨g,2,none⟩ = some c /\ W.cell? ⟨g,3,none⟩ = some d:=⟨h.cell 0,h.cell 1,h.cell 2,h.cell 3⟩
theorem Blk.f4 {t:TypeId} {a b c d:Value} (h:Blk W g t #[a,b,c,d]):W.frozen? ⟨g,0,none⟩ = false /\ W.frozen? ⟨g,1,none⟩ = false /\ W.frozen? ⟨g,2,none⟩ = false /\ W.frozen? ⟨g,3,none⟩ = false:=⟨h.frozen 0,h.frozen 1,h.frozen 2,h.frozen 3⟩
theorem Blk.c8 {t:TypeId} {a b c d e f:Value} (h:Blk W g t #[a,b,c,d,e,f,i,j]):W.cell? ⟨g,0,none⟩ = some a /\ W.cell? ⟨g,1,none⟩ = some b /\ W.cell? ⟨g,2,none⟩ = some c /\ W.cell? ⟨g,3,none⟩ = some d /\
  W.cell? ⟨g,4,none⟩ = some e /\ W.cell? ⟨g,5,none⟩ = some f /\ W.cell? ⟨g,6,none⟩ = some i /\ W.cell? ⟨g,7,none⟩ = some j:=⟨h.cell 0,h.cell 1,h.cell 2,h.cell 3,h.cell 4,h.cell 5,h.cell 6,h.cell 7⟩
theorem Blk.f8 {t:TypeId} {a b c d e f:Value} (h:Blk W g t #[a,b,c,d,e,f,i,j]):W.frozen? ⟨g,0,none⟩ = false /\ W.frozen? ⟨g,1,none⟩ = false /\ W.frozen? ⟨g,2,none⟩ = false /\ W.frozen? ⟨g,3,none⟩ = false /\
  W.frozen? ⟨g,4,none⟩ = false /\ W.frozen? ⟨g,5,none⟩ = false /\ W.frozen? ⟨g,6,none⟩ = false /\ W.frozen? ⟨g,7,none⟩ = false:=⟨h.frozen 0,h.frozen 1,h.frozen 2,h.frozen 3,h.frozen 4,h.frozen 5,h.frozen 6,h.frozen 7⟩
theorem Blk.set1 {t:TypeId} {a:Value} (h:Blk W g t #[a]) (b:Value):Blk (W.setCell ⟨g,0,none⟩ b) g t #[b]:=by
 have:=h.set 0 b;simpa using this
def st4 (W:World) (g:Nat) (a b c d:Value):World:=(((W.setCell ⟨g,0,none⟩ a).setCell ⟨g,1,none⟩ b).setCell ⟨g,2,none⟩ c).setCell ⟨g,3,none⟩ d
theorem Blk.set4 {t:TypeId} {a b c d:Value} (h:Blk W g t #[a,b,c,d]) (f b' k e:Value):Blk (st4 W g f b' k e) g t #[f,b',k,e]:=by
 have:=(((h.set 0 f).set 1 b').set 2 k).set 3 e;simp only [pB,pZ,pC] at this;exact this
theorem Blk.far4 {t:TypeId} (h:Blk W g t cs) (e:g ≠ g') (a b c d:Value):Blk (st4 W g' a b c d) g t cs :=
 (((h.far (p:=⟨g',0,none⟩) e a).far (p:=⟨g',1,none⟩) e b).far (p:=⟨g',2,none⟩) e c).far (p:=⟨g',3,none⟩) e d
theorem Zbk (h:Below B w W) (e:B <= g) (a b c d:Value):Below B w (st4 W g a b c d) :=
 (((h.setCell (p:=⟨g,0,none⟩) e a).setCell (p:=⟨g,1,none⟩) e b).setCell (p:=⟨g,2,none⟩) e c).setCell (p:=⟨g,3,none⟩) e d
theorem Rep.of_blk {n:Nat} {t:TypeId} (h:Blk W g t cs) (hl:cs.size = n * sz) (hr:Zax W B cs.toList ds) (a:g < B):Rep W B (G (some ⟨g,0,none⟩) n n) (.s sz ds):=by
 refine Rep.mk (by rw [<- hr.1,br,hl]) (ag _) a hr (fun j u b => ?_);rw [cz,h.cell j,<- b,dj]
def Za3 (base:Nat) (w w':World):Prop:=Below base w w' /\ ∀ (i:Nat) (o:Obj),w.heap[i]? = some o -> (∀ cs fr,o ≠ O cs 164 fr) -> (∀ cs fr,o ≠ O cs 5 fr) -> w'.heap[i]? = some o
theorem Za3.refl (base:Nat) (w:World):Za3 base w w:=⟨ap _ _,fun _ _ h _ _ => h⟩
theorem Za3.trans {base:Nat} {a b c:World} (h:Za3 base a b) (k:Za3 base b c):Za3 base a c:=⟨h.1.trans k.1,fun _ _ hi h1 d => k.2 _ _ (h.2 _ _ hi h1 d) h1 d⟩
theorem Za3.blk {base:Nat} {t:TypeId} (h:Za3 base w w') (a:Blk w g t cs) (h1:t ≠ 164) (b:t ≠ 5):Blk w' g t cs :=
 h.2 g _ a (fun _ _ e => by injection e with _ e;exact h1 e) (fun _ _ e => by injection e with _ e;exact b e)
theorem Za3.other {base i:Nat} {o:Obj} (h:Za3 base w w') (ho:w.heap[i]? = some o) (hc:o.isCells = false):w'.heap[i]? = some o :=
 h.2 i o ho (fun _ _ e => by subst e;cases hc) (fun _ _ e => by subst e;cases hc)
theorem Za3.others {base:Nat} (h:Za3 base w w'):KeepsOthers w w':=⟨h.1.size,fun _ _ hi ho => h.other hi ho⟩
theorem Za3.below {base:Nat} (h:Below B w w') (a:w.heap.size <= B) (b:base <= B):Za3 base w w' :=
 ⟨h.mono b,fun i _ hi _ _ => (h.block i (ah (Array.getElem?_eq_some_iff.1 hi).1 a)).trans hi⟩
theorem Za3.drew {base:Nat} (h:Za3 base w w'):Za3 base w w'.drew:=⟨h.1.drew,h.2⟩
def Ze0 (w:World) (base g:Nat) (bs:List Nat):Prop:=base <= g /\ ∃ v n,Blk w g 164 #[v] /\ w.ownsRow base 5 1 v n (bys bs)
theorem Ze0.grown {base:Nat} (h:Ze0 w base g bs) (a:Bl w w'):Ze0 w' base g bs:=by
 obtain ⟨b,v,n,h1,d⟩:=h;refine ⟨b,v,n,h1.keep a,?_⟩;have b:w.grownBy w' none:=⟨a.os,a.tape,a.output,a.size,fun i hi _ => a.block i hi⟩
 exact d.kept b (by
  rcases d.2 with ⟨e,_⟩ | ⟨k,c,f,e,_⟩
  ·subst e;exact .inl rfl
  ·subst e;exact .inr (by simp [Value.ownBlock]))
theorem Ze0.drew {base:Nat} (h:Ze0 w base g bs):Ze0 w.drew base g bs:=h
theorem Ze0.lt {base:Nat} (h:Ze0 w base g bs):g < w.heap.size:=by
 obtain ⟨_,_,_,h1,_⟩:=h;exact h1.lt
theorem Ze0.alloc {base:Nat} (h:Ze0 w base g bs) (o:Obj):Ze0 (w.alloc o) base g bs:=h.grown (Zab w o)
theorem Za3.alloc (base:Nat) (w:World) (a:base <= w.heap.size) (o:Obj):Za3 base w (w.alloc o):=Za3.below (Zab w o) (ag _) a
theorem Zol {d:World} {base n m:Nat} {v:Value} {z:List Value} (q:base <= g) (y:Blk W g 164 #[v]) (f:W.ownsRow base 5 1 v n xs)
  (b:d.ownsRow base 5 1 v' m z) (a:W.grownBy d v.ownBlock) :
  Blk d g 164 #[v] /\ Blk (d.setCell ⟨g,0,none⟩ v') g 164 #[v'] /\ (d.setCell ⟨g,0,none⟩ v').ownsRow base 5 1 v' m z /\ Za3 base W (d.setCell ⟨g,0,none⟩ v'):=by
 have r:∀ i o,W.heap[i]? = some o -> (∀ cs C,o ≠ O cs 5 C) -> some i ≠ v.ownBlock:=fun i o hi ho e => by
  rcases f.2 with ⟨rfl,_⟩ | ⟨k,cap,s,rfl,_,l,_⟩
  ·simp [Value.ownBlock] at e
  ·obtain rfl:i = k:=by simpa [Value.ownBlock] using e
   rw [l] at hi;cases hi;exact ho _ _ rfl
 have c:Blk d g 164 #[v]:=y.grown a (r g _ y (fun _ _ e => by injection e with _ e;cases e));have x:base <= W.heap.size:=aj q (Nat.le_of_lt y.lt);refine ⟨c,c.set 0 v',?_,?_,fun i o hi h1 A => ?_⟩
 ·refine b.kept (grownBy_setCell' d g v') ?_;rcases b.2 with ⟨rfl,_⟩ | ⟨k,cap,s,rfl,_,l,_⟩
  ·exact .inl rfl
  ·refine .inr fun e => ?_;obtain rfl:k = g:=by simpa [Value.ownBlock] using e
   exact absurd rfl (Blk.ne (t:=5) l c (by decide))
 ·exact ((ap base W).grown a x (fun k e => (f.lt k e).1)).setCell (p:=⟨g,0,none⟩) q v'
 ·have h:=(a.block i (Array.getElem?_eq_some_iff.1 hi).1 (r i o hi A)).trans hi;refine (je d ⟨g,0,none⟩ v' i (fun e => ?_)).trans h;dsimp only at e;subst e;rw [c] at h;cases h;exact h1 _ _ rfl
theorem Yia {m:Int} (d:0 <= m):bits .or .u8 (m % 256) 128 = 128 + m % 128:=by
 have key:∀ a:Nat,a < 256 -> a ||| 128 = 128 + a % 128:=by decide +kernel
 obtain ⟨a,rfl⟩:∃ a:Nat,m = (a:Int):=⟨m.toNat,by omega⟩;have b:a % 256 < 256:=ja _ (by decide);have e:((a:Int) % 256) = ((a % 256:Nat):Int):=by omega
 have k:=key (a % 256) b;rw [e];have h1:(BitVec.ofInt 8 ((a % 256:Nat):Int)).toNat = a % 256:=by
  rw [BitVec.ofInt_natCast,BitVec.toNat_ofNat];exact Nat.mod_eq_of_lt (by omega)
 have c:(BitVec.ofInt 8 (128:Int)).toNat = 128:=by decide
 show IntKind.u8.wrap ((BitVec.ofInt 8 ((a % 256:Nat):Int) ||| BitVec.ofInt 8 128).toNat:Int) = _;rw [BitVec.toNat_or,h1,c,k];have:IntKind.u8.wrap ((128 + a % 256 % 128:Nat):Int) = ((128 + a % 256 % 128:Nat):Int):=by
  rw [IntKind.wrap_u8];omega
 rw [this];omega
theorem Zlh (g base:Nat) (bs:List Nat) (n:Int) (w:World) (A:0 <= n) (hn:n < 18446744073709551616) (S:Ze0 w base g bs) (hl:bs.length <= 1000000000) :
  Calls prog 161 #[U (some ⟨g,0,none⟩),I .u64 n] w fun e w' => (∃ v,e = Z v) /\ Ze0 w' base g (bs ++ uvL n.toNat) /\ Za3 base w w':=by
 obtain ⟨i0,hi,y,r,x⟩:=info_parts info5;go_enter func161,ntmps161;go_wp2;go_loopw [1] (fun t wr => ∃ (m:Int) (b:List Nat),0 <= m /\ m < 18446744073709551616 /\ t = I .u64 m /\ Ze0 wr base g (bs ++ b) /\ Za3 base w wr /\ uvL n.toNat = b ++ uvL m.toNat) (fun t _ => (intOf t).toNat)
 case atStart => exact ⟨n,[],A,hn,rfl,by rw [bv];exact S,Za3.refl _ _,rfl⟩
 case round =>
  obtain ⟨m,b,L,aa,rfl,⟨f,v,q,C,c⟩,R,l⟩:=hrel;have T:=ae l;have HL:b.length <= 9:=by
   have:=Za9 (n:=n.toNat) (by omega);rw [l,ai] at this;have:=Zzl m.toNat;omega
  have ab:q + 1 <= 1000000010:=by
   have:=c.1;rw [Za0,ai] at this;omega
  have af:=C.lt;clear l hn A hl S;have hc:=C.c1;have ad:=Yia L;have p:base <= wr.heap.size:=by omega
  have P:=ae p;by_cases h:128 <= m
  ·have J:base <= (wr.alloc (O #[I .u8 (128 + m % 128)] 5)).heap.size:=by simp;omega
   clear p;go_wp2_with (at_builtin;refine wpList_append_own_at _ rfl _ _ 96 rfl base 5 i0 (I .u8 0) 1 1 underlying96 hi y r x rfl (by decide) v _ _ rfl (c.alloc _) ⟨wr.heap.size,0,none⟩ 1 1 [I .u8 (128 + m % 128)] rfl rfl (cell_one_new _ _ _) (Zje _) (by unfold maxLen;omega) (by omega) J ?_;intro X w1 a d _ _;obtain ⟨g1,s,rfl⟩:=ownsRow_succ a;obtain ⟨k1,k2,z,N⟩:=Zol f (C.alloc _) (c.alloc _) a d;have M:=k1.c1;clear hc a d k1);go_roundw
   case rel =>
    have l:uvL n.toNat = (b ++ [(128 + m % 128).toNat]) ++ uvL (m / 128).toNat:=by
     have h2:=Znj (n:=m.toNat) (by omega);have Y:(128 + m % 128).toNat = 128 + m.toNat % 128:=by omega
     have e2:(m / 128).toNat = m.toNat / 128:=by omega
     rw [T.out,h2,Y,e2,ay];rfl
    have E:bys (bs ++ b) ++ [Value.int .u8 (128 + m % 128)] = bys (bs ++ (b ++ [(128 + m % 128).toNat])):=by rw [<- ay,Zgs (bs ++ b),Zhc (k:=(128 + m % 128).toNat) (by omega)]
    rw [E] at z;exact ⟨m / 128,b ++ [(128 + m % 128).toNat],by omega,by omega,rfl,⟨f,_,_,k2,z⟩,R.trans ((Za3.alloc base wr P.out _).trans N),l⟩
   case measure => simp [intOf];omega
  ·have J:base <= (wr.alloc (O #[I .u8 m] 5)).heap.size:=by simp;omega
   clear p;go_wp2_with (at_builtin;refine wpList_append_own_at _ rfl _ _ 96 rfl base 5 i0 (I .u8 0) 1 1 underlying96 hi y r x rfl (by decide) v _ _ rfl (c.alloc _) ⟨wr.heap.size,0,none⟩ 1 1 [I .u8 (m)] rfl rfl (cell_one_new _ _ _) (Zje _) (by unfold maxLen;omega) (by omega) J ?_;intro X w1 a d _ _;obtain ⟨g1,s,rfl⟩:=ownsRow_succ a;obtain ⟨k1,k2,z,N⟩:=Zol f (C.alloc _) (c.alloc _) a d;have M:=k1.c1;clear hc a d k1);go_end0;have l:uvL n.toNat = b ++ [m.toNat]:=by rw [<- Zf5 (n:=m.toNat) (by omega)];exact T.out
   have E:bys (bs ++ b) ++ [Value.int .u8 m] = bys (bs ++ uvL n.toNat):=by rw [l,<- ay,Zgs (bs ++ b),Zhc (k:=m.toNat) (by omega)]
   rw [E] at z;exact ⟨⟨_,rfl⟩,⟨f,_,_,k2,z⟩,R.trans ((Za3.alloc base wr P.out _).trans N)⟩
def Zbl (n:Int):List Nat:=uvL (zz n)
def Zef (bs:List Nat):List Nat:=uvL bs.length ++ bs
def Zc0 (l:List Int):List Nat:=uvL l.length ++ l.flatMap Zbl
theorem Yc4 {n:Int} (a:-9223372036854775808 <= n) (h1:n <= 9223372036854775807):(zz n:Int) < 18446744073709551616:=by
 unfold zz;by_cases h:n < 0
 ·rw [if_pos h];omega
 ·rw [if_neg h];omega
theorem Za2 {n:Int} (a:-9223372036854775808 <= n) (h1:n <= 9223372036854775807):(Zbl n).length <= 10:=by
 have:=Yc4 a h1;exact Za9 (by omega)
theorem Zdy (g base:Nat) (bs:List Nat) (n:Int) (w:World) (b:-9223372036854775808 <= n) (h1:n <= 9223372036854775807) (k:Ze0 w base g bs) (hl:bs.length <= 1000000000) :
  Calls prog 120 #[U (some ⟨g,0,none⟩),I V n] w fun e w' => (∃ v,e = Z v) /\ Ze0 w' base g (bs ++ Zbl n) /\ Za3 base w w':=by
 have d:=ae (fun W => Zzk n W b h1);have f:=ae (Yc4 b h1);have h:=ae (Int.toNat_natCast (zz n));clear b h1;go_enter func120,ntmps120;go_wp2_with (first
  | (go_at_call 162;refine (d.out _).mono ?_;rintro e w' ⟨rfl,rfl⟩)
  | (go_at_call 161;refine (Zlh g base bs _ _ (Int.natCast_nonneg _) f.out k hl).mono ?_;rintro e w' ⟨⟨v,rfl⟩,a,c⟩))
 go_end0;rw [h.out] at a;exact ⟨⟨_,rfl⟩,a,c⟩
theorem Zc1 {base:Nat} {e:TypeId} {size n:Nat} {v:Value} (h:w.ownsRow base e size v n xs):∃ A c,v = G A n c:=by
 rcases h.2 with ⟨rfl,rfl⟩ | ⟨g,cap,a,rfl,_⟩
 ·exact ⟨none,0,rfl⟩
 ·exact ⟨_,_,rfl⟩
theorem Ygj (cs:List Nat) (h:Zb6 cs):sb (strOfNums (cs.map fun (b:Nat) => (b:Int))) = cs:=by
 unfold sb;rw [strOfNums_data,iz,iz]
 conv => rhs;rw [<- List.map_id cs]
 refine List.map_congr_left fun x a => ?_;have:=h x a;simp only [Function.comp,Int.toNat_natCast,id];rw [UInt8.toNat_ofNat'];omega
theorem Zw7 (cs:List Nat) (m:Zb6 cs) (A:Option Addr) (c:Nat) (w:World) (B:Nat) (f:∀ a,A = some a -> ∃ b o,a = ⟨b,o,none⟩) (d:∀ (k:Nat) (u:Value),(bys cs)[k]? = some u -> ∃ b o,A = some ⟨b,o,none⟩ /\ b < B /\ w.cell? ⟨b,o + k,none⟩ = some u) :
  ∃ s,sb s = cs /\ (convert 96 9 (G A cs.length c)).run prog w = .ok (.string s) w:=by
 cases A with
 | none =>
  have p:cs = []:=by
   cases cs with
   | nil => rfl
   | cons x l =>
    obtain ⟨b,o,h,_⟩:=d 0 _ rfl;cases h
  subst p;exact ⟨_,rfl,run_convert_bytes_nil w 96 5 underlying96 underlying5 _ _ _ underlying9⟩
 | some a =>
  refine ⟨_,Ygj cs m,?_⟩;obtain ⟨b,o,e⟩:=f a rfl;subst e;refine run_convert_bytes_arg w 96 5 underlying96 underlying5 b o cs.length c (cs.map fun (b:Nat) => (b:Int)) (ba ..) (fun i hi => ?_) _ underlying9;obtain ⟨b',o',h,_,hc⟩:=d i _ (Zjf cs i hi);injection h with h;injection h with h1 h2;subst h1 h2;rw [hc,List.getD,i6,ak hi];rfl
theorem Zsx (s:ByteArray):Lib.strCells s = bys (sb s):=by
 unfold Lib.strCells bys sb;rw [iz];rfl
theorem Zzn (g base:Nat) (bs:List Nat) (s:ByteArray) (w:World) (A:Ze0 w base g bs) (hl:bs.length <= 1000000000) (hs:s.size <= 1000000000) :
  Calls prog 163 #[U (some ⟨g,0,none⟩),.string s] w fun e w' => (∃ v,e = Z v) /\ Ze0 w' base g (bs ++ (uvL s.size ++ sb s)) /\ Za3 base w w':=by
 obtain ⟨i0,hi,l,f,h⟩:=info_parts info5;have t:=ae (Za9 (n:=s.size) (by omega));go_enter func163,ntmps163;go_upto_region 1 with (go_at_call 161;refine (Zlh g base bs _ _ (by omega) (by omega) A hl).mono ?_;rintro e z ⟨⟨v,rfl⟩,⟨c,v,q,k,b⟩,p⟩)
 have hc:=k.c1;have C:=k.lt;rw [Int.toNat_natCast] at b;have N:q + s.size <= 3000000000:=by
  have h1:=b.1;have M:=t.out;rw [Za0,ai] at h1;omega
 have m:base <= z.heap.size:=by omega
 have E:=ae m;go_wp2_with (at_builtin;refine Lib.wpList_append_own_string _ rfl _ _ 96 9 rfl base 5 i0 underlying96 underlying9 hi l f h v _ _ rfl b s rfl (by unfold maxLen;omega) (by omega) m ?_;intro J w2 a d _;rw [Zsx,<- Zgs,ay] at a;obtain ⟨L,c1,rfl⟩:=Zc1 a;obtain ⟨k1,k2,x,y⟩:=Zol c k b a d;have r:=k1.c1;clear hc a d k1);go_end0;exact ⟨⟨_,rfl⟩,⟨c,_,_,k2,x⟩,p.trans y⟩
theorem Zk0 (g base:Nat) (bs cs:List Nat) (v:Value) (w:World) (q:Ze0 w base g bs) (hl:bs.length <= 1000000000) (hs:cs.length <= 1000000000) (h:Zb6 cs) (hr:Rep w w.heap.size v (.s 1 (Zdv (bys cs)))) :
  Calls prog 122 #[U (some ⟨g,0,none⟩),v] w fun e w' => (∃ v,e = Z v) /\ Ze0 w' base g (bs ++ Zef cs) /\ Za3 base w w':=by
 obtain ⟨A,c,rfl,hc,a⟩:=hr.row;rw [Za0] at hc ⊢;obtain ⟨s,b,l⟩:=Zw7 cs h A c w w.heap.size hr.spot a;have f:s.size = cs.length:=by rw [<- b,Zfm]
 have p:=ae f;have k:s.size <= 1000000000:=by omega
 have m:=ae b;clear hr a f b;go_enter func122,ntmps122;go_wp2_with (go_at_call 163;refine (Zzn g base bs s _ q hl k).mono ?_;rintro e t ⟨⟨v,rfl⟩,d,r⟩);go_end0;rw [p.out,m.out] at d;exact ⟨⟨_,rfl⟩,d,r⟩
def Yc5 (l:List Int):Prop:=∀ n ∈ l,-9223372036854775808 <= n /\ n <= 9223372036854775807
theorem Zcj {l:List Int} (h:Yc5 l):(l.flatMap Zbl).length <= 10 * l.length:=by
 induction l with
 | nil => simp
 | cons a l ih =>
  have h1:=h a da;have b:=Za2 h1.1 h1.2;have c:=ih (fun n hn => h n (dh _ hn));rw [de,ai,au];omega
theorem Zzo (g base:Nat) (bs:List Nat) (l:List Int) (A:Option Addr) (c:Nat) (w:World) (y:Ze0 w base g bs) (hl:bs.length + 10 * l.length <= 900000000) (m:Yc5 l) (d:∀ W',Za3 base w W' -> ∀ (k:Nat) (C:k < l.length),∃ b o,A = some ⟨b,o,none⟩ /\ W'.cell? ⟨b,o + k,none⟩ = some (I V l[k])) :
  Calls prog 164 #[U (some ⟨g,0,none⟩),G A l.length c] w fun e w' => (∃ v,e = Z v) /\ Ze0 w' base g (bs ++ Zc0 l) /\ Za3 base w w':=by
 have J:=ae (Za9 (n:=l.length) (by omega));go_enter func164,ntmps164;go_upto_region 1 with (go_at_call 161;refine (Zlh g base bs _ _ (by omega) (by omega) y (by omega)).mono ?_;rintro e P ⟨⟨v,rfl⟩,f,C⟩)
 rw [Int.toNat_natCast] at f;go_wp2_with fail;go_loopw [13] (fun i wr => ∃ k:Nat,i = I V (k:Int) /\ k <= l.length /\ Ze0 wr base g (bs ++ uvL l.length ++ (l.take k).flatMap Zbl) /\ Za3 base w wr) (fun i _ => l.length - (intOf i).toNat)
 case atStart => exact ⟨0,rfl,bi _,by simpa using f,C⟩
 case round =>
  obtain ⟨k,rfl,L,a,p⟩:=hrel;by_cases h:k < l.length
  ·obtain ⟨b,o,rfl,E⟩:=d wr p k h;have z:=ae (m l[k] (aw h));have x:(l.take (k + 1)).flatMap Zbl = (l.take k).flatMap Zbl ++ Zbl l[k]:=by
    rw [dq,ak h,bm];simp
   have x:=ae x;have t:(bs ++ uvL l.length ++ (l.take k).flatMap Zbl).length <= 1000000000:=by
    have h1:=Zcj (l:=l.take k) (fun n hn => m n (ed hn));have N:=J.out;have M:=List.length_take_le k l;simp only [ai];omega
   have t:=ae t;have s:=ae a;clear d a m y f;generalize l[k] = n at *;go_wp2_with (go_at_call 120;refine (Zdy g base _ n _ z.out.1 z.out.2 s.out t.out).mono ?_;rintro e w2 ⟨⟨v,rfl⟩,q,r⟩);rw [ay,<- x.out] at q;go_roundw
   case rel => exact ⟨k + 1,by go_num,by omega,q,p.trans r⟩
   case measure => simp [intOf];omega
  ·obtain rfl:k = l.length:=by omega
   rw [df,ay] at a;have s:=ae a;clear a y f;go_wp2_with fail;go_end0;exact ⟨⟨_,rfl⟩,s.out,p⟩
theorem Zzp (g base:Nat) (bs:List Nat) (l:List Int) (n q:Nat) (cs:Array Value) (a:cs = (Zdj l).toArray) (hn:l.length = n) (w:World) (d:Ze0 w base g bs) (hl:bs.length + 10 * l.length <= 900000000) (b:Yc5 l) (c:Blk w q 3 cs) :
  Calls prog 164 #[U (some ⟨g,0,none⟩),G (some ⟨q,0,none⟩) n n] w fun e w' => (∃ v,e = Z v) /\ Ze0 w' base g (bs ++ Zc0 l) /\ Za3 base w w':=by
 subst a hn;refine Zzo g base bs l _ _ w d hl b (fun W' h k f => ⟨q,0,rfl,?_⟩);have h1:=h.blk c (by decide) (by decide);rw [cz,h1.cell k];rw [ep,Zbx l k f]
def Zd2 (w:World) (base:Nat) (v:Value) (bs:List Nat):Prop:=∃ n,w.ownsRow base 5 1 v n (bys bs)
theorem Zd2.rep {base:Nat} {v:Value} (h:Zd2 w base v bs):Rep w w.heap.size v (.s 1 (Zdv (bys bs))):=by
 obtain ⟨n,h⟩:=h;exact Rep.of_own_plain h
theorem Zd2.slice {base:Nat} {v:Value} (h:Zd2 w base v bs):∃ A c,v = G A bs.length c:=by
 obtain ⟨n,h⟩:=h;obtain ⟨A,c,rfl⟩:=Zc1 h;have:=h.1;rw [Za0,iu] at this;exact ⟨A,c,by rw [this]⟩
theorem Zd2.mono {base base':Nat} {v:Value} (h:Zd2 w base v bs) (c:base' <= base):Zd2 w base' v bs:=by
 obtain ⟨n,h1,b⟩:=h;refine ⟨n,h1,?_⟩;rcases b with b | ⟨g,cap,a,e,d,f⟩
 ·exact .inl b
 ·exact .inr ⟨g,cap,a,e,aj c d,f⟩
theorem Zd2.nil (w:World) (base:Nat):Zd2 w base (G none 0 0) []:=⟨0,d8 _ _ _ _⟩
theorem Zd2.below {base:Nat} {v:Value} (h:Zd2 w base v bs) (a:Bl w w'):Zd2 w' base v bs:=by
 obtain ⟨n,h⟩:=h;have d:w.grownBy w' none:=⟨a.os,a.tape,a.output,a.size,fun i hi _ => a.block i hi⟩
 refine ⟨n,h.kept d ?_⟩;rcases h.2 with ⟨e,_⟩ | ⟨k,c,b,e,_⟩
 ·subst e;exact .inl rfl
 ·subst e;exact .inr (by simp [Value.ownBlock])
theorem Zd2.alloc {base:Nat} {v:Value} (h:Zd2 w base v bs) (o:Obj):Zd2 (w.alloc o) base v bs:=h.below (Zab w o)
theorem Zd2.drew {base:Nat} {v:Value} (h:Zd2 w base v bs):Zd2 w.drew base v bs:=h
theorem Zd2.lt {base:Nat} {v:Value} (h:Zd2 w base v bs):∀ k,v.ownBlock = some k -> base <= k:=by
 obtain ⟨n,h⟩:=h;exact fun k a => (h.lt k a).1
theorem Yc6 (w:World) (ty:TypeId) (base:Nat) (v:Value) (bs:List Nat) (a:Zd2 w base v bs) (src:Value) (cs:List Nat) (hr:Rep w B src (.s 1 (Zdv (bys cs)))) (hl:bs.length + cs.length <= 100000000000) (e:base <= w.heap.size) :
  ∃ v' w',(Builtin.append_ #[96,96] ty #[v,src]).run prog w = .ok v' w' /\ Zd2 w' base v' (bs ++ cs) /\ w.grownBy w' v.ownBlock:=by
 obtain ⟨n,a⟩:=a;obtain ⟨i0,hi,r,f,q⟩:=info_parts info5;have hn:=a.1;rw [Za0,iu] at hn;obtain ⟨A,c,rfl,hc,d⟩:=hr.row;rw [Za0];cases A with
 | none =>
  have y:cs = []:=by
   cases cs with
   | nil => rfl
   | cons x l =>
    obtain ⟨b,o,h,_⟩:=d 0 _ rfl;cases h
  subst y;have m:c = 0:=by
   cases hr;rfl
  subst m;exact ⟨v,w,run_append_owned_none (P:=prog) (w:=w) base 96 ty 5 i0 1 underlying96 hi v n _ a,⟨n,by simpa using a⟩,World.grownBy.refl w _⟩
 | some ad =>
  obtain ⟨b,o,rfl⟩:=hr.spot ad rfl;obtain ⟨v',w',h1,z,t,_⟩:=run_append_own (P:=prog) w base 96 ty 5 i0 (I .u8 0) 1 1 underlying96 hi r f q rfl (by decide) v n _ a ⟨b,o,none⟩ cs.length c (bys cs) (by rw [Za0,iu])
   (fun j u p => by
    obtain ⟨b',o',h,_,k⟩:=d j u p;cases h;rw [Addr.add_lit];exact k) (fun u p => by obtain ⟨x,_,rfl⟩:=List.mem_map.1 p;rfl) (by unfold maxLen;omega) (by omega) e
  exact ⟨v',w',h1,⟨_,by rw [Zgs];exact z⟩,t⟩
theorem Zct {P:Program} {a:Act} (s x:Operand) (t:TypeId) (v src v':Value)
  (ho:o.op = .call {callee:=.builtin .append,args:=#[s,x],argTypes:=#[t,t] }) (hs:a.eval s = v) (c:a.eval x = src)
  (b:(Builtin.append_ #[t,t] o.type #[v,src]).run P w = .ok v' w') (h:K (a.put o.dst v') w'):o.wp P a w K Q:=by
 unfold Oper.wp execOp;simp only [ho,resolve,invoke,builtin,Sem.run_bind,Sem.run_pure,Result.andThen_ok,List.map_toArray,du,fq,hs,c,b];exact h
theorem Zzq {a:Act} (s x:Operand)
  (ho:o.op = .call {callee:=.builtin .append,args:=#[s,x],argTypes:=#[96,96] })
  (base:Nat) (v:Value) (bs:List Nat) (hs:a.eval s = v) (c:Zd2 w base v bs) (src:Value) (cs:List Nat) (d:a.eval x = src) (hr:Rep w B src (.s 1 (Zdv (bys cs)))) (hl:bs.length + cs.length <= 100000000000) (b:base <= w.heap.size)
  (h:∀ v' w',Zd2 w' base v' (bs ++ cs) -> w.grownBy w' v.ownBlock -> K (a.put o.dst v') w'):o.wp prog a w K Q :=
 let ⟨v',w',hrun,h2,h3⟩:=Yc6 w o.type base v bs c src cs hr hl b
 Zct s x 96 v src v' ho hs d hrun (h v' w' h2 h3)
theorem Za7 {ops:Array Oper} {rest:List Oper} {o:Oper} {a:Act} (d:o.guard = none) (s x:Operand)
  (ho:o.op = .call {callee:=.builtin .append,args:=#[s,x],argTypes:=#[96,96] })
  (base:Nat) (v:Value) (bs:List Nat) (hs:a.eval s = v) (c:Zd2 w base v bs) (src:Value) (cs:List Nat) (e:a.eval x = src) (hr:Rep w B src (.s 1 (Zdv (bys cs)))) (hl:bs.length + cs.length <= 100000000000) (b:base <= w.heap.size)
  (h:∀ v' w',Zd2 w' base v' (bs ++ cs) -> w.grownBy w' v.ownBlock -> wpList prog ops Q rest (a.put o.dst v') w'):wpList prog ops Q (o :: rest) a w :=
 wpList_plain d fun _ f => Zzq s x ho base v bs hs c src cs e hr hl b fun v' w' k l => f _ _ (h v' w' k l)
theorem Zhw (n:Nat) (hn:n < 18446744073709551616) (w:World) :
  Calls prog 134 #[I .u64 (n:Int)] w fun e w' => ∃ v,e = Z v /\ Zd2 w' w.heap.size v (uvL n) /\ Bl w w':=by
 refine (Zsw n w (by omega) (by omega)).mono ?_;rintro e w' ⟨v,a,h1,b⟩;rw [Int.toNat_natCast] at h1;exact ⟨v,a,⟨_,h1⟩,b⟩
theorem Zcf (n:Int) (a:-9223372036854775808 <= n) (h1:n <= 9223372036854775807) (w:World) :
  Calls prog 90 #[I V n] w fun e w' => ∃ v,e = Z v /\ Zd2 w' w.heap.size v (Zbl n) /\ Bl w w':=by
 have c:=ae (fun W => Zw3 n W a h1);have b:=Yc4 a h1;have f:=ae (fun W => Zhw (zz n) (by omega) W);clear b a h1;go_enter func90,ntmps90;go_wp2_with (first
  | (go_at_call 135;refine (c.out _).mono ?_;rintro e w' ⟨rfl,rfl⟩)
  | (go_at_call 134;refine (f.out _).mono ?_;rintro e w' ⟨v,rfl,ho,d⟩))
 go_ret;exact ⟨_,rfl,ho,d⟩
theorem Zhd (v:Value) (cs:List Nat) (w:World) (hl:cs.length <= 1000000000) (hr:Rep w w.heap.size v (.s 1 (Zdv (bys cs)))) :
  Calls prog 92 #[v] w fun e w' => ∃ v,e = Z v /\ Zd2 w' w.heap.size v (Zef cs) /\ Bl w w':=by
 obtain ⟨A,c,e,hc,b⟩:=hr.row;rw [Za0] at e;subst e;have q:=ae (fun W => Zhw cs.length (by omega) W);have m:=ae hr;have r:=Za9 (n:=cs.length) (by omega);clear hr b hc;go_enter func92,ntmps92;go_wp2_with (first
  | (go_at_call 134;refine (q.out _).mono ?_;rintro e t ⟨l,rfl,d,a⟩)
  | (at_builtin;refine Za7 rfl _ _ rfl w.heap.size l _ rfl d _ cs rfl (m.out.keep (fun p k => a.cell k) (ag _)) (by omega) a.size ?_;intro v2 w2 h f))
 go_ret;exact ⟨_,rfl,h,a.grown f a.size d.lt⟩
theorem Zli (l:List Int) (v:Value) (w:World) (hl:l.length <= 1000000) (x:Yc5 l) (hr:Rep w w.heap.size v (.s 1 (Zdv (Zdj l)))) :
  Calls prog 178 #[v] w fun e w' => ∃ v,e = Z v /\ Zd2 w' w.heap.size v (Zc0 l) /\ Bl w w':=by
 obtain ⟨A,c,rfl,hc,h⟩:=hr.row;rw [Zb1] at hc ⊢;have Y:=ae (fun W => Zhw l.length (by omega) W);have X:=Za9 (n:=l.length) (by omega);clear hr;go_enter func178,ntmps178;go_wp2_with (go_at_call 134;refine (Y.out _).mono ?_;rintro e w1 ⟨v1,rfl,r,L⟩);go_loopw [3,4] (fun u i wr => ∃ k:Nat,i = I V (k:Int) /\ k <= l.length /\ Zd2 wr w.heap.size u (uvL l.length ++ (l.take k).flatMap Zbl) /\ Bl w wr) (fun _ i _ => l.length - (intOf i).toNat)
 case atStart => exact ⟨0,rfl,bi _,by simpa using r,L⟩
 case round =>
  obtain ⟨k,rfl,hk,f,a⟩:=hrel;by_cases q:k < l.length
  ·obtain ⟨b,o,rfl,R,y⟩:=h k _ (Zbx l k q);have N:=(a.cell (p:=⟨b,o + k,none⟩) R).trans y;have d:=x l[k] (aw q);have S:=ae (fun W => Zcf l[k] d.1 d.2 W);have T:=Za2 d.1 d.2;have M:uvL l.length ++ (l.take (k + 1)).flatMap Zbl = uvL l.length ++ (l.take k).flatMap Zbl ++ Zbl l[k]:=by
    rw [dq,ak q,bm];simp
   have E:=ae M;have HL:(uvL l.length ++ (l.take k).flatMap Zbl).length <= 20000010:=by
    have h1:=Zcj (l:=l.take k) (fun n hn => x n (ed hn));have h3:=List.length_take_le k l;rw [ai];omega
   clear y h r M d;generalize l[k] = n at *;generalize uvL l.length ++ (l.take k).flatMap Zbl = bs at *;go_wp2_with (first
    | (go_at_call 90;refine (S.out _).mono ?_;rintro e w2 ⟨v2,rfl,z,m⟩)
    | (at_builtin;refine Za7 rfl _ _ rfl w.heap.size _ bs rfl (f.below m) _ (Zbl n) rfl z.rep (by omega) (aj a.size m.size) ?_;intro v3 w3 t C))
   rw [<- E.out] at t;have J:=(a.trans (m.mono a.size)).grown C (aj a.size m.size) f.lt;go_roundw
   case rel => exact ⟨k + 1,by go_num,by omega,t,J⟩
   case measure => simp [intOf];omega
  ·obtain rfl:k = l.length:=by omega
   rw [df] at f;have P:=ae f;clear f r;go_wp2_with fail;go_ret;exact ⟨_,rfl,P.out,a⟩
theorem Rep.mono (b:∀ (p:Addr) (u:Value),p.block < B -> W.cell? p = some u -> W'.cell? p = some u) (a:B <= B') {v:Value} {d:D} (h:Rep W B v d):Rep W' B' v d:=by
 induction h with
 | v x => exact .v x
 | nil sz => exact .nil sz
 | s hc hd hn hb cells sub ih => exact .s hc hd hn (ah hb a) (fun j u c => b _ u hb (cells j u c)) ih
theorem Zax.mono (b:∀ (p:Addr) (u:Value),p.block < B -> W.cell? p = some u -> W'.cell? p = some u) (a:B <= B') {cs:List Value} (h:Zax W B cs ds):Zax W' B' cs ds :=
 ⟨h.1,fun j u d c hd => (h.2 j u d c hd).mono b a⟩
def Zjh (w:World):Option Nat -> World
 | none => w
 | some g => w.putObj g (.deferred none)
theorem Zd6 {r:Option Nat} {p:Addr} (h:r ≠ some p.block):(Zjh w r).cell? p = w.cell? p:=by
 cases r with
 | none => rfl
 | some g => exact dc (World.putObj_heap_other (fun e => h (by rw [e])))
theorem Zlj (a:g < w.heap.size) {p:Addr} (h:p.block = g):(Zjh w (some g)).cell? p = none:=by
 have h1:(w.putObj g (.deferred none)).heap[p.block]? = some (.deferred none):=by
  rw [h];simp [World.putObj,a]
 show (w.putObj g (.deferred none)).cell? p = none;unfold World.cell?;rw [h1]
theorem Zql {r a:Option Nat} (hr:∀ g,r = some g -> g < w.heap.size) (hs:∀ i,i < B -> r ≠ some i -> w'.heap[i]? = w.heap[i]?) (b:a = r ∨ ∀ i,a = some i -> B <= i) (p:Addr) (u:Value) (d:p.block < B) (h:(Zjh w r).cell? p = some u):(Zjh w' a).cell? p = some u:=by
 have h1:r ≠ some p.block:=fun e => by
  subst e;rw [Zlj (hr _ rfl) rfl] at h;cases h
 have f:a ≠ some p.block:=fun e => by
  rcases b with c | c
  ·exact h1 (c.symm.trans e)
  ·have:=c _ e;omega
 rw [Zd6 h1] at h;rw [Zd6 f,dc (hs _ d h1)];exact h
def Zji (w:World) (base:Nat) (e:TypeId) (size:Nat) (v:Value) (ds:List D):Prop:=∃ n xs,w.ownsRow base e size v n xs /\ Zax (Zjh w v.ownBlock) w.heap.size xs ds
theorem Zji.nil (w:World) (base:Nat) (e:TypeId) (size:Nat):Zji w base e size (G none 0 0) []:=⟨0,[],d8 _ _ _ _,Zax.nil _ _⟩
theorem Zji.step {base:Nat} {e:TypeId} {size:Nat} {v:Value} {n:Nat} {es:List D} (h1:w.ownsRow base e size v n xs) (h:Zax (Zjh w v.ownBlock) w.heap.size xs ds)
  (hn:Zax (Zjh w v.ownBlock) w.heap.size news es) (a:w'.ownsRow base e size v' n' (xs ++ news)) (d:w.grownBy w' v.ownBlock) (b:v'.ownBlock = v.ownBlock ∨ v'.ownBlock = some w.heap.size):Zji w' base e size v' (ds ++ es):=by
 refine ⟨n',_,a,(h.append hn).mono (fun p u f k => Zql (fun g e => (h1.lt g e).2) (fun i hi c => d.block i hi (fun e => c e.symm)) ?_ p u f k) d.size⟩;rcases b with e | e
 ·exact .inl e
 ·exact .inr fun i hi => by rw [e] at hi;cases hi;exact ag _
theorem Zji.below {base:Nat} {e:TypeId} {size:Nat} {v:Value} (h:Zji w base e size v ds) (a:Bl w w'):Zji w' base e size v ds:=by
 obtain ⟨n,xs,h1,l⟩:=h;have m:w.grownBy w' none:=⟨a.os,a.tape,a.output,a.size,fun i hi _ => a.block i hi⟩
 refine ⟨n,xs,h1.kept m ?_,l.mono (fun p u b f => Zql (fun g e => (h1.lt g e).2) (fun i hi _ => a.block i hi) (.inl rfl) p u b f) a.size⟩;rcases h1.2 with ⟨e,_⟩ | ⟨k,c,d,e,_⟩
 ·subst e;exact .inl rfl
 ·subst e;exact .inr (by simp [Value.ownBlock])
def Yc7 (ts:List TypeId):Obj -> Obj
 | O c t f => if t ∈ ts then .deferred none else O c t f
 | o => o
def Zgm (ts:List TypeId) (H:List Nat) (w:World):World:={ w with heap:=w.heap.mapIdx fun i o => if i ∈ H then .deferred none else Yc7 ts o }
def Zbp (ts:List TypeId) (w:World) (g:Nat):Prop:=∃ c t f,w.heap[g]? = some (O c t f) /\ t ∈ ts
theorem Za8 {p:Addr}:(Zgm ts H w).cell? p = some u ↔ w.cell? p = some u /\ ¬ Zbp ts w p.block /\ p.block ∉ H:=by
 unfold World.cell? Zgm Zbp;simp only [Array.getElem?_mapIdx];cases h:w.heap[p.block]? with
 | none => simp
 | some o =>
  by_cases a:p.block ∈ H
  ·simp [a]
  ·cases o with
   | cells c t f =>
    by_cases b:t ∈ ts
    ·simp [Yc7,b,a]
    ·simp [Yc7,b,a]
   | _ => simp [Yc7,a]
theorem Zbp.grown {row:Option Nat} (c:w.grownBy w' row) (a:g < w.heap.size) (b:some g ≠ row):Zbp ts w' g ↔ Zbp ts w g:=by
 unfold Zbp;rw [c.block g a b]
theorem Zqm {H':List Nat} {row:Option Nat} (f:w.grownBy w' row) (b:∀ g,row = some g -> g < w.heap.size -> Zbp ts w g ∨ g ∈ H) (q:∀ i ∈ H',i ∈ H ∨ w.heap.size <= i) {p:Addr}
  (h:(Zgm ts H w).cell? p = some u):(Zgm ts H' w').cell? p = some u:=by
 obtain ⟨h1,k,m⟩:=Za8.1 h;have a:=bu w p h1;have d:some p.block ≠ row:=fun e => by
  rcases b _ e.symm a with c | c
  ·exact k c
  ·exact m c
 refine Za8.2 ⟨(dc (f.block _ a d)).trans h1,fun c => k ((Zbp.grown f a d).1 c),fun e => ?_⟩;rcases q _ e with l | l
 ·exact m l
 ·omega
theorem Zqn {ts':List TypeId} {H':List Nat} (a:∀ t ∈ ts',t ∈ ts) (b:∀ i ∈ H',i ∈ H) {p:Addr} (h:(Zgm ts H w).cell? p = some u):(Zgm ts' H' w).cell? p = some u:=by
 obtain ⟨h1,k,l⟩:=Za8.1 h;exact Za8.2 ⟨h1,fun ⟨c,t,f,e,d⟩ => k ⟨c,t,f,e,a t d⟩,fun e => l (b _ e)⟩
def Zdf (ts:List TypeId) (H:List Nat) (w:World) (v:Value) (d:D):Prop:=Rep (Zgm ts H w) w.heap.size v d
def Zb0 (ts:List TypeId) (H:List Nat) (w:World) (vs:List Value) (ds:List D):Prop:=Zax (Zgm ts H w) w.heap.size vs ds
theorem Zdf.step {H':List Nat} {v:Value} {d:D} (h:Zdf ts H w v d) {row:Option Nat} (b:w.grownBy w' row) (a:∀ g,row = some g -> g < w.heap.size -> Zbp ts w g ∨ g ∈ H) (c:∀ i ∈ H',i ∈ H ∨ w.heap.size <= i):Zdf ts H' w' v d :=
 Rep.mono (fun _ _ _ e => Zqm b a c e) b.size h
theorem Zb0.step {H':List Nat} {v:List Value} {d:List D} (h:Zb0 ts H w v d) {row:Option Nat} (b:w.grownBy w' row) (a:∀ g,row = some g -> g < w.heap.size -> Zbp ts w g ∨ g ∈ H) (c:∀ i ∈ H',i ∈ H ∨ w.heap.size <= i):Zb0 ts H' w' v d :=
 Zax.mono (fun _ _ _ e => Zqm b a c e) b.size h
theorem Zdf.weak {ts':List TypeId} {H':List Nat} {v:Value} {d:D} (h:Zdf ts H w v d) (a:∀ t ∈ ts',t ∈ ts) (b:∀ i ∈ H',i ∈ H):Zdf ts' H' w v d:=Rep.mono (fun _ _ _ c => Zqn a b c) (ag _) h
theorem Zb0.weak {ts':List TypeId} {H':List Nat} {v:List Value} {d:List D} (h:Zb0 ts H w v d) (a:∀ t ∈ ts',t ∈ ts) (b:∀ i ∈ H',i ∈ H):Zb0 ts' H' w v d:=Zax.mono (fun _ _ _ c => Zqn a b c) (ag _) h
theorem Zdf.out {v:Value} {d:D} (h:Zdf ts H w v d):Rep w w.heap.size v d:=Rep.mono (fun _ _ _ a => (Za8.1 a).1) (ag _) h
theorem Zb0.out {v:List Value} {d:List D} (h:Zb0 ts H w v d):Zax w w.heap.size v d:=Zax.mono (fun _ _ _ a => (Za8.1 a).1) (ag _) h
theorem Zaj (w:World) (g i:Nat) (u:Value):w.grownBy (w.setCell ⟨g,i,none⟩ u) (some g):=⟨rfl,rfl,rfl,by simp [World.setCell],fun k _ a => je _ _ _ _ (fun e => a (by rw [e]))⟩
theorem Zat (w:World) (row:Option Nat):w.grownBy w.drew row:=⟨rfl,rfl,rfl,ag _,fun _ _ _ => rfl⟩
theorem Zlk (w:World) (n:Nat) (row:Option Nat):w.grownBy (w.drewN n) row:=⟨rfl,rfl,rfl,ag _,fun _ _ _ => rfl⟩
theorem Zac {w0:World} {row r:Option Nat} (h:w0.grownBy w row) (a:w.grownBy w' r) (hr:∀ k,r = some k -> k < w0.heap.size -> row = some k):w0.grownBy w' row :=
 ⟨a.os.trans h.os,a.tape.trans h.tape,a.output.trans h.output,aj h.size a.size,fun k c b => (a.block k (ah c h.size) (fun e => b ((hr k e.symm c).symm ▸ rfl))).trans (h.block k c b)⟩
theorem Zaf {row:Option Nat} (a:Bl w w'):w.grownBy w' row:=⟨a.os,a.tape,a.output,a.size,fun i hi _ => a.block i hi⟩
theorem Blk.hidden {t:TypeId} (h:Blk w g t cs) (a:t ∈ ts):Zbp ts w g:=⟨cs,t,(0,0),h,a⟩
theorem Blk.seen {t:TypeId} (h:Blk w g t cs) (k:t ∉ ts) (hr:g ∉ H) (i:Nat) (u:Value) (l:cs[i]? = some u):(Zgm ts H w).cell? ⟨g,i,none⟩ = some u:=by
 refine Za8.2 ⟨h.cellAt i u l,fun ⟨c,d,f,e,a⟩ => ?_,hr⟩;have b:w.heap[g]? = some (O c d f):=e;unfold Blk at h;rw [h] at b;cases b;exact k a
theorem Zdf.of_blk {n:Nat} {t:TypeId} (h:Blk w g t cs) (a:t ∉ ts) (hr:g ∉ H) (hl:cs.size = n * sz) (hd:Zb0 ts H w cs.toList ds):Zdf ts H w (G (some ⟨g,0,none⟩) n n) (.s sz ds):=by
 refine Rep.mk (by rw [<- hd.1,br,hl]) (ag _) h.lt hd (fun j u b => ?_);rw [cz];exact h.seen a hr j u (by rw [<- b,dj])
def Zbv (ts:List TypeId) (H:List Nat) (w:World) (base:Nat) (e:TypeId) (size:Nat) (v:Value) (ds:List D):Prop:=∃ n xs,w.ownsRow base e size v n xs /\ Zb0 ts (v.ownBlock.toList ++ H) w xs ds
theorem Zbv.nil (ts:List TypeId) (H:List Nat) (w:World) (base:Nat) (e:TypeId) (size:Nat):Zbv ts H w base e size (G none 0 0) []:=⟨0,[],d8 _ _ _ _,Zax.nil _ _⟩
theorem Zbv.lt {base:Nat} {e:TypeId} {size:Nat} {v:Value} (h:Zbv ts H w base e size v ds) (k:Nat) (a:v.ownBlock = some k):base <= k /\ k < w.heap.size:=by
 obtain ⟨n,xs,h,_⟩:=h;exact h.lt k a
theorem Zbv.app {base:Nat} {e:TypeId} {size:Nat} {v:Value} {es:List D} (c:Zb0 ts (v.ownBlock.toList ++ H) w xs ds)
  (hn:Zb0 ts (v.ownBlock.toList ++ H) w news es) (b:w'.ownsRow base e size v' n' (xs ++ news)) (d:w.grownBy w' v.ownBlock) (a:v'.ownBlock = v.ownBlock ∨ v'.ownBlock = some w.heap.size):Zbv ts H w' base e size v' (ds ++ es):=by
 refine ⟨n',_,b,(Zb0.step (Zax.append c hn) d (fun g e _ => .inr (by rw [e];simp)) ?_)⟩;intro i hi;rcases List.mem_append.1 hi with hi | hi
 ·rcases a with e | e
  ·rw [e] at hi;exact .inl (List.mem_append.2 (.inl hi))
  ·rw [e] at hi;simp at hi;exact .inr (by omega)
 ·exact .inl (List.mem_append.2 (.inr hi))
theorem Zbv.step {H':List Nat} {base:Nat} {e:TypeId} {size:Nat} {v:Value} (h:Zbv ts H w base e size v ds) {row:Option Nat} (d:w.grownBy w' row) (a:∀ g,row = some g -> g < w.heap.size -> (Zbp ts w g ∨ g ∈ H) /\ v.ownBlock ≠ some g) (l:∀ i ∈ H',i ∈ H ∨ w.heap.size <= i):Zbv ts H' w' base e size v ds:=by
 obtain ⟨n,xs,h1,m⟩:=h;refine ⟨n,xs,h1.kept d ?_,m.step d (fun g e b => ?_) ?_⟩
 ·rcases h1.2 with ⟨e,_⟩ | ⟨k,c,f,e,q⟩
  ·subst e;exact .inl rfl
  ·subst e;refine .inr fun p => ?_;exact (a k p.symm (h1.lt k rfl).2).2 rfl
 ·rcases (a g e b).1 with h | h
  ·exact .inl h
  ·exact .inr (List.mem_append.2 (.inr h))
 ·intro i hi;rcases List.mem_append.1 hi with hi | hi
  ·exact .inl (List.mem_append.2 (.inl hi))
  ·rcases l i hi with h | h
   ·exact .inl (List.mem_append.2 (.inr h))
   ·exact .inr h
theorem Zbv.rep {ts':List TypeId} {H:List Nat} {base:Nat} {e:TypeId} {size:Nat} {v:Value} (h:Zbv ts H w base e size v ds) (d:∀ t ∈ ts',t ∈ ts) (y:e ∉ ts') (z:∀ i ∈ H,i < base):Zdf ts' H w v (.s size ds):=by
 obtain ⟨n,xs,h1,m⟩:=h;have r:Zb0 ts' H w xs ds:=m.weak d (fun i hi => List.mem_append.2 (.inr hi));rcases h1.2 with ⟨rfl,hn⟩ | ⟨g,cap,a,rfl,C,k,f,l,p,A⟩
 ·have q:=h1.1;rw [hn,io] at q;have:ds = []:=bj (by rw [<- m.1];exact q);subst this;exact .nil size
 ·have b:=(h1.lt g rfl).2;refine Rep.mk (r.1.symm.trans h1.1) f b r (fun j u c => ?_);have x:j < xs.length:=by
   rcases ir j xs.length with h | h
   ·exact h
   ·rw [gj h] at c;cases c
  rw [cz];refine Blk.seen (cs:=a) k y (fun hi => by have:=z g hi;omega) j u ?_;rw [<- c,<- A,gi,if_pos (by rw [<- h1.1];exact x),dj]
structure Iv where
 ln:Int
 ld:Int
 hn:Int
 hd:Int
 lo:Bool
 ho:Bool
 li:Bool
 hi:Bool
def Iv.cells (x:Iv):List D:=[.v (I V x.ln),.v (I V x.ld),.v (I V x.hn),.v (I V x.hd),.v (.bool x.lo),.v (.bool x.ho),.v (.bool x.li),.v (.bool x.hi)]
theorem Iv.cells_length (x:Iv):x.cells.length = 8:=rfl
inductive F where
 | mk (op n:Int) (ins:List Iv) (kids:List F)
def F.op:F -> Int
 | .mk op _ _ _ => op
def F.n:F -> Int
 | .mk _ n _ _ => n
def F.ins:F -> List Iv
 | .mk _ _ ins _ => ins
def F.kids:F -> List F
 | .mk _ _ _ kids => kids
mutual
def F.cells:F -> List D
 | .mk op n ins kids => [.v (I V op),.v (I V n),.s 8 (ins.flatMap Iv.cells),.s 4 (Zil kids)]
def Zil:List F -> List D
 | [] => []
 | k :: ks => k.cells ++ Zil ks
end
mutual
def F.nodes:F -> List F
 | .mk op n ins kids => .mk op n ins kids :: Zhr kids
def Zhr:List F -> List F
 | [] => []
 | k :: ks => k.nodes ++ Zhr ks
end
mutual
def F.size:F -> Nat
 | .mk _ _ _ kids => 1 + Zbr kids
def Zbr:List F -> Nat
 | [] => 0
 | k :: ks => k.size + Zbr ks
end
mutual
def F.deep:F -> Nat
 | .mk _ _ _ kids => Zdd kids + 1
def Zdd:List F -> Nat
 | [] => 0
 | k :: ks => max k.deep (Zdd ks)
end
theorem F.cells_length (t:F):t.cells.length = 4:=by cases t;rfl
theorem Zqo:∀ l:List F,Zil l = l.flatMap F.cells
 | [] => by rw [Zil];rfl
 | a :: l => by rw [Zil,Zqo l];rfl
theorem Zim:∀ l:List F,Zhr l = l.flatMap F.nodes
 | [] => by rw [Zhr];rfl
 | a :: l => by rw [Zhr,Zim l];rfl
theorem F.nodes_eq (t:F):t.nodes = t :: t.kids.flatMap F.nodes:=by
 cases t;rw [F.nodes,Zim];rfl
theorem F.cells_eq (t:F):t.cells = [.v (I V t.op),.v (I V t.n),.s 8 (t.ins.flatMap Iv.cells),.s 4 (t.kids.flatMap F.cells)]:=by
 cases t;rw [F.cells,Zqo];rfl
theorem F.size_pos (t:F):0 < t.size:=by
 cases t;rw [F.size];omega
mutual
theorem F.nodes_length:∀ t:F,t.nodes.length = t.size
 | .mk op n ins kids => by rw [F.nodes,F.size,au,Zeu kids,Nat.add_comm]
theorem Zeu:∀ l:List F,(Zhr l).length = Zbr l
 | [] => by rw [Zhr,Zbr];rfl
 | k :: ks => by rw [Zhr,Zbr,ai,F.nodes_length k,Zeu ks]
end
theorem Zll:∀ {l:List F} {k:F},k ∈ l -> k.size <= Zbr l
 | a :: l,k,h => by
  rw [Zbr];rcases List.mem_cons.1 h with rfl | h
  ·omega
  ·have:=Zll h;omega
theorem F.kid_size {t k:F} (h:k ∈ t.kids):k.size < t.size:=by
 cases t with
 | mk op n ins kids =>
  have:=Zll (l:=kids) h;rw [F.size];omega
theorem Zjj:∀ (l:List F) (k:Nat) (h:k < l.length),Zbr (l.take (k + 1)) = Zbr (l.take k) + l[k].size
 | a :: l,0,_ => by simp [Zbr]
 | a :: l,k + 1,h => by
  have:=Zjj l k (by simpa using h);simp only [gy,Zbr,List.getElem_cons_succ];omega
theorem Zev:∀ (l:List F) (k:Nat),Zbr (l.take k) <= Zbr l
 | [],k => by simp
 | a :: l,0 => by simp [Zbr]
 | a :: l,k + 1 => by
  have:=Zev l k;simp only [gy,Zbr];omega
structure Zan (w:World) (B:Nat) where
 a:Value
 b:Value
 c:Value
 d:Value
 t:F
 h:Zax w B [a,b,c,d] t.cells
def Zan.val {w:World} {B:Nat} (x:Zan w B):Value:=.agg #[x.a,x.b,x.c,x.d]
theorem Zax.four {a b c d:Value} {p q r s:D} (h:Zax W B [a,b,c,d] [p,q,r,s]):Rep W B a p /\ Rep W B b q /\ Rep W B c r /\ Rep W B d s :=
 ⟨h.2 0 _ _ rfl rfl,h.2 1 _ _ rfl rfl,h.2 2 _ _ rfl rfl,h.2 3 _ _ rfl rfl⟩
theorem Zan.parts (x:Zan w B):x.a = I V x.t.op /\ x.b = I V x.t.n /\ Rep w B x.c (.s 8 (x.t.ins.flatMap Iv.cells)) /\ Rep w B x.d (.s 4 (x.t.kids.flatMap F.cells)):=by
 have h:=x.h;rw [F.cells_eq] at h;obtain ⟨h1,e,f,k⟩:=h.four;exact ⟨h1.plain,e.plain,f,k⟩
theorem Zaq {a b c d:Value} {t:F} (h:Zax w B [a,b,c,d] t.cells):∃ l k c1 f e c2,a = I V t.op /\ b = I V t.n /\ c = G l k c1 /\ d = G f e c2:=by
 obtain ⟨h1,m,q,r⟩:=(⟨a,b,c,d,t,h⟩:Zan w B).parts;obtain ⟨l,k,c1,p,_⟩:=q.slice;obtain ⟨f,e,c2,s,_⟩:=r.slice;exact ⟨l,k,c1,f,e,c2,h1,m,p,s⟩
theorem Rep.formulas {v:Value} {l:List F} (h:Rep w B v (.s 4 (l.flatMap F.cells))):∃ (A:Option Addr) (c:Nat),v = G A l.length c /\ l.length <= c /\
  ∀ (k:Nat) (J:k < l.length),∃ (b o:Nat) (y:Zan w B),A = some ⟨b,o,none⟩ /\ b < B /\ y.t = l[k] /\ w.cell? ⟨b,o + k * 4,none⟩ = some y.a /\ w.cell? ⟨b,o + k * 4 + 1,none⟩ = some y.b /\ w.cell? ⟨b,o + k * 4 + 2,none⟩ = some y.c /\ w.cell? ⟨b,o + k * 4 + 3,none⟩ = some y.d:=by
 obtain ⟨A,n,c,rfl,hn,hl,hc⟩:=h.slice;have r:=Zai (l:=l) (f:=F.cells) (k:=4) (fun x _ => x.cells_length);have q:n = l.length:=by omega
 subst q;refine ⟨A,c,rfl,hn,fun k J => ?_⟩;obtain ⟨b,o,cs,rfl,N,hr,m⟩:=hc (by omega);have M:=Zcd (l:=l) (f:=F.cells) (k:=4) (i:=k) (a:=l[k]) (fun x _ => x.cells_length) (ak J);have p:=(hr.drop (k * 4)).take 4;rw [M] at p;have C:cs.length = l.length * 4:=hr.1.trans r;have z:k * 4 < cs.length:=by omega
 have h1:k * 4 + 1 < cs.length:=by omega
 have E:k * 4 + 2 < cs.length:=by omega
 have L:k * 4 + 3 < cs.length:=by omega
 have e:(cs.drop (k * 4)).take 4 = [cs[k * 4],cs[k * 4 + 1],cs[k * 4 + 2],cs[k * 4 + 3]]:=by
  rw [ct z,ct h1,ct E,ct L];rfl
 rw [e] at p;exact ⟨b,o,⟨cs[k * 4],cs[k * 4 + 1],cs[k * 4 + 2],cs[k * 4 + 3],l[k],p⟩,rfl,N,rfl,m _ _ (ak z),m _ _ (ak h1),m _ _ (ak E),m _ _ (ak L)⟩
end Go.Proofs.YtglkadmfjaecmaaGreatDoor
