/- Blocks that are known whole, and what becomes of them. The writer of package wire. The writer of package wire: Int, Text, Raw, Ints, Done. The bytes that the reference writes: Int, Raw, Ints. Rows of a call's own whose elements lead to memory: what they lead to lies outside of the row. Data in memory while blocks of some types, and one row, are being written. Formulas as trees, and in memory. -/
import Derived.Test.YtbeaijjaecaidaaGreatDoorM01
import Derived.Deep.RegionHeld
import Derived.Deep.DrawnRows
import Derived.Deep.DeepCutAuto
import Derived.Outline
import Derived.Lib.AppendStr
import Derived.Laws.BytesArg
import Derived.Lib.SliceRun
import Derived.Laws.AppendOwnNone
set_option maxRecDepth 100000
set_option maxHeartbeats 16000000
namespace Go.Proofs.YtbeaijjaecaidaaGreatDoor
open Go.RowKit Go.Shelf
attribute [local go_sem] Oper.semAt_some
def Blk (W:World) (g:Nat) (t:TypeId) (cs:Array Value):Prop:=W.heap[g]? = some (.cells cs t (0,0))
theorem Blk.lt {W:World} {g:Nat} {t:TypeId} {cs:Array Value} (h:Blk W g t cs):g < W.heap.size:=(Array.getElem?_eq_some_iff.1 h).1
theorem Blk.cell {W:World} {g:Nat} {t:TypeId} {cs:Array Value} (h:Blk W g t cs) (i:Nat):W.cell? ⟨g,i,none⟩ = cs[i]?:=cell_of_row W g i cs t (0,0) h
theorem Blk.cellAt {W:World} {g:Nat} {t:TypeId} {cs:Array Value} (h:Blk W g t cs) (i:Nat) (v:Value) (hv:cs[i]? = some v):W.cell? ⟨g,i,none⟩ = some v:=(h.cell i).trans hv
theorem Blk.frozen {W:World} {g:Nat} {t:TypeId} {cs:Array Value} (h:Blk W g t cs) (i:Nat):W.frozen? ⟨g,i,none⟩ = false:=by
 unfold Blk at h;simp [World.frozen?,h]
theorem Blk.new (W:World) (t:TypeId) (cs:Array Value):Blk (W.alloc (.cells cs t)) W.heap.size t cs:=heap_alloc_new W _
theorem Blk.drew {W:World} {g:Nat} {t:TypeId} {cs:Array Value} (h:Blk W g t cs):Blk W.drew g t cs:=h
theorem Blk.drewN {W:World} {g:Nat} {t:TypeId} {cs:Array Value} (h:Blk W g t cs) (n:Nat):Blk (W.drewN n) g t cs:=h
theorem Blk.alloc {W:World} {g:Nat} {t:TypeId} {cs:Array Value} (h:Blk W g t cs) (o:Obj):Blk (W.alloc o) g t cs:=(Below.heap_alloc W o g h.lt).trans h
theorem Blk.set {W:World} {g:Nat} {t:TypeId} {cs:Array Value} (h:Blk W g t cs) (i:Nat) (u:Value):Blk (W.setCell ⟨g,i,none⟩ u) g t (cs.setIfInBounds i u):=by
 unfold Blk at h ⊢;simp [World.setCell,Array.getElem?_modify,h]
theorem Blk.far {W:World} {g:Nat} {t:TypeId} {cs:Array Value} (h:Blk W g t cs) {p:Addr} (hp:g ≠ p.block) (u:Value):Blk (W.setCell p u) g t cs:=(Below.heap_setCell W p u g hp).trans h
theorem Blk.under {W W':World} {g:Nat} {t:TypeId} {cs:Array Value} {B:Nat} (h:Blk W g t cs) (hb:Below B W W') (hg:g < B):Blk W' g t cs:=(hb.block g hg).trans h
theorem Blk.keep {W W':World} {g:Nat} {t:TypeId} {cs:Array Value} (h:Blk W g t cs) (hb:Below W.heap.size W W'):Blk W' g t cs:=h.under hb h.lt
theorem Blk.grown {W W':World} {g:Nat} {t:TypeId} {cs:Array Value} {row:Option Nat} (h:Blk W g t cs) (hb:W.grownBy W' row) (hg:some g ≠ row):Blk W' g t cs:=(hb.block g h.lt hg).trans h
theorem Blk.ne {W:World} {g g':Nat} {t t':TypeId} {cs cs':Array Value} (h:Blk W g t cs) (h':Blk W g' t' cs') (hne:t ≠ t'):g ≠ g':=by
 rintro rfl;unfold Blk at h h';rw [h] at h';injection h' with h'
 injection h' with _ ht
 exact hne ht
theorem Blk.c1 {W:World} {g:Nat} {t:TypeId} {a:Value} (h:Blk W g t #[a]):W.cell? ⟨g,0,none⟩ = some a ∧ W.frozen? ⟨g,0,none⟩ = false:=⟨h.cell 0,h.frozen 0⟩
theorem Blk.c2 {W:World} {g:Nat} {t:TypeId} {a b:Value} (h:Blk W g t #[a,b]):W.cell? ⟨g,0,none⟩ = some a ∧ W.cell? ⟨g,1,none⟩ = some b:=⟨h.cell 0,h.cell 1⟩
theorem Blk.f2 {W:World} {g:Nat} {t:TypeId} {a b:Value} (h:Blk W g t #[a,b]):W.frozen? ⟨g,0,none⟩ = false ∧ W.frozen? ⟨g,1,none⟩ = false:=⟨h.frozen 0,h.frozen 1⟩
theorem Blk.c4 {W:World} {g:Nat} {t:TypeId} {a b c d:Value} (h:Blk W g t #[a,b,c,d]):W.cell? ⟨g,0,none⟩ = some a ∧ W.cell? ⟨g,1,none⟩ = some b ∧ W.cell? ⟨g,2,none⟩ = some c ∧ W.cell? ⟨g,3,none⟩ = some d:=⟨h.cell 0,h.cell 1,h.cell 2,h.cell 3⟩
theorem Blk.f4 {W:World} {g:Nat} {t:TypeId} {a b c d:Value} (h:Blk W g t #[a,b,c,d]):W.frozen? ⟨g,0,none⟩ = false ∧ W.frozen? ⟨g,1,none⟩ = false ∧ W.frozen? ⟨g,2,none⟩ = false ∧ W.frozen? ⟨g,3,none⟩ = false:=⟨h.frozen 0,h.frozen 1,h.frozen 2,h.frozen 3⟩
theorem Blk.c8 {W:World} {g:Nat} {t:TypeId} {a b c d e f i j:Value} (h:Blk W g t #[a,b,c,d,e,f,i,j]):W.cell? ⟨g,0,none⟩ = some a ∧ W.cell? ⟨g,1,none⟩ = some b ∧ W.cell? ⟨g,2,none⟩ = some c ∧ W.cell? ⟨g,3,none⟩ = some d ∧
  W.cell? ⟨g,4,none⟩ = some e ∧ W.cell? ⟨g,5,none⟩ = some f ∧ W.cell? ⟨g,6,none⟩ = some i ∧ W.cell? ⟨g,7,none⟩ = some j:=⟨h.cell 0,h.cell 1,h.cell 2,h.cell 3,h.cell 4,h.cell 5,h.cell 6,h.cell 7⟩
theorem Blk.f8 {W:World} {g:Nat} {t:TypeId} {a b c d e f i j:Value} (h:Blk W g t #[a,b,c,d,e,f,i,j]):W.frozen? ⟨g,0,none⟩ = false ∧ W.frozen? ⟨g,1,none⟩ = false ∧ W.frozen? ⟨g,2,none⟩ = false ∧ W.frozen? ⟨g,3,none⟩ = false ∧
  W.frozen? ⟨g,4,none⟩ = false ∧ W.frozen? ⟨g,5,none⟩ = false ∧ W.frozen? ⟨g,6,none⟩ = false ∧ W.frozen? ⟨g,7,none⟩ = false:=⟨h.frozen 0,h.frozen 1,h.frozen 2,h.frozen 3,h.frozen 4,h.frozen 5,h.frozen 6,h.frozen 7⟩
theorem Blk.set1 {W:World} {g:Nat} {t:TypeId} {a:Value} (h:Blk W g t #[a]) (a':Value):Blk (W.setCell ⟨g,0,none⟩ a') g t #[a']:=by
 have:=h.set 0 a'
 simpa using this
def st4 (W:World) (g:Nat) (a b c d:Value):World:=(((W.setCell ⟨g,0,none⟩ a).setCell ⟨g,1,none⟩ b).setCell ⟨g,2,none⟩ c).setCell ⟨g,3,none⟩ d
theorem Blk.set4 {W:World} {g:Nat} {t:TypeId} {a b c d:Value} (h:Blk W g t #[a,b,c,d]) (a' b' c' d':Value):Blk (st4 W g a' b' c' d') g t #[a',b',c',d']:=by
 have:=(((h.set 0 a').set 1 b').set 2 c').set 3 d';simp only [pB,pZ,pC] at this;exact this
theorem Blk.far4 {W:World} {g g':Nat} {t:TypeId} {cs:Array Value} (h:Blk W g t cs) (hne:g ≠ g') (a b c d:Value):Blk (st4 W g' a b c d) g t cs :=
 (((h.far (p:=⟨g',0,none⟩) hne a).far (p:=⟨g',1,none⟩) hne b).far (p:=⟨g',2,none⟩) hne c).far (p:=⟨g',3,none⟩) hne d
theorem below_set4 {B:Nat} {w W:World} (h:Below B w W) {g:Nat} (hg:B ≤ g) (a b c d:Value):Below B w (st4 W g a b c d) :=
 (((h.setCell (p:=⟨g,0,none⟩) hg a).setCell (p:=⟨g,1,none⟩) hg b).setCell (p:=⟨g,2,none⟩) hg c).setCell (p:=⟨g,3,none⟩) hg d
theorem Rep.of_blk {W:World} {g B n sz:Nat} {t:TypeId} {cs:Array Value} {ds:List D} (h:Blk W g t cs) (hl:cs.size = n * sz) (hr:RepL W B cs.toList ds) (hB:g < B):Rep W B (.slice (some ⟨g,0,none⟩) n n) (.s sz ds):=by
 refine Rep.mk (by rw [← hr.1,Array.length_toList,hl]) (Nat.le_refl _) hB hr (fun j u hu => ?_)
 rw [Nat.zero_add,h.cell j,← hu,Array.getElem?_toList]
def KeepsW (base:Nat) (w w':World):Prop:=Below base w w' ∧ ∀ (i:Nat) (o:Obj),w.heap[i]? = some o → (∀ cs fr,o ≠ .cells cs 101 fr) → (∀ cs fr,o ≠ .cells cs 5 fr) → w'.heap[i]? = some o
theorem KeepsW.refl (base:Nat) (w:World):KeepsW base w w:=⟨Below.refl _ _,fun _ _ h _ _ => h⟩
theorem KeepsW.trans {base:Nat} {a b c:World} (h:KeepsW base a b) (k:KeepsW base b c):KeepsW base a c:=⟨h.1.trans k.1,fun _ _ hi h1 h2 => k.2 _ _ (h.2 _ _ hi h1 h2) h1 h2⟩
theorem KeepsW.blk {base g:Nat} {w w':World} {t:TypeId} {cs:Array Value} (h:KeepsW base w w') (hb:Blk w g t cs) (h1:t ≠ 101) (h2:t ≠ 5):Blk w' g t cs :=
 h.2 g _ hb (fun _ _ e => by injection e with _ e;exact h1 e) (fun _ _ e => by injection e with _ e;exact h2 e)
theorem KeepsW.other {base i:Nat} {w w':World} {o:Obj} (h:KeepsW base w w') (ho:w.heap[i]? = some o) (hc:o.isCells = false):w'.heap[i]? = some o :=
 h.2 i o ho (fun _ _ e => by subst e;cases hc) (fun _ _ e => by subst e;cases hc)
theorem KeepsW.others {base:Nat} {w w':World} (h:KeepsW base w w'):KeepsOthers w w':=⟨h.1.size,fun _ _ hi ho => h.other hi ho⟩
theorem KeepsW.below {base B:Nat} {w w':World} (h:Below B w w') (hB:w.heap.size ≤ B) (hb:base ≤ B):KeepsW base w w' :=
 ⟨h.mono hb,fun i _ hi _ _ => (h.block i (Nat.lt_of_lt_of_le (Array.getElem?_eq_some_iff.1 hi).1 hB)).trans hi⟩
theorem KeepsW.drew {base:Nat} {w w':World} (h:KeepsW base w w'):KeepsW base w w'.drew:=⟨h.1.drew,h.2⟩
def WrAt (w:World) (base g:Nat) (bs:List Nat):Prop:=base ≤ g ∧ ∃ v n,Blk w g 101 #[v] ∧ w.ownsRow base 5 1 v n (bys bs)
theorem WrAt.grown {w w':World} {base g:Nat} {bs:List Nat} (h:WrAt w base g bs) (hb:Below w.heap.size w w'):WrAt w' base g bs:=by
 obtain ⟨hg,v,n,h1,h2⟩:=h;refine ⟨hg,v,n,h1.keep hb,?_⟩
 have hg:w.grownBy w' none:=⟨hb.os,hb.tape,hb.output,hb.size,fun i hi _ => hb.block i hi⟩
 exact h2.kept hg (by
  rcases h2.2 with ⟨e,_⟩ | ⟨k,c,cur,e,_⟩
  ·subst e;exact .inl rfl
  ·subst e;exact .inr (by simp [Value.ownBlock]))
theorem WrAt.drew {w:World} {base g:Nat} {bs:List Nat} (h:WrAt w base g bs):WrAt w.drew base g bs:=h
theorem WrAt.lt {w:World} {base g:Nat} {bs:List Nat} (h:WrAt w base g bs):g < w.heap.size:=by
 obtain ⟨_,_,_,h1,_⟩:=h;exact h1.lt
theorem WrAt.alloc {w:World} {base g:Nat} {bs:List Nat} (h:WrAt w base g bs) (o:Obj):WrAt (w.alloc o) base g bs:=h.grown (below_new w o)
theorem KeepsW.alloc (base:Nat) (w:World) (hb:base ≤ w.heap.size) (o:Obj):KeepsW base w (w.alloc o):=KeepsW.below (below_new w o) (Nat.le_refl _) hb
theorem wr_step {W w1:World} {base g n m:Nat} {v v':Value} {xs ys:List Value} (hbg:base ≤ g) (hv:Blk W g 101 #[v]) (hrow:W.ownsRow base 5 1 v n xs)
  (hown':w1.ownsRow base 5 1 v' m ys) (hgrow:W.grownBy w1 v.ownBlock) :
  Blk w1 g 101 #[v] ∧ Blk (w1.setCell ⟨g,0,none⟩ v') g 101 #[v'] ∧ (w1.setCell ⟨g,0,none⟩ v').ownsRow base 5 1 v' m ys ∧ KeepsW base W (w1.setCell ⟨g,0,none⟩ v'):=by
 have hne:∀ i o,W.heap[i]? = some o → (∀ cs fr,o ≠ .cells cs 5 fr) → some i ≠ v.ownBlock:=fun i o hi ho e => by
  rcases hrow.2 with ⟨rfl,_⟩ | ⟨k,cap,cur,rfl,_,hgb,_⟩
  ·simp [Value.ownBlock] at e
  ·obtain rfl:i = k:=by simpa [Value.ownBlock] using e
   rw [hgb] at hi;cases hi
   exact ho _ _ rfl
 have hv1:Blk w1 g 101 #[v]:=hv.grown hgrow (hne g _ hv (fun _ _ e => by injection e with _ e;cases e))
 have hbw:base ≤ W.heap.size:=Nat.le_trans hbg (Nat.le_of_lt hv.lt);refine ⟨hv1,hv1.set 0 v',?_,?_,fun i o hi h1 h2 => ?_⟩
 ·refine hown'.kept (grownBy_setCell' w1 g v') ?_
  rcases hown'.2 with ⟨rfl,_⟩ | ⟨k,cap,cur,rfl,_,hgb,_⟩
  ·exact .inl rfl
  ·refine .inr fun e => ?_
   obtain rfl:k = g:=by simpa [Value.ownBlock] using e
   exact absurd rfl (Blk.ne (t:=5) hgb hv1 (by decide))
 ·exact ((Below.refl base W).grown hgrow hbw (fun k e => (hrow.lt k e).1)).setCell (p:=⟨g,0,none⟩) hbg v'
 ·have hi1:=(hgrow.block i (Array.getElem?_eq_some_iff.1 hi).1 (hne i o hi h2)).trans hi
  refine (Below.heap_setCell w1 ⟨g,0,none⟩ v' i (fun e => ?_)).trans hi1
  dsimp only at e;subst e;rw [hv1] at hi1;cases hi1
  exact h1 _ _ rfl
theorem or_u8 {m:Int} (h0:0 ≤ m):bits .or .u8 (m % 256) 128 = 128 + m % 128:=by
 have key:∀ a:Nat,a < 256 → a ||| 128 = 128 + a % 128:=by decide +kernel
 obtain ⟨a,rfl⟩:∃ a:Nat,m = (a:Int):=⟨m.toNat,by omega⟩
 have ha:a % 256 < 256:=Nat.mod_lt _ (by decide)
 have e:((a:Int) % 256) = ((a % 256:Nat):Int):=by omega
 have k:=key (a % 256) ha;rw [e]
 have h1:(BitVec.ofInt 8 ((a % 256:Nat):Int)).toNat = a % 256:=by
  rw [BitVec.ofInt_natCast,BitVec.toNat_ofNat];exact Nat.mod_eq_of_lt (by omega)
 have h2:(BitVec.ofInt 8 (128:Int)).toNat = 128:=by decide
 show IntKind.u8.wrap ((BitVec.ofInt 8 ((a % 256:Nat):Int) ||| BitVec.ofInt 8 128).toNat:Int) = _
 rw [BitVec.toNat_or,h1,h2,k]
 have:IntKind.u8.wrap ((128 + a % 256 % 128:Nat):Int) = ((128 + a % 256 % 128:Nat):Int):=by
  rw [IntKind.wrap_u8];omega
 rw [this];omega
theorem wuint_any (g base:Nat) (bs:List Nat) (n:Int) (w:World) (hn0:0 ≤ n) (hn:n < 18446744073709551616) (hw:WrAt w base g bs) (hl:bs.length ≤ 1000000000) :
  Calls Tryz.prog 76 #[.pointer (some ⟨g,0,none⟩),.int .u64 n] w fun e w' => (∃ v,e = .returned v) ∧ WrAt w' base g (bs ++ uvL n.toNat) ∧ KeepsW base w w':=by
 obtain ⟨i0,hi,hz0,hz1,hz2⟩:=info_parts Tryz.info5;go_enter Tryz.func76,Tryz.ntmps76
 go_wp2;go_loopw [1] (fun t wr => ∃ (m:Int) (pre:List Nat),0 ≤ m ∧ m < 18446744073709551616 ∧ t = .int .u64 m ∧ WrAt wr base g (bs ++ pre) ∧ KeepsW base w wr ∧ uvL n.toNat = pre ++ uvL m.toNat) (fun t _ => (intOf t).toNat)
 case atStart => exact ⟨n,[],hn0,hn,rfl,by rw [List.append_nil];exact hw,KeepsW.refl _ _,rfl⟩
 case round =>
  obtain ⟨m,pre,hm0,hm1,rfl,⟨hbg,v,q,hv,hrow⟩,hk,hu⟩:=hrel;have HU:=Lib.hid hu
  have HL:pre.length ≤ 9:=by
   have:=uv_len10 (n:=n.toNat) (by omega)
   rw [hu,List.length_append] at this;have:=uv_pos m.toNat;omega
  have hL1:q + 1 ≤ 1000000010:=by
   have:=hrow.1;rw [bys_length,List.length_append] at this;omega
  have hgs:=hv.lt;clear hu hn hn0 hl hw;have hc:=hv.c1;have HOR:=or_u8 hm0;have hbw:base ≤ wr.heap.size:=by omega
  have HB:=Lib.hid hbw;by_cases h:128 ≤ m
  ·have HS:base ≤ (wr.alloc (.cells #[.int .u8 (128 + m % 128)] 5)).heap.size:=by simp;omega
   clear hbw;go_wp2_with (at_builtin;refine wpList_append_own_at _ rfl _ _ 55 rfl base 5 i0 (.int .u8 0) 1 1 Tryz.underlying55 hi hz0 hz1 hz2 rfl (by decide) v _ _ rfl (hrow.alloc _) ⟨wr.heap.size,0,none⟩ 1 1 [.int .u8 (128 + m % 128)] rfl rfl (cell_one_new _ _ _) (cell_u8 _) (by unfold maxLen;omega) (by omega) HS ?_;intro v1 w1 hown1 hg1 _ _;obtain ⟨g1,cap1,rfl⟩:=ownsRow_succ hown1;obtain ⟨k1,k2,k3,k4⟩:=wr_step hbg (hv.alloc _) (hrow.alloc _) hown1 hg1;have hc1:=k1.c1;clear hc hown1 hg1 k1)
   go_roundw
   case rel =>
    have hu:uvL n.toNat = (pre ++ [(128 + m % 128).toNat]) ++ uvL (m / 128).toNat:=by
     have h2:=uv_big (n:=m.toNat) (by omega)
     have e1:(128 + m % 128).toNat = 128 + m.toNat % 128:=by omega
     have e2:(m / 128).toNat = m.toNat / 128:=by omega
     rw [HU.out,h2,e1,e2,List.append_assoc];rfl
    have E:bys (bs ++ pre) ++ [Value.int .u8 (128 + m % 128)] = bys (bs ++ (pre ++ [(128 + m % 128).toNat])):=by rw [← List.append_assoc,bys_app (bs ++ pre),one_byte (k:=(128 + m % 128).toNat) (by omega)]
    rw [E] at k3;exact ⟨m / 128,pre ++ [(128 + m % 128).toNat],by omega,by omega,rfl,⟨hbg,_,_,k2,k3⟩,hk.trans ((KeepsW.alloc base wr HB.out _).trans k4),hu⟩
   case measure => simp [intOf];omega
  ·have HS:base ≤ (wr.alloc (.cells #[.int .u8 m] 5)).heap.size:=by simp;omega
   clear hbw;go_wp2_with (at_builtin;refine wpList_append_own_at _ rfl _ _ 55 rfl base 5 i0 (.int .u8 0) 1 1 Tryz.underlying55 hi hz0 hz1 hz2 rfl (by decide) v _ _ rfl (hrow.alloc _) ⟨wr.heap.size,0,none⟩ 1 1 [.int .u8 (m)] rfl rfl (cell_one_new _ _ _) (cell_u8 _) (by unfold maxLen;omega) (by omega) HS ?_;intro v1 w1 hown1 hg1 _ _;obtain ⟨g1,cap1,rfl⟩:=ownsRow_succ hown1;obtain ⟨k1,k2,k3,k4⟩:=wr_step hbg (hv.alloc _) (hrow.alloc _) hown1 hg1;have hc1:=k1.c1;clear hc hown1 hg1 k1)
   go_end0;have hu:uvL n.toNat = pre ++ [m.toNat]:=by rw [← uv_small (n:=m.toNat) (by omega)];exact HU.out
   have E:bys (bs ++ pre) ++ [Value.int .u8 m] = bys (bs ++ uvL n.toNat):=by rw [hu,← List.append_assoc,bys_app (bs ++ pre),one_byte (k:=m.toNat) (by omega)]
   rw [E] at k3;exact ⟨⟨_,rfl⟩,⟨hbg,_,_,k2,k3⟩,hk.trans ((KeepsW.alloc base wr HB.out _).trans k4)⟩
def intL (n:Int):List Nat:=uvL (zz n)
def rawL (bs:List Nat):List Nat:=uvL bs.length ++ bs
def intsL (l:List Int):List Nat:=uvL l.length ++ l.flatMap intL
theorem zz_lt {n:Int} (h0:-9223372036854775808 ≤ n) (h1:n ≤ 9223372036854775807):(zz n:Int) < 18446744073709551616:=by
 unfold zz;by_cases h:n < 0
 ·rw [if_pos h];omega
 ·rw [if_neg h];omega
theorem intL_len {n:Int} (h0:-9223372036854775808 ≤ n) (h1:n ≤ 9223372036854775807):(intL n).length ≤ 10:=by
 have:=zz_lt h0 h1;exact uv_len10 (by omega)
theorem wint_any (g base:Nat) (bs:List Nat) (n:Int) (w:World) (h0:-9223372036854775808 ≤ n) (h1:n ≤ 9223372036854775807) (hw:WrAt w base g bs) (hl:bs.length ≤ 1000000000) :
  Calls Tryz.prog 50 #[.pointer (some ⟨g,0,none⟩),.int .i64 n] w fun e w' => (∃ v,e = .returned v) ∧ WrAt w' base g (bs ++ intL n) ∧ KeepsW base w w':=by
 have HZ:=Lib.hid (fun W => zig_any n W h0 h1)
 have HL:=Lib.hid (zz_lt h0 h1);have HT:=Lib.hid (Int.toNat_natCast (zz n));clear h0 h1;go_enter Tryz.func50,Tryz.ntmps50
 go_wp2_with (first
  | (go_at_call 103;refine (HZ.out _).mono ?_;rintro e w' ⟨rfl,rfl⟩)
  | (go_at_call 76;refine (wuint_any g base bs _ _ (Int.natCast_nonneg _) HL.out hw hl).mono ?_;rintro e w' ⟨⟨v,rfl⟩,hw',hk⟩))
 go_end0;rw [HT.out] at hw';exact ⟨⟨_,rfl⟩,hw',hk⟩
theorem own_slice {w:World} {base:Nat} {e:TypeId} {size n:Nat} {v:Value} {xs:List Value} (h:w.ownsRow base e size v n xs):∃ A c,v = .slice A n c:=by
 rcases h.2 with ⟨rfl,rfl⟩ | ⟨g,cap,cur,rfl,_⟩
 ·exact ⟨none,0,rfl⟩
 ·exact ⟨_,_,rfl⟩
theorem sb_nums (cs:List Nat) (h:Bytes cs):sb (strOfNums (cs.map fun (b:Nat) => (b:Int))) = cs:=by
 unfold sb;rw [strOfNums_data,List.map_map,List.map_map]
 conv => rhs;rw [← List.map_id cs]
 refine List.map_congr_left fun x hx => ?_
 have:=h x hx;simp only [Function.comp,Int.toNat_natCast,id];rw [UInt8.toNat_ofNat'];omega
theorem conv_bytes (cs:List Nat) (hb:Bytes cs) (A:Option Addr) (c:Nat) (w:World) (B:Nat) (hA:∀ a,A = some a → ∃ b o,a = ⟨b,o,none⟩) (hcell:∀ (k:Nat) (u:Value),(bys cs)[k]? = some u → ∃ b o,A = some ⟨b,o,none⟩ ∧ b < B ∧ w.cell? ⟨b,o + k,none⟩ = some u) :
  ∃ s,sb s = cs ∧ (convert 55 9 (.slice A cs.length c)).run Tryz.prog w = .ok (.string s) w:=by
 cases A with
 | none =>
  have h0:cs = []:=by
   cases cs with
   | nil => rfl
   | cons x l =>
    obtain ⟨b,o,h,_⟩:=hcell 0 _ rfl;cases h
  subst h0;exact ⟨_,rfl,run_convert_bytes_nil w 55 5 Tryz.underlying55 Tryz.underlying5 _ _ _ Tryz.underlying9⟩
 | some a =>
  refine ⟨_,sb_nums cs hb,?_⟩
  obtain ⟨b,o,e⟩:=hA a rfl;subst e;refine run_convert_bytes_arg w 55 5 Tryz.underlying55 Tryz.underlying5 b o cs.length c (cs.map fun (b:Nat) => (b:Int)) (List.length_map ..) (fun i hi => ?_) _ Tryz.underlying9
  obtain ⟨b',o',h,_,hc⟩:=hcell i _ (bys_get cs i hi);injection h with h
  injection h with h1 h2
  subst h1 h2;rw [hc,List.getD,List.getElem?_map,List.getElem?_eq_getElem hi]
  rfl
theorem strCells_sb (s:ByteArray):Lib.strCells s = bys (sb s):=by
 unfold Lib.strCells bys sb;rw [List.map_map];rfl
theorem wtext_any (g base:Nat) (bs:List Nat) (s:ByteArray) (w:World) (hw:WrAt w base g bs) (hl:bs.length ≤ 1000000000) (hs:s.size ≤ 1000000000) :
  Calls Tryz.prog 105 #[.pointer (some ⟨g,0,none⟩),.string s] w fun e w' => (∃ v,e = .returned v) ∧ WrAt w' base g (bs ++ (uvL s.size ++ sb s)) ∧ KeepsW base w w':=by
 obtain ⟨i0,hi,hz0,hz1,hz2⟩:=info_parts Tryz.info5;have HN:=Lib.hid (uv_len10 (n:=s.size) (by omega))
 go_enter Tryz.func105,Tryz.ntmps105
 go_upto_region 1 with (go_at_call 76;refine (wuint_any g base bs _ _ (by omega) (by omega) hw hl).mono ?_;rintro e w1 ⟨⟨v,rfl⟩,⟨hbg,v,q,hv,hrow⟩,hk⟩)
 have hc:=hv.c1;have hgs:=hv.lt;rw [Int.toNat_natCast] at hrow
 have hq:q + s.size ≤ 3000000000:=by
  have h1:=hrow.1;have h2:=HN.out;rw [bys_length,List.length_append] at h1;omega
 have hb:base ≤ w1.heap.size:=by omega
 have HB:=Lib.hid hb;go_wp2_with (at_builtin;refine Lib.wpList_append_own_string _ rfl _ _ 55 9 rfl base 5 i0 Tryz.underlying55 Tryz.underlying9 hi hz0 hz1 hz2 v _ _ rfl hrow s rfl (by unfold maxLen;omega) (by omega) hb ?_;intro v1 w2 hown1 hg1 _;rw [strCells_sb,← bys_app,List.append_assoc] at hown1;obtain ⟨A1,c1,rfl⟩:=own_slice hown1;obtain ⟨k1,k2,k3,k4⟩:=wr_step hbg hv hrow hown1 hg1;have hc1:=k1.c1;clear hc hown1 hg1 k1)
 go_end0;exact ⟨⟨_,rfl⟩,⟨hbg,_,_,k2,k3⟩,hk.trans k4⟩
theorem wraw_any (g base:Nat) (bs cs:List Nat) (v:Value) (w:World) (hw:WrAt w base g bs) (hl:bs.length ≤ 1000000000) (hs:cs.length ≤ 1000000000) (hcb:Bytes cs) (hr:Rep w w.heap.size v (.s 1 (valD (bys cs)))) :
  Calls Tryz.prog 52 #[.pointer (some ⟨g,0,none⟩),v] w fun e w' => (∃ v,e = .returned v) ∧ WrAt w' base g (bs ++ rawL cs) ∧ KeepsW base w w':=by
 obtain ⟨A,c,rfl,hc,hcell⟩:=hr.row;rw [bys_length] at hc ⊢;obtain ⟨s,hsb,hrun⟩:=conv_bytes cs hcb A c w w.heap.size hr.spot hcell;have hsz:s.size = cs.length:=by rw [← hsb,sb_length]
 have HS:=Lib.hid hsz;have hsl:s.size ≤ 1000000000:=by omega
 have HB:=Lib.hid hsb;clear hr hcell hsz hsb;go_enter Tryz.func52,Tryz.ntmps52
 go_wp2_with (go_at_call 105;refine (wtext_any g base bs s _ hw hl hsl).mono ?_;rintro e w1 ⟨⟨v,rfl⟩,hw1,hk⟩)
 go_end0;rw [HS.out,HB.out] at hw1;exact ⟨⟨_,rfl⟩,hw1,hk⟩
def I64s (l:List Int):Prop:=∀ n ∈ l,-9223372036854775808 ≤ n ∧ n ≤ 9223372036854775807
theorem ints_flat_len {l:List Int} (h:I64s l):(l.flatMap intL).length ≤ 10 * l.length:=by
 induction l with
 | nil => simp
 | cons a l ih =>
  have h1:=h a List.mem_cons_self;have h2:=intL_len h1.1 h1.2;have h3:=ih (fun n hn => h n (List.mem_cons_of_mem _ hn))
  rw [List.flatMap_cons,List.length_append,List.length_cons];omega
theorem wints_gen (g base:Nat) (bs:List Nat) (l:List Int) (A:Option Addr) (c:Nat) (w:World) (hw:WrAt w base g bs) (hl:bs.length + 10 * l.length ≤ 900000000) (hli:I64s l) (hcell:∀ W',KeepsW base w W' → ∀ (k:Nat) (hk:k < l.length),∃ b o,A = some ⟨b,o,none⟩ ∧ W'.cell? ⟨b,o + k,none⟩ = some (.int .i64 l[k])) :
  Calls Tryz.prog 108 #[.pointer (some ⟨g,0,none⟩),.slice A l.length c] w fun e w' => (∃ v,e = .returned v) ∧ WrAt w' base g (bs ++ intsL l) ∧ KeepsW base w w':=by
 have HN:=Lib.hid (uv_len10 (n:=l.length) (by omega))
 go_enter Tryz.func108,Tryz.ntmps108
 go_upto_region 1 with (go_at_call 76;refine (wuint_any g base bs _ _ (by omega) (by omega) hw (by omega)).mono ?_;rintro e w1 ⟨⟨v,rfl⟩,hw1,hk⟩)
 rw [Int.toNat_natCast] at hw1;go_wp2_with fail;go_loopw [13] (fun i wr => ∃ k:Nat,i = .int .i64 (k:Int) ∧ k ≤ l.length ∧ WrAt wr base g (bs ++ uvL l.length ++ (l.take k).flatMap intL) ∧ KeepsW base w wr) (fun i _ => l.length - (intOf i).toNat)
 case atStart => exact ⟨0,rfl,Nat.zero_le _,by simpa using hw1,hk⟩
 case round =>
  obtain ⟨k,rfl,hk0,hwr,hkr⟩:=hrel;by_cases hlt:k < l.length
  ·obtain ⟨b,o,rfl,hcr⟩:=hcell wr hkr k hlt
   have HI:=Lib.hid (hli l[k] (List.getElem_mem hlt))
   have HT:(l.take (k + 1)).flatMap intL = (l.take k).flatMap intL ++ intL l[k]:=by
    rw [List.take_add_one,List.getElem?_eq_getElem hlt,List.flatMap_append]
    simp
   have HT:=Lib.hid HT
   have HL:(bs ++ uvL l.length ++ (l.take k).flatMap intL).length ≤ 1000000000:=by
    have h1:=ints_flat_len (l:=l.take k) (fun n hn => hli n (List.mem_of_mem_take hn))
    have h2:=HN.out;have h3:=List.length_take_le k l;simp only [List.length_append];omega
   have HL:=Lib.hid HL;have HW:=Lib.hid hwr;clear hcell hwr hli hw hw1;generalize l[k] = n at *;go_wp2_with (go_at_call 50;refine (wint_any g base _ n _ HI.out.1 HI.out.2 HW.out HL.out).mono ?_;rintro e w2 ⟨⟨v,rfl⟩,hw2,hk2⟩)
   rw [List.append_assoc,← HT.out] at hw2;go_roundw
   case rel => exact ⟨k + 1,by go_num,by omega,hw2,hkr.trans hk2⟩
   case measure => simp [intOf];omega
  ·obtain rfl:k = l.length:=by omega
   rw [List.take_length,List.append_assoc] at hwr;have HW:=Lib.hid hwr;clear hwr hw hw1;go_wp2_with fail;go_end0;exact ⟨⟨_,rfl⟩,HW.out,hkr⟩
theorem wints_blk (g base:Nat) (bs:List Nat) (l:List Int) (n q:Nat) (cs:Array Value) (hcs:cs = (ints l).toArray) (hn:l.length = n) (w:World) (hw:WrAt w base g bs) (hl:bs.length + 10 * l.length ≤ 900000000) (hli:I64s l) (hb:Blk w q 3 cs) :
  Calls Tryz.prog 108 #[.pointer (some ⟨g,0,none⟩),.slice (some ⟨q,0,none⟩) n n] w fun e w' => (∃ v,e = .returned v) ∧ WrAt w' base g (bs ++ intsL l) ∧ KeepsW base w w':=by
 subst hcs hn;refine wints_gen g base bs l _ _ w hw hl hli (fun W' hW k hk => ⟨q,0,rfl,?_⟩)
 have h1:=hW.blk hb (by decide) (by decide)
 rw [Nat.zero_add,h1.cell k];rw [List.getElem?_toArray,ints_get l k hk]
def OwnB (w:World) (base:Nat) (v:Value) (bs:List Nat):Prop:=∃ n,w.ownsRow base 5 1 v n (bys bs)
theorem OwnB.rep {w:World} {base:Nat} {v:Value} {bs:List Nat} (h:OwnB w base v bs):Rep w w.heap.size v (.s 1 (valD (bys bs))):=by
 obtain ⟨n,h⟩:=h;exact Rep.of_own_plain h
theorem OwnB.slice {w:World} {base:Nat} {v:Value} {bs:List Nat} (h:OwnB w base v bs):∃ A c,v = .slice A bs.length c:=by
 obtain ⟨n,h⟩:=h;obtain ⟨A,c,rfl⟩:=own_slice h;have:=h.1;rw [bys_length,Nat.mul_one] at this;exact ⟨A,c,by rw [this]⟩
theorem OwnB.mono {w:World} {base base':Nat} {v:Value} {bs:List Nat} (h:OwnB w base v bs) (hb:base' ≤ base):OwnB w base' v bs:=by
 obtain ⟨n,h1,h2⟩:=h;refine ⟨n,h1,?_⟩
 rcases h2 with h2 | ⟨g,cap,cur,e,hg,h3⟩
 ·exact .inl h2
 ·exact .inr ⟨g,cap,cur,e,Nat.le_trans hb hg,h3⟩
theorem OwnB.nil (w:World) (base:Nat):OwnB w base (.slice none 0 0) []:=⟨0,World.ownsRow_nil _ _ _ _⟩
theorem OwnB.below {w w':World} {base:Nat} {v:Value} {bs:List Nat} (h:OwnB w base v bs) (hb:Below w.heap.size w w'):OwnB w' base v bs:=by
 obtain ⟨n,h⟩:=h;have hg:w.grownBy w' none:=⟨hb.os,hb.tape,hb.output,hb.size,fun i hi _ => hb.block i hi⟩
 refine ⟨n,h.kept hg ?_⟩
 rcases h.2 with ⟨e,_⟩ | ⟨k,c,cur,e,_⟩
 ·subst e;exact .inl rfl
 ·subst e;exact .inr (by simp [Value.ownBlock])
theorem OwnB.alloc {w:World} {base:Nat} {v:Value} {bs:List Nat} (h:OwnB w base v bs) (o:Obj):OwnB (w.alloc o) base v bs:=h.below (below_new w o)
theorem OwnB.drew {w:World} {base:Nat} {v:Value} {bs:List Nat} (h:OwnB w base v bs):OwnB w.drew base v bs:=h
theorem OwnB.lt {w:World} {base:Nat} {v:Value} {bs:List Nat} (h:OwnB w base v bs):∀ k,v.ownBlock = some k → base ≤ k:=by
 obtain ⟨n,h⟩:=h;exact fun k hk => (h.lt k hk).1
theorem run_appB (w:World) (ty:TypeId) (base:Nat) (v:Value) (bs:List Nat) (hown:OwnB w base v bs) (src:Value) (cs:List Nat) {B:Nat} (hr:Rep w B src (.s 1 (valD (bys cs)))) (hl:bs.length + cs.length ≤ 100000000000) (hbase:base ≤ w.heap.size) :
  ∃ v' w',(Builtin.append_ #[55,55] ty #[v,src]).run Tryz.prog w = .ok v' w' ∧ OwnB w' base v' (bs ++ cs) ∧ w.grownBy w' v.ownBlock:=by
 obtain ⟨n,hown⟩:=hown;obtain ⟨i0,hi,hz0,hz1,hz2⟩:=info_parts Tryz.info5;have hn:=hown.1;rw [bys_length,Nat.mul_one] at hn;obtain ⟨A,c,rfl,hc,hcell⟩:=hr.row;rw [bys_length]
 cases A with
 | none =>
  have h0:cs = []:=by
   cases cs with
   | nil => rfl
   | cons x l =>
    obtain ⟨b,o,h,_⟩:=hcell 0 _ rfl;cases h
  subst h0
  have hc0:c = 0:=by
   cases hr
   rfl
  subst hc0;exact ⟨v,w,run_append_owned_none (P:=Tryz.prog) (w:=w) base 55 ty 5 i0 1 Tryz.underlying55 hi v n _ hown,⟨n,by simpa using hown⟩,World.grownBy.refl w _⟩
 | some ad =>
  obtain ⟨b,o,rfl⟩:=hr.spot ad rfl
  obtain ⟨v',w',h1,h2,h3,_⟩:=run_append_own (P:=Tryz.prog) w base 55 ty 5 i0 (.int .u8 0) 1 1 Tryz.underlying55 hi hz0 hz1 hz2 rfl (by decide) v n _ hown ⟨b,o,none⟩ cs.length c (bys cs) (by rw [bys_length,Nat.mul_one])
   (fun j u hu => by
    obtain ⟨b',o',h,_,hcc⟩:=hcell j u hu;cases h
    rw [Addr.add_lit];exact hcc) (fun u hu => by obtain ⟨x,_,rfl⟩:=List.mem_map.1 hu;rfl) (by unfold maxLen;omega) (by omega) hbase
  exact ⟨v',w',h1,⟨_,by rw [bys_app];exact h2⟩,h3⟩
theorem wp_app_run {P:Program} {w w':World} {o:Oper} {a:Act} {K:Act → World → Prop} {Q:Exit → Act → World → Prop} (s x:Operand) (t:TypeId) (v src v':Value)
  (ho:o.op = .call { callee:=.builtin .append,args:=#[s,x],argTypes:=#[t,t] }) (hs:a.eval s = v) (hx:a.eval x = src)
  (hrun:(Builtin.append_ #[t,t] o.type #[v,src]).run P w = .ok v' w') (h:K (a.put o.dst v') w'):o.wp P a w K Q:=by
 unfold Oper.wp execOp;simp only [ho,resolve,invoke,builtin,Sem.run_bind,Sem.run_pure,Result.andThen_ok,List.map_toArray,List.map_cons,List.map_nil,hs,hx,hrun];exact h
theorem wp_appB {w:World} {o:Oper} {a:Act} {K:Act → World → Prop} {Q:Exit → Act → World → Prop} (s x:Operand)
  (ho:o.op = .call { callee:=.builtin .append,args:=#[s,x],argTypes:=#[55,55] })
  (base:Nat) (v:Value) (bs:List Nat) (hs:a.eval s = v) (hown:OwnB w base v bs) (src:Value) (cs:List Nat) (hx:a.eval x = src) {B:Nat} (hr:Rep w B src (.s 1 (valD (bys cs)))) (hl:bs.length + cs.length ≤ 100000000000) (hbase:base ≤ w.heap.size)
  (h:∀ v' w',OwnB w' base v' (bs ++ cs) → w.grownBy w' v.ownBlock → K (a.put o.dst v') w'):o.wp Tryz.prog a w K Q :=
 let ⟨v',w',hrun,h2,h3⟩:=run_appB w o.type base v bs hown src cs hr hl hbase
 wp_app_run s x 55 v src v' ho hs hx hrun (h v' w' h2 h3)
theorem wpList_appB {w:World} {ops:Array Oper} {rest:List Oper} {o:Oper} {a:Act} {Q:Exit → Act → World → Prop} (hgd:o.guard = none) (s x:Operand)
  (ho:o.op = .call { callee:=.builtin .append,args:=#[s,x],argTypes:=#[55,55] })
  (base:Nat) (v:Value) (bs:List Nat) (hs:a.eval s = v) (hown:OwnB w base v bs) (src:Value) (cs:List Nat) (hx:a.eval x = src) {B:Nat} (hr:Rep w B src (.s 1 (valD (bys cs)))) (hl:bs.length + cs.length ≤ 100000000000) (hbase:base ≤ w.heap.size)
  (h:∀ v' w',OwnB w' base v' (bs ++ cs) → w.grownBy w' v.ownBlock → wpList Tryz.prog ops Q rest (a.put o.dst v') w'):wpList Tryz.prog ops Q (o :: rest) a w :=
 wpList_plain hgd fun _ hK => wp_appB s x ho base v bs hs hown src cs hx hr hl hbase fun v' w' h2 h3 => hK _ _ (h v' w' h2 h3)
theorem refuint_own (n:Nat) (hn:n < 18446744073709551616) (w:World) :
  Calls Tryz.prog 89 #[.int .u64 (n:Int)] w fun e w' => ∃ v,e = .returned v ∧ OwnB w' w.heap.size v (uvL n) ∧ Below w.heap.size w w':=by
 refine (refuint_any n w (by omega) (by omega)).mono ?_
 rintro e w' ⟨v,he,h1,h2⟩;rw [Int.toNat_natCast] at h1;exact ⟨v,he,⟨_,h1⟩,h2⟩
theorem refint_any (n:Int) (h0:-9223372036854775808 ≤ n) (h1:n ≤ 9223372036854775807) (w:World) :
  Calls Tryz.prog 88 #[.int .i64 n] w fun e w' => ∃ v,e = .returned v ∧ OwnB w' w.heap.size v (intL n) ∧ Below w.heap.size w w':=by
 have HZ:=Lib.hid (fun W => refzig_any n W h0 h1)
 have hzl:=zz_lt h0 h1;have HU:=Lib.hid (fun W => refuint_own (zz n) (by omega) W)
 clear hzl h0 h1;go_enter Tryz.func88,Tryz.ntmps88
 go_wp2_with (first
  | (go_at_call 136;refine (HZ.out _).mono ?_;rintro e w' ⟨rfl,rfl⟩)
  | (go_at_call 89;refine (HU.out _).mono ?_;rintro e w' ⟨v,rfl,ho,hb⟩))
 go_ret;exact ⟨_,rfl,ho,hb⟩
theorem refraw_any (v:Value) (cs:List Nat) (w:World) (hl:cs.length ≤ 1000000000) (hr:Rep w w.heap.size v (.s 1 (valD (bys cs)))) :
  Calls Tryz.prog 86 #[v] w fun e w' => ∃ v,e = .returned v ∧ OwnB w' w.heap.size v (rawL cs) ∧ Below w.heap.size w w':=by
 obtain ⟨A,c,e,hc,hcell⟩:=hr.row;rw [bys_length] at e;subst e;have HU:=Lib.hid (fun W => refuint_own cs.length (by omega) W)
 have HR:=Lib.hid hr;have hul:=uv_len10 (n:=cs.length) (by omega)
 clear hr hcell hc;go_enter Tryz.func86,Tryz.ntmps86
 go_wp2_with (first
  | (go_at_call 89;refine (HU.out _).mono ?_;rintro e w1 ⟨v1,rfl,ho1,hb1⟩)
  | (at_builtin;refine wpList_appB rfl _ _ rfl w.heap.size v1 _ rfl ho1 _ cs rfl (HR.out.keep (fun p hp => hb1.cell hp) (Nat.le_refl _)) (by omega) hb1.size ?_;intro v2 w2 ho2 hg2))
 go_ret;exact ⟨_,rfl,ho2,hb1.grown hg2 hb1.size ho1.lt⟩
theorem refints_any (l:List Int) (v:Value) (w:World) (hl:l.length ≤ 1000000) (hli:I64s l) (hr:Rep w w.heap.size v (.s 1 (valD (ints l)))) :
  Calls Tryz.prog 186 #[v] w fun e w' => ∃ v,e = .returned v ∧ OwnB w' w.heap.size v (intsL l) ∧ Below w.heap.size w w':=by
 obtain ⟨A,c,rfl,hc,hcell⟩:=hr.row;rw [ints_length] at hc ⊢;have HU:=Lib.hid (fun W => refuint_own l.length (by omega) W)
 have hul:=uv_len10 (n:=l.length) (by omega)
 clear hr;go_enter Tryz.func186,Tryz.ntmps186
 go_wp2_with (go_at_call 89;refine (HU.out _).mono ?_;rintro e w1 ⟨v1,rfl,ho1,hb1⟩)
 go_loopw [3,4] (fun u i wr => ∃ k:Nat,i = .int .i64 (k:Int) ∧ k ≤ l.length ∧ OwnB wr w.heap.size u (uvL l.length ++ (l.take k).flatMap intL) ∧ Below w.heap.size w wr) (fun _ i _ => l.length - (intOf i).toNat)
 case atStart => exact ⟨0,rfl,Nat.zero_le _,by simpa using ho1,hb1⟩
 case round =>
  obtain ⟨k,rfl,hk,hor,hbr⟩:=hrel;by_cases hlt:k < l.length
  ·obtain ⟨b,o,rfl,hb,hcw⟩:=hcell k _ (ints_get l k hlt)
   have hcr:=(hbr.cell (p:=⟨b,o + k,none⟩) hb).trans hcw;have hln:=hli l[k] (List.getElem_mem hlt);have HI:=Lib.hid (fun W => refint_any l[k] hln.1 hln.2 W)
   have hil:=intL_len hln.1 hln.2
   have HT:uvL l.length ++ (l.take (k + 1)).flatMap intL = uvL l.length ++ (l.take k).flatMap intL ++ intL l[k]:=by
    rw [List.take_add_one,List.getElem?_eq_getElem hlt,List.flatMap_append]
    simp
   have HTH:=Lib.hid HT
   have HL:(uvL l.length ++ (l.take k).flatMap intL).length ≤ 20000010:=by
    have h1:=ints_flat_len (l:=l.take k) (fun n hn => hli n (List.mem_of_mem_take hn))
    have h3:=List.length_take_le k l;rw [List.length_append];omega
   clear hcw hcell ho1 HT hln;generalize l[k] = n at *;generalize uvL l.length ++ (l.take k).flatMap intL = bs at *
   go_wp2_with (first
    | (go_at_call 88;refine (HI.out _).mono ?_;rintro e w2 ⟨v2,rfl,ho2,hb2⟩)
    | (at_builtin;refine wpList_appB rfl _ _ rfl w.heap.size _ bs rfl (hor.below hb2) _ (intL n) rfl ho2.rep (by omega) (Nat.le_trans hbr.size hb2.size) ?_;intro v3 w3 ho3 hg3))
   rw [← HTH.out] at ho3;have hb3:=(hbr.trans (hb2.mono hbr.size)).grown hg3 (Nat.le_trans hbr.size hb2.size) hor.lt;go_roundw
   case rel => exact ⟨k + 1,by go_num,by omega,ho3,hb3⟩
   case measure => simp [intOf];omega
  ·obtain rfl:k = l.length:=by omega
   rw [List.take_length] at hor;have HO:=Lib.hid hor;clear hor ho1;go_wp2_with fail;go_ret;exact ⟨_,rfl,HO.out,hbr⟩
theorem Rep.mono {W W':World} {B B':Nat} (hk:∀ (p:Addr) (u:Value),p.block < B → W.cell? p = some u → W'.cell? p = some u) (hB:B ≤ B') {v:Value} {d:D} (h:Rep W B v d):Rep W' B' v d:=by
 induction h with
 | v x => exact .v x
 | nil sz => exact .nil sz
 | s hc hd hn hb cells sub ih => exact .s hc hd hn (Nat.lt_of_lt_of_le hb hB) (fun j u hu => hk _ u hb (cells j u hu)) ih
theorem RepL.mono {W W':World} {B B':Nat} (hk:∀ (p:Addr) (u:Value),p.block < B → W.cell? p = some u → W'.cell? p = some u) (hB:B ≤ B') {cs:List Value} {ds:List D} (h:RepL W B cs ds):RepL W' B' cs ds :=
 ⟨h.1,fun j u d hu hd => (h.2 j u d hu hd).mono hk hB⟩
def maskW (w:World):Option Nat → World
 | none => w
 | some g => w.putObj g (.deferred none)
theorem mask_other {w:World} {r:Option Nat} {p:Addr} (h:r ≠ some p.block):(maskW w r).cell? p = w.cell? p:=by
 cases r with
 | none => rfl
 | some g => exact World.cell?_of_block (World.putObj_heap_other (fun e => h (by rw [e])))
theorem mask_none {w:World} {g:Nat} (hg:g < w.heap.size) {p:Addr} (h:p.block = g):(maskW w (some g)).cell? p = none:=by
 have h1:(w.putObj g (.deferred none)).heap[p.block]? = some (.deferred none):=by
  rw [h];simp [World.putObj,hg]
 show (w.putObj g (.deferred none)).cell? p = none
 unfold World.cell?;rw [h1]
theorem mask_move {w w':World} {r r':Option Nat} {B:Nat} (hr:∀ g,r = some g → g < w.heap.size) (hs:∀ i,i < B → r ≠ some i → w'.heap[i]? = w.heap[i]?) (hr':r' = r ∨ ∀ i,r' = some i → B ≤ i) (p:Addr) (u:Value) (hp:p.block < B) (h:(maskW w r).cell? p = some u):(maskW w' r').cell? p = some u:=by
 have h1:r ≠ some p.block:=fun e => by
  subst e;rw [mask_none (hr _ rfl) rfl] at h;cases h
 have h2:r' ≠ some p.block:=fun e => by
  rcases hr' with e2 | e2
  ·exact h1 (e2.symm.trans e)
  ·have:=e2 _ e
   omega
 rw [mask_other h1] at h;rw [mask_other h2,World.cell?_of_block (hs _ hp h1)]
 exact h
def OwnL (w:World) (base:Nat) (e:TypeId) (size:Nat) (v:Value) (ds:List D):Prop:=∃ n xs,w.ownsRow base e size v n xs ∧ RepL (maskW w v.ownBlock) w.heap.size xs ds
theorem OwnL.nil (w:World) (base:Nat) (e:TypeId) (size:Nat):OwnL w base e size (.slice none 0 0) []:=⟨0,[],World.ownsRow_nil _ _ _ _,RepL.nil _ _⟩
theorem OwnL.step {w w':World} {base n':Nat} {e:TypeId} {size:Nat} {v v':Value} {xs news:List Value} {n:Nat} {ds es:List D} (h1:w.ownsRow base e size v n xs) (h2:RepL (maskW w v.ownBlock) w.heap.size xs ds)
  (hn:RepL (maskW w v.ownBlock) w.heap.size news es) (hown:w'.ownsRow base e size v' n' (xs ++ news)) (hg:w.grownBy w' v.ownBlock) (hloc:v'.ownBlock = v.ownBlock ∨ v'.ownBlock = some w.heap.size):OwnL w' base e size v' (ds ++ es):=by
 refine ⟨n',_,hown,(h2.append hn).mono (fun p u hp hu => mask_move (fun g e => (h1.lt g e).2) (fun i hi hne => hg.block i hi (fun e => hne e.symm)) ?_ p u hp hu) hg.size⟩
 rcases hloc with e | e
 ·exact .inl e
 ·exact .inr fun i hi => by rw [e] at hi;cases hi;exact Nat.le_refl _
theorem OwnL.below {w w':World} {base:Nat} {e:TypeId} {size:Nat} {v:Value} {ds:List D} (h:OwnL w base e size v ds) (hb:Below w.heap.size w w'):OwnL w' base e size v ds:=by
 obtain ⟨n,xs,h1,h2⟩:=h;have hg:w.grownBy w' none:=⟨hb.os,hb.tape,hb.output,hb.size,fun i hi _ => hb.block i hi⟩
 refine ⟨n,xs,h1.kept hg ?_,h2.mono (fun p u hp hu => mask_move (fun g e => (h1.lt g e).2) (fun i hi _ => hb.block i hi) (.inl rfl) p u hp hu) hb.size⟩
 rcases h1.2 with ⟨e,_⟩ | ⟨k,c,cur,e,_⟩
 ·subst e;exact .inl rfl
 ·subst e;exact .inr (by simp [Value.ownBlock])
def hideO (ts:List TypeId):Obj → Obj
 | .cells c t f => if t ∈ ts then .deferred none else .cells c t f
 | o => o
def maskM (ts:List TypeId) (H:List Nat) (w:World):World:={ w with heap:=w.heap.mapIdx fun i o => if i ∈ H then .deferred none else hideO ts o }
def Hidden (ts:List TypeId) (w:World) (g:Nat):Prop:=∃ c t f,w.heap[g]? = some (.cells c t f) ∧ t ∈ ts
theorem maskM_cell {ts:List TypeId} {H:List Nat} {w:World} {p:Addr} {u:Value}:(maskM ts H w).cell? p = some u ↔ w.cell? p = some u ∧ ¬ Hidden ts w p.block ∧ p.block ∉ H:=by
 unfold World.cell? maskM Hidden;simp only [Array.getElem?_mapIdx]
 cases h:w.heap[p.block]? with
 | none => simp
 | some o =>
  by_cases hH:p.block ∈ H
  ·simp [hH]
  ·cases o with
   | cells c t f =>
    by_cases ht:t ∈ ts
    ·simp [hideO,ht,hH]
    ·simp [hideO,ht,hH]
   | _ => simp [hideO,hH]
theorem Hidden.grown {ts:List TypeId} {w w':World} {g:Nat} {row:Option Nat} (hg:w.grownBy w' row) (hlt:g < w.heap.size) (hne:some g ≠ row):Hidden ts w' g ↔ Hidden ts w g:=by
 unfold Hidden;rw [hg.block g hlt hne]
theorem mask_step {ts:List TypeId} {H H':List Nat} {w w':World} {row:Option Nat} (hg:w.grownBy w' row) (hrow:∀ g,row = some g → g < w.heap.size → Hidden ts w g ∨ g ∈ H) (hH:∀ i ∈ H',i ∈ H ∨ w.heap.size ≤ i) {p:Addr} {u:Value}
  (h:(maskM ts H w).cell? p = some u):(maskM ts H' w').cell? p = some u:=by
 obtain ⟨h1,h2,h3⟩:=maskM_cell.1 h;have hlt:=World.block_lt_of_cell? w p h1
 have hne:some p.block ≠ row:=fun e => by
  rcases hrow _ e.symm hlt with h4 | h4
  ·exact h2 h4
  ·exact h3 h4
 refine maskM_cell.2 ⟨(World.cell?_of_block (hg.block _ hlt hne)).trans h1,fun h4 => h2 ((Hidden.grown hg hlt hne).1 h4),fun e => ?_⟩
 rcases hH _ e with e2 | e2
 ·exact h3 e2
 ·omega
theorem mask_weak {ts ts':List TypeId} {H H':List Nat} {w:World} (hts:∀ t ∈ ts',t ∈ ts) (hH:∀ i ∈ H',i ∈ H) {p:Addr} {u:Value} (h:(maskM ts H w).cell? p = some u):(maskM ts' H' w).cell? p = some u:=by
 obtain ⟨h1,h2,h3⟩:=maskM_cell.1 h;exact maskM_cell.2 ⟨h1,fun ⟨c,t,f,e,ht⟩ => h2 ⟨c,t,f,e,hts t ht⟩,fun e => h3 (hH _ e)⟩
def RepM (ts:List TypeId) (H:List Nat) (w:World) (v:Value) (d:D):Prop:=Rep (maskM ts H w) w.heap.size v d
def RepML (ts:List TypeId) (H:List Nat) (w:World) (vs:List Value) (ds:List D):Prop:=RepL (maskM ts H w) w.heap.size vs ds
theorem RepM.step {ts:List TypeId} {H H':List Nat} {w w':World} {v:Value} {d:D} (h:RepM ts H w v d) {row:Option Nat} (hg:w.grownBy w' row) (hrow:∀ g,row = some g → g < w.heap.size → Hidden ts w g ∨ g ∈ H) (hH:∀ i ∈ H',i ∈ H ∨ w.heap.size ≤ i):RepM ts H' w' v d :=
 Rep.mono (fun _ _ _ hu => mask_step hg hrow hH hu) hg.size h
theorem RepML.step {ts:List TypeId} {H H':List Nat} {w w':World} {v:List Value} {d:List D} (h:RepML ts H w v d) {row:Option Nat} (hg:w.grownBy w' row) (hrow:∀ g,row = some g → g < w.heap.size → Hidden ts w g ∨ g ∈ H) (hH:∀ i ∈ H',i ∈ H ∨ w.heap.size ≤ i):RepML ts H' w' v d :=
 RepL.mono (fun _ _ _ hu => mask_step hg hrow hH hu) hg.size h
theorem RepM.weak {ts ts':List TypeId} {H H':List Nat} {w:World} {v:Value} {d:D} (h:RepM ts H w v d) (hts:∀ t ∈ ts',t ∈ ts) (hH:∀ i ∈ H',i ∈ H):RepM ts' H' w v d:=Rep.mono (fun _ _ _ hu => mask_weak hts hH hu) (Nat.le_refl _) h
theorem RepML.weak {ts ts':List TypeId} {H H':List Nat} {w:World} {v:List Value} {d:List D} (h:RepML ts H w v d) (hts:∀ t ∈ ts',t ∈ ts) (hH:∀ i ∈ H',i ∈ H):RepML ts' H' w v d:=RepL.mono (fun _ _ _ hu => mask_weak hts hH hu) (Nat.le_refl _) h
theorem RepM.out {ts:List TypeId} {H:List Nat} {w:World} {v:Value} {d:D} (h:RepM ts H w v d):Rep w w.heap.size v d:=Rep.mono (fun _ _ _ hu => (maskM_cell.1 hu).1) (Nat.le_refl _) h
theorem RepML.out {ts:List TypeId} {H:List Nat} {w:World} {v:List Value} {d:List D} (h:RepML ts H w v d):RepL w w.heap.size v d:=RepL.mono (fun _ _ _ hu => (maskM_cell.1 hu).1) (Nat.le_refl _) h
theorem grown_set (w:World) (g i:Nat) (u:Value):w.grownBy (w.setCell ⟨g,i,none⟩ u) (some g):=⟨rfl,rfl,rfl,by simp [World.setCell],fun k _ hne => Below.heap_setCell _ _ _ _ (fun e => hne (by rw [e]))⟩
theorem grown_drew (w:World) (row:Option Nat):w.grownBy w.drew row:=⟨rfl,rfl,rfl,Nat.le_refl _,fun _ _ _ => rfl⟩
theorem grown_drewN (w:World) (n:Nat) (row:Option Nat):w.grownBy (w.drewN n) row:=⟨rfl,rfl,rfl,Nat.le_refl _,fun _ _ _ => rfl⟩
theorem grown_up {w0 w w':World} {row r:Option Nat} (h:w0.grownBy w row) (hg:w.grownBy w' r) (hr:∀ k,r = some k → k < w0.heap.size → row = some k):w0.grownBy w' row :=
 ⟨hg.os.trans h.os,hg.tape.trans h.tape,hg.output.trans h.output,Nat.le_trans h.size hg.size,fun k hk hne => (hg.block k (Nat.lt_of_lt_of_le hk h.size) (fun e => hne ((hr k e.symm hk).symm ▸ rfl))).trans (h.block k hk hne)⟩
theorem grown_of_below {w w':World} {row:Option Nat} (hb:Below w.heap.size w w'):w.grownBy w' row:=⟨hb.os,hb.tape,hb.output,hb.size,fun i hi _ => hb.block i hi⟩
theorem Blk.hidden {ts:List TypeId} {w:World} {g:Nat} {t:TypeId} {cs:Array Value} (h:Blk w g t cs) (ht:t ∈ ts):Hidden ts w g:=⟨cs,t,(0,0),h,ht⟩
theorem Blk.seen {ts:List TypeId} {H:List Nat} {w:World} {g:Nat} {t:TypeId} {cs:Array Value} (h:Blk w g t cs) (ht:t ∉ ts) (hr:g ∉ H) (i:Nat) (u:Value) (hu:cs[i]? = some u):(maskM ts H w).cell? ⟨g,i,none⟩ = some u:=by
 refine maskM_cell.2 ⟨h.cellAt i u hu,fun ⟨c,t',f,e,ht'⟩ => ?_,hr⟩
 have h2:w.heap[g]? = some (.cells c t' f):=e;unfold Blk at h;rw [h] at h2;cases h2
 exact ht ht'
theorem RepM.of_blk {ts:List TypeId} {H:List Nat} {w:World} {g n sz:Nat} {t:TypeId} {cs:Array Value} {ds:List D} (h:Blk w g t cs) (ht:t ∉ ts) (hr:g ∉ H) (hl:cs.size = n * sz) (hd:RepML ts H w cs.toList ds):RepM ts H w (.slice (some ⟨g,0,none⟩) n n) (.s sz ds):=by
 refine Rep.mk (by rw [← hd.1,Array.length_toList,hl]) (Nat.le_refl _) h.lt hd (fun j u hu => ?_)
 rw [Nat.zero_add];exact h.seen ht hr j u (by rw [← hu,Array.getElem?_toList])
def OwnM (ts:List TypeId) (H:List Nat) (w:World) (base:Nat) (e:TypeId) (size:Nat) (v:Value) (ds:List D):Prop:=∃ n xs,w.ownsRow base e size v n xs ∧ RepML ts (v.ownBlock.toList ++ H) w xs ds
theorem OwnM.nil (ts:List TypeId) (H:List Nat) (w:World) (base:Nat) (e:TypeId) (size:Nat):OwnM ts H w base e size (.slice none 0 0) []:=⟨0,[],World.ownsRow_nil _ _ _ _,RepL.nil _ _⟩
theorem OwnM.lt {ts:List TypeId} {H:List Nat} {w:World} {base:Nat} {e:TypeId} {size:Nat} {v:Value} {ds:List D} (h:OwnM ts H w base e size v ds) (k:Nat) (hk:v.ownBlock = some k):base ≤ k ∧ k < w.heap.size:=by
 obtain ⟨n,xs,h,_⟩:=h;exact h.lt k hk
theorem OwnM.app {ts:List TypeId} {H:List Nat} {w w':World} {base n':Nat} {e:TypeId} {size:Nat} {v v':Value} {xs news:List Value} {ds es:List D} (h2:RepML ts (v.ownBlock.toList ++ H) w xs ds)
  (hn:RepML ts (v.ownBlock.toList ++ H) w news es) (hown:w'.ownsRow base e size v' n' (xs ++ news)) (hg:w.grownBy w' v.ownBlock) (hloc:v'.ownBlock = v.ownBlock ∨ v'.ownBlock = some w.heap.size):OwnM ts H w' base e size v' (ds ++ es):=by
 refine ⟨n',_,hown,(RepML.step (RepL.append h2 hn) hg (fun g e _ => .inr (by rw [e];simp)) ?_)⟩
 intro i hi;rcases List.mem_append.1 hi with hi | hi
 ·rcases hloc with e | e
  ·rw [e] at hi
   exact .inl (List.mem_append.2 (.inl hi))
  ·rw [e] at hi
   simp at hi;exact .inr (by omega)
 ·exact .inl (List.mem_append.2 (.inr hi))
theorem OwnM.step {ts:List TypeId} {H H':List Nat} {w w':World} {base:Nat} {e:TypeId} {size:Nat} {v:Value} {ds:List D} (h:OwnM ts H w base e size v ds) {row:Option Nat} (hg:w.grownBy w' row) (hrow:∀ g,row = some g → g < w.heap.size → (Hidden ts w g ∨ g ∈ H) ∧ v.ownBlock ≠ some g) (hH:∀ i ∈ H',i ∈ H ∨ w.heap.size ≤ i):OwnM ts H' w' base e size v ds:=by
 obtain ⟨n,xs,h1,h2⟩:=h;refine ⟨n,xs,h1.kept hg ?_,h2.step hg (fun g e hlt => ?_) ?_⟩
 ·rcases h1.2 with ⟨e,_⟩ | ⟨k,c,cur,e,hk⟩
  ·subst e;exact .inl rfl
  ·subst e
   refine .inr fun e2 => ?_
   exact (hrow k e2.symm (h1.lt k rfl).2).2 rfl
 ·rcases (hrow g e hlt).1 with h | h
  ·exact .inl h
  ·exact .inr (List.mem_append.2 (.inr h))
 ·intro i hi
  rcases List.mem_append.1 hi with hi | hi
  ·exact .inl (List.mem_append.2 (.inl hi))
  ·rcases hH i hi with h | h
   ·exact .inl (List.mem_append.2 (.inr h))
   ·exact .inr h
theorem OwnM.rep {ts ts':List TypeId} {H:List Nat} {w:World} {base:Nat} {e:TypeId} {size:Nat} {v:Value} {ds:List D} (h:OwnM ts H w base e size v ds) (hts:∀ t ∈ ts',t ∈ ts) (he:e ∉ ts') (hb:∀ i ∈ H,i < base):RepM ts' H w v (.s size ds):=by
 obtain ⟨n,xs,h1,h2⟩:=h;have h3:RepML ts' H w xs ds:=h2.weak hts (fun i hi => List.mem_append.2 (.inr hi))
 rcases h1.2 with ⟨rfl,hn⟩ | ⟨g,cap,cur,rfl,hg,hb2,hnc,hcap,hcur,hx⟩
 ·have h4:=h1.1
  rw [hn,Nat.zero_mul] at h4;have:ds = []:=List.eq_nil_of_length_eq_zero (by rw [← h2.1];exact h4)
  subst this;exact .nil size
 ·have hlt:=(h1.lt g rfl).2
  refine Rep.mk (h3.1.symm.trans h1.1) hnc hlt h3 (fun j u hu => ?_)
  have hj:j < xs.length:=by
   rcases Nat.lt_or_ge j xs.length with h | h
   ·exact h
   ·rw [List.getElem?_eq_none h] at hu;cases hu
  rw [Nat.zero_add];refine Blk.seen (cs:=cur) hb2 he (fun hi => by have:=hb g hi;omega) j u ?_
  rw [← hu,← hx,List.getElem?_take,if_pos (by rw [← h1.1];exact hj),Array.getElem?_toList]
structure Iv where
 ln:Int
 ld:Int
 hn:Int
 hd:Int
 lo:Bool
 ho:Bool
 li:Bool
 hi:Bool
def Iv.cells (x:Iv):List D:=[.v (.int .i64 x.ln),.v (.int .i64 x.ld),.v (.int .i64 x.hn),.v (.int .i64 x.hd),.v (.bool x.lo),.v (.bool x.ho),.v (.bool x.li),.v (.bool x.hi)]
theorem Iv.cells_length (x:Iv):x.cells.length = 8:=rfl
inductive F where
 | mk (op n:Int) (ins:List Iv) (kids:List F)
def F.op:F → Int
 | .mk op _ _ _ => op
def F.n:F → Int
 | .mk _ n _ _ => n
def F.ins:F → List Iv
 | .mk _ _ ins _ => ins
def F.kids:F → List F
 | .mk _ _ _ kids => kids
mutual
def F.cells:F → List D
 | .mk op n ins kids => [.v (.int .i64 op),.v (.int .i64 n),.s 8 (ins.flatMap Iv.cells),.s 4 (cellsL kids)]
def cellsL:List F → List D
 | [] => []
 | k :: ks => k.cells ++ cellsL ks
end
mutual
def F.nodes:F → List F
 | .mk op n ins kids => .mk op n ins kids :: nodesL kids
def nodesL:List F → List F
 | [] => []
 | k :: ks => k.nodes ++ nodesL ks
end
mutual
def F.size:F → Nat
 | .mk _ _ _ kids => 1 + sizeL kids
def sizeL:List F → Nat
 | [] => 0
 | k :: ks => k.size + sizeL ks
end
mutual
def F.deep:F → Nat
 | .mk _ _ _ kids => deepL kids + 1
def deepL:List F → Nat
 | [] => 0
 | k :: ks => max k.deep (deepL ks)
end
theorem F.cells_length (t:F):t.cells.length = 4:=by cases t;rfl
theorem cellsL_eq:∀ l:List F,cellsL l = l.flatMap F.cells
 | [] => by rw [cellsL];rfl
 | a :: l => by rw [cellsL,cellsL_eq l];rfl
theorem nodesL_eq:∀ l:List F,nodesL l = l.flatMap F.nodes
 | [] => by rw [nodesL];rfl
 | a :: l => by rw [nodesL,nodesL_eq l];rfl
theorem F.nodes_eq (t:F):t.nodes = t :: t.kids.flatMap F.nodes:=by
 cases t
 rw [F.nodes,nodesL_eq];rfl
theorem F.cells_eq (t:F):t.cells = [.v (.int .i64 t.op),.v (.int .i64 t.n),.s 8 (t.ins.flatMap Iv.cells),.s 4 (t.kids.flatMap F.cells)]:=by
 cases t
 rw [F.cells,cellsL_eq];rfl
theorem F.size_pos (t:F):0 < t.size:=by
 cases t
 rw [F.size];omega
mutual
theorem F.nodes_length:∀ t:F,t.nodes.length = t.size
 | .mk op n ins kids => by rw [F.nodes,F.size,List.length_cons,nodesL_length kids,Nat.add_comm]
theorem nodesL_length:∀ l:List F,(nodesL l).length = sizeL l
 | [] => by rw [nodesL,sizeL];rfl
 | k :: ks => by rw [nodesL,sizeL,List.length_append,F.nodes_length k,nodesL_length ks]
end
theorem sizeL_mem:∀ {l:List F} {k:F},k ∈ l → k.size ≤ sizeL l
 | a :: l,k,h => by
  rw [sizeL];rcases List.mem_cons.1 h with rfl | h
  ·omega
  ·have:=sizeL_mem h
   omega
theorem F.kid_size {t k:F} (h:k ∈ t.kids):k.size < t.size:=by
 cases t with
 | mk op n ins kids =>
  have:=sizeL_mem (l:=kids) h;rw [F.size];omega
theorem sizeL_take:∀ (l:List F) (k:Nat) (h:k < l.length),sizeL (l.take (k + 1)) = sizeL (l.take k) + l[k].size
 | a :: l,0,_ => by simp [sizeL]
 | a :: l,k + 1,h => by
  have:=sizeL_take l k (by simpa using h)
  simp only [List.take_succ_cons,sizeL,List.getElem_cons_succ];omega
theorem sizeL_take_le:∀ (l:List F) (k:Nat),sizeL (l.take k) ≤ sizeL l
 | [],k => by simp
 | a :: l,0 => by simp [sizeL]
 | a :: l,k + 1 => by
  have:=sizeL_take_le l k;simp only [List.take_succ_cons,sizeL];omega
structure FNode (w:World) (B:Nat) where
 a:Value
 b:Value
 c:Value
 d:Value
 t:F
 h:RepL w B [a,b,c,d] t.cells
def FNode.val {w:World} {B:Nat} (x:FNode w B):Value:=.agg #[x.a,x.b,x.c,x.d]
theorem RepL.four {W:World} {B:Nat} {a b c d:Value} {p q r s:D} (h:RepL W B [a,b,c,d] [p,q,r,s]):Rep W B a p ∧ Rep W B b q ∧ Rep W B c r ∧ Rep W B d s :=
 ⟨h.2 0 _ _ rfl rfl,h.2 1 _ _ rfl rfl,h.2 2 _ _ rfl rfl,h.2 3 _ _ rfl rfl⟩
theorem FNode.parts {w:World} {B:Nat} (x:FNode w B):x.a = .int .i64 x.t.op ∧ x.b = .int .i64 x.t.n ∧ Rep w B x.c (.s 8 (x.t.ins.flatMap Iv.cells)) ∧ Rep w B x.d (.s 4 (x.t.kids.flatMap F.cells)):=by
 have h:=x.h;rw [F.cells_eq] at h;obtain ⟨h1,h2,h3,h4⟩:=h.four;exact ⟨h1.plain,h2.plain,h3,h4⟩
theorem node_form {w:World} {B:Nat} {a b c d:Value} {t:F} (h:RepL w B [a,b,c,d] t.cells):∃ A1 n1 c1 A2 n2 c2,a = .int .i64 t.op ∧ b = .int .i64 t.n ∧ c = .slice A1 n1 c1 ∧ d = .slice A2 n2 c2:=by
 obtain ⟨h1,h2,h3,h4⟩:=(⟨a,b,c,d,t,h⟩:FNode w B).parts;obtain ⟨A1,n1,c1,e1,_⟩:=h3.slice;obtain ⟨A2,n2,c2,e2,_⟩:=h4.slice;exact ⟨A1,n1,c1,A2,n2,c2,h1,h2,e1,e2⟩
theorem Rep.formulas {w:World} {B:Nat} {v:Value} {l:List F} (h:Rep w B v (.s 4 (l.flatMap F.cells))):∃ (A:Option Addr) (c:Nat),v = .slice A l.length c ∧ l.length ≤ c ∧
  ∀ (k:Nat) (hk:k < l.length),∃ (b o:Nat) (y:FNode w B),A = some ⟨b,o,none⟩ ∧ b < B ∧ y.t = l[k] ∧ w.cell? ⟨b,o + k * 4,none⟩ = some y.a ∧ w.cell? ⟨b,o + k * 4 + 1,none⟩ = some y.b ∧ w.cell? ⟨b,o + k * 4 + 2,none⟩ = some y.c ∧ w.cell? ⟨b,o + k * 4 + 3,none⟩ = some y.d:=by
 obtain ⟨A,n,c,rfl,hn,hl,hc⟩:=h.slice;have hfl:=flat_length (l:=l) (f:=F.cells) (k:=4) (fun x _ => x.cells_length)
 have hnl:n = l.length:=by omega
 subst hnl;refine ⟨A,c,rfl,hn,fun k hk => ?_⟩
 obtain ⟨b,o,cs,rfl,hb,hr,hcell⟩:=hc (by omega)
 have hp:=flat_part (l:=l) (f:=F.cells) (k:=4) (i:=k) (a:=l[k]) (fun x _ => x.cells_length) (List.getElem?_eq_getElem hk)
 have hr2:=(hr.drop (k * 4)).take 4;rw [hp] at hr2;have hlen:cs.length = l.length * 4:=hr.1.trans hfl;have h0:k * 4 < cs.length:=by omega
 have h1:k * 4 + 1 < cs.length:=by omega
 have h2:k * 4 + 2 < cs.length:=by omega
 have h3:k * 4 + 3 < cs.length:=by omega
 have e:(cs.drop (k * 4)).take 4 = [cs[k * 4],cs[k * 4 + 1],cs[k * 4 + 2],cs[k * 4 + 3]]:=by
  rw [List.drop_eq_getElem_cons h0,List.drop_eq_getElem_cons h1,List.drop_eq_getElem_cons h2,List.drop_eq_getElem_cons h3];rfl
 rw [e] at hr2;exact ⟨b,o,⟨cs[k * 4],cs[k * 4 + 1],cs[k * 4 + 2],cs[k * 4 + 3],l[k],hr2⟩,rfl,hb,rfl,hcell _ _ (List.getElem?_eq_getElem h0),hcell _ _ (List.getElem?_eq_getElem h1),hcell _ _ (List.getElem?_eq_getElem h2),hcell _ _ (List.getElem?_eq_getElem h3)⟩
end Go.Proofs.YtbeaijjaecaidaaGreatDoor
