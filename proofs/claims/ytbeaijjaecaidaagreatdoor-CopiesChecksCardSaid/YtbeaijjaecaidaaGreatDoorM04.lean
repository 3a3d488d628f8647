/- The iterator over the nodes of a formula. The number of nodes and the depth of a formula, in the program. The nodes that generated formulas have are as they should be. Formulas as they should be are valid, in the program. The iterator over the tops of a formula. Claims: in memory; valid in the program. -/
import Derived.Test.YtbeaijjaecaidaaGreatDoorM02
import Derived.Test.YtbeaijjaecaidaaGreatDoorM03
import Derived.Test.YtbeaijjaecaidaaGreatDoorM01
import Derived.Laws.EntriesVeiled
import Derived.RangeFuncNested
set_option maxRecDepth 100000
set_option maxHeartbeats 16000000
namespace Go.Proofs.YtbeaijjaecaidaaGreatDoor
open Go.RowKit Go.Shelf
attribute [local go_sem] Oper.semAt_some
def KeepT (p:TypeId → Prop) (n₀:Nat) (W W':World):Prop:=Below n₀ W W' ∧ ∀ i t cs,p t → Blk W i t cs → Blk W' i t cs
theorem KeepT.refl (p:TypeId → Prop) (n₀:Nat) (W:World):KeepT p n₀ W W:=⟨Below.refl _ _,fun _ _ _ _ h => h⟩
theorem KeepT.trans {p:TypeId → Prop} {n₀:Nat} {A B C:World} (h:KeepT p n₀ A B) (k:KeepT p n₀ B C):KeepT p n₀ A C:=⟨h.1.trans k.1,fun i t cs ht hv => k.2 i t cs ht (h.2 i t cs ht hv)⟩
theorem KeepT.put {p:TypeId → Prop} {n₀:Nat} {w:World} (hn:n₀ ≤ w.heap.size) (W:World) (l:Nat) (o o':Obj) (hl:w.heap.size ≤ l) (h:W.heap[l]? = some o) (hc:o.isCells = false) (hw:o.isWalk = false):KeepT p n₀ W (W.putObj l o') :=
 ⟨belowK_b hn W l o o' hl h hc hw,fun i t cs _ hv => hv.grown (grownBy_putObj' W l o') (fun e => by
  cases e
  unfold Blk at hv;rw [hv] at h;cases h
  cases hc)⟩
theorem KeepT.alloc {p:TypeId → Prop} {n₀:Nat} (W:World) (h:n₀ ≤ W.heap.size) (o:Obj):KeepT p n₀ W (W.alloc o):=⟨(Below.refl _ _).alloc h o,fun _ _ _ _ hb => hb.alloc o⟩
theorem KeepT.below {p:TypeId → Prop} {n₀:Nat} {W W':World} (h:Below W.heap.size W W') (hn:n₀ ≤ W.heap.size):KeepT p n₀ W W':=⟨h.mono hn,fun _ _ _ _ hb => hb.keep h⟩
theorem index_any (w:World) (n₀:Nat) (l:List F) (v:Value) (hr:Rep w n₀ v (.s 4 (l.flatMap F.cells))) (hl:l.length ≤ 1000000) (K:World → World → Prop) (hKb:∀ A B,K A B → Below n₀ A B) (hKr:∀ A,K A A) (hKt:∀ A B C,K A B → K B C → K A C) (g:FuncId) (hg:∀ args w,(callFunc g args).run Tryz.prog w = .ok (.enter g args) w) (cp:Value) (J:Nat → World → Prop) (Jx:Nat → World → Prop)
  (hcall:∀ (k:Nat) (hk:k < l.length) (y:FNode w n₀) (W:World),y.t = l[k] → J k W → K w W → Calls Tryz.prog g #[.agg #[y.a,y.b,y.c,y.d],cp] W fun e W' =>
   (e = .returned (.bool false) ∧ J (k + 1) W' ∧ K W W') ∨ (e = .returned (.bool true) ∧ Jx k W'))
  (W:World) (h0:J 0 W) (hW:K w W) :
  Calls Tryz.prog 179 #[v,.func (.func g) #[] #[cp]] W fun e W' =>
   (e = .returned (.int .i64 (-1)) ∧ J l.length W' ∧ K W W') ∨ (∃ k:Nat,k < l.length ∧ e = .returned (.int .i64 (k:Int)) ∧ Jx k W'):=by
 obtain ⟨A,c,rfl,hc,hcell⟩:=hr.formulas;clear hr;go_enter Tryz.func179,Tryz.ntmps179
 go_wp2;go_loopw [8] (fun i wr => ∃ k:Nat,i = .int .i64 (k:Int) ∧ k ≤ l.length ∧ J k wr ∧ K W wr) (fun i _ => l.length - (intOf i).toNat)
 case atStart => exact ⟨0,rfl,Nat.zero_le _,h0,hKr _⟩
 case round =>
  obtain ⟨k,rfl,hk,hJ,hK⟩:=hrel;by_cases hlt:k < l.length
  ·obtain ⟨b,o,y,rfl,hb,hy,c0,c1,c2,c3⟩:=hcell k hlt
   have hWr:=hKt _ _ _ hW hK;have d0:=((hKb _ _ hWr).cell (p:=⟨b,o + k * 4,none⟩) hb).trans c0;have d1:=((hKb _ _ hWr).cell (p:=⟨b,o + k * 4 + 1,none⟩) hb).trans c1;have d2:=((hKb _ _ hWr).cell (p:=⟨b,o + k * 4 + 2,none⟩) hb).trans c2;have d3:=((hKb _ _ hWr).cell (p:=⟨b,o + k * 4 + 3,none⟩) hb).trans c3;have HC:=Lib.hid (hcall k hlt y wr hy hJ hWr);clear hcall hcell c0 c1 c2 c3 hy hJ h0 hW;go_wp2_with (refine HC.out.mono ?_;rintro e w2 (⟨rfl,hJ2,hk2⟩ | ⟨rfl,hx⟩))
   ·go_roundw
    case rel => exact ⟨k + 1,by go_num,by omega,hJ2,hKt _ _ _ hK hk2⟩
    case measure => simp [intOf];omega
   ·go_ret
    exact .inr ⟨k,hlt,rfl,hx⟩
  ·obtain rfl:k = l.length:=by omega
   go_wp2_with fail;go_ret;exact .inl ⟨rfl,hJ,hK⟩
theorem contains_any (w:World) (n₀:Nat) (l:List F) (v:Value) (hr:Rep w n₀ v (.s 4 (l.flatMap F.cells))) (hl:l.length ≤ 1000000) (K:World → World → Prop) (hKb:∀ A B,K A B → Below n₀ A B) (hKr:∀ A,K A A) (hKt:∀ A B C,K A B → K B C → K A C) (g:FuncId) (hg:∀ args w,(callFunc g args).run Tryz.prog w = .ok (.enter g args) w) (cp:Value) (J:Nat → World → Prop) (Jx:Nat → World → Prop)
  (hcall:∀ (k:Nat) (hk:k < l.length) (y:FNode w n₀) (W:World),y.t = l[k] → J k W → K w W → Calls Tryz.prog g #[.agg #[y.a,y.b,y.c,y.d],cp] W fun e W' =>
   (e = .returned (.bool false) ∧ J (k + 1) W' ∧ K W W') ∨ (e = .returned (.bool true) ∧ Jx k W'))
  (W:World) (h0:J 0 W) (hW:K w W) :
  Calls Tryz.prog 155 #[v,.func (.func g) #[] #[cp]] W fun e W' =>
   (e = .returned (.bool false) ∧ J l.length W' ∧ K W W') ∨ (∃ k:Nat,k < l.length ∧ e = .returned (.bool true) ∧ Jx k W'):=by
 have HI:=Lib.hid (index_any w n₀ l v hr hl K hKb hKr hKt g hg cp J Jx hcall W h0 hW);obtain ⟨A,c,rfl,hc,hcell⟩:=hr.formulas;clear hr hcell hcall h0 hW hc;go_enter Tryz.func155,Tryz.ntmps155
 go_wp2_with (go_at_call 179;refine HI.out.mono ?_;rintro e w2 (⟨rfl,hJ2,hk2⟩ | ⟨k,hlt,rfl,hx⟩))
 ·go_ret
  exact .inl ⟨rfl,hJ2,hk2⟩
 ·have hk0:(0:Int) ≤ (k:Int):=by omega
  go_wp2_with fail;go_ret;exact .inr ⟨k,hlt,rfl,hx⟩
def nodeT (t:TypeId):Prop:=t = 202 ∨ t = 39
section
variable (l By Bd:Nat) (w0:World) (n₀ N:Nat) (J Jx:List (FNode w0 n₀) → World → Prop)
def Boxes (W:World):Prop:=KeepT nodeT n₀ w0 W ∧ n₀ ≤ W.heap.size ∧ Blk W By 202 #[.func (.yield l) #[] #[]] ∧ Blk W Bd 202 #[.func (.func 154) #[] #[.pointer (some ⟨By,0,none⟩),.pointer (some ⟨Bd,0,none⟩)]]
def Downs (x:FNode w0 n₀):Prop:=∀ (pre:List (FNode w0 n₀)) (W:World),J pre W → pre.length + x.t.size ≤ N → Boxes l By Bd w0 n₀ W →
 Calls Tryz.prog 154 #[.agg #[x.a,x.b,x.c,x.d],.pointer (some ⟨By,0,none⟩),.pointer (some ⟨Bd,0,none⟩)] W fun e W' =>
  (e = .returned (.bool true) ∧ ∃ ys:List (FNode w0 n₀),ys.map FNode.t = x.t.nodes ∧ J (pre ++ ys) W' ∧ KeepT nodeT n₀ W W') ∨ (e = .returned (.bool false) ∧ ∃ q:List (FNode w0 n₀),q.map FNode.t <+: x.t.nodes ∧ Jx (pre ++ q) W')
end
theorem Boxes.keep {l By Bd:Nat} {w0:World} {n₀:Nat} {W W':World} (h:Boxes l By Bd w0 n₀ W) (k:KeepT nodeT n₀ W W'):Boxes l By Bd w0 n₀ W' :=
 ⟨h.1.trans k,Nat.le_trans h.2.1 k.1.size,k.2 _ _ _ (.inl rfl) h.2.2.1,k.2 _ _ _ (.inl rfl) h.2.2.2⟩
theorem kid_any (l By Bd:Nat) (w0:World) (n₀ N:Nat) (J Jx:List (FNode w0 n₀) → World → Prop) (hJ:∀ pre W o,J pre W → J pre (W.alloc o)) (x:FNode w0 n₀) (hx:Downs l By Bd w0 n₀ N J Jx x)
  (pre:List (FNode w0 n₀)) (W:World) (h0:J pre W) (hN:pre.length + x.t.size ≤ N) (hB:Boxes l By Bd w0 n₀ W) :
  Calls Tryz.prog 156 #[.agg #[x.a,x.b,x.c,x.d],.pointer (some ⟨Bd,0,none⟩)] W fun e W' =>
   (e = .returned (.bool false) ∧ ∃ ys:List (FNode w0 n₀),ys.map FNode.t = x.t.nodes ∧ J (pre ++ ys) W' ∧ KeepT nodeT n₀ W W') ∨ (e = .returned (.bool true) ∧ ∃ q:List (FNode w0 n₀),q.map FNode.t <+: x.t.nodes ∧ Jx (pre ++ q) W'):=by
 have hK:KeepT nodeT n₀ W (W.alloc (.cells #[x.a,x.b,x.c,x.d] 39)):=KeepT.alloc W hB.2.1 _;have HD:=Lib.hid (hx pre _ (hJ _ _ _ h0) hN (hB.keep hK));have hc:=(hB.keep hK).2.2.2.c1;have HK:=Lib.hid hK;clear h0 hB hx hJ hK;go_enter Tryz.func156,Tryz.ntmps156
 go_wp2_with (refine HD.out.mono ?_;rintro e w2 (⟨rfl,ys,hy,hJ2,hk2⟩ | ⟨rfl,q,hq,hx2⟩))
 ·go_ret
  exact .inl ⟨rfl,ys,hy,hJ2,HK.out.trans hk2⟩
 ·go_ret
  exact .inr ⟨rfl,q,hq,hx2⟩
theorem nodes_take (l:List F) (k:Nat) (h:k < l.length):(l.take (k + 1)).flatMap F.nodes = (l.take k).flatMap F.nodes ++ l[k].nodes:=by
 rw [List.take_add_one,List.getElem?_eq_getElem h,List.flatMap_append]
 simp
theorem nodes_flat_length (l:List F):(l.flatMap F.nodes).length = sizeL l:=by rw [← nodesL_eq,nodesL_length]
theorem kids_le:∀ l:List F,l.length ≤ sizeL l
 | [] => by simp
 | a :: l => by
  have h1:=a.size_pos;have h2:=kids_le l;rw [List.length_cons,sizeL];omega
theorem down_any (P:F → Prop) (hP:∀ t,P t → ∀ k ∈ t.kids,P k) (l By Bd:Nat) (w0:World) (n₀ N:Nat) (J Jx:List (FNode w0 n₀) → World → Prop) (hN6:N ≤ 1000000) (hJ:∀ pre W o,J pre W → J pre (W.alloc o))
  (hY:∀ m pre (x:FNode w0 n₀) W,P x.t → J pre W → pre.length < N → YieldAt Fence.wide m Tryz.prog l #[.agg #[x.a,x.b,x.c,x.d]] W fun e W' =>
   (e = .returned (.bool true) ∧ J (pre ++ [x]) W' ∧ KeepT nodeT n₀ W W') ∨ (e = .returned (.bool false) ∧ Jx (pre ++ [x]) W')) :
  ∀ (n:Nat) (x:FNode w0 n₀),P x.t → x.t.size ≤ n → Downs l By Bd w0 n₀ N J Jx x:=by
 intro n
 induction n with
 | zero => intro x _ h;have:=x.t.size_pos;omega
 | succ n ih =>
  intro x hPx hxn pre W h0 hN hB;have hK:KeepT nodeT n₀ W (W.alloc (.cells #[x.a,x.b,x.c,x.d] 39)):=KeepT.alloc W hB.2.1 _;have hB1:=hB.keep hK;have hbox:=Blk.new W 39 #[x.a,x.b,x.c,x.d];have hc:=hB1.2.2.1.c1;have hnl:=x.t.nodes_eq;have hsz:=x.t.nodes_length;rw [hnl,List.length_cons,nodes_flat_length] at hsz
  -- the round at this node,with what the walk wants behind it
  have hy:=YieldAt.mono (hY 4 pre x _ hPx (hJ _ _ _ h0) (by omega)) (R':=fun e W2 =>
   (e = .returned (.bool true) ∧ (W2.cell? ⟨W.heap.size,0,none⟩ = some x.a ∧ W2.cell? ⟨W.heap.size,1,none⟩ = some x.b ∧ W2.cell? ⟨W.heap.size,2,none⟩ = some x.c ∧ W2.cell? ⟨W.heap.size,3,none⟩ = some x.d) ∧
    Calls Tryz.prog 155 #[x.d,.func (.func 156) #[] #[.pointer (some ⟨Bd,0,none⟩)]] W2 fun e W' =>
     (e = .returned (.bool false) ∧ (∃ ys:List (FNode w0 n₀),ys.map FNode.t = x.t.nodes ∧ J (pre ++ ys) W') ∧ KeepT nodeT n₀ W W') ∨ (e = .returned (.bool true) ∧ ∃ q:List (FNode w0 n₀),q.map FNode.t <+: x.t.nodes ∧ Jx (pre ++ q) W')) ∨
   (e = .returned (.bool false) ∧ Jx (pre ++ [x]) W2)) (fun e W2 h => by
    rcases h with ⟨he,hj,hk⟩ | h
    ·have hB2:=hB1.keep hk
     refine .inl ⟨he,(hk.2 _ _ _ (.inr rfl) hbox).c4,?_⟩
     have hl6:x.t.kids.length ≤ 1000000:=by
      have h1:=kids_le x.t.kids;omega
     refine (contains_any w0 n₀ x.t.kids x.d x.parts.2.2.2 hl6 (KeepT nodeT n₀) (fun _ _ h => h.1) (fun _ => KeepT.refl _ _ _) (fun _ _ _ h k => h.trans k)
      156 (enters_of Tryz.func156 (by kernel_rfl) rfl) (.pointer (some ⟨Bd,0,none⟩))
      (fun k W' => (∃ ys:List (FNode w0 n₀),ys.map FNode.t = (x.t.kids.take k).flatMap F.nodes ∧ J (pre ++ [x] ++ ys) W') ∧ KeepT nodeT n₀ W2 W')
      (fun _ W' => ∃ q:List (FNode w0 n₀),q.map FNode.t <+: x.t.kids.flatMap F.nodes ∧ Jx (pre ++ [x] ++ q) W')
      ?_ W2 ⟨⟨[],by simp,by simpa using hj⟩,KeepT.refl _ _ _⟩ hB2.1).mono ?_
     ·intro k hk y W3 hy hJk hkw
      obtain ⟨⟨ys,hys,hJ3⟩,hk3⟩:=hJk;have hmem:y.t ∈ x.t.kids:=by rw [hy];exact List.getElem_mem _
      have hsk:=F.kid_size hmem;have hst:=sizeL_take x.t.kids k hk;have hsl:=sizeL_take_le x.t.kids (k + 1);have hyl:ys.length = sizeL (x.t.kids.take k):=by rw [← nodes_flat_length,← hys,List.length_map]
      refine (kid_any l By Bd w0 n₀ N J Jx hJ y (ih y (hP _ hPx _ hmem) (by omega)) (pre ++ [x] ++ ys) W3 hJ3 ?_ (hB2.keep hk3)).mono ?_
      ·rw [hy,List.length_append,List.length_append,List.length_singleton]
       omega
      ·rintro e W4 (⟨he,zs,hz,hJ4,hk4⟩ | ⟨he,q,hq,hx4⟩)
       ·refine .inl ⟨he,⟨⟨ys ++ zs,?_,by rw [← List.append_assoc];exact hJ4⟩,hk3.trans hk4⟩,hk4⟩
        rw [nodes_take _ _ hk,List.map_append,hys,hz,hy]
       ·refine .inr ⟨he,ys ++ q,?_,by rw [← List.append_assoc];exact hx4⟩
        rw [List.map_append,hys];refine List.IsPrefix.trans (l₂:=(x.t.kids.take (k + 1)).flatMap F.nodes) ?_ ?_
        ·rw [nodes_take _ _ hk,← hy]
         exact (List.prefix_append_right_inj _).2 hq
        ·conv => rhs;rw [← List.take_append_drop (k + 1) x.t.kids]
         rw [List.flatMap_append];exact List.prefix_append _ _
     ·rintro e W3 (⟨he,⟨⟨ys,hys,hJ3⟩,hk3⟩,_⟩ | ⟨k,_,he,q,hq,hx3⟩)
      ·rw [List.take_length] at hys
       refine .inl ⟨he,⟨x :: ys,by rw [List.map_cons,hys,hnl],by simpa using hJ3⟩,hK.trans (hk.trans hk3)⟩
      ·exact .inr ⟨he,x :: q,by rw [List.map_cons,hnl];exact List.prefix_cons_inj _ |>.2 hq,by simpa using hx3⟩
    ·exact .inr h)
  obtain ⟨fn,tmps,assign,body,hyr,hR⟩:=hy;have HR:=Lib.hid hR
  have hpx:[x].map FNode.t <+: x.t.nodes:=by
   rw [hnl];exact ⟨x.t.kids.flatMap F.nodes,rfl⟩
  have HP:=Lib.hid hpx;clear hY hJ ih h0 hB hB1 hR hnl hsz hN hxn hbox hpx hK;refine (callsIn_wide (n:=5)).1 ?_
  refine callsIn_of_wp Tryz.func154 rfl trivial ?_ rfl
  simp only [Tryz.ntmps154,List.size_toArray,List.length_cons,List.length_nil,Nat.reduceAdd,Nat.reduceSub,Array.replicate_succ,Array.replicate_zero,List.push_toArray,List.append_toArray,List.nil_append,List.cons_append]
  gi_wp2_with fail
  refine HR.out.mono ?_
  rintro e W2 (⟨rfl,hd,hC⟩ | ⟨rfl,hx⟩)
  ·have HC:=Lib.hid hC
   clear hC HR hc
   gi_wp2_with (refine ⟨trivial,?_⟩;gi_at_call 155;refine (callsIn_wide.2 HC.out).mono ?_;rintro e w3 (⟨rfl,⟨ys,hys,hJ3⟩,hk3⟩ | ⟨rfl,q,hq,hx3⟩))
   ·go_ret
    exact .inl ⟨rfl,ys,hys,hJ3,hk3⟩
   ·go_ret
    exact .inr ⟨rfl,q,hq,hx3⟩
  ·clear HR hc
   gi_wp2_with fail
   refine ⟨trivial,?_⟩
   gi_wp2_with fail
   go_ret;exact .inr ⟨rfl,[x],HP.out,hx⟩
theorem nodes1_in (P:F → Prop) (hP:∀ t,P t → ∀ k ∈ t.kids,P k) (l:Nat) (w0:World) (n₀:Nat) (hn0:n₀ ≤ w0.heap.size) (x:FNode w0 n₀) (hPx:P x.t) (hN6:x.t.size ≤ 1000000) (J Jx:List (FNode w0 n₀) → World → Prop) (hJ:∀ pre W o,J pre W → J pre (W.alloc o))
  (hY:∀ m pre (y:FNode w0 n₀) W,P y.t → J pre W → pre.length < x.t.size → YieldAt Fence.wide m Tryz.prog l #[.agg #[y.a,y.b,y.c,y.d]] W fun e W' =>
   (e = .returned (.bool true) ∧ J (pre ++ [y]) W' ∧ KeepT nodeT n₀ W W') ∨ (e = .returned (.bool false) ∧ Jx (pre ++ [y]) W'))
  (Bf:Nat) (W:World) (hbf:Blk W Bf 39 #[x.a,x.b,x.c,x.d]) (hk:KeepT nodeT n₀ w0 W) (h0:J [] W) :
  Calls Tryz.prog 153 #[.func (.yield l) #[] #[],.pointer (some ⟨Bf,0,none⟩)] W fun e W' => (∃ v,e = .returned v) ∧
   ((∃ ys:List (FNode w0 n₀),ys.map FNode.t = x.t.nodes ∧ J ys W') ∨ (∃ pre:List (FNode w0 n₀),pre.map FNode.t <+: x.t.nodes ∧ Jx pre W')):=by
 have W1:∃ z,W.alloc (.cells #[.func (.yield l) #[] #[]] 202) = z:=⟨_,rfl⟩
 obtain ⟨W1,hW1⟩:=W1;have b1:=Blk.new W 202 #[.func (.yield l) #[] #[]]
 have k1:KeepT nodeT n₀ W (W.alloc (.cells #[.func (.yield l) #[] #[]] 202)):=KeepT.alloc W (Nat.le_trans hn0 hk.1.size) _
 have b2:=Blk.new (W.alloc (.cells #[.func (.yield l) #[] #[]] 202)) 202 #[.func (.func 154) #[] #[.pointer (some ⟨W.heap.size,0,none⟩),.pointer (some ⟨W.heap.size + 1,0,none⟩)]]
 rw [World.size_alloc] at b2;have k2:=k1.trans (KeepT.alloc _ (by rw [World.size_alloc];exact Nat.le_succ_of_le (Nat.le_trans hn0 hk.1.size)) (.cells #[.func (.func 154) #[] #[.pointer (some ⟨W.heap.size,0,none⟩),.pointer (some ⟨W.heap.size + 1,0,none⟩)]] 202))
 have HD:=Lib.hid (down_any P hP l W.heap.size (W.heap.size + 1) w0 n₀ x.t.size J Jx hN6 hJ hY x.t.size x hPx (Nat.le_refl _) [] _ (hJ _ _ _ (hJ _ _ _ h0)) (by simp)
  ⟨hk.trans k2,Nat.le_trans (Nat.le_trans hn0 hk.1.size) k2.1.size,b1.alloc _,b2⟩)
 have hc:=(k2.2 _ _ _ (.inr rfl) hbf).c4;clear b1 b2 k1 k2 hY hJ h0 hk hbf W1 hW1;go_enter Tryz.func153,Tryz.ntmps153
 go_wp2_with (refine HD.out.mono ?_;rintro e w3 (⟨rfl,ys,hys,hJ3,_⟩ | ⟨rfl,q,hq,hx3⟩))
 ·go_end0
  exact ⟨⟨_,rfl⟩,.inl ⟨ys,hys,by simpa using hJ3⟩⟩
 ·go_end0
  exact ⟨⟨_,rfl⟩,.inr ⟨q,hq,by simpa using hx3⟩⟩
theorem nodes_any (a b c d:Value) (w:World) :
  Calls Tryz.prog 107 #[.agg #[a,b,c,d]] w fun e w' => e = .returned (.func (.func 153) #[] #[.pointer (some ⟨w.heap.size,0,none⟩)]) ∧ w' = w.alloc (.cells #[a,b,c,d] 39):=by
 go_enter Tryz.func107,Tryz.ntmps107
 go_wp2;go_ret;exact ⟨rfl,rfl⟩
theorem room_of_none {F:Fence} (hd:F.depth = none) (k:Nat):F.room k:=fun d h => by rw [hd] at h;cases h
theorem YieldAt.anyDepth {F:Fence} (hd:F.depth = none) {m:Nat} (m':Nat) {P:Program} {l:Nat} {args:Array Value} {W:World} {R:Ending → World → Prop} (h:YieldAt F m P l args W R):YieldAt F m' P l args W R:=by
 obtain ⟨fn,tmps,assign,body,hy,hR⟩:=h;exact ⟨fn,tmps,assign,body,hy,hR.1,fun c cs _ => hR.2 c cs (room_of_none hd _)⟩
abbrev PNode (P:F → Prop) (w:World) (B:Nat):={ y:FNode w B // P y.t }
theorem nodes_stops (P:F → Prop) (hP:∀ t,P t → ∀ k ∈ t.kids,P k) (n:Nat) (w0:World) (n₀:Nat) (hn0:n₀ ≤ w0.heap.size) (x:FNode w0 n₀) (hPx:P x.t) (hN6:x.t.size ≤ 1000000) (Bf:Nat) (w:World) (hbf:Blk w Bf 39 #[x.a,x.b,x.c,x.d]) (hk:KeepT nodeT n₀ w0 w) :
  SeqStopsK Fence.wide n Tryz.prog 153 #[.pointer (some ⟨Bf,0,none⟩)] (fun y:PNode P w0 n₀ => #[.agg #[y.1.a,y.1.b,y.1.c,y.1.d]]) (KeepT nodeT n₀) (fun ys => ys.map (fun y => y.1.t) = x.t.nodes) (fun pre => pre.map (fun y => y.1.t) <+: x.t.nodes) x.t.size w:=fun l J Jx W hW hJ _ hY h0 => by
 have hm:∀ ys:List (PNode P w0 n₀),(ys.map Subtype.val).map FNode.t = ys.map (fun y => y.1.t):=fun ys => List.map_map ..
 refine callsIn_wide.2 ((nodes1_in P hP l w0 n₀ hn0 x hPx hN6 (fun pre W => ∃ q:List (PNode P w0 n₀),q.map Subtype.val = pre ∧ J q W) (fun pre W => ∃ q:List (PNode P w0 n₀),q.map Subtype.val = pre ∧ Jx q W)
  (fun pre W o ⟨q,hq,h⟩ => ⟨q,hq,hJ _ _ _ _ h (World.grownBy_alloc W o none) (fun r e => by cases e)⟩)
  (fun m pre y W hPy ⟨q,hq,h⟩ hl => (YieldAt.anyDepth rfl m (hY q ⟨y,hPy⟩ W h (by rw [← hq,List.length_map] at hl;exact hl))).mono fun e W' hh => ?_) Bf W (hbf.keep hW) (hk.trans (KeepT.below hW (Nat.le_trans hn0 hk.1.size))) ⟨[],rfl,h0⟩).mono fun e W' hh => ?_)
 ·rcases hh with ⟨he,hj,hkk⟩ | ⟨he,hj⟩
  ·exact .inl ⟨he,⟨q ++ [⟨y,hPy⟩],by rw [List.map_append,hq];rfl,hj⟩,hkk⟩
  ·exact .inr ⟨he,⟨q ++ [⟨y,hPy⟩],by rw [List.map_append,hq];rfl,hj⟩⟩
 ·obtain ⟨he,hh⟩:=hh
  refine ⟨he,?_⟩
  rcases hh with ⟨ys,hy,q,hq,hj⟩ | ⟨pre,hp,q,hq,hj⟩
  ·exact .inl ⟨q,by dsimp only;rw [← hm,hq,hy],hj⟩
  ·exact .inr ⟨q,by dsimp only;rw [← hm,hq];exact hp,hj⟩
theorem KeepT.setCell {p:TypeId → Prop} {n₀ g:Nat} {W:World} {t:TypeId} {cs:Array Value} (hb:Blk W g t cs) (hp:¬ p t) (hn:n₀ ≤ g) (i:Nat) (u:Value):KeepT p n₀ W (W.setCell ⟨g,i,none⟩ u) :=
 ⟨(Below.refl _ _).setCell (p:=⟨g,i,none⟩) hn u,fun j t' cs' hp' hj => hj.far (fun e => by
  dsimp only at e;subst e;unfold Blk at hb hj;rw [hb] at hj;injection hj with hj
  injection hj with _ ht
  subst ht;exact hp hp') u⟩
theorem FNode.mono {w:World} {B B':Nat} (x:FNode w B) (h:B ≤ B'):RepL w B' [x.a,x.b,x.c,x.d] x.t.cells:=x.h.keep (fun _ _ => rfl) h
theorem blk_own {β:Type} (B:Nat) (t:TypeId) (f:β → Array Value):Own (fun s W => Blk W B t (f s)):=fun s X Y row hs hg hrow =>
 hs.grown hg (fun e' => by obtain ⟨o,ho,hc⟩:=hrow B e'.symm;rw [show X.heap[B]? = _ from hs] at ho;cases ho;cases hc)
theorem size_any (w:World) (x:FNode w w.heap.size) (hN6:x.t.size ≤ 1000000) :
  Calls Tryz.prog 150 #[.agg #[x.a,x.b,x.c,x.d]] w fun e w' => e = .returned (.int .i64 (x.t.size:Int)) ∧ Below w.heap.size w w':=by
 refine (callsIn_wide (n:=5)).1 ?_
 refine callsIn_of_wp_marks Tryz.func150 rfl trivial ?_ rfl
 simp only [Tryz.ntmps150,List.size_toArray,List.length_cons,List.length_nil,Nat.reduceAdd,Nat.reduceSub,Array.replicate_succ,Array.replicate_zero,List.push_toArray,List.append_toArray,List.nil_append,List.cons_append]
 gi_wp2_with (refine ⟨trivial,?_⟩;gi_at_call 107;refine (callsIn_wide.2 (nodes_any _ _ _ _ _)).mono ?_;rintro e w' ⟨rfl,rfl⟩)
 have b1:=(Blk.new (w.alloc (.cells #[x.a,x.b,x.c,x.d] 39)) 3 #[.int .i64 0]).alloc (.cells #[x.a,x.b,x.c,x.d] 39);rw [World.size_alloc] at b1;have b2:=Blk.new ((w.alloc (.cells #[x.a,x.b,x.c,x.d] 39)).alloc (.cells #[.int .i64 0] 3)) 39 #[x.a,x.b,x.c,x.d];rw [World.size_alloc,World.size_alloc] at b2;have hB0:Below w.heap.size w (((w.alloc (.cells #[x.a,x.b,x.c,x.d] 39)).alloc (.cells #[.int .i64 0] 3)).alloc (.cells #[x.a,x.b,x.c,x.d] 39)):=((below_new w _).alloc (by simp) _).alloc (by simp;omega) _
 refine wpIn_rangeFunc_ownF rfl (by omega) (gf:=153) (lb:=#[.pointer (some ⟨w.heap.size + 1 + 1,0,none⟩)]) rfl trivial (enters_of Tryz.func153 (by kernel_rfl) rfl)
  (nodes_stops (fun _ => True) (fun _ _ _ _ => trivial) (5 - 1) w w.heap.size (Nat.le_refl _) x trivial hN6 (w.heap.size + 1 + 1) _ b2 (KeepT.below hB0 (Nat.le_refl _))) KeepT.trans (KeepT.put (by simp;omega)) (Below.refl _ _) (fun _ => rfl)
  (fun pre W => Blk W (w.heap.size + 1) 3 #[.int .i64 (pre.length:Int)] ∧ Below w.heap.size w W)
  (fun _ _ _ => False)
  (OwnFrom.and (Own.from (blk_own _ _ _) _) (ownFrom_below (Nat.le_refl _) (by simp;omega)))
  (fun _ _ _ _ _ hs _ _ => hs)
  ⟨b1,hB0⟩ ?aa ?assign ?body ?done ?stop
 case assign =>
  intro l y W K hK
  gi_wp2
  exact hK
 case body =>
  rintro k pre y W ⟨hv,hB⟩ hlt;have hc:=hv.c1;have hpl:(pre.length:Int) ≤ 1000000:=by omega
  clear b1 b2 hB0
  gi_wp2
  refine ⟨KeepsOthers.setCell _ _ _,KeepT.setCell hv (by unfold nodeT;decide) (by omega) _ _,?_,hB.setCell (p:=⟨w.heap.size + 1,0,none⟩) (by simp) _⟩
  have:=hv.set 0 (.int .i64 ((pre.length:Int) + 1));rw [List.length_append,List.length_singleton];exact this
 case done =>
  rintro D ys W hD hys ⟨hv,hB⟩ hK;simp at hD;have hl:=congrArg List.length hys;rw [List.length_map,F.nodes_length] at hl;rw [hl] at hv;clear hl hys b1 b2 hB0;have hc:=hv.c1
  gi_wp2
  refine ⟨by simp,.inl ⟨_,_,rfl,run_takeDeferred hK,?_⟩⟩
  exact ⟨_,results_tmp rfl _ _ _,rfl,hB.trans (belowK_b (w:=w) (Nat.le_refl _) W D _ _ (by omega) hK rfl rfl)⟩
 case stop =>
  rintro D c pre W _ _ h _;exact h.elim
theorem F.deep_eq (t:F):t.deep = deepL t.kids + 1:=by
 cases t
 rw [F.deep];rfl
theorem deepL_take:∀ (l:List F) (k:Nat) (h:k < l.length),deepL (l.take (k + 1)) = max (deepL (l.take k)) l[k].deep
 | a :: l,0,_ => by simp [deepL]
 | a :: l,k + 1,h => by
  have:=deepL_take l k (by simpa using h)
  simp only [List.take_succ_cons,deepL,List.getElem_cons_succ,this,Nat.max_assoc]
mutual
theorem F.deep_le:∀ t:F,t.deep ≤ t.size
 | .mk op n ins kids => by
  have:=deepL_le kids;rw [F.deep,F.size];omega
theorem deepL_le:∀ l:List F,deepL l ≤ sizeL l
 | [] => by rw [deepL,sizeL];exact Nat.le_refl _
 | k :: ks => by
  have h1:=F.deep_le k;have h2:=deepL_le ks;rw [deepL,sizeL];omega
end
theorem deep_any:∀ (n:Nat) (w:World) (B:Nat) (x:FNode w B),B ≤ w.heap.size → x.t.size ≤ n → n ≤ 1000000 →
  Calls Tryz.prog 151 #[.agg #[x.a,x.b,x.c,x.d]] w fun e w' => e = .returned (.int .i64 (x.t.deep:Int)) ∧ Below w.heap.size w w':=by
 intro n
 induction n with
 | zero => intro w B x _ h;have:=x.t.size_pos;omega
 | succ n ih =>
  intro w B x hBw hx hn;obtain ⟨A,c,hd,hc,hcell⟩:=x.parts.2.2.2.formulas;have hdp:=x.t.deep_eq;have HK:=Lib.hid (fun (k:F) (h:k ∈ x.t.kids) => F.kid_size h)
  have hlen:x.t.kids.length ≤ 1000000:=by
   have h1:=kids_le x.t.kids;have h2:=x.t.nodes_length;rw [x.t.nodes_eq,List.length_cons,nodes_flat_length] at h2;omega
  have HD:=Lib.hid hdp
  have HS:sizeL x.t.kids ≤ 1000000:=by
   have h2:=x.t.nodes_length;rw [x.t.nodes_eq,List.length_cons,nodes_flat_length] at h2;omega
  have HS:=Lib.hid HS;rw [hd];generalize x.t.deep = dp at *;generalize x.t.kids = kids at *;generalize x.a = xa;generalize x.b = xb;generalize x.c = xc;clear hdp hd;go_enter Tryz.func151,Tryz.ntmps151
  go_wp2;go_loopw [3,9] (fun n i wr => ∃ k:Nat,n = .int .i64 (deepL (kids.take k):Int) ∧ i = .int .i64 (k:Int) ∧ k ≤ kids.length ∧ Below w.heap.size w wr) (fun _ i _ => kids.length - (intOf i).toNat)
  case atStart => exact ⟨0,rfl,rfl,Nat.zero_le _,below_new _ _⟩
  case round =>
   obtain ⟨k,rfl,rfl,hk,hB⟩:=hrel;by_cases hlt:k < kids.length
   ·obtain ⟨b,o,y,rfl,hb,hy,c0,c1,c2,c3⟩:=hcell k hlt
    have hb':b < w.heap.size:=by omega
    have d0:=(hB.cell (p:=⟨b,o + k * 4,none⟩) hb').trans c0;have d1:=(hB.cell (p:=⟨b,o + k * 4 + 1,none⟩) hb').trans c1;have d2:=(hB.cell (p:=⟨b,o + k * 4 + 2,none⟩) hb').trans c2;have d3:=(hB.cell (p:=⟨b,o + k * 4 + 3,none⟩) hb').trans c3;have hmem:kids[k] ∈ kids:=List.getElem_mem _;have hks:=HK.out _ hmem;have HT:=Lib.hid (deepL_take kids k hlt);rw [← hy] at hks HT;have hB2:=hB.alloc hB.size (.cells #[y.a,y.b,y.c,y.d] 39);have HI:=Lib.hid (ih _ B ⟨y.a,y.b,y.c,y.d,y.t,y.h.keep (fun p hp => hB2.cell (Nat.lt_of_lt_of_le hp hBw)) (Nat.le_refl _)⟩ (Nat.le_trans hBw hB2.size) (by dsimp only;omega) (by omega))
    have g1:(y.t.deep:Int) ≤ 1000000:=by have:=F.deep_le y.t;omega
    clear c0 c1 c2 c3 hcell ih hmem hy;dsimp only at HI;obtain ⟨ya,yb,yc,yd,yt,yh⟩:=y;obtain ⟨A1,n1,q1,A2,n2,q2,e1,e2,e3,e4⟩:=node_form yh;dsimp only at *;subst e1 e2 e3 e4;clear yh;go_wp2_with (go_at_call 151;refine HI.out.mono ?_;rintro e w2 ⟨rfl,hb2⟩)
    have HM:=hB2.trans (hb2.mono hB2.size);go_roundw
    case rel =>
     refine ⟨k + 1,?_,by go_num,by omega,HM⟩
     rw [HT.out];congr 1;rw [Nat.max_def];by_cases h1:deepL (kids.take k) < yt.deep
     ·rw [if_pos h1,if_pos (by omega)]
     ·rw [if_neg h1]
      by_cases h2:deepL (kids.take k) ≤ yt.deep
      ·rw [if_pos h2];omega
      ·rw [if_neg h2]
    case measure => simp [intOf];omega
   ·obtain rfl:k = kids.length:=by omega
    have g1:((deepL kids:Nat):Int) ≤ 1000000:=by
     have h1:=deepL_le kids;have h2:=HS.out;omega
    have HD2:((deepL kids:Nat):Int) + 1 = (dp:Int):=by
     rw [HD.out];rfl
    have HD2:=Lib.hid HD2;go_wp2_with fail;go_ret;exact ⟨rfl,hB⟩
def OkNode (t:F):Prop :=
 (t.op = 0 ∧ t.n = 0 ∧ t.ins = [] ∧ t.kids = []) ∨ (t.op = 1 ∧ (0 ≤ t.n ∧ t.n < 64) ∧ t.ins = [] ∧ t.kids = []) ∨ (t.op = 2 ∧ (0 ≤ t.n ∧ t.n < 32) ∧ OkIvs t.ins ∧ t.kids = []) ∨
 ((t.op = 3 ∨ t.op = 6) ∧ t.n = 0 ∧ t.ins = [] ∧ t.kids.length = 1) ∨ ((t.op = 4 ∨ t.op = 5) ∧ t.n = 0 ∧ t.ins = [])
section
variable (A1 A2:Option Addr) (c1 c2:Nat) (w:World)
theorem formed0:Calls Tryz.prog 152 #[.agg #[.int .i64 0,.int .i64 0,.slice A1 0 c1,.slice A2 0 c2]] w fun e w' => e = .returned (.bool true) ∧ Below w.heap.size w w':=by
 go_enter Tryz.func152,Tryz.ntmps152
 go_wp2;go_ret;exact ⟨rfl,below_new _ _⟩
theorem formed1 (n:Int) (h0:0 ≤ n) (h1:n < 64):Calls Tryz.prog 152 #[.agg #[.int .i64 1,.int .i64 n,.slice A1 0 c1,.slice A2 0 c2]] w fun e w' => e = .returned (.bool true) ∧ Below w.heap.size w w':=by
 go_enter Tryz.func152,Tryz.ntmps152
 go_wp2;go_ret;exact ⟨rfl,below_new _ _⟩
theorem formed2 (n:Int) (h0:0 ≤ n) (h1:n < 32) (m:Nat) (HV:∀ W,Below w.heap.size w W → Calls Tryz.prog 178 #[.slice A1 m c1] W fun e w' => e = .returned (.int .i64 0) ∧ Below W.heap.size W w') :
  Calls Tryz.prog 152 #[.agg #[.int .i64 2,.int .i64 n,.slice A1 m c1,.slice A2 0 c2]] w fun e w' => e = .returned (.bool true) ∧ Below w.heap.size w w':=by
 have HH:=Lib.hid HV;clear HV;go_enter Tryz.func152,Tryz.ntmps152
 go_wp2_with (go_at_call 178;refine (HH.out _ (below_new _ _)).mono ?_;rintro e w1 ⟨rfl,hb1⟩)
 go_ret;exact ⟨rfl,below_up (below_new _ _) hb1 (by simp)⟩
theorem formed3:Calls Tryz.prog 152 #[.agg #[.int .i64 3,.int .i64 0,.slice A1 0 c1,.slice A2 1 c2]] w fun e w' => e = .returned (.bool true) ∧ Below w.heap.size w w':=by
 go_enter Tryz.func152,Tryz.ntmps152
 go_wp2;go_ret;exact ⟨rfl,below_new _ _⟩
theorem formed6:Calls Tryz.prog 152 #[.agg #[.int .i64 6,.int .i64 0,.slice A1 0 c1,.slice A2 1 c2]] w fun e w' => e = .returned (.bool true) ∧ Below w.heap.size w w':=by
 go_enter Tryz.func152,Tryz.ntmps152
 go_wp2;go_ret;exact ⟨rfl,below_new _ _⟩
theorem formed4 (m:Nat):Calls Tryz.prog 152 #[.agg #[.int .i64 4,.int .i64 0,.slice A1 0 c1,.slice A2 m c2]] w fun e w' => e = .returned (.bool true) ∧ Below w.heap.size w w':=by
 go_enter Tryz.func152,Tryz.ntmps152
 go_wp2;go_ret;exact ⟨rfl,below_new _ _⟩
theorem formed5 (m:Nat):Calls Tryz.prog 152 #[.agg #[.int .i64 5,.int .i64 0,.slice A1 0 c1,.slice A2 m c2]] w fun e w' => e = .returned (.bool true) ∧ Below w.heap.size w w':=by
 go_enter Tryz.func152,Tryz.ntmps152
 go_wp2;go_ret;exact ⟨rfl,below_new _ _⟩
end
theorem formed_any (w:World) (B:Nat) (hBw:B ≤ w.heap.size) (x:FNode w B) (h:OkNode x.t) :
  Calls Tryz.prog 152 #[.agg #[x.a,x.b,x.c,x.d]] w fun e w' => e = .returned (.bool true) ∧ Below w.heap.size w w':=by
 obtain ⟨e1,e2,r3,r4⟩:=x.parts;obtain ⟨A1,c1,e3,_,_⟩:=r3.ivs;obtain ⟨A2,c2,e4,_,_⟩:=r4.formulas;rw [e1,e2,e3,e4];rcases h with ⟨h1,h2,h3,h4⟩ | ⟨h1,h2,h3,h4⟩ | ⟨h1,h2,h3,h4⟩ | ⟨h1,h2,h3,h4⟩ | ⟨h1,h2,h3⟩
 ·rw [h1,h2,h3,h4];exact formed0 A1 A2 c1 c2 w
 ·rw [h1,h3,h4];exact formed1 A1 A2 c1 c2 w _ h2.1 h2.2
 ·rw [h1,h4]
  refine formed2 A1 A2 c1 c2 w _ h2.1 h2.2 _ (fun W hW => ?_)
  rw [← e3];exact spanvalid_any _ h3 _ W B (Nat.le_trans hBw hW.size) (r3.keep (fun p hp => hW.cell (Nat.lt_of_lt_of_le hp hBw)) (Nat.le_refl _))
 ·rw [h2,h3,h4]
  rcases h1 with h1 | h1
  ·rw [h1];exact formed3 A1 A2 c1 c2 w
  ·rw [h1];exact formed6 A1 A2 c1 c2 w
 ·rw [h2,h3]
  rcases h1 with h1 | h1
  ·rw [h1];exact formed4 A1 A2 c1 c2 w _
  ·rw [h1];exact formed5 A1 A2 c1 c2 w _
def OkF (t:F):Prop:=t.size ≤ 96 ∧ t.deep ≤ 8 ∧ ∀ y ∈ t.nodes,OkNode y
def OkN (t:F):Prop:=t.size ≤ 96 ∧ ∀ y ∈ t.nodes,OkNode y
theorem okN_kids (t:F) (h:OkN t) (k:F) (hk:k ∈ t.kids):OkN k:=⟨by have:=F.kid_size hk;have:=h.1;omega,fun y hy => h.2 y (by
 rw [F.nodes_eq];exact List.mem_cons_of_mem _ (List.mem_flatMap.2 ⟨k,hk,hy⟩))⟩
def FNode.up {w w':World} {B B':Nat} (x:FNode w B) (hk:∀ p:Addr,p.block < B → w'.cell? p = w.cell? p) (hB:B ≤ B'):FNode w' B':=⟨x.a,x.b,x.c,x.d,x.t,x.h.keep hk hB⟩
theorem size_at {w0:World} {B:Nat} (x:FNode w0 B) (W:World) (hk:∀ p:Addr,p.block < B → W.cell? p = w0.cell? p) (hB:B ≤ W.heap.size) (hN6:x.t.size ≤ 1000000) :
  Calls Tryz.prog 150 #[.agg #[x.a,x.b,x.c,x.d]] W fun e w' => e = .returned (.int .i64 (x.t.size:Int)) ∧ Below W.heap.size W w':=size_any W (x.up hk hB) hN6
theorem deep_at {w0:World} {B:Nat} (x:FNode w0 B) (W:World) (hk:∀ p:Addr,p.block < B → W.cell? p = w0.cell? p) (hB:B ≤ W.heap.size) (hN6:x.t.size ≤ 1000000) :
  Calls Tryz.prog 151 #[.agg #[x.a,x.b,x.c,x.d]] W fun e w' => e = .returned (.int .i64 (x.t.deep:Int)) ∧ Below W.heap.size W w':=deep_any x.t.size W W.heap.size (x.up hk hB) (Nat.le_refl _) (Nat.le_refl _) hN6
theorem formed_at {w0:World} {B:Nat} (x:FNode w0 B) (W:World) (hk:∀ p:Addr,p.block < B → W.cell? p = w0.cell? p) (hB:B ≤ W.heap.size) (h:OkNode x.t) :
  Calls Tryz.prog 152 #[.agg #[x.a,x.b,x.c,x.d]] W fun e w' => e = .returned (.bool true) ∧ Below W.heap.size W w':=formed_any W W.heap.size (Nat.le_refl _) (x.up hk hB) h
theorem valid_any (w:World) (B:Nat) (hBw:B ≤ w.heap.size) (x:FNode w B) (h:OkF x.t) :
  Calls Tryz.prog 106 #[.agg #[x.a,x.b,x.c,x.d]] w fun e w' => e = .returned (.int .i64 0) ∧ Below w.heap.size w w':=by
 obtain ⟨hs,hd,hok⟩:=h;have HO:=Lib.hid (show OkN x.t from ⟨hs,hok⟩)
 have hs':(x.t.size:Int) ≤ 96:=by omega
 have hd':(x.t.deep:Int) ≤ 8:=by omega
 have hs6:x.t.size ≤ 1000000:=by omega
 have g1:decide ((96:Int) < (x.t.size:Int)) = false:=by simp;omega
 have g2:decide ((8:Int) < (x.t.deep:Int)) = false:=by simp;omega
 clear hok hs hd;refine (callsIn_wide (n:=5)).1 ?_
 refine callsIn_of_wp_marks Tryz.func106 rfl trivial ?_ rfl
 simp only [Tryz.ntmps106,List.size_toArray,List.length_cons,List.length_nil,Nat.reduceAdd,Nat.reduceSub,Array.replicate_succ,Array.replicate_zero,List.push_toArray,List.append_toArray,List.nil_append,List.cons_append];have B0:=(Blk.new w 39 #[x.a,x.b,x.c,x.d]).alloc (.cells #[.int .i64 0] 47);have R0:=Blk.new (w.alloc (.cells #[x.a,x.b,x.c,x.d] 39)) 47 #[.int .i64 0];rw [World.size_alloc] at R0;have HB0:=(below_new w (.cells #[x.a,x.b,x.c,x.d] 39)).alloc (by simp) (.cells #[.int .i64 0] 47)
 gi_wp2_with fail
 generalize (w.alloc (.cells #[x.a,x.b,x.c,x.d] 39)).alloc (.cells #[.int .i64 0] 47) = W0 at *;have HK:∀ W,Below w.heap.size w W → ∀ p:Addr,p.block < B → W.cell? p = w.cell? p:=fun W hW p hp => hW.cell (Nat.lt_of_lt_of_le hp hBw)
 have HKH:=Lib.hid HK;clear HK;refine ⟨trivial,?_⟩
 refine (callsIn_wide.2 (size_at x W0 (HKH.out _ HB0) (Nat.le_trans hBw HB0.size) hs6)).mono ?_
 rintro e w1 ⟨rfl,hb1⟩;have HB1:=HB0.trans (hb1.mono HB0.size);have B1:=B0.keep hb1;have R1:=R0.keep hb1;have c1:=B1.c4;clear B0 R0 HB0 hb1
 gi_wp2_with fail
 refine ⟨trivial,?_⟩
 refine (callsIn_wide.2 (deep_at x w1 (HKH.out _ HB1) (Nat.le_trans hBw HB1.size) hs6)).mono ?_
 rintro e w2 ⟨rfl,hb2⟩;have HB2:=HB1.trans (hb2.mono HB1.size);have B2:=B1.keep hb2;have R2:=R1.keep hb2;have c2:=B2.c4;clear B1 R1 HB1 hb2 c1
 gi_wp2_with (refine ⟨trivial,?_⟩;gi_at_call 107;refine (callsIn_wide.2 (nodes_any _ _ _ _ _)).mono ?_;rintro e w' ⟨rfl,rfl⟩)
 have R3:=R2.alloc (.cells #[x.a,x.b,x.c,x.d] 39);have B3:=Blk.new w2 39 #[x.a,x.b,x.c,x.d];have HB3:=HB2.alloc HB2.size (.cells #[x.a,x.b,x.c,x.d] 39);have hz:=World.size_alloc w2 (.cells #[x.a,x.b,x.c,x.d] 39);generalize w2.alloc (.cells #[x.a,x.b,x.c,x.d] 39) = w3 at *;clear R2 B2 c2;have hz2:=HB2.size;generalize w2.heap.size = H2 at *
 refine wpIn_rangeFunc_ownH rfl (by omega) (gf:=153) (lb:=#[.pointer (some ⟨H2,0,none⟩)]) rfl trivial (enters_of Tryz.func153 (by kernel_rfl) rfl)
  (nodes_stops OkN okN_kids (5 - 1) w B hBw x HO.out hs6 H2 w3 B3 (KeepT.below HB3 hBw)) KeepT.trans (KeepT.put (Nat.le_trans hBw HB3.size)) (Below.refl _ _) (fun _ => rfl)
  (fun _ W => Blk W (w.heap.size + 1) 47 #[.int .i64 0] ∧ Below w.heap.size w W)
  (fun _ _ _ => False)
  (OwnFrom.and (Own.from (blk_own _ _ (fun _ => #[.int .i64 0])) _) (ownFrom_below (Nat.le_refl _) HB3.size))
  (fun _ _ _ _ _ hs _ _ => hs)
  ⟨R3,HB3⟩
  (fun y a' W => ∃ Bx,Blk W Bx 39 #[y.1.a,y.1.b,y.1.c,y.1.d] ∧ a' = { tmps:=#[.agg #[x.a,x.b,x.c,x.d],.pointer (some ⟨w.heap.size,0,none⟩),.pointer (some ⟨w.heap.size + 1,0,none⟩),.pointer (some ⟨Bx,0,none⟩),.agg #[x.a,x.b,x.c,x.d],.int .i64 (x.t.size:Int),.bool false,.bool false,.agg #[x.a,x.b,x.c,x.d],.int .i64 (x.t.deep:Int),.bool false,.bool false,.agg #[x.a,x.b,x.c,x.d],.func (.func 153) #[] #[.pointer (some ⟨H2,0,none⟩)],.agg #[y.1.a,y.1.b,y.1.c,y.1.d],undef,undef,undef],defers:=[] })
  (fun y a' _ X Y row hs hg hr => by obtain ⟨Bx,h2,h3⟩:=hs;exact ⟨Bx,blk_own Bx 39 (fun (_:Unit) => #[y.1.a,y.1.b,y.1.c,y.1.d]) () X Y row h2 hg (fun r e => (hr r e).2),h3⟩)
  ?assign ?body ?done ?stop
 case assign =>
  rintro l pre y W K ⟨hv,hB⟩ hK;obtain ⟨A1,n1,q1,A2,n2,q2,e1,e2,e3,e4⟩:=node_form y.1.h
  gi_wp2_with fail
  rw [← e1,← e2,← e3,← e4];exact hK _ _ ((KeepsOthers.alloc _ _).from _) (KeepT.alloc W (Nat.le_trans hBw hB.size) _) ⟨hv.alloc _,hB.alloc hB.size _⟩ ⟨W.heap.size,Blk.new W _ _,rfl⟩
 case body =>
  rintro l pre y a' W hl ⟨r,hr⟩ ⟨hv,hB⟩ ⟨Bx,bX,rfl⟩ hlt;have hc:=bX.c4;have HF:=Lib.hid (formed_at y.1 W (HKH.out _ hB) (Nat.le_trans hBw hB.size) (y.2.2 _ (by rw [F.nodes_eq];exact List.mem_cons_self)))
  gi_wp2_with (refine ⟨trivial,?_⟩;gi_at_call 152;refine (CallsIn.inRound l (callsIn_wide.2 HF.out)).mono ?_;rintro e w' ⟨rfl,hb'⟩)
  exact ⟨(KeepsW.others (KeepsW.below hb' (Nat.le_refl _) hB.size)).from _,KeepT.below hb' (Nat.le_trans hBw hB.size),hv.keep hb',hB.trans (hb'.mono hB.size)⟩
 case done =>
  rintro D ys W hD hys ⟨hv,hB⟩ hK;have hc:=hv.c1
  gi_wp2_with fail
  have hK':=(KeepsOthers.setCell W ⟨w.heap.size + 1,0,none⟩ (.int .i64 0)).same D _ hK rfl;have hv':=hv.set1 (.int .i64 0);have hB':=hB.setCell (p:=⟨w.heap.size + 1,0,none⟩) (by simp) (.int .i64 0)
  have hv2:=hv'.grown (grownBy_putObj' _ D (.deferred none)) (fun e => by
   cases e
   unfold Blk at hv';rw [hv'] at hK';cases hK')
  refine ⟨by simp,.inl ⟨_,_,rfl,run_takeDeferred hK',?_⟩⟩
  refine ⟨.int .i64 0,?_,rfl,hB'.trans (belowK_b (w:=w) (Nat.le_refl _) _ D _ _ (Nat.le_trans HB3.size hD) hK' rfl rfl)⟩
  have hc5:=hv2.c1;simp [results,Tryz.f106,go_sem,hc5.1]
 case stop =>
  rintro D c pre W _ _ h _;exact h.elim
mutual
def F.tops:F → List F
 | .mk op n ins kids => if op = 5 then topsL kids else [.mk op n ins kids]
def topsL:List F → List F
 | [] => []
 | k :: ks => k.tops ++ topsL ks
end
theorem topsL_eq:∀ l:List F,topsL l = l.flatMap F.tops
 | [] => by rw [topsL];rfl
 | a :: l => by rw [topsL,topsL_eq l];rfl
theorem F.tops_or {t:F} (h:t.op = 5):t.tops = t.kids.flatMap F.tops:=by
 cases t with
 | mk op n ins kids =>
  rw [F.tops,if_pos (show op = 5 from h),topsL_eq]
  rfl
theorem F.tops_no {t:F} (h:¬ t.op = 5):t.tops = [t]:=by
 cases t with
 | mk op n ins kids =>
  rw [F.tops,if_neg (show ¬ op = 5 from h)]
mutual
theorem F.tops_le:∀ t:F,t.tops.length ≤ t.size
 | .mk op n ins kids => by
  rw [F.tops,F.size];have:=topsL_le kids;split
  ·omega
  ·rw [List.length_singleton];omega
theorem topsL_le:∀ l:List F,(topsL l).length ≤ sizeL l
 | [] => by rw [topsL,sizeL];exact Nat.le_refl _
 | k :: ks => by
  have h1:=F.tops_le k;have h2:=topsL_le ks;rw [topsL,sizeL,List.length_append];omega
end
theorem tops_take (l:List F) (k:Nat) (h:k < l.length):(l.take (k + 1)).flatMap F.tops = (l.take k).flatMap F.tops ++ l[k].tops:=by
 rw [List.take_add_one,List.getElem?_eq_getElem h,List.flatMap_append]
 simp
theorem tops_take_le (l:List F) (k:Nat) (h:k < l.length):((l.take k).flatMap F.tops).length + l[k].tops.length ≤ (l.flatMap F.tops).length:=by
 conv => rhs;rw [← List.take_append_drop (k + 1) l]
 rw [List.flatMap_append,tops_take l k h,List.length_append,List.length_append];omega
def topT (t:TypeId):Prop:=t = 202
section
variable (l By Bd:Nat) (w0:World) (n₀ N:Nat) (J Jx:List (FNode w0 n₀) → World → Prop)
def TBoxes (W:World):Prop:=KeepT topT n₀ w0 W ∧ n₀ ≤ W.heap.size ∧ Blk W By 202 #[.func (.yield l) #[] #[]] ∧ Blk W Bd 202 #[.func (.func 215) #[] #[.pointer (some ⟨By,0,none⟩),.pointer (some ⟨Bd,0,none⟩)]]
def TDowns (x:FNode w0 n₀):Prop:=∀ (pre:List (FNode w0 n₀)) (W:World),J pre W → pre.length + x.t.tops.length ≤ N → TBoxes l By Bd w0 n₀ W →
 Calls Tryz.prog 215 #[.agg #[x.a,x.b,x.c,x.d],.pointer (some ⟨By,0,none⟩),.pointer (some ⟨Bd,0,none⟩)] W fun e W' =>
  (e = .returned (.bool true) ∧ ∃ ys:List (FNode w0 n₀),ys.map FNode.t = x.t.tops ∧ J (pre ++ ys) W' ∧ KeepT topT n₀ W W') ∨ (e = .returned (.bool false) ∧ ∃ q:List (FNode w0 n₀),q.map FNode.t <+: x.t.tops ∧ Jx (pre ++ q) W')
end
theorem TBoxes.keep {l By Bd:Nat} {w0:World} {n₀:Nat} {W W':World} (h:TBoxes l By Bd w0 n₀ W) (k:KeepT topT n₀ W W'):TBoxes l By Bd w0 n₀ W' :=
 ⟨h.1.trans k,Nat.le_trans h.2.1 k.1.size,k.2 _ _ _ rfl h.2.2.1,k.2 _ _ _ rfl h.2.2.2⟩
theorem tkid_any (l By Bd:Nat) (w0:World) (n₀ N:Nat) (J Jx:List (FNode w0 n₀) → World → Prop) (hJ:∀ pre W o,J pre W → J pre (W.alloc o)) (x:FNode w0 n₀) (hx:TDowns l By Bd w0 n₀ N J Jx x)
  (pre:List (FNode w0 n₀)) (W:World) (h0:J pre W) (hN:pre.length + x.t.tops.length ≤ N) (hB:TBoxes l By Bd w0 n₀ W) :
  Calls Tryz.prog 216 #[.agg #[x.a,x.b,x.c,x.d],.pointer (some ⟨Bd,0,none⟩)] W fun e W' =>
   (e = .returned (.bool false) ∧ ∃ ys:List (FNode w0 n₀),ys.map FNode.t = x.t.tops ∧ J (pre ++ ys) W' ∧ KeepT topT n₀ W W') ∨ (e = .returned (.bool true) ∧ ∃ q:List (FNode w0 n₀),q.map FNode.t <+: x.t.tops ∧ Jx (pre ++ q) W'):=by
 have hK:KeepT topT n₀ W (W.alloc (.cells #[x.a,x.b,x.c,x.d] 39)):=KeepT.alloc W hB.2.1 _;have HD:=Lib.hid (hx pre _ (hJ _ _ _ h0) hN (hB.keep hK));have hc:=(hB.keep hK).2.2.2.c1;have HK:=Lib.hid hK;clear h0 hB hx hJ hK;go_enter Tryz.func216,Tryz.ntmps216
 go_wp2_with (refine HD.out.mono ?_;rintro e w2 (⟨rfl,ys,hy,hJ2,hk2⟩ | ⟨rfl,q,hq,hx2⟩))
 ·go_ret
  exact .inl ⟨rfl,ys,hy,hJ2,HK.out.trans hk2⟩
 ·go_ret
  exact .inr ⟨rfl,q,hq,hx2⟩
theorem tdown_any (P:F → Prop) (hP:∀ t,P t → ∀ k ∈ t.kids,P k) (l By Bd:Nat) (w0:World) (n₀ N:Nat) (J Jx:List (FNode w0 n₀) → World → Prop) (hJ:∀ pre W o,J pre W → J pre (W.alloc o))
  (hY:∀ m pre (x:FNode w0 n₀) W,P x.t → J pre W → pre.length < N → YieldAt Fence.wide m Tryz.prog l #[.agg #[x.a,x.b,x.c,x.d]] W fun e W' =>
   (e = .returned (.bool true) ∧ J (pre ++ [x]) W' ∧ KeepT topT n₀ W W') ∨ (e = .returned (.bool false) ∧ Jx (pre ++ [x]) W')) :
  ∀ (n:Nat) (x:FNode w0 n₀),P x.t → x.t.size ≤ n → n ≤ 1000000 → TDowns l By Bd w0 n₀ N J Jx x:=by
 intro n
 induction n with
 | zero => intro x _ h;have:=x.t.size_pos;omega
 | succ n ih =>
  intro x hPx hxn hn6 pre W h0 hN hB;have hK:KeepT topT n₀ W (W.alloc (.cells #[x.a,x.b,x.c,x.d] 39)):=KeepT.alloc W hB.2.1 _;have hB1:=hB.keep hK;have e1:=x.parts.1;by_cases h5:x.t.op = 5
  ·rw [F.tops_or h5] at hN ⊢
   have hl6:x.t.kids.length ≤ 1000000:=by
    have:=kids_le x.t.kids;have h2:=x.t.nodes_length;rw [x.t.nodes_eq,List.length_cons,nodes_flat_length] at h2;omega
   have HC:=Lib.hid ((contains_any w0 n₀ x.t.kids x.d x.parts.2.2.2 hl6 (KeepT topT n₀) (fun _ _ h => h.1) (fun _ => KeepT.refl _ _ _) (fun _ _ _ h k => h.trans k)
    216 (enters_of Tryz.func216 (by kernel_rfl) rfl) (.pointer (some ⟨Bd,0,none⟩))
    (fun k W' => (∃ ys:List (FNode w0 n₀),ys.map FNode.t = (x.t.kids.take k).flatMap F.tops ∧ J (pre ++ ys) W') ∧ KeepT topT n₀ (W.alloc (.cells #[x.a,x.b,x.c,x.d] 39)) W')
    (fun _ W' => ∃ q:List (FNode w0 n₀),q.map FNode.t <+: x.t.kids.flatMap F.tops ∧ Jx (pre ++ q) W')
    (by
     intro k hk y W3 hy hJk hkw;obtain ⟨⟨ys,hys,hJ3⟩,hk3⟩:=hJk;have hmem:y.t ∈ x.t.kids:=by rw [hy];exact List.getElem_mem _
     have hsk:=F.kid_size hmem;have htl:=tops_take_le x.t.kids k hk;have hyl:ys.length = ((x.t.kids.take k).flatMap F.tops).length:=by rw [← hys,List.length_map]
     refine (tkid_any l By Bd w0 n₀ N J Jx hJ y (ih y (hP _ hPx _ hmem) (by omega) (by omega)) (pre ++ ys) W3 hJ3 ?_ (hB1.keep hk3)).mono ?_
     ·rw [hy,List.length_append]
      omega
     ·rintro e W4 (⟨he,zs,hz,hJ4,hk4⟩ | ⟨he,q,hq,hx4⟩)
      ·refine .inl ⟨he,⟨⟨ys ++ zs,?_,by rw [← List.append_assoc];exact hJ4⟩,hk3.trans hk4⟩,hk4⟩
       rw [tops_take _ _ hk,List.map_append,hys,hz,hy]
      ·refine .inr ⟨he,ys ++ q,?_,by rw [← List.append_assoc];exact hx4⟩
       rw [List.map_append,hys];refine List.IsPrefix.trans (l₂:=(x.t.kids.take (k + 1)).flatMap F.tops) ?_ ?_
       ·rw [tops_take _ _ hk,← hy]
        exact (List.prefix_append_right_inj _).2 hq
       ·conv => rhs;rw [← List.take_append_drop (k + 1) x.t.kids]
        rw [List.flatMap_append];exact List.prefix_append _ _)
    (W.alloc (.cells #[x.a,x.b,x.c,x.d] 39)) ⟨⟨[],by simp,by rw [List.append_nil];exact hJ _ _ _ h0⟩,KeepT.refl _ _ _⟩ hB1.1))
   have HK:=Lib.hid hK;rw [h5] at e1;rw [e1] at HC HK ⊢;have hkl:(x.t.kids.take x.t.kids.length) = x.t.kids:=List.take_length;rw [hkl] at HC;clear hY hJ ih h0 hB hB1 hN hxn hK e1 hkl;go_enter Tryz.func215,Tryz.ntmps215
   go_wp2_with (go_at_call 155;refine HC.out.mono ?_;rintro e w3 (⟨rfl,⟨⟨ys,hys,hJ3⟩,hk3⟩,_⟩ | ⟨k,_,rfl,q,hq,hx3⟩))
   ·go_ret
    exact .inl ⟨rfl,ys,hys,hJ3,HK.out.trans hk3⟩
   ·go_ret
    exact .inr ⟨rfl,q,hq,hx3⟩
  ·rw [F.tops_no h5] at hN ⊢
   have hc:=hB1.2.2.1.c1
   have hy:=YieldAt.mono (hY 4 pre x _ hPx (hJ _ _ _ h0) (by rw [List.length_singleton] at hN;omega)) (R':=fun e W2 =>
    (e = .returned (.bool true) ∧ J (pre ++ [x]) W2 ∧ KeepT topT n₀ W W2) ∨ (e = .returned (.bool false) ∧ Jx (pre ++ [x]) W2)) (fun e W2 h => by
     rcases h with ⟨he,hj,hk⟩ | h
     ·exact .inl ⟨he,hj,hK.trans hk⟩
     ·exact .inr h)
   obtain ⟨fn,tmps,assign,body,hyr,hR⟩:=hy;have HR:=Lib.hid hR;have h5':(x.t.op != 5) = true:=by simpa using h5
   have HX:∃ x':FNode w0 n₀,x' = x:=⟨_,rfl⟩;rw [e1] at HR hc hyr ⊢;clear hY hJ ih h0 hB hB1 hR hN hxn hK e1;refine (callsIn_wide (n:=5)).1 ?_
   refine callsIn_of_wp Tryz.func215 rfl trivial ?_ rfl
   simp only [Tryz.ntmps215,List.size_toArray,List.length_cons,List.length_nil,Nat.reduceAdd,Nat.reduceSub,Array.replicate_succ,Array.replicate_zero,List.push_toArray,List.append_toArray,List.nil_append,List.cons_append]
   gi_wp2_with fail
   refine HR.out.mono ?_
   rintro e W2 (⟨rfl,hj,hk⟩ | ⟨rfl,hx⟩)
   ·gi_wp2_with fail
    go_ret;exact .inl ⟨rfl,[x],rfl,hj,hk⟩
   ·gi_wp2_with fail
    go_ret;exact .inr ⟨rfl,[x],List.prefix_refl _,hx⟩
theorem tops1_in (P:F → Prop) (hP:∀ t,P t → ∀ k ∈ t.kids,P k) (l:Nat) (w0:World) (n₀:Nat) (hn0:n₀ ≤ w0.heap.size) (x:FNode w0 n₀) (hPx:P x.t) (hN6:x.t.size ≤ 1000000) (J Jx:List (FNode w0 n₀) → World → Prop) (hJ:∀ pre W o,J pre W → J pre (W.alloc o))
  (hY:∀ m pre (y:FNode w0 n₀) W,P y.t → J pre W → pre.length < x.t.tops.length → YieldAt Fence.wide m Tryz.prog l #[.agg #[y.a,y.b,y.c,y.d]] W fun e W' =>
   (e = .returned (.bool true) ∧ J (pre ++ [y]) W' ∧ KeepT topT n₀ W W') ∨ (e = .returned (.bool false) ∧ Jx (pre ++ [y]) W'))
  (Bf:Nat) (W:World) (hbf:Blk W Bf 39 #[x.a,x.b,x.c,x.d]) (hk:KeepT topT n₀ w0 W) (h0:J [] W) :
  Calls Tryz.prog 214 #[.func (.yield l) #[] #[],.pointer (some ⟨Bf,0,none⟩)] W fun e W' => (∃ v,e = .returned v) ∧
   ((∃ ys:List (FNode w0 n₀),ys.map FNode.t = x.t.tops ∧ J ys W') ∨ (∃ pre:List (FNode w0 n₀),pre.map FNode.t <+: x.t.tops ∧ Jx pre W')):=by
 have W1:∃ z,W.alloc (.cells #[.func (.yield l) #[] #[]] 202) = z:=⟨_,rfl⟩
 obtain ⟨W1,hW1⟩:=W1;have b1:=Blk.new W 202 #[.func (.yield l) #[] #[]]
 have k1:KeepT topT n₀ W (W.alloc (.cells #[.func (.yield l) #[] #[]] 202)):=KeepT.alloc W (Nat.le_trans hn0 hk.1.size) _
 have b2:=Blk.new (W.alloc (.cells #[.func (.yield l) #[] #[]] 202)) 202 #[.func (.func 215) #[] #[.pointer (some ⟨W.heap.size,0,none⟩),.pointer (some ⟨W.heap.size + 1,0,none⟩)]]
 rw [World.size_alloc] at b2;have k2:=k1.trans (KeepT.alloc _ (by rw [World.size_alloc];exact Nat.le_succ_of_le (Nat.le_trans hn0 hk.1.size)) (.cells #[.func (.func 215) #[] #[.pointer (some ⟨W.heap.size,0,none⟩),.pointer (some ⟨W.heap.size + 1,0,none⟩)]] 202))
 have HD:=Lib.hid (tdown_any P hP l W.heap.size (W.heap.size + 1) w0 n₀ x.t.tops.length J Jx hJ hY x.t.size x hPx (Nat.le_refl _) hN6 [] _ (hJ _ _ _ (hJ _ _ _ h0)) (by simp)
  ⟨hk.trans k2,Nat.le_trans (Nat.le_trans hn0 hk.1.size) k2.1.size,b1.alloc _,b2⟩)
 have hc:=((hbf.alloc (.cells #[.func (.yield l) #[] #[]] 202)).alloc (.cells #[.func (.func 215) #[] #[.pointer (some ⟨W.heap.size,0,none⟩),.pointer (some ⟨W.heap.size + 1,0,none⟩)]] 202)).c4
 clear b1 b2 k1 k2 hY hJ h0 hk hbf W1 hW1;go_enter Tryz.func214,Tryz.ntmps214
 go_wp2_with (refine HD.out.mono ?_;rintro e w3 (⟨rfl,ys,hys,hJ3,_⟩ | ⟨rfl,q,hq,hx3⟩))
 ·go_end0
  exact ⟨⟨_,rfl⟩,.inl ⟨ys,hys,by simpa using hJ3⟩⟩
 ·go_end0
  exact ⟨⟨_,rfl⟩,.inr ⟨q,hq,by simpa using hx3⟩⟩
theorem tops_any (a b c d:Value) (w:World) :
  Calls Tryz.prog 204 #[.agg #[a,b,c,d]] w fun e w' => e = .returned (.func (.func 214) #[] #[.pointer (some ⟨w.heap.size,0,none⟩)]) ∧ w' = w.alloc (.cells #[a,b,c,d] 39):=by
 go_enter Tryz.func204,Tryz.ntmps204
 go_wp2;go_ret;exact ⟨rfl,rfl⟩
theorem tops_stops (P:F → Prop) (hP:∀ t,P t → ∀ k ∈ t.kids,P k) (n:Nat) (w0:World) (n₀:Nat) (hn0:n₀ ≤ w0.heap.size) (x:FNode w0 n₀) (hPx:P x.t) (hN6:x.t.size ≤ 1000000) (Bf:Nat) (w:World) (hbf:Blk w Bf 39 #[x.a,x.b,x.c,x.d]) (hk:KeepT topT n₀ w0 w) :
  SeqStopsK Fence.wide n Tryz.prog 214 #[.pointer (some ⟨Bf,0,none⟩)] (fun y:PNode P w0 n₀ => #[.agg #[y.1.a,y.1.b,y.1.c,y.1.d]]) (KeepT topT n₀) (fun ys => ys.map (fun y => y.1.t) = x.t.tops) (fun pre => pre.map (fun y => y.1.t) <+: x.t.tops) x.t.tops.length w:=fun l J Jx W hW hJ _ hY h0 => by
 have hm:∀ ys:List (PNode P w0 n₀),(ys.map Subtype.val).map FNode.t = ys.map (fun y => y.1.t):=fun ys => List.map_map ..
 refine callsIn_wide.2 ((tops1_in P hP l w0 n₀ hn0 x hPx hN6 (fun pre W => ∃ q:List (PNode P w0 n₀),q.map Subtype.val = pre ∧ J q W) (fun pre W => ∃ q:List (PNode P w0 n₀),q.map Subtype.val = pre ∧ Jx q W)
  (fun pre W o ⟨q,hq,h⟩ => ⟨q,hq,hJ _ _ _ _ h (World.grownBy_alloc W o none) (fun r e => by cases e)⟩)
  (fun m pre y W hPy ⟨q,hq,h⟩ hl => (YieldAt.anyDepth rfl m (hY q ⟨y,hPy⟩ W h (by rw [← hq,List.length_map] at hl;exact hl))).mono fun e W' hh => ?_) Bf W (hbf.keep hW) (hk.trans (KeepT.below hW (Nat.le_trans hn0 hk.1.size))) ⟨[],rfl,h0⟩).mono fun e W' hh => ?_)
 ·rcases hh with ⟨he,hj,hkk⟩ | ⟨he,hj⟩
  ·exact .inl ⟨he,⟨q ++ [⟨y,hPy⟩],by rw [List.map_append,hq];rfl,hj⟩,hkk⟩
  ·exact .inr ⟨he,⟨q ++ [⟨y,hPy⟩],by rw [List.map_append,hq];rfl,hj⟩⟩
 ·obtain ⟨he,hh⟩:=hh
  refine ⟨he,?_⟩
  rcases hh with ⟨ys,hy,q,hq,hj⟩ | ⟨pre,hp,q,hq,hj⟩
  ·exact .inl ⟨q,by dsimp only;rw [← hm,hq,hy],hj⟩
  ·exact .inr ⟨q,by dsimp only;rw [← hm,hq];exact hp,hj⟩
structure Cl where
 refs:List Int
 body:F
def Cl.cells (c:Cl):List D:=.s 1 (valD (ints c.refs)) :: c.body.cells
theorem Cl.cells_length (c:Cl):c.cells.length = 5:=by unfold Cl.cells;rw [List.length_cons,F.cells_length]
structure CNode (w:World) (B:Nat) where
 r:Value
 a:Value
 b:Value
 c:Value
 d:Value
 t:Cl
 hr:Rep w B r (.s 1 (valD (ints t.refs)))
 h:RepL w B [a,b,c,d] t.body.cells
def CNode.body {w:World} {B:Nat} (x:CNode w B):FNode w B:=⟨x.a,x.b,x.c,x.d,x.t.body,x.h⟩
theorem Rep.claims {w:World} {B:Nat} {v:Value} {l:List Cl} (h:Rep w B v (.s 5 (l.flatMap Cl.cells))):∃ (A:Option Addr) (c:Nat),v = .slice A l.length c ∧ l.length ≤ c ∧
  ∀ (k:Nat) (hk:k < l.length),∃ (b o:Nat) (y:CNode w B),A = some ⟨b,o,none⟩ ∧ b < B ∧ y.t = l[k] ∧ w.cell? ⟨b,o + k * 5,none⟩ = some y.r ∧ w.cell? ⟨b,o + k * 5 + 1,none⟩ = some y.a ∧ w.cell? ⟨b,o + k * 5 + 2,none⟩ = some y.b ∧ w.cell? ⟨b,o + k * 5 + 3,none⟩ = some y.c ∧ w.cell? ⟨b,o + k * 5 + 4,none⟩ = some y.d:=by
 obtain ⟨A,n,c,rfl,hn,hl,hc⟩:=h.slice;have hfl:=flat_length (l:=l) (f:=Cl.cells) (k:=5) (fun x _ => x.cells_length)
 have hnl:n = l.length:=by omega
 subst hnl;refine ⟨A,c,rfl,hn,fun k hk => ?_⟩
 obtain ⟨b,o,cs,rfl,hb,hr,hcell⟩:=hc (by omega)
 have hp:=flat_part (l:=l) (f:=Cl.cells) (k:=5) (i:=k) (a:=l[k]) (fun x _ => x.cells_length) (List.getElem?_eq_getElem hk)
 have hr2:=(hr.drop (k * 5)).take 5;rw [hp] at hr2;have hlen:cs.length = l.length * 5:=hr.1.trans hfl;have h0:k * 5 < cs.length:=by omega
 have h1:k * 5 + 1 < cs.length:=by omega
 have h2:k * 5 + 2 < cs.length:=by omega
 have h3:k * 5 + 3 < cs.length:=by omega
 have h4:k * 5 + 4 < cs.length:=by omega
 have e:(cs.drop (k * 5)).take 5 = [cs[k * 5],cs[k * 5 + 1],cs[k * 5 + 2],cs[k * 5 + 3],cs[k * 5 + 4]]:=by
  rw [List.drop_eq_getElem_cons h0,List.drop_eq_getElem_cons h1,List.drop_eq_getElem_cons h2,List.drop_eq_getElem_cons h3,List.drop_eq_getElem_cons h4];rfl
 rw [e] at hr2;obtain ⟨u,cs',e',hu,ht⟩:=RepL.inv hr2;injection e' with e1 e2
 subst e1 e2;exact ⟨b,o,⟨_,_,_,_,_,l[k],hu,ht⟩,rfl,hb,rfl,hcell _ _ (List.getElem?_eq_getElem h0),hcell _ _ (List.getElem?_eq_getElem h1),hcell _ _ (List.getElem?_eq_getElem h2),hcell _ _ (List.getElem?_eq_getElem h3),hcell _ _ (List.getElem?_eq_getElem h4)⟩
def RefsOk (r:List Int) (i:Nat):Prop:=∀ j (h:j < r.length),0 ≤ r[j] ∧ r[j] < (i:Int) ∧ ∀ (h2:0 < j),r[j - 1] < r[j]
def lastR (r:List Int) (k:Nat):Int:=if k = 0 then -1 else r.getD (k - 1) 0
theorem lastR_lt {r:List Int} {i:Nat} (h:RefsOk r i) (k:Nat) (hk:k < r.length):lastR r k < r[k]:=by
 unfold lastR;by_cases e:k = 0
 ·rw [if_pos e]
  have:=(h k hk).1;omega
 ·rw [if_neg e]
  have:=(h k hk).2.2 (by omega)
  rw [List.getD_eq_getElem?_getD,List.getElem?_eq_getElem (by omega)]
  exact this
theorem lastR_succ {r:List Int} (k:Nat) (hk:k < r.length):lastR r (k + 1) = r[k]:=by
 unfold lastR;rw [if_neg (by omega),List.getD_eq_getElem?_getD,Nat.add_sub_cancel,List.getElem?_eq_getElem hk]
 rfl
theorem refs_any (r:List Int) (i:Nat) (hl:r.length ≤ 1000) (hok:RefsOk r i) (v:Value) (w:World) (B:Nat) (hr:Rep w B v (.s 1 (valD (ints r)))) :
  Calls Tryz.prog 157 #[v,.int .i64 (i:Int)] w fun e w' => e = .returned (.bool true) ∧ w' = w:=by
 obtain ⟨A,c,rfl,hc,hcell⟩:=hr.row;rw [ints_length] at hc ⊢;clear hr;go_enter Tryz.func157,Tryz.ntmps157
 go_wp2;go_loopw [5,10] (fun q j wr => ∃ k:Nat,q = .int .i64 (lastR r k) ∧ j = .int .i64 (k:Int) ∧ k ≤ r.length ∧ wr = w) (fun _ j _ => r.length - (intOf j).toNat)
 case atStart => exact ⟨0,rfl,rfl,Nat.zero_le _,rfl⟩
 case round =>
  obtain ⟨k,rfl,rfl,hk,rfl⟩:=hrel;by_cases hlt:k < r.length
  ·obtain ⟨b,o,rfl,hb,c0⟩:=hcell k _ (ints_get r k hlt)
   have h1:=lastR_lt hok k hlt;have h2:=(hok k hlt).2.1;have hs:=lastR_succ k hlt;have d1:decide (r[k] ≤ lastR r k) = false:=by simp;omega
   have d2:decide ((i:Int) ≤ r[k]) = false:=by simp;omega
   generalize lastR r k = q at *;generalize r[k] = z at *;clear hcell hok;go_wp2_with fail;go_roundw
   case rel => exact ⟨k + 1,by rw [hs],by go_num,by omega,trivial⟩
   case measure => simp [intOf];omega
  ·obtain rfl:k = r.length:=by omega
   clear hcell hok;go_wp2_with fail;go_ret;exact ⟨rfl,rfl⟩
theorem Blk.c5 {W:World} {g:Nat} {t:TypeId} {a b c d e:Value} (h:Blk W g t #[a,b,c,d,e]):W.cell? ⟨g,0,none⟩ = some a ∧ W.cell? ⟨g,1,none⟩ = some b ∧ W.cell? ⟨g,2,none⟩ = some c ∧ W.cell? ⟨g,3,none⟩ = some d ∧ W.cell? ⟨g,4,none⟩ = some e:=⟨h.cell 0,h.cell 1,h.cell 2,h.cell 3,h.cell 4⟩
def OkCl (l:List Cl):Prop:=l.length ≤ 32 ∧ ∀ i (h:i < l.length),RefsOk l[i].refs i ∧ l[i].refs.length ≤ 8 ∧ OkF l[i].body
theorem clm_form {w:World} {B:Nat} (x:CNode w B):∃ A0 q0 A1 n1 q1 A2 n2 q2,x.r = .slice A0 x.t.refs.length q0 ∧ x.a = .int .i64 x.t.body.op ∧ x.b = .int .i64 x.t.body.n ∧ x.c = .slice A1 n1 q1 ∧ x.d = .slice A2 n2 q2:=by
 obtain ⟨A0,q0,e,_,_⟩:=x.hr.row;rw [ints_length] at e;obtain ⟨A1,n1,q1,A2,n2,q2,e1,e2,e3,e4⟩:=node_form x.h;exact ⟨A0,q0,A1,n1,q1,A2,n2,q2,e,e1,e2,e3,e4⟩
theorem cvalid_any (l:List Cl) (hok:OkCl l) (v:Value) (w:World) (B:Nat) (hBw:B ≤ w.heap.size) (hr:Rep w B v (.s 5 (l.flatMap Cl.cells))) :
  Calls Tryz.prog 110 #[v] w fun e w' => e = .returned (.int .i64 0) ∧ Below w.heap.size w w':=by
 obtain ⟨A,c,rfl,hc,hcell⟩:=hr.claims;obtain ⟨hl,hi⟩:=hok;have HI:=Lib.hid hi;have HCELL:=Lib.hid hcell;have d0:decide ((32:Int) < (l.length:Int)) = false:=by simp;omega
 clear hr hcell hi;go_enter Tryz.func110,Tryz.ntmps110
 go_wp2_with fail;go_loopw [11] (fun j wr => ∃ k:Nat,j = .int .i64 (k:Int) ∧ k ≤ l.length ∧ Below w.heap.size w wr) (fun j _ => l.length - (intOf j).toNat)
 case atStart => exact ⟨0,rfl,Nat.zero_le _,Below.refl _ _⟩
 case round =>
  obtain ⟨k,rfl,hk,hB⟩:=hrel;by_cases hlt:k < l.length
  ·obtain ⟨b,o,y,rfl,hb,hy,c0,c1,c2,c3,c4⟩:=HCELL.out k hlt
   have hb':b < w.heap.size:=Nat.lt_of_lt_of_le hb hBw;have e0:=(hB.cell (p:=⟨b,o + k * 5,none⟩) hb').trans c0;have e1:=(hB.cell (p:=⟨b,o + k * 5 + 1,none⟩) hb').trans c1;have e2:=(hB.cell (p:=⟨b,o + k * 5 + 2,none⟩) hb').trans c2;have e3:=(hB.cell (p:=⟨b,o + k * 5 + 3,none⟩) hb').trans c3;have e4:=(hB.cell (p:=⟨b,o + k * 5 + 4,none⟩) hb').trans c4;obtain ⟨hro,hrl,hof⟩:=HI.out k hlt;rw [← hy] at hro hrl hof;have hkeep:∀ W,Below w.heap.size w W → ∀ p:Addr,p.block < B → W.cell? p = w.cell? p:=fun W hW p hp => hW.cell (Nat.lt_of_lt_of_le hp hBw)
   have HR:=Lib.hid (fun (W:World) (hW:Below w.heap.size w W) => refs_any y.t.refs k (by omega) hro y.r W B (y.hr.keep (hkeep W hW) (Nat.le_refl _)))
   have HV:=Lib.hid (fun (W:World) (hW:Below w.heap.size w W) => valid_any W B (Nat.le_trans hBw hW.size) (y.body.up (hkeep W hW) (Nat.le_refl _)) hof)
   obtain ⟨A0,q0,A1,n1,q1,A2,n2,q2,f0,f1,f2,f3,f4⟩:=clm_form y;dsimp only [FNode.up,CNode.body] at HV;have d1:decide ((8:Int) < (y.t.refs.length:Int)) = false:=by simp;omega
   rw [f0] at HR;rw [f1,f2,f3,f4] at HV;rw [f0] at e0;rw [f1] at e1;rw [f2] at e2;rw [f3] at e3;rw [f4] at e4;clear c0 c1 c2 c3 c4 f0 f1 f2 f3 f4 hy hro hof hkeep;generalize y.t.refs.length = rl at *;generalize y.t.body.op = op at *;generalize y.t.body.n = nn at *;have X0:=Blk.new wr 169 #[.slice A0 rl q0,.int .i64 op,.int .i64 nn,.slice A1 n1 q1,.slice A2 n2 q2];have Q0:=hB.alloc hB.size (.cells #[.slice A0 rl q0,.int .i64 op,.int .i64 nn,.slice A1 n1 q1,.slice A2 n2 q2] 169);go_wp2_with fail;refine (HR.out _ Q0).mono ?_
   rintro e w1 ⟨rfl,rfl⟩;go_wp2_with fail;refine (HV.out _ Q0).mono ?_
   rintro e w2 ⟨rfl,hb2⟩;have Q2:=below_up Q0 hb2 Q0.size;clear e0 e1 e2 e3 e4;go_wp2_with fail;go_roundw
   case rel => exact ⟨k + 1,by go_num,by omega,Q2⟩
   case measure => simp [intOf];omega
  ·obtain rfl:k = l.length:=by omega
   go_wp2_with fail;go_ret;exact ⟨rfl,hB⟩
end Go.Proofs.YtbeaijjaecaidaaGreatDoor
