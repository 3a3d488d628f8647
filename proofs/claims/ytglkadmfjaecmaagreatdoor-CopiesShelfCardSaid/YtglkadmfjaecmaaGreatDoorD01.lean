import Derived.Test.YtglkadmfjaecmaaGreatDoorProg
import Derived.WalkKit
import Derived.WalkSpells
import Derived.WalkLawsBesides
import Derived.Lib.Hide
import Derived.Laws.Bits64
import Derived.RangeFuncNested
import Derived.RangeFuncBound
import Derived.RangeFuncCalls
import Derived.RangeFuncLeaves
import Derived.RangeFuncBox
import Derived.Shelf.Abstract
import Derived.Shelf.RegionOpen
import Derived.OwnWalkIn
import Derived.TacticsInMore
import Derived.LoopNIn
import Derived.LoopIn
import Derived.Below
import Derived.Deep.Draws
import Derived.Laws.AppendOwn
import Derived.Laws.OwnMore
import Derived.RangeFuncFrom
import Derived.RangeFuncWrites
import Derived.Deep.RegionHeld
import Derived.OrdersHeld
import Derived.Deep.DrawnRows
import Derived.Deep.DeepCutAuto
import Derived.Outline
import Derived.Lib.AppendStr
import Derived.Laws.BytesArg
import Derived.Lib.SliceRun
import Derived.Laws.AppendOwnNone
import Derived.Deep.QuietTactic
import Derived.BigQuiet
import Derived.Deep.RegionWith
import Derived.Deep.RegionHeld3
import Derived.Laws.EntriesVeiled
import Derived.OrdersIn
import Derived.AtR
import Derived.Maps.AppendAt
import Derived.Lib.AppendZerosOnto
import Derived.Maps.OwnSet
import Derived.ProofKit
import Derived.OpenShut
import Derived.Deep.DeepHandedRow
import Derived.Lay
import Derived.MakeChecks
import Derived.Lib.LaidTab
import Derived.ChangeSlices
import Derived.Lib.ConvBytes
import Derived.Maps.RangeWalk
import Derived.Deep.MidRow
import Derived.Laws.Tables
import Derived.Laws.ResultCell
import Derived.Maps.OwnIn
import Derived.Sort.MapsRangeIn
import Derived.RangeFuncMany
set_option maxRecDepth 100000
set_option maxHeartbeats 16000000
namespace Go.Proofs.YtglkadmfjaecmaaGreatDoor
open Go.RowKit Go.Shelf
variable {Q:Exit -> Act -> World -> Prop} {S:World -> Prop} {fuel:Nat} {ops:Array Oper} {w:World}
theorem rd {P: Program} {md: Region.Mode} {listed: Array Bool} {a: Act} {w: World} (i : Nat) (d : Option Nat) {op: Op} {ty: TypeId} {pos: String} {after: Array Edge} {g: Option (Nat × Bool)} (ho : ops[i]? = some ⟨d, op, ty, pos, after, g⟩)
    (h : ∀ K' : Act -> World -> Prop, Shut (∀ a w, S w -> (S w -> wpAnyH P md ops Q S fuel (listed.setIfInBounds i true) a w) -> K' a w) -> if Region.wanted ⟨d, op, ty, pos, after, g⟩ (yielded ops a.tmps) = true then Oper.wp P ⟨d, op, ty, pos, after, g⟩ a w K' Q else K' (a.put (⟨d, op, ty, pos, after, g⟩ : Oper).dst undef) w) (hr : Region.ready md ops listed = [i] := by kernel_rfl) : wpAnyH P md ops Q S (fuel + 1) listed a w :=
  wpAnyH_ready hr (by simp) (AllReadyH.cons ho h AllReadyH.nil)
theorem rd2 {P: Program} {md: Region.Mode} {listed: Array Bool} {a: Act} {w: World} (i : Nat) (d : Option Nat) (j : Nat) (d' : Option Nat) {op: Op} {ty: TypeId} {pos: String} {after: Array Edge} {g: Option (Nat × Bool)} {op': Op} {ty': TypeId} {pos': String} {after': Array Edge} {g': Option (Nat × Bool)} (hr : Region.ready md ops listed = [i, j]) (ho : ops[i]? = some ⟨d, op, ty, pos, after, g⟩) (ho' : ops[j]? = some ⟨d', op', ty', pos', after', g'⟩)
    (h : ∀ K' : Act -> World -> Prop, Shut (∀ a w, S w -> (S w -> wpAnyH P md ops Q S fuel (listed.setIfInBounds i true) a w) -> K' a w) -> if Region.wanted ⟨d, op, ty, pos, after, g⟩ (yielded ops a.tmps) = true then Oper.wp P ⟨d, op, ty, pos, after, g⟩ a w K' Q else K' (a.put (⟨d, op, ty, pos, after, g⟩ : Oper).dst undef) w)
    (h' : ∀ K' : Act -> World -> Prop, Shut (∀ a w, S w -> (S w -> wpAnyH P md ops Q S fuel (listed.setIfInBounds j true) a w) -> K' a w) -> if Region.wanted ⟨d', op', ty', pos', after', g'⟩ (yielded ops a.tmps) = true then Oper.wp P ⟨d', op', ty', pos', after', g'⟩ a w K' Q else K' (a.put (⟨d', op', ty', pos', after', g'⟩ : Oper).dst undef) w) : wpAnyH P md ops Q S (fuel + 1) listed a w :=
  wpAnyH_ready hr (by simp) (AllReadyH.cons ho h (AllReadyH.cons ho' h' AllReadyH.nil))
theorem pS (a : Act) (t : Nat) (v : Value) : a.put (some t) v = { a with tmps := a.tmps.setIfInBounds t v } := rfl
theorem pB {α: Type} (l : List α) (i : Nat) (a : α) : l.toArray.setIfInBounds i a = (l.set i a).toArray := List.setIfInBounds_toArray ..
theorem pZ {α: Type} (x : α) (l : List α) (a : α) : (x :: l).set 0 a = a :: l := rfl
theorem pC {α: Type} (x : α) (l : List α) (n : Nat) (a : α) : (x :: l).set (n + 1) a = x :: l.set n a := rfl
theorem tq {P: Program} {md: Region.Mode} {listed: Array Bool} {a: Act} {w: World} (i d : Nat) {op: Op} {ty: TypeId} {pos: String} {after: Array Edge} {g: Option (Nat × Bool)} {v: Value} {l: Array Bool} {b: Act} (hi : ops[i]? = some ⟨some d, op, ty, pos, after, g⟩)
    (h : wpAnyH P md ops Q S fuel l b w)
    (hy : ∀ w, S w -> (execOp a.eval ⟨some d, op, ty, pos, after, g⟩).run P w = .ok (.value v) w := by intro w' hSw; (try dsimp only at hSw); go_simp; try (with_reducible rfl))
    (hl : listed.setIfInBounds i true = l := by (try simp only [pB, pZ, pC]); rfl)
    (hb : a.put (some d) v = b := by (try simp only [pS, pB, pZ, pC]); rfl)
    (hB : (Region.noSelect ops && Region.free md ops listed i && (Region.ready md ops listed).contains i) = true := by kernel_rfl)
    (hQ : ∀ c a w, Q (.panic c) (a.put (some d) v) w -> Q (.panic c) a w := by first | exact fun _ _ _ h => h | exact fun _ _ _ h => absurd h.2 (by intro h; cases h))
    (hw : Region.wanted ⟨some d, op, ty, pos, after, g⟩ (yielded ops a.tmps) = true := by rfl) (hS : S w := by assumption) : wpAnyH P md ops Q S (fuel + 1) listed a w := by
  rw [Bool.and_eq_true, Bool.and_eq_true] at hB
  subst hl hb
  exact wpAnyH_take hi hB.1.1 hB.1.2 hB.2 hQ (.inl ⟨hw, hy⟩) hS h
theorem th {P: Program} {md: Region.Mode} {listed: Array Bool} {a: Act} {w: World} (i d : Nat) {op: Op} {ty: TypeId} {pos: String} {after: Array Edge} {g: Option (Nat × Bool)} {v: Value} {l: Array Bool} {b: Act} {F: World -> Prop} (hi : ops[i]? = some ⟨some d, op, ty, pos, after, g⟩) (hf : ∀ w, S w -> F w)
    (h : wpAnyH P md ops Q S fuel l b w)
    (hy : ∀ w, S w -> F w -> (execOp a.eval ⟨some d, op, ty, pos, after, g⟩).run P w = .ok (.value v) w := by intro w' hSw hc; (try dsimp only at hSw hc); go_simp; try (with_reducible rfl))
    (hl : listed.setIfInBounds i true = l := by (try simp only [pB, pZ, pC]); rfl)
    (hb : a.put (some d) v = b := by (try simp only [pS, pB, pZ, pC]); rfl)
    (hB : (Region.noSelect ops && Region.free md ops listed i && (Region.ready md ops listed).contains i) = true := by kernel_rfl)
    (hQ : ∀ c a w, Q (.panic c) (a.put (some d) v) w -> Q (.panic c) a w := by first | exact fun _ _ _ h => h | exact fun _ _ _ h => absurd h.2 (by intro h; cases h))
    (hw : Region.wanted ⟨some d, op, ty, pos, after, g⟩ (yielded ops a.tmps) = true := by rfl) (hS : S w := by assumption) : wpAnyH P md ops Q S (fuel + 1) listed a w :=
  tq i d hi h (fun w hw => hy w hw (hf w hw)) hl hb hB hQ hw hS
theorem dn {P: Program} {md: Region.Mode} {listed: Array Bool} {a: Act} (h : Q .normal a w) (hr : Region.ready md ops listed = [] := by kernel_rfl) : wpAnyH P md ops Q S fuel listed a w := wpAnyH_done hr h _
theorem tz {P: Program} {md: Region.Mode} {listed: Array Bool} {a: Act} {w: World} (i d : Nat) {op: Op} {ty: TypeId} {pos: String} {after: Array Edge} {g: Option (Nat × Bool)} {l: Array Bool} {b: Act} (hi : ops[i]? = some ⟨some d, op, ty, pos, after, g⟩)
    (h : wpAnyH P md ops Q S fuel l b w)
    (hl : listed.setIfInBounds i true = l := by (try simp only [pB, pZ, pC]); rfl)
    (hb : a.put (some d) undef = b := by (try simp only [pS, pB, pZ, pC]); rfl)
    (hB : (Region.noSelect ops && Region.free md ops listed i && (Region.ready md ops listed).contains i) = true := by kernel_rfl)
    (hQ : ∀ c a w, Q (.panic c) (a.put (some d) undef) w -> Q (.panic c) a w := by first | exact fun _ _ _ h => h | exact fun _ _ _ h => absurd h.2 (by intro h; cases h))
    (hw : Region.wanted ⟨some d, op, ty, pos, after, g⟩ (yielded ops a.tmps) = false := by rfl) (hS : S w := by assumption) : wpAnyH P md ops Q S (fuel + 1) listed a w := by
  rw [Bool.and_eq_true, Bool.and_eq_true] at hB
  subst hl hb
  exact wpAnyH_take hi hB.1.1 hB.1.2 hB.2 hQ (.inr ⟨hw, rfl⟩) hS h
theorem ty {P : Program} {ops : Array Oper} {Q : Exit -> Act -> World -> Prop} {md : Region.Mode} {S : World -> Prop} {fuel : Nat} {listed : Array Bool} {a : Act} {w : World} (i d : Nat) {op : Op} {ty : TypeId} {pos : String} {after : Array Edge} {g : Option (Nat × Bool)} {v : Value} {l : Array Bool} {b : Act} (hi : ops[i]? = some ⟨some d, op, ty, pos, after, g⟩)
    (hy : YieldsIf P ops S ⟨some d, op, ty, pos, after, g⟩ v a)
    (h : wpAnyH P md ops Q S fuel l b w)
    (hl : listed.setIfInBounds i true = l := by (try simp only [pB, pZ, pC]); rfl)
    (hb : a.put (some d) v = b := by (try simp only [pS, pB, pZ, pC]); rfl)
    (hB : (Region.noSelect ops && Region.free md ops listed i && (Region.ready md ops listed).contains i) = true := by kernel_rfl)
    (hQ : ∀ c a w, Q (.panic c) (a.put (some d) v) w -> Q (.panic c) a w := by first | exact fun _ _ _ h => h | exact fun _ _ _ h => absurd h.2 (by intro h; cases h)) (hS : S w := by assumption) : wpAnyH P md ops Q S (fuel + 1) listed a w := by
  rw [Bool.and_eq_true, Bool.and_eq_true] at hB
  subst hl hb
  exact wpAnyH_take hi hB.1.1 hB.1.2 hB.2 hQ hy hS h
abbrev iI (x : Int) : Value := .int .i64 x
abbrev uI (x : Int) : Value := .int .u64 x
abbrev nN : Value := .slice none 0 0
attribute [simp, go_sem] iI uI nN
end Go.Proofs.YtglkadmfjaecmaaGreatDoor
namespace Go.Proofs.YtglkadmfjaecmaaGreatDoor
open Go.RowKit Go.Shelf Tryz
abbrev Bl (w W:World):=Below w.heap.size w W
abbrev ae:=@Lib.hid
abbrev ag:=@Nat.le_refl
abbrev ah:=@Nat.lt_of_lt_of_le
abbrev ai:=@List.length_append
abbrev aj:=@Nat.le_trans
abbrev ak:=@List.getElem?_eq_getElem
abbrev ao:=@World.grownBy_alloc
abbrev ap:=@Below.refl
abbrev ar:=@Nat.succ_ne_self
abbrev au:=@List.length_cons
abbrev aw:=@List.getElem_mem
abbrev ax:=@World.size_alloc
abbrev ay:=@List.append_assoc
abbrev az:=@IntKind.wrap_i64
abbrev ba:=@List.length_map
abbrev bi:=@Nat.zero_le
abbrev bj:=@List.eq_nil_of_length_eq_zero
abbrev bm:=@List.flatMap_append
abbrev br:=@Array.length_toList
abbrev bt:=@Array.toArray_toList
abbrev bu:=@World.block_lt_of_cell?
abbrev bv:=@List.append_nil
abbrev bw:=@Array.getElem?_setIfInBounds_ne
abbrev cj:=@List.map_append
abbrev ct:=@List.drop_eq_getElem_cons
abbrev cw:=@List.length_take
abbrev cz:=@Nat.zero_add
abbrev da:=@List.mem_cons_self
abbrev db:=@Array.getD_eq_getD_getElem?
abbrev dc:=@World.cell?_of_block
abbrev de:=@List.flatMap_cons
abbrev df:=@List.take_length
abbrev dg:=@List.getElem?_append_right
abbrev dh:=@List.mem_cons_of_mem
abbrev di:=@List.take_append_drop
abbrev dj:=@Array.getElem?_toList
abbrev dk:=@List.length_nil
abbrev dl:=@List.not_mem_nil
abbrev dm:=@List.nil_append
abbrev dq:=@List.take_add_one
abbrev dt:=@List.mem_cons
abbrev du:=@List.map_cons
abbrev dw:=@List.length_drop
abbrev dx:=@List.cons_append
abbrev d8:=@World.ownsRow_nil
abbrev d9:=@List.getElem?_append_left
abbrev ed:=@List.mem_of_mem_take
abbrev ee:=@List.getElem_of_mem
abbrev ef:=@List.size_toArray
abbrev eh:=@Array.getElem?_eq_getElem
abbrev ei:=@List.length_singleton
abbrev ep:=@List.getElem?_toArray
abbrev er:=@List.flatMap_nil
abbrev et:=@List.take_of_length_le
abbrev eu:=@Array.getElem?_setIfInBounds_self_of_lt
abbrev ew:=@Array.replicate_zero
abbrev ff:=@Array.replicate_succ
abbrev fj:=@List.append_toArray
abbrev fk:=@List.getD_eq_getElem?_getD
abbrev fp:=@List.push_toArray
abbrev fq:=@List.map_nil
abbrev fu:=@IntKind.wrap_u64
abbrev fw:=@Nat.le_of_ble_eq_true
abbrev fz:=@List.getElem?_drop
abbrev gg:=@List.mem_of_mem_drop
abbrev gh:=@List.drop_eq_nil_of_le
abbrev gi:=@List.getElem?_take
abbrev gj:=@List.getElem?_eq_none
abbrev gm:=@Bool.and_eq_false_iff
abbrev go:=@World.there_setCells
abbrev gq:=@Nat.le_succ
abbrev gr:=@World.ownsRow_made
abbrev gt:=@Array.size_setIfInBounds
abbrev gu:=@World.rangeAt_drew
abbrev gv:=@Bool.and_eq_true
abbrev gw:=@Array.getElem?_eq_none
abbrev gy:=@List.take_succ_cons
abbrev ia:=@Nat.le_succ_of_le
abbrev ic:=@Nat.sub_self
abbrev ie:=@Nat.mul_le_mul_right
abbrev ig:=@List.getElem_map
abbrev ij:=@Array.all_eq_true_iff_forall_mem
abbrev ik:=@Nat.min_eq_left
abbrev im:=@Nat.lt_succ_self
abbrev io:=@Nat.zero_mul
abbrev ip:=@Nat.ne_of_lt
abbrev iq:=@List.mem_of_getElem?
abbrev ir:=@Nat.lt_or_ge
abbrev iu:=@Nat.mul_one
abbrev iv:=@World.ownsMap_made
abbrev iw:=@List.length_set
abbrev ix:=@Nat.add_mul
abbrev iy:=@List.pairwise_append
abbrev iz:=@List.map_map
abbrev i4:=@List.getElem_take
abbrev i5:=@List.getElem?_of_mem
abbrev i6:=@List.getElem?_map
abbrev i7:=@Nat.add_assoc
abbrev i8:=@Nat.add_sub_cancel_left
abbrev i9:=@List.drop_drop
abbrev ja:=@Nat.mod_lt
abbrev jb:=@Nat.le_of_eq
abbrev jc:=@Nat.add_sub_cancel
abbrev jd:=@List.mem_singleton
abbrev je:=@Below.heap_setCell
abbrev jf:=@Nat.not_lt_zero
abbrev jg:=@List.foldl_cons
abbrev jh:=@Bool.or_eq_true
abbrev ji:=@List.set_append_right
abbrev jk:=@Lib.run_eql_slice_nil
open Go.Value renaming int->I, slice->V, pointer->Y
open Go.Ending renaming returned->Z
open Go.IntKind renaming u64->G, i64->U
open Go.Obj renaming cells->O
attribute [local go_sem] Oper.semAt_some
variable {B B' Bs i j n₀ sz x:Nat} {W W' w:World} {cs xs:List Value} {l m q:List Nat} {u:Value}
def Zf4 (s w:Nat):Nat:=((11400714819323198485 * (s ^^^ w)) % 18446744073709551616) ^^^ (((11400714819323198485 * (s ^^^ w)) % 18446744073709551616) / 4294967296)
theorem Zjb (s w:Nat):Zf4 s w = (((s ^^^ w) * 11400714819323198485) % 18446744073709551616) ^^^ ((((s ^^^ w) * 11400714819323198485) % 18446744073709551616) / 4294967296):=by
 unfold Zf4;rw [Nat.mul_comm]
theorem Zqg {a b:Nat} (c:a < 18446744073709551616) (d:b < 18446744073709551616):a ^^^ b < 18446744073709551616:=by
 have h:(18446744073709551616:Nat) = 2 ^ 64:=by decide
 rw [h] at *;exact Nat.xor_lt_two_pow c d
theorem Zsv {a b c:Nat} (h:a ^^^ b = a ^^^ c):b = c:=by
 have:=congrArg (a ^^^ ·) h;simpa [<- Nat.xor_assoc] using this
theorem Zzc {a b:Nat} (c:a < 18446744073709551616) (d:b < 18446744073709551616) (h:a * 11400714819323198485 % 18446744073709551616 = b * 11400714819323198485 % 18446744073709551616):a = b:=by
 have key:∀ x:Nat,x < 18446744073709551616 -> (x * 11400714819323198485 % 18446744073709551616) * 17428512612931826493 % 18446744073709551616 = x:=fun x e => by
  rw [Nat.mod_mul_mod,Nat.mul_assoc,<- Nat.mul_mod_mod];rw [show 11400714819323198485 * 17428512612931826493 % 18446744073709551616 = 1 from by decide,iu,Nat.mod_eq_of_lt e]
 rw [<- key a c,<- key b d,h]
theorem Zvf {a b:Nat} (k:a < 18446744073709551616) (g:b < 18446744073709551616) (h:a ^^^ (a / 4294967296) = b ^^^ (b / 4294967296)):a = b:=by
 have c:(4294967296:Nat) = 2 ^ 32:=by decide
 have hd:a / 4294967296 = b / 4294967296:=by
  have e:(a ^^^ (a / 4294967296)) / 4294967296 = (b ^^^ (b / 4294967296)) / 4294967296:=by rw [h]
  rw [c] at *;rw [Nat.xor_div_two_pow,Nat.xor_div_two_pow] at e;have f:a / 2 ^ 32 / 2 ^ 32 = 0:=by omega
  have d:b / 2 ^ 32 / 2 ^ 32 = 0:=by omega
  rw [f,d,Nat.xor_zero,Nat.xor_zero] at e;exact e
 rw [hd,Nat.xor_comm a,Nat.xor_comm b] at h;exact Zsv h
theorem Zfk (s w:Nat):Zf4 s w < 18446744073709551616:=by
 rw [Zjb];exact Zqg (ja _ (by decide)) (by omega)
theorem Zzd {s w a:Nat} (hs:s < 18446744073709551616) (c:w < 18446744073709551616) (b:a < 18446744073709551616) (h:Zf4 s w = Zf4 s a):w = a:=by
 rw [Zjb,Zjb] at h;have h1:=Zvf (ja _ (by decide)) (ja _ (by decide)) h;exact Zsv (Zzc (Zqg hs c) (Zqg hs b) h1)
theorem Zqh {s a w:Nat} (hs:s < 18446744073709551616) (b:a < 18446744073709551616) (c:w < 18446744073709551616) (h:Zf4 s w = Zf4 a w):s = a:=by
 rw [Zjb,Zjb] at h;rw [Nat.xor_comm s,Nat.xor_comm a] at h;have h1:=Zvf (ja _ (by decide)) (ja _ (by decide)) h;exact Zsv (Zzc (Zqg c hs) (Zqg c b) h1)
def Zj7 (s:Nat) (l:List Nat):Nat:=l.foldl Zf4 s
def Zbw (l:List Nat):Prop:=∀ x ∈ l,x < 18446744073709551616
theorem Zih:∀ (l:List Nat) (s:Nat),s < 18446744073709551616 -> Zj7 s l < 18446744073709551616
 | [],_,h => h
 | x :: l,s,_ => Zih l (Zf4 s x) (Zfk s x)
theorem Zze:∀ (l:List Nat) (s a:Nat),Zbw l -> s < 18446744073709551616 -> a < 18446744073709551616 -> Zj7 s l = Zj7 a l -> s = a
 | [],_,_,_,_,_,h => h
 | x :: l,s,a,hl,_,_,h =>
  Zqh ‹_› ‹_› (hl x da) (Zze l (Zf4 s x) (Zf4 a x) (fun y hy => hl y (dh _ hy)) (Zfk _ _) (Zfk _ _) h)
theorem Yf8 {p:List Nat} {x y s:Nat} (hs:s < 18446744073709551616) (a:x < 18446744073709551616) (hy:y < 18446744073709551616) (b:Zbw q) (h:Zj7 s (p ++ x :: q) = Zj7 s (p ++ y :: q)):x = y:=by
 unfold Zj7 at h;rw [List.foldl_append,List.foldl_append,jg,jg] at h;have h1:=Zze q _ _ b (Zfk _ _) (Zfk _ _) h;exact Zzd (Zih p s hs) a hy h1
def Zvg (lw:List Nat) (len:Nat) (l:List Nat):Nat:=Zf4 (Zj7 (Zf4 (Zf4 (Zj7 0 lw) len) l.length) l) 0
theorem Yfk (lw:List Nat) (len:Nat) (l:List Nat):Zvg lw len l < 18446744073709551616:=Zfk _ _
theorem Yf9 {lw:List Nat} {len:Nat} {p:List Nat} {x y:Nat} (b:x < 18446744073709551616) (hy:y < 18446744073709551616) (a:Zbw q) (h:Zvg lw len (p ++ x :: q) = Zvg lw len (p ++ y :: q)):x = y:=by
 unfold Zvg at h;have e:(p ++ x :: q).length = (p ++ y :: q).length:=by simp
 rw [e] at h;have h1:=Zqh (Zih _ _ (Zfk _ _)) (Zih _ _ (Zfk _ _)) (by decide) h;exact Yf8 (Zfk _ _) b hy a h1
def lw:List Nat -> Nat
 | [] => 0
 | b :: l => b + 256 * lw l
def Zb6 (l:List Nat):Prop:=∀ x ∈ l,x < 256
theorem Zzf:∀ (l:List Nat) (b:Nat),lw (l ++ [b]) = lw l + b * 256 ^ l.length
 | [],b => by simp [lw]
 | a :: l,b => by
  rw [dx,lw,Zzf l b,lw,au,Nat.pow_succ,Nat.mul_add,i7];congr 2;rw [Nat.mul_comm 256,Nat.mul_assoc]
theorem Yga:∀ (l:List Nat),Zb6 l -> lw l < 256 ^ l.length
 | [],_ => by simp [lw]
 | a :: l,h => by
  have h1:=Yga l (fun x b => h x (dh _ b));have c:=h a da;rw [lw,au,Nat.pow_succ];omega
theorem Yjc {w b:Nat} (h:w < 256 ^ j):w ||| b * 256 ^ j = w + b * 256 ^ j:=by
 have e:(256:Nat) ^ j = 2 ^ (8 * j):=by rw [Nat.pow_mul]
 rw [e] at h ⊢;rw [Nat.or_comm,Nat.mul_comm b,<- Nat.two_pow_add_eq_or_of_lt h,Nat.add_comm]
def Zau (l:List Nat):List Nat:=if _h:l = [] then [] else lw (l.take 8) :: Zau (l.drop 8)
termination_by l.length
decreasing_by
 have:0 < l.length:=List.length_pos_iff.2 ‹_›;rw [dw];omega
theorem Zfl:Zau [] = []:=by rw [Zau];rfl
theorem Zdt (h:l ≠ []):Zau l = lw (l.take 8) :: Zau (l.drop 8):=by
 rw [Zau,dif_neg h]
theorem Zdw {m:List Nat} (h:Zb6 l) (hs:∀ x ∈ m,x ∈ l):Zb6 m:=fun x a => h x (hs x a)
theorem Zld (h:Zb6 l):lw (l.take 8) < 18446744073709551616:=by
 have h1:=Yga (l.take 8) (Zdw h fun x b => ed b);have a:(l.take 8).length <= 8:=by rw [cw];omega
 have c:(256:Nat) ^ (l.take 8).length <= 256 ^ 8:=Nat.pow_le_pow_right (by decide) a;have d:(256:Nat) ^ 8 = 18446744073709551616:=by decide
 omega
theorem Yc1 (n:Nat):∀ (l:List Nat),l.length <= n -> Zb6 l -> Zbw (Zau l):=by
 induction n with
 | zero =>
  intro l hl _;have:l = []:=List.length_eq_zero_iff.1 (by omega);rw [this,Zfl];intro x a;cases a
 | succ n ih =>
  intro l hl b;by_cases h:l = []
  ·rw [h,Zfl];intro x a;cases a
  ·rw [Zdt h];intro x a;rcases List.mem_cons.1 a with rfl | a
   ·exact Zld b
   ·have:0 < l.length:=List.length_pos_iff.2 h;exact ih (l.drop 8) (by rw [dw];omega) (Zdw b fun x a => gg a) x a
theorem Zvh (h:Zb6 l):Zbw (Zau l):=Yc1 l.length l (ag _) h
theorem Zzg {k:Nat} (h1:i <= k) (a:k < l.length):lw ((l.drop i).take (k + 1 - i)) = lw ((l.drop i).take (k - i)) + l[k] * 256 ^ (k - i):=by
 have e:(l.drop i).take (k + 1 - i) = (l.drop i).take (k - i) ++ [l[k]]:=by
  rw [show k + 1 - i = (k - i) + 1 from by omega,dq,fz,show i + (k - i) = k from by omega,ak a];rfl
 rw [e,Zzf,cw,dw,ik (by omega)]
theorem Zoh (h:Zb6 l) (i k:Nat) (h1:i <= k) (b:k <= l.length):lw ((l.drop i).take (k - i)) < 256 ^ (k - i):=by
 have:=Yga ((l.drop i).take (k - i)) (Zdw h fun x a => gg (ed a));rw [cw,dw,ik (by omega)] at this;exact this
theorem Zni {k:Nat} (a:k = l.length ∨ k = i + 8) (b:k <= i + 8):lw ((l.drop i).take (k - i)) = lw ((l.drop i).take 8):=by
 rcases a with h | h
 ·congr 1;rw [et (by rw [dw];omega),et (by rw [dw];omega)]
 ·rw [show k - i = 8 from by omega]
def sb (s:ByteArray):List Nat:=s.data.toList.map UInt8.toNat
theorem Zii (s:ByteArray):Zb6 (sb s):=fun x a => by
 obtain ⟨u,_,rfl⟩:=List.mem_map.1 a;exact u.toNat_lt
theorem Zfm (s:ByteArray):(sb s).length = s.size:=by
 unfold sb;rw [ba,br];rfl
theorem Yfl (s:ByteArray) (k:Nat) (h:k < s.size) (a:k < (sb s).length):(sb s)[k] = (s[k]'h).toNat:=by
 have e:(sb s)[k]? = some (s[k]'h).toNat:=by
  unfold sb;rw [i6,dj,eh h];rfl
 rw [ak a] at e;exact Option.some.inj e
theorem Yc2 (a:Nat):IntKind.u64.wrap ((a:Int) * 11400714819323198485) = ((a * 11400714819323198485 % 18446744073709551616:Nat):Int):=by
 simp [IntKind.wrap,IntKind.bits,IntKind.signed]
theorem Yfm {s w:Nat} (hs:s < 18446744073709551616) (a:w < 18446744073709551616) :
  bits .xor G (IntKind.u64.wrap (bits .xor G (s:Int) (w:Int) * 11400714819323198485)) (IntKind.u64.wrap (bits .xor G (s:Int) (w:Int) * 11400714819323198485) / 4294967296) = (Zf4 s w:Int):=by
 have e:bits .xor G (s:Int) (w:Int) = ((s ^^^ w:Nat):Int):=bits_xor_u64_nat s w hs a;rw [e,Yc2];have hm:(s ^^^ w) * 11400714819323198485 % 18446744073709551616 < 18446744073709551616:=ja _ (by decide);rw [Zjb];generalize (s ^^^ w) * 11400714819323198485 % 18446744073709551616 = m at *;rw [show (m:Int) / 4294967296 = ((m / 4294967296:Nat):Int) from by omega];exact bits_xor_u64_nat m _ hm (by omega)
theorem Zoi (s w:Nat) (W:World) (hs:s < 18446744073709551616) (a:w < 18446744073709551616) :
  Calls prog 59 #[I G (s:Int),I G (w:Int)] W fun e W' => e = Z (I G (Zf4 s w:Int)) /\ W = W':=by
 go_enter func59,ntmps59;go_wp2;go_ret;exact ⟨congrArg (fun x => Ending.returned (Value.int G x)) (Yfm hs a),rfl⟩
theorem Ygb (X:Int):IntKind.u64.wrap ((IntKind.u64.wrap X).tdiv 4294967296) = IntKind.u64.wrap X / 4294967296:=by
 have e:∀ n:Int,IntKind.u64.wrap n = n % 18446744073709551616:=fun n => fu n;rw [e,e];have a:0 <= X % 18446744073709551616:=Int.emod_nonneg _ (by decide);have h1:X % 18446744073709551616 < 18446744073709551616:=Int.emod_lt_of_pos _ (by decide);generalize X % 18446744073709551616 = y at *;rw [Int.tdiv_eq_ediv_of_nonneg a];omega
theorem Zhb (s w:Nat) (W:World) (hs:s < 18446744073709551616) (a:w < 18446744073709551616) :
  Calls prog 107 #[I G (s:Int),I G (w:Int)] W fun e W' => e = Z (I G (Zf4 s w:Int)) /\ W = W':=by
 go_enter func107,ntmps107;go_wp2;go_ret;exact ⟨congrArg (fun x => Ending.returned (Value.int G x)) ((congrArg _ (Ygb _)).trans (Yfm hs a)),rfl⟩
theorem Zjc {k:IntKind} {a b:Int} (h:a = b):Ending.returned (I k a) = Z (I k b):=by rw [h]
def arN (n m:Int):Int:=(if n < 0 then -(n + 1) else n) % m
theorem Zcs (n m:Int) (h:1 <= m):0 <= arN n m:=Int.emod_nonneg _ (by omega)
theorem Zhq (n m:Int) (h:1 <= m):arN n m < m:=Int.emod_lt_of_pos _ (by omega)
theorem Zaz (n m:Int) (w:World) (b:-9223372036854775808 <= n) (hn:n <= 9223372036854775807) (d:1 <= m) (hm:m <= 9223372036854775807) :
  Calls prog 9 #[I U n,I U m] w fun e c => e = Z (I U (arN n m)) /\ w = c:=by
 by_cases h:n < 0
 ·have e:arN n m = -(n + 1) % m:=by unfold arN;rw [if_pos h]
  rw [e];clear e;go_enter func9,ntmps9;go_wp2;go_ret;exact ⟨Zjc (a:=-(n + 1).tmod m) (by rw [<- Int.neg_tmod,Int.tmod_eq_emod_of_nonneg (by omega)]),rfl⟩
 ·have e:arN n m = n % m:=by unfold arN;rw [if_neg h]
  rw [e];clear e;go_enter func9,ntmps9;go_wp2;go_ret;exact ⟨rfl,rfl⟩
abbrev W64:={ x:Nat // x < 18446744073709551616 }
theorem Zle (a b:Nat) (d:a < 18446744073709551616) (e:b < 18446744073709551616) :
  bits .or G (a:Int) (b:Int) = ((a ||| b:Nat):Int):=by
 have f:a ||| b < 2 ^ 64:=Nat.or_lt_two_pow (by omega) (by omega)
 have h1:(BitVec.ofInt 64 (a:Int)).toNat = a:=by
  rw [BitVec.ofInt_natCast,BitVec.toNat_ofNat];exact Nat.mod_eq_of_lt (by omega)
 have c:(BitVec.ofInt 64 (b:Int)).toNat = b:=by
  rw [BitVec.ofInt_natCast,BitVec.toNat_ofNat];exact Nat.mod_eq_of_lt (by omega)
 show IntKind.u64.wrap ((BitVec.ofInt 64 (a:Int) ||| BitVec.ofInt 64 (b:Int)).toNat:Int) = _;rw [BitVec.toNat_or,h1,c,fu];omega
theorem Zzh {w b j:Nat} (f:b < 256) (g:j < 8) (d:w < 256 ^ j) :
  bits .or G (w:Int) (IntKind.u64.wrap (IntKind.u64.wrap (b:Int) * 2 ^ (8 * j))) = ((w + b * 256 ^ j:Nat):Int):=by
 have p:(256:Nat) ^ j <= 256 ^ 7:=Nat.pow_le_pow_right (by decide) (by omega);have q:(256:Nat) ^ 7 = 72057594037927936:=by decide
 have a:IntKind.u64.wrap (b:Int) = (b:Int):=by rw [fu];omega
 have e:((2:Int) ^ (8 * j)) = ((256 ^ j:Nat):Int):=by
  rw [show (256:Nat) = 2 ^ 8 from by decide,<- Nat.pow_mul,Int.natCast_pow];rfl
 have hm:b * 256 ^ j <= 255 * 256 ^ j:=ie _ (by omega);have c:IntKind.u64.wrap (IntKind.u64.wrap (b:Int) * 2 ^ (8 * j)) = ((b * 256 ^ j:Nat):Int):=by
  rw [a,e,<- Int.natCast_mul,fu];omega
 rw [c,Zle _ _ (by omega) (by omega),Yjc d]
theorem Zzi {k:IntKind} {a b:Int} (h:a = b):Value.int k a = I k b:=by rw [h]
def Zcc (n₀ Bs:Nat) (t:TypeId) (W W':World):Prop:=Below n₀ W W' /\ ∀ v,Boxed W Bs t v -> Boxed W' Bs t v
theorem Zcc.refl (n₀ Bs:Nat) (t:TypeId) (W:World):Zcc n₀ Bs t W W:=⟨ap _ _,fun _ h => h⟩
theorem Zcc.trans {t:TypeId} {A B C:World} (h:Zcc n₀ Bs t A B) (k:Zcc n₀ Bs t B C):Zcc n₀ Bs t A C:=⟨h.1.trans k.1,fun v a => k.2 v (h.2 v a)⟩
theorem Zcc.put {t:TypeId} (hn:n₀ <= w.heap.size) (W:World) (l:Nat) (o o':Obj) (hl:w.heap.size <= l) (h:W.heap[l]? = some o) (hc:o.isCells = false) (b:o.isWalk = false):Zcc n₀ Bs t W (W.putObj l o') :=
 ⟨belowK_b hn W l o o' hl h hc b,fun v a => a.kept (grownBy_putObj' W l o') (fun e => by
  cases e;unfold Boxed at a;rw [a] at h;cases h;cases hc)⟩
theorem Zw1 (F:Fence) (n:Nat) (hf:F.fn 103) (X:F.round = none) (hn:1 <= n) (l Bs n₀:Nat) (s:ByteArray) (bs:List Nat) (t:bs = sb s) (al:s.size <= 1099511627776) (J Jx:List W64 -> World -> Prop)
  (hY:∀ c x W,J c W -> c.length < (Zau bs).length -> YieldAt F (n - 1) prog l #[I G (x.1:Int)] W fun e W' =>
   (e = Z (.bool true) /\ J (c ++ [x]) W' /\ Zcc n₀ Bs 9 W W') ∨ (e = Z (.bool false) /\ Jx (c ++ [x]) W'))
  (W:World) (C:Boxed W Bs 9 (.string s)) (h0:J [] W) :
  CallsIn F n prog 103 #[.func (.yield l) #[] #[],Y (some ⟨Bs,0,none⟩)] W fun e W' => (∃ v,e = Z v) /\
   ((∃ ys:List W64,ys.map Subtype.val = Zau bs /\ J ys W') ∨ (∃ c:List W64,c.map Subtype.val <+: Zau bs /\ Jx c W')):=by
 refine callsIn_of_wp func103 rfl hf ?_ X;simp only [ntmps103,ef,au,dk,Nat.reduceAdd,Nat.reduceSub,ff,ew,fp,fj,dm,dx];have aa:=C.cell;gi_wp2;gi_loopw [3] (fun p wr => ∃ (i:Nat) (c:List W64),p = I U (i:Int) /\ i <= bs.length + 7 /\ c.map Subtype.val ++ Zau (bs.drop i) = Zau bs /\ J c wr /\ Zcc n₀ Bs 9 W wr)
  (fun p _ => bs.length + 8 - (intOf p).toNat)
 case atStart => exact ⟨0,[],rfl,by omega,by simp,h0,Zcc.refl _ _ _ _⟩
 case round =>
  obtain ⟨i,c,rfl,hi,R,H,z⟩:=hrel;have hc:wr.cell? ⟨Bs,0,none⟩ = some (.string s):=(z.2 _ C).cell;have ab:bs.length = s.size:=by rw [t];exact Zfm s
  by_cases ad:i < s.size
  ·have L:=ae R;clear R;have T:=ae t;clear t C aa;gi_wp2;gi_loopw [4,5] (fun a b w2 => ∃ (k:Nat),a = I G (lw ((bs.drop i).take (k - i)):Int) /\ b = I U (k:Int) /\ i <= k /\ k <= i + 8 /\ k <= s.size /\ w2 = wr) (fun _ b _ => s.size - (intOf b).toNat)
   case atStart => exact ⟨i,by simp [lw],rfl,by omega,by omega,by omega,rfl⟩
   case round =>
    obtain ⟨k,rfl,rfl,P,Q,af,rfl⟩:=hrel;have step:∀ h:k < s.size,k - i < 8 -> Value.int G (bits .or G (lw ((bs.drop i).take (k - i)):Int) (IntKind.u64.wrap (IntKind.u64.wrap ((s[k]'h).toNat:Int) * 2 ^ (8 * (k - i))))) = I G (lw ((bs.drop i).take (k + 1 - i)):Int):=fun h h8 => by
     have h2:k < bs.length:=by omega
     have e:=Yfl s k h (by rw [Zfm];exact h);have hb:(s[k]'h).toNat < 256:=(s[k]'h).toNat_lt;have eb:bs[k] = (s[k]'h).toNat:=by
      rw [<- e];simp only [T.out]
     rw [Zzg P h2,eb];exact Zzi (Zzh hb h8 (Zoh (by rw [T.out];exact Zii s) i k P (by omega)))
    have o:=ae step;clear step;by_cases d:k < min (i + 8) s.size
    ·by_cases hm:s.size < i + 8
     ·have d:k < s.size:=by omega
      gi_wp2;go_roundw
      case rel => exact ⟨k + 1,o.out d (by omega),rfl,by omega,by omega,by omega,trivial⟩
      case measure => simp [intOf];omega
     ·have d:k < s.size:=by omega
      have hm:i + 8 <= s.size:=by omega
      have am:k < i + 8:=by omega
      gi_wp2;go_roundw
      case rel => exact ⟨k + 1,o.out d (by omega),rfl,by omega,by omega,by omega,trivial⟩
      case measure => simp [intOf];omega
    ·by_cases hm:s.size < i + 8
     ·have d:k = s.size:=by omega
      have K:bs.drop i ≠ []:=by
       intro e;have:=congrArg List.length e;rw [dw] at this;simp at this;omega
      have f:=Zdt K;have g:lw ((bs.drop i).take 8) < 18446744073709551616:=Zld (Zdw (by rw [T.out];exact Zii s) fun x hx => gg hx);rw [Zni (l:=bs) (i:=i) (k:=k) (by omega) Q];clear o;rw [i9] at f;generalize lw ((bs.drop i).take 8) = x at *;have S:(c ++ [(⟨x,g⟩:W64)]).map Subtype.val ++ Zau (bs.drop (i + 8)) = Zau bs:=by
       rw [cj,ay,<- L.out,f];rfl
      have hN:c.length < (Zau bs).length:=by rw [<- L.out,f,ai,ba];simp
      have N:=ae S;clear S f;obtain ⟨fn,M,y,body,hy,hR⟩:=hY c ⟨x,g⟩ wr H hN;dsimp only at hy;gi_wp2;refine hR.mono ?_;rintro e W3 (⟨rfl,E,A⟩ | ⟨rfl,r⟩)
      ·gi_wp2;go_roundw
       case rel => exact ⟨i + 8,c ++ [⟨x,g⟩],rfl,by omega,N.out,E,z.trans A⟩
       case measure => simp [intOf];omega
      ·gi_wp2;refine bodyPost_ret (results_none rfl _ _ _) rfl ?_;exact ⟨⟨_,rfl⟩,.inr ⟨c ++ [⟨x,g⟩],⟨_,N.out⟩,r⟩⟩
     ·have d:k = i + 8:=by omega
      have hm:i + 8 <= s.size:=by omega
      have K:bs.drop i ≠ []:=by
       intro e;have:=congrArg List.length e;rw [dw] at this;simp at this;omega
      have f:=Zdt K;have g:lw ((bs.drop i).take 8) < 18446744073709551616:=Zld (Zdw (by rw [T.out];exact Zii s) fun x hx => gg hx);rw [Zni (l:=bs) (i:=i) (k:=k) (by omega) Q];clear o;rw [i9] at f;generalize lw ((bs.drop i).take 8) = x at *;have S:(c ++ [(⟨x,g⟩:W64)]).map Subtype.val ++ Zau (bs.drop (i + 8)) = Zau bs:=by
       rw [cj,ay,<- L.out,f];rfl
      have hN:c.length < (Zau bs).length:=by rw [<- L.out,f,ai,ba];simp
      have N:=ae S;clear S f;obtain ⟨fn,M,y,body,hy,hR⟩:=hY c ⟨x,g⟩ wr H hN;dsimp only at hy;gi_wp2;refine hR.mono ?_;rintro e W3 (⟨rfl,E,A⟩ | ⟨rfl,r⟩)
      ·gi_wp2;go_roundw
       case rel => exact ⟨i + 8,c ++ [⟨x,g⟩],rfl,by omega,N.out,E,z.trans A⟩
       case measure => simp [intOf];omega
      ·gi_wp2;refine bodyPost_ret (results_none rfl _ _ _) rfl ?_;exact ⟨⟨_,rfl⟩,.inr ⟨c ++ [⟨x,g⟩],⟨_,N.out⟩,r⟩⟩
  ·have e:bs.drop i = []:=gh (by omega);rw [e,Zfl,bv] at R;have L:=ae R;clear R e t;gi_wp2;go_end0;exact ⟨⟨_,rfl⟩,.inl ⟨c,L.out,H⟩⟩
inductive D where
 | v (x:Value)
 | s (sz:Nat) (ds:List D)
inductive Rep (W:World) (B:Nat):Value -> D -> Prop where
 | v (x:Value):Rep W B x (.v x)
 | nil (sz:Nat):Rep W B (V none 0 0) (.s sz [])
 | s {b o n c sz:Nat} {ds:List D} {cs:List Value} (hc:cs.length = n * sz) (hd:ds.length = n * sz) (hn:n <= c) (hb:b < B)
   (cells:∀ (j:Nat) (u:Value),cs[j]? = some u -> W.cell? ⟨b,o + j,none⟩ = some u)
   (sub:∀ (j:Nat) (u:Value) (d:D),cs[j]? = some u -> ds[j]? = some d -> Rep W B u d):Rep W B (V (some ⟨b,o,none⟩) n c) (.s sz ds)
theorem Rep.keep (b:∀ p:Addr,p.block < B -> W'.cell? p = W.cell? p) (a:B <= B') {v:Value} {d:D} (h:Rep W B v d):Rep W' B' v d:=by
 induction h with
 | v x => exact .v x
 | nil sz => exact .nil sz
 | s hc hd hn hb cells sub ih => exact .s hc hd hn (ah hb a) (fun j u c => (b _ hb).trans (cells j u c)) ih
theorem Rep.under {v:Value} {d:D} (h:Rep W B v d) (b:Below B W W'):Rep W' B v d:=h.keep (fun _ a => b.cell a) (ag _)
theorem Rep.more {v:Value} {d:D} (h:Rep W B v d) (a:B <= B'):Rep W B' v d:=h.keep (fun _ _ => rfl) a
theorem Rep.drew {v:Value} {d:D} (h:Rep W B v d):Rep W.drew B v d:=h.keep (fun p _ => World.cell?_drew W p) (ag _)
theorem Rep.drewN {v:Value} {d:D} (h:Rep W B v d) (k:Nat):Rep (W.drewN k) B v d:=h.keep (fun p _ => World.cell?_drewN W k p) (ag _)
theorem Rep.alloc {v:Value} {d:D} (h:Rep W B v d) (a:B <= W.heap.size) (o:Obj):Rep (W.alloc o) B v d :=
 h.keep (fun p b => World.cell?_alloc_lt W o p (by omega)) (ag _)
theorem Rep.setCell {v:Value} {d:D} (h:Rep W B v d) {p:Addr} (a:B <= p.block) (u:Value):Rep (W.setCell p u) B v d :=
 h.keep (fun q b => World.cell?_setCell_other W p q u (fun e => by subst e;omega)) (ag _)
theorem Rep.grown {v:Value} {d:D} (h:Rep W B v d) {row:Option Nat} (a:W.grownBy W' row) (b:B <= W.heap.size) (hr:∀ g,row = some g -> B <= g):Rep W' B v d :=
 h.keep (fun p c => dc (a.block p.block (by omega) (fun e => by have:=hr _ e.symm;omega))) (ag _)
theorem Rep.plain {x:Value} (h:Rep W B u (.v x)):u = x:=by cases h;rfl
def Zax (W:World) (B:Nat) (cs:List Value) (ds:List D):Prop:=cs.length = ds.length /\ ∀ (j:Nat) (u:Value) (d:D),cs[j]? = some u -> ds[j]? = some d -> Rep W B u d
theorem Zax.keep (b:∀ p:Addr,p.block < B -> W'.cell? p = W.cell? p) (a:B <= B') {ds:List D} (h:Zax W B cs ds):Zax W' B' cs ds :=
 ⟨h.1,fun j u d c hd => (h.2 j u d c hd).keep b a⟩
theorem Zax.nil (W:World) (B:Nat):Zax W B [] []:=⟨rfl,fun _ _ _ h => by simp at h⟩
theorem Zax.cons {u:Value} {d:D} {ds:List D} (h:Rep W B u d) (t:Zax W B cs ds):Zax W B (u :: cs) (d :: ds):=by
 refine ⟨by simp [t.1],fun j b c a hd => ?_⟩;cases j with
 | zero => simp at a hd;subst a hd;exact h
 | succ j => simp at a hd;exact t.2 j b c a hd
theorem Zax.inv {d:D} {ds:List D} (h:Zax W B cs (d :: ds)):∃ u a,cs = u :: a /\ Rep W B u d /\ Zax W B a ds:=by
 cases cs with
 | nil => exact absurd h.1 (by simp)
 | cons u cs =>
  refine ⟨u,cs,rfl,h.2 0 u d rfl rfl,by simpa using h.1,fun j c b e hd => h.2 (j + 1) c b (by simpa using e) (by simpa using hd)⟩
theorem Zax.inv_nil (h:Zax W B cs []):cs = []:=bj h.1
theorem Zax.append {W:World} {B:Nat}:∀ {cs es:List Value} {ds a:List D},Zax W B cs ds -> Zax W B es a -> Zax W B (cs ++ es) (ds ++ a)
 | [],_,ds,_,h,k => by
  have:ds = []:=bj h.1.symm;rw [this];exact k
 | u :: cs,_,ds,_,h,k => by
  cases ds with
  | nil => exact absurd h.1 (by simp)
  | cons d ds =>
   obtain ⟨f,b,e,h1,c⟩:=h.inv;cases e;exact Zax.cons h1 (Zax.append c k)
theorem Zax.drop {ds:List D} (h:Zax W B cs ds) (k:Nat):Zax W B (cs.drop k) (ds.drop k) :=
 ⟨by simp [h.1],fun j u d a hd => h.2 (k + j) u d (by simpa using a) (by simpa using hd)⟩
theorem Zax.take {ds:List D} (h:Zax W B cs ds) (k:Nat):Zax W B (cs.take k) (ds.take k) :=
 ⟨by simp [h.1],fun j u d a hd => by
  rw [gi] at a hd;by_cases b:j < k
  ·rw [if_pos b] at a hd;exact h.2 j u d a hd
  ·rw [if_neg b] at a;cases a⟩
theorem Rep.slice {u:Value} {ds:List D} (h:Rep W B u (.s sz ds)):∃ (A:Option Addr) (n c:Nat),u = V A n c /\ n <= c /\ ds.length = n * sz /\
  (0 < n -> ∃ (b o:Nat) (cs:List Value),A = some ⟨b,o,none⟩ /\ b < B /\ Zax W B cs ds /\ ∀ (j:Nat) (u:Value),cs[j]? = some u -> W.cell? ⟨b,o + j,none⟩ = some u):=by
 cases h with
 | nil => exact ⟨none,0,0,rfl,ag _,by simp,fun h => absurd h (Nat.lt_irrefl _)⟩
 | s hc hd hn hb cells sub => exact ⟨_,_,_,rfl,hn,hd,fun _ => ⟨_,_,_,rfl,hb,⟨hc.trans hd.symm,sub⟩,cells⟩⟩
theorem Rep.spot {n c:Nat} {A:Option Addr} {ds:List D} (h:Rep W B (V A n c) (.s sz ds)):∀ a,A = some a -> ∃ b o,a = ⟨b,o,none⟩:=by
 intro a e;subst e;cases h with
 | s => exact ⟨_,_,rfl⟩
theorem Rep.mk {b o n c:Nat} {ds:List D} (hl:ds.length = n * sz) (hn:n <= c) (a:b < B) (hr:Zax W B cs ds)
  (cells:∀ (j:Nat) (u:Value),cs[j]? = some u -> W.cell? ⟨b,o + j,none⟩ = some u):Rep W B (V (some ⟨b,o,none⟩) n c) (.s sz ds) :=
 .s (hr.1.trans hl) hl hn a cells hr.2
def Zdv (vs:List Value):List D:=vs.map .v
theorem Zdo (vs:List Value):(Zdv vs).length = vs.length:=ba ..
theorem Zax.plain {W:World} {B:Nat}:∀ {cs vs:List Value},Zax W B cs (Zdv vs) -> cs = vs
 | cs,[],h => h.inv_nil
 | cs,v :: vs,h => by
  obtain ⟨u,a,rfl,c,b⟩:=Zax.inv (d:=.v v) (ds:=Zdv vs) h;rw [c.plain,Zax.plain b]
theorem Zax.of_plain (W:World) (B:Nat):∀ vs:List Value,Zax W B vs (Zdv vs)
 | [] => Zax.nil W B
 | v :: vs => Zax.cons (.v v) (Zax.of_plain W B vs)
theorem Rep.row {v:Value} {vs:List Value} (h:Rep W B v (.s 1 (Zdv vs))):∃ (A:Option Addr) (c:Nat),v = V A vs.length c /\ vs.length <= c /\
  ∀ (k:Nat) (u:Value),vs[k]? = some u -> ∃ b o,A = some ⟨b,o,none⟩ /\ b < B /\ W.cell? ⟨b,o + k,none⟩ = some u:=by
 obtain ⟨A,n,c,rfl,hn,hl,hc⟩:=h.slice;rw [Zdo,iu] at hl;subst hl;refine ⟨A,c,rfl,hn,fun k u d => ?_⟩;have f:k < vs.length:=by
  rcases ir k vs.length with h | h
  ·exact h
  ·rw [gj h] at d;cases d
 obtain ⟨b,o,cs,rfl,e,hr,a⟩:=hc (by omega);have:=hr.plain;subst this;exact ⟨b,o,rfl,e,a k u d⟩
theorem Rep.of_own {base:Nat} {e:TypeId} {n:Nat} {v:Value} {ds:List D} (h:w.ownsRow base e sz v n xs) (hr:Zax w B xs ds) (p:w.heap.size <= B):Rep w B v (.s sz ds):=by
 rcases h.2 with ⟨rfl,hn⟩ | ⟨g,cap,f,rfl,r,t,b,c,d,y⟩
 ·have h1:=h.1;rw [hn,io] at h1;have:ds = []:=bj (by rw [<- hr.1];exact h1);subst this;exact .nil sz
 ·have o:=(h.lt g rfl).2;refine Rep.mk (hr.1.symm.trans h.1) b (by omega) hr (fun j u a => ?_);have k:j < xs.length:=by
   rcases ir j xs.length with h | h
   ·exact h
   ·rw [gj h] at a;cases a
  rw [cz,h.cellAt j (by rw [<- h.1];exact k),a]
theorem Rep.of_own_plain {base:Nat} {e:TypeId} {n:Nat} {v:Value} (h:w.ownsRow base e 1 v n xs):Rep w w.heap.size v (.s 1 (Zdv xs)) :=
 Rep.of_own h (Zax.of_plain _ _ _) (ag _)
theorem Rep.fresh {n:Nat} {e:TypeId} {cs:Array Value} {ds:List D} (hl:cs.size = n * sz) (hr:Zax (w.alloc (O cs e)) B cs.toList ds) (a:w.heap.size < B) :
  Rep (w.alloc (O cs e)) B (V (some ⟨w.heap.size,0,none⟩) n n) (.s sz ds):=by
 refine Rep.mk (by rw [<- hr.1,br,hl]) (ag _) a hr (fun j u b => ?_);rw [cz,cell_of_row _ _ _ _ _ _ (heap_alloc_new w (O cs e)),<- b,dj]
theorem Rep.fresh_plain {n:Nat} {e:TypeId} {cs:Array Value} (hl:cs.size = n) :
  Rep (w.alloc (O cs e)) (w.alloc (O cs e)).heap.size (V (some ⟨w.heap.size,0,none⟩) n n) (.s 1 (Zdv cs.toList)) :=
 Rep.fresh (by omega) (Zax.of_plain _ _ _) (by simp)
theorem Zai {α β:Type} {f:α -> List β} {k:Nat}:∀ {l:List α},(∀ x ∈ l,(f x).length = k) -> (l.flatMap f).length = l.length * k
 | [],_ => by simp
 | a :: l,h => by
  rw [de,ai,h a da,Zai (fun x b => h x (dh _ b)),au,ix,Nat.one_mul,Nat.add_comm]
theorem Zcd {α β:Type} {f:α -> List β} {k:Nat}:∀ {l:List α} {i:Nat} {a:α},(∀ x ∈ l,(f x).length = k) -> l[i]? = some a -> ((l.flatMap f).drop (i * k)).take k = f a
 | [],_,_,_,h => by simp at h
 | a :: l,0,_,h,e => by
  simp at e;subst e;rw [io,List.drop_zero,de,List.take_append_of_le_length (jb (h a da).symm),<- h a da,df]
 | a :: l,i + 1,b,h,e => by
  have c:=h a da;have:=Zcd (f:=f) (k:=k) (l:=l) (i:=i) (a:=b) (fun x d => h x (dh _ d)) (by simpa using e);rw [de,show (i + 1) * k = (f a).length + i * k from by rw [c,ix,Nat.one_mul,Nat.add_comm],<- i9,List.drop_left];exact this
theorem Zw2 (s:ByteArray) (w:World) :
  Calls prog 58 #[.string s] w fun e a => e = Z (.func (.func 103) #[] #[Y (some ⟨w.heap.size,0,none⟩)]) /\ a = w.alloc (O #[.string s] 9):=by
 go_enter func58,ntmps58;go_wp2;go_ret;exact ⟨rfl,rfl⟩
theorem Zqi (F:Fence) (n:Nat) (g:F.fn 103) (b:F.round = none) (hn:1 <= n) (Bs n₀:Nat) (s:ByteArray) (c:s.size <= 1099511627776) (w:World)
  (hc:Boxed w Bs 9 (.string s)) :
  SeqStopsK F n prog 103 #[Y (some ⟨Bs,0,none⟩)] (fun x:W64 => #[Value.int G (x.1:Int)]) (Zcc n₀ Bs 9) (fun d => d.map Subtype.val = Zau (sb s)) (fun a => a.map Subtype.val <+: Zau (sb s)) (Zau (sb s)).length w:=fun l J e W k _ _ f h =>
 Zw1 F n g b hn l Bs n₀ s (sb s) rfl c J e f W ((k.block Bs hc.lt).trans hc) h
def u64 (n:Int):Nat:=(n % 18446744073709551616).toNat
def Zfn (l:List Int):List Nat:=l.map u64
def Zdj (l:List Int):List Value:=l.map (I U)
theorem Zb1 (l:List Int):(Zdj l).length = l.length:=ba ..
theorem Zbx (l:List Int) (k:Nat) (h:k < l.length):(Zdj l)[k]? = some (I U l[k]):=by
 unfold Zdj;rw [i6,ak h];rfl
theorem Zoj (n:Int):(u64 n:Int) = n % 18446744073709551616:=Int.toNat_of_nonneg (Int.emod_nonneg _ (by decide))
theorem Zij (n:Int):u64 n < 18446744073709551616:=by
 have h:=Zoj n;have h1:n % 18446744073709551616 < 18446744073709551616:=Int.emod_lt_of_pos _ (by decide);generalize n % 18446744073709551616 = m at *;omega
theorem Zik (n:Int):IntKind.u64.wrap n = (u64 n:Int):=by
 rw [fu,Zoj]
theorem Zok (s:Nat) (l:List Nat) (x:Nat):Zj7 s (l ++ [x]) = Zf4 (Zj7 s l) x:=by unfold Zj7;rw [List.foldl_append,jg,List.foldl_nil]
theorem Zvi {s:Nat} {l:List Int} {k:Nat} (h:k < l.length):Zf4 (Zj7 s ((Zfn l).take k)) (u64 l[k]) = Zj7 s ((Zfn l).take (k + 1)):=by
 have e:(Zfn l)[k]? = some (u64 l[k]):=by
  unfold Zfn;rw [i6,ak h];rfl
 rw [dq,e,Option.toList_some,Zok]
theorem Zzj (s:ByteArray) (R:s.size <= 1099511627776) (v:Value) (l:List Int) (w:World) (hr:Rep w w.heap.size v (.s 1 (Zdv (Zdj l)))) (hl:l.length <= 1099511627776) :
  Calls prog 23 #[.string s,v] w fun e H => e = Z (I G (Zvg (Zau (sb s)) s.size (Zfn l):Int)) /\ Bl w H:=by
 obtain ⟨A,c,rfl,hc,a⟩:=hr.row;rw [Zb1] at hc ⊢;clear hr;refine (callsIn_wide (n:=5)).1 ?_;refine callsIn_of_wp_marks func23 rfl trivial ?_ rfl;simp only [ntmps23,ef,au,dk,Nat.reduceAdd,Nat.reduceSub,ff,ew,fp,fj,dm,dx];gi_wp2_with (refine ⟨trivial,?_⟩;gi_at_call 58;refine (callsIn_wide.2 (Zw2 s _)).mono ?_;rintro e H ⟨rfl,rfl⟩);have z:=(Boxed.new w 26 (I G 0)).alloc (O #[.string s] 9);have r:=Boxed.new (w.alloc (O #[I G 0] 26)) 9 (.string s);rw [ax] at r;have y:Bl w ((w.alloc (O #[I G 0] 26)).alloc (O #[.string s] 9)):=((ap _ w).alloc (ag _) _).alloc (by simp) _;refine wpIn_rangeFunc_ownF rfl (by omega) (gf:=103) (lb:=#[Y (some ⟨w.heap.size + 1,0,none⟩)]) rfl trivial (enters_of func103 (by kernel_rfl) rfl)
  (Zqi Fence.wide (5 - 1) trivial rfl (by omega) (w.heap.size + 1) w.heap.size s R _ r) Zcc.trans (Zcc.put (by simp;omega)) (ap _ _) (fun _ => rfl)
  (fun E W => Boxed W w.heap.size 26 (I G (Zj7 0 (E.map Subtype.val):Int)) /\ Bl w W)
  (fun _ _ _ => False)
  (OwnFrom.and (Own.from (boxed_own _ _ _) _) (ownFrom_below (ag _) (by simp;omega)))
  (fun _ _ _ _ _ hs _ _ => hs)
  ⟨z,y⟩ ?aa ?assign ?body ?done ?stop
 case assign =>
  intro l x W K g;gi_wp2;exact g
 case body =>
  rintro k E x W ⟨d,f⟩ _;have C:=d.cell;have t:=d.frozen;clear z r y a;gi_wp2_with (refine ⟨trivial,?_⟩;gi_at_call 59;refine (CallsIn.inRound k (callsIn_wide.2 (Zoi _ _ _ (Zih _ _ (by decide)) x.2))).mono ?_;rintro e H ⟨rfl,rfl⟩);refine ⟨KeepsOthers.setCell _ _ _,⟨(ap _ _).setCell (p:=⟨w.heap.size,0,none⟩) (ag _) _,fun v P => P.other (by omega) _⟩,?_,f.setCell (p:=⟨w.heap.size,0,none⟩) (ag _) _⟩;rw [cj,du,fq,Zok];exact d.set _
 case done =>
  rintro D ys W hD M ⟨d,f⟩ g;simp at hD;rw [M] at d;clear z r y M;have C:=d.cell;have t:=d.frozen;generalize hS:Zj7 0 (Zau (sb s)) = S at *;have Q:S < 18446744073709551616:=by rw [<- hS];exact Zih _ _ (by decide)
  have Q:=ae Q;gi_wp2_with (refine ⟨trivial,?_⟩;gi_at_call 59;refine (callsIn_wide.2 (Zoi _ _ _ (by first | exact Q.out | exact Zfk _ _) (by omega))).mono ?_;rintro e H ⟨rfl,rfl⟩);have T:=ae (Zfk (Zf4 S s.size) l.length);have d:=d.set (I G ((Zf4 (Zf4 S s.size) l.length:Nat):Int));have f:=f.setCell (p:=⟨w.heap.size,0,none⟩) (ag _) (I G ((Zf4 (Zf4 S s.size) l.length:Nat):Int));have g:=(KeepsOthers.setCell W ⟨w.heap.size,0,none⟩ (I G ((Zf4 (Zf4 S s.size) l.length:Nat):Int))).same D _ g rfl;have X:Zvg (Zau (sb s)) s.size (Zfn l) = Zf4 (Zj7 (Zf4 (Zf4 S s.size) l.length) (Zfn l)) 0:=by
   unfold Zvg;rw [hS];unfold Zfn;rw [ba]
  have X:=ae X;clear C t hS;generalize Zf4 (Zf4 S s.size) l.length = N at *;generalize W.setCell ⟨w.heap.size,0,none⟩ (I G (N:Int)) = W0 at *;gi_loopw [26] (fun i wr => ∃ k:Nat,i = I U (k:Int) /\ k <= l.length /\ Boxed wr w.heap.size 26 (I G (Zj7 N ((Zfn l).take k):Int)) /\ Bl w wr /\ wr.heap[D]? = some (.deferred (some [])))
   (fun i _ => l.length - (intOf i).toNat)
  case atStart => exact ⟨0,rfl,bi _,d,f,g⟩
  case round =>
   obtain ⟨k,rfl,hk,d,f,g⟩:=hrel;have C:=d.cell;have t:=d.frozen;have HR:=ae (Zih ((Zfn l).take k) N T.out);by_cases J:k < l.length
   ·obtain ⟨b,o,rfl,hb,L⟩:=a k _ (Zbx l k J);have ab:=(f.cell (p:=⟨b,o + k,none⟩) hb).trans L;have hu:=Zik l[k];have HU:=ae (Zij l[k]);have HT:=ae (Zvi (s:=N) J);clear L a;generalize l[k] = n at *;gi_wp2_with (refine ⟨trivial,?_⟩;gi_at_call 59;refine (callsIn_wide.2 (Zoi _ _ _ HR.out HU.out)).mono ?_;rintro e H ⟨rfl,rfl⟩);go_roundw
    case rel => exact ⟨k + 1,by go_num,by omega,by rw [<- HT.out];exact d.set _,f.setCell (p:=⟨w.heap.size,0,none⟩) (ag _) _,(KeepsOthers.setCell _ _ _).same D _ g rfl⟩
    case measure => simp [intOf];omega
   ·obtain rfl:k = l.length:=by omega
    gi_wp2_with (refine ⟨trivial,?_⟩;gi_at_call 59;refine (callsIn_wide.2 (Zoi _ _ _ HR.out (by decide))).mono ?_;rintro e H ⟨rfl,rfl⟩);refine ⟨by simp,.inl ⟨_,_,rfl,run_takeDeferred g,?_⟩⟩;refine ⟨_,results_tmp rfl _ _ _,?_,f.trans (belowK_b (w:=w) (ag _) _ D _ _ (by omega) g rfl rfl)⟩;rw [X.out,show List.take l.length (Zfn l) = Zfn l from et (by unfold Zfn;rw [ba];exact ag _)];rfl
 case stop =>
  rintro D c E W _ _ h _;exact h.elim
def zz (n:Int):Nat:=if n < 0 then (2 * (-(n + 1)) + 1).toNat else (2 * n).toNat
theorem Yc3 {m:Nat} (h:m < 2 ^ 64):m ^^^ (2 ^ 64 - 1) = 2 ^ 64 - (m + 1):=by
 apply Nat.eq_of_testBit_eq;intro i;rw [Nat.testBit_xor,Nat.testBit_two_pow_sub_one,Nat.testBit_two_pow_sub_succ h];by_cases hi:i < 64
 ·simp [hi]
 ·have:m.testBit i = false:=Nat.testBit_lt_two_pow (ah h (Nat.pow_le_pow_right (by decide) (by omega)));simp [hi,this]
theorem Ygc {n:Int} (c:-9223372036854775808 <= n) (h:n < 0):bits .xor G (IntKind.u64.wrap (IntKind.u64.wrap n * 2)) (IntKind.u64.wrap (n / 9223372036854775808)) = (zz n:Int):=by
 have a:IntKind.u64.wrap (n / 9223372036854775808) = ((18446744073709551615:Nat):Int):=by rw [fu];omega
 have b:IntKind.u64.wrap (IntKind.u64.wrap n * 2) = (((2 * n) % 18446744073709551616).toNat:Int):=by rw [fu,fu];omega
 rw [a,b,bits_xor_u64_nat _ _ (by omega) (by decide)];have p:(2:Nat) ^ 64 = 18446744073709551616:=by decide
 have x:=Yc3 (m:=((2 * n) % 18446744073709551616).toNat) (by rw [p];omega);rw [p] at x;rw [show (18446744073709551615:Nat) = 18446744073709551616 - 1 from by decide,x];unfold zz;rw [if_pos h];omega
theorem Ygd {n:Int} (h1:n <= 9223372036854775807) (h:¬ n < 0):bits .xor G (n * 2) (n / 9223372036854775808) = (zz n:Int):=by
 have a:n / 9223372036854775808 = ((0:Nat):Int):=by omega
 have b:n * 2 = ((2 * n).toNat:Int):=by omega
 rw [a,b,bits_xor_u64_nat _ _ (by omega) (by decide),Nat.xor_zero];unfold zz;rw [if_neg h]
theorem Zzk (n:Int) (w:World) (b:-9223372036854775808 <= n) (h1:n <= 9223372036854775807) :
  Calls prog 162 #[I U n] w fun e a => e = Z (I G (zz n:Int)) /\ w = a:=by
 by_cases h:n < 0
 ·go_enter func162,ntmps162;go_wp2;go_ret;exact ⟨congrArg (fun x => Ending.returned (Value.int G x)) (Ygc b (by omega)),rfl⟩
 ·go_enter func162,ntmps162;go_wp2;go_ret;exact ⟨congrArg (fun x => Ending.returned (Value.int G x)) (Ygd h1 (by omega)),rfl⟩
theorem Zw3 (n:Int) (w:World) (b:-9223372036854775808 <= n) (h1:n <= 9223372036854775807) :
  Calls prog 135 #[I U n] w fun e a => e = Z (I G (zz n:Int)) /\ w = a:=by
 by_cases h:n < 0
 ·have e:(zz n:Int) = 2 * (-(n + 1)) + 1:=by unfold zz;rw [if_pos h];omega
  rw [e];clear e;go_enter func135,ntmps135;go_wp2;go_ret;exact ⟨rfl,rfl⟩
 ·have e:(zz n:Int) = 2 * n:=by unfold zz;rw [if_neg h];omega
  rw [e];clear e;go_enter func135,ntmps135;go_wp2;go_ret;exact ⟨rfl,rfl⟩
def uvL (n:Nat):List Nat:=if h:n < 128 then [n] else (128 + n % 128) :: uvL (n / 128)
termination_by n
decreasing_by omega
theorem Zf5 {n:Nat} (h:n < 128):uvL n = [n]:=by rw [uvL,dif_pos h]
theorem Znj {n:Nat} (h:¬ n < 128):uvL n = (128 + n % 128) :: uvL (n / 128):=by rw [uvL,dif_neg h]
def bys (l:List Nat):List Value:=l.map fun (b:Nat) => Value.int .u8 (b:Int)
theorem info5:(prog.info? 5).map (fun i => (i.zero,i.size,i.bytes)) = some (some (I .u8 0),1,1):=by kernel_rfl
theorem Yfn:∀ (k n:Nat),n < 128 ^ (k + 1) -> (uvL n).length <= k + 1
 | 0,n,h => by rw [Zf5 (by simpa using h)];exact ag _
 | k + 1,n,h => by
  by_cases h1:n < 128
  ·rw [Zf5 h1];simp
  ·rw [Znj h1,au];have:=Yfn k (n / 128) (by rw [Nat.pow_succ] at h;omega);omega
theorem Za9 {n:Nat} (h:n < 18446744073709551616):(uvL n).length <= 10:=Yfn 9 n (by omega)
theorem Zzl (n:Nat):0 < (uvL n).length:=by
 by_cases h1:n < 128
 ·rw [Zf5 h1];simp
 ·rw [Znj h1];simp
theorem Zjd {base:Nat} {e:TypeId} {size:Nat} {v:Value} {n:Nat} (h:w.ownsRow base e size v n xs) (k:Nat) (a:v.ownBlock = some k):base <= k:=by
 rcases h.2 with ⟨b,_⟩ | ⟨g,c,d,b,f,_⟩
 ·rw [b] at a;simp [Value.ownBlock] at a
 ·rw [b] at a;simp [Value.ownBlock] at a;omega
theorem Zgs (a b:List Nat):bys (a ++ b) = bys a ++ bys b:=cj ..
theorem Zhc {x:Int} {k:Nat} (h:x = (k:Int)):[Value.int .u8 x] = bys [k]:=by rw [h];rfl
theorem Za0 (l:List Nat):(bys l).length = l.length:=ba ..
theorem Zvj {k:Nat} (h:k <= 1000000):k <= maxLen:=by unfold maxLen;omega
theorem Yfo {k:Nat} (h:k <= 1000000):k * 1 <= 140737488355328:=by omega
theorem Zje (m:Int):∀ u ∈ [Value.int .u8 m],u.oneCell' = true:=by intro u a;rw [List.mem_singleton.mp a];rfl
theorem Zsw (n:Int) (w:World) (y:0 <= n) (hn:n < 18446744073709551616) :
  Calls prog 134 #[I G n] w fun e H => ∃ v,e = Z v /\ H.ownsRow w.heap.size 5 1 v (uvL n.toNat).length (bys (uvL n.toNat)) /\ Bl w H:=by
 obtain ⟨i0,hi,s,p,r⟩:=info_parts info5;go_enter func134,ntmps134;go_wp2;go_loopw [0,3] (fun t v wr => ∃ (m:Int) (a:List Nat),0 <= m /\ m < 18446744073709551616 /\ t = I G m /\ wr.ownsRow w.heap.size 5 1 v a.length (bys a) /\ Bl w wr /\ uvL n.toNat = a ++ uvL m.toNat) (fun t _ _ => (intOf t).toNat)
 case atStart => exact ⟨n,[],y,hn,rfl,d8 ..,ap _ _,rfl⟩
 case round =>
  obtain ⟨m,a,S,R,rfl,c,o,g⟩:=hrel;have M:=ae g;have HL:a.length <= 9:=by
   have:=Za9 (n:=n.toNat) (by omega);rw [g,ai] at this;have:=Zzl m.toNat;omega
  have f:a.length + 1 <= 1000000:=by omega
  have C:w.heap.size <= (wr.alloc (O #[I .u8 (128 + m % 128)] 5)).heap.size:=aj (ia o.size) (jb (by simp));have K:w.heap.size <= (wr.alloc (O #[I .u8 m] 5)).heap.size:=aj (ia o.size) (jb (by simp));clear g hn y;have N:0 <= m % 128:=by omega
  have P:m % 128 < 128:=by omega
  by_cases h:127 < m
  ·go_wp2_with (at_builtin;refine wpList_append_own _ rfl _ _ 96 rfl w.heap.size 5 i0 (I .u8 0) 1 1 underlying96 hi s p r rfl (by decide) _ _ _ rfl (c.alloc _) ⟨wr.heap.size,0,none⟩ 1 1 [I .u8 (128 + m % 128)] rfl rfl (cell_one_new _ _ _) (Zje _) (Zvj f) (Yfo f) C ?_);intro J A b d _;have z:Bl w A:=(o.alloc o.size _).grown d C (Zjd c);clear d c o;go_wp2;go_roundw
   case rel =>
    have g:uvL n.toNat = (a ++ [(128 + m % 128).toNat]) ++ uvL (m / 128).toNat:=by
     have X:=Znj (n:=m.toNat) (by omega);have Q:(128 + m % 128).toNat = 128 + m.toNat % 128:=by omega
     have T:(m / 128).toNat = m.toNat / 128:=by omega
     rw [M.out,X,Q,T,ay];rfl
    have E:bys a ++ [Value.int .u8 (128 + m % 128)] = bys (a ++ [(128 + m % 128).toNat]):=by rw [Zgs,Zhc (k:=(128 + m % 128).toNat) (by omega)]
    have L:a.length + 1 = (a ++ [(128 + m % 128).toNat]).length:=by simp
    rw [E,L] at b;exact ⟨m / 128,a ++ [(128 + m % 128).toNat],by omega,by omega,rfl,b,z,g⟩
   case measure => simp [intOf];omega
  ·go_wp2_with (at_builtin;refine wpList_append_own _ rfl _ _ 96 rfl w.heap.size 5 i0 (I .u8 0) 1 1 underlying96 hi s p r rfl (by decide) _ _ _ rfl (c.alloc _) ⟨wr.heap.size,0,none⟩ 1 1 [I .u8 m] rfl rfl (cell_one_new _ _ _) (Zje _) (Zvj f) (Yfo f) K ?_);intro J A b d _;have z:Bl w A:=(o.alloc o.size _).grown d K (Zjd c);clear d c o;go_wp2;go_ret;have g:uvL n.toNat = a ++ [m.toNat]:=by rw [<- Zf5 (n:=m.toNat) (by omega)];exact M.out
   have E:bys a ++ [Value.int .u8 m] = bys (uvL n.toNat):=by rw [g,Zgs,Zhc (k:=m.toNat) (by omega)]
   have L:a.length + 1 = (uvL n.toNat).length:=by rw [g];simp
   rw [E,L] at b;exact ⟨J,rfl,b,z⟩
theorem Zjf (l:List Nat) (k:Nat) (h:k < l.length):(bys l)[k]? = some (I .u8 ((l[k]:Nat):Int)):=by
 unfold bys;rw [i6,ak h];rfl
theorem Zw4 (F:Fence) (n:Nat) (hf:F.fn 219) (ad:F.round = none) (hn:1 <= n) (l Bs n₀:Nat) (bs:List Nat) (N:Zb6 bs) (an:bs.length <= 1099511627776) (A:Option Addr) (c:Nat) (J Jx:List W64 -> World -> Prop)
  (hY:∀ d x W,J d W -> d.length < (Zau bs).length -> YieldAt F (n - 1) prog l #[I G (x.1:Int)] W fun e W' =>
   (e = Z (.bool true) /\ J (d ++ [x]) W' /\ Zcc n₀ Bs 96 W W') ∨ (e = Z (.bool false) /\ Jx (d ++ [x]) W'))
  (W:World) (P:Boxed W Bs 96 (V A bs.length c)) (s:∀ (k:Nat) (u:Value),(bys bs)[k]? = some u -> ∃ b o,A = some ⟨b,o,none⟩ /\ b < n₀ /\ W.cell? ⟨b,o + k,none⟩ = some u) (h0:J [] W) :
  CallsIn F n prog 219 #[.func (.yield l) #[] #[],Y (some ⟨Bs,0,none⟩)] W fun e W' => (∃ v,e = Z v) /\
   ((∃ ys:List W64,ys.map Subtype.val = Zau bs /\ J ys W') ∨ (∃ d:List W64,d.map Subtype.val <+: Zau bs /\ Jx d W')):=by
 refine callsIn_of_wp func219 rfl hf ?_ ad;simp only [ntmps219,ef,au,dk,Nat.reduceAdd,Nat.reduceSub,ff,ew,fp,fj,dm,dx];have af:=P.cell;gi_wp2;gi_loopw [3] (fun p wr => ∃ (i:Nat) (d:List W64),p = I U (i:Int) /\ i <= bs.length + 7 /\ d.map Subtype.val ++ Zau (bs.drop i) = Zau bs /\ J d wr /\ Zcc n₀ Bs 96 W wr)
  (fun p _ => bs.length + 8 - (intOf p).toNat)
 case atStart => exact ⟨0,[],rfl,by omega,by simp,h0,Zcc.refl _ _ _ _⟩
 case round =>
  obtain ⟨i,d,rfl,hi,T,Q,E⟩:=hrel;have hc:wr.cell? ⟨Bs,0,none⟩ = some (V A bs.length c):=(E.2 _ P).cell;by_cases al:i < bs.length
  ·have S:=ae T;clear T;have HB:=ae N;clear N P af;gi_wp2;gi_loopw [4,5] (fun a b w2 => ∃ (k:Nat),a = I G (lw ((bs.drop i).take (k - i)):Int) /\ b = I U (k:Int) /\ i <= k /\ k <= i + 8 /\ k <= bs.length /\ w2 = wr) (fun _ b _ => bs.length - (intOf b).toNat)
   case atStart => exact ⟨i,by simp [lw],rfl,by omega,by omega,by omega,rfl⟩
   case round =>
    obtain ⟨k,rfl,rfl,aa,ab,am,rfl⟩:=hrel;have step:∀ h:k < bs.length,k - i < 8 -> Value.int G (bits .or G (lw ((bs.drop i).take (k - i)):Int) (IntKind.u64.wrap (IntKind.u64.wrap ((bs[k]'h:Nat):Int) * 2 ^ (8 * (k - i))))) = I G (lw ((bs.drop i).take (k + 1 - i)):Int):=fun h h8 => by
     have hb:bs[k]'h < 256:=HB.out _ (aw h);rw [Zzg aa h];exact Zzi (Zzh hb h8 (Zoh HB.out i k aa (by omega)))
    have y:=ae step;clear step;by_cases f:k < min (i + 8) bs.length
    ·by_cases hm:bs.length < i + 8
     ·have f:k < bs.length:=by omega
      have t:k < bs.length:=by omega
      obtain ⟨b,o,rfl,K,C⟩:=s k _ (Zjf bs k t);have C:=(E.1.cell (p:=⟨b,o + k,none⟩) K).trans C;clear s;gi_wp2;go_roundw
      case rel => exact ⟨k + 1,y.out f (by omega),rfl,by omega,by omega,by omega,trivial⟩
      case measure => simp [intOf];omega
     ·have f:k < bs.length:=by omega
      have hm:i + 8 <= bs.length:=by omega
      have aq:k < i + 8:=by omega
      have t:k < bs.length:=by omega
      obtain ⟨b,o,rfl,K,C⟩:=s k _ (Zjf bs k t);have C:=(E.1.cell (p:=⟨b,o + k,none⟩) K).trans C;clear s;gi_wp2;go_roundw
      case rel => exact ⟨k + 1,y.out f (by omega),rfl,by omega,by omega,by omega,trivial⟩
      case measure => simp [intOf];omega
    ·by_cases hm:bs.length < i + 8
     ·have f:k = bs.length:=by omega
      have R:bs.drop i ≠ []:=by
       intro e;have:=congrArg List.length e;rw [dw] at this;simp at this;omega
      have g:=Zdt R;have r:lw ((bs.drop i).take 8) < 18446744073709551616:=Zld (Zdw HB.out fun x hx => gg hx);rw [Zni (l:=bs) (i:=i) (k:=k) (by omega) ab];clear y;rw [i9] at g;generalize lw ((bs.drop i).take 8) = x at *;have H2:(d ++ [(⟨x,r⟩:W64)]).map Subtype.val ++ Zau (bs.drop (i + 8)) = Zau bs:=by
       rw [cj,ay,<- S.out,g];rfl
      have hN:d.length < (Zau bs).length:=by rw [<- S.out,g,ai,ba];simp
      have HH:=ae H2;clear H2 g;obtain ⟨fn,X,H,body,hy,hR⟩:=hY d ⟨x,r⟩ wr Q hN;dsimp only at hy;gi_wp2;refine hR.mono ?_;rintro e W3 (⟨rfl,L,M⟩ | ⟨rfl,z⟩)
      ·gi_wp2;go_roundw
       case rel => exact ⟨i + 8,d ++ [⟨x,r⟩],rfl,by omega,HH.out,L,E.trans M⟩
       case measure => simp [intOf];omega
      ·gi_wp2;refine bodyPost_ret (results_none rfl _ _ _) rfl ?_;exact ⟨⟨_,rfl⟩,.inr ⟨d ++ [⟨x,r⟩],⟨_,HH.out⟩,z⟩⟩
     ·have f:k = i + 8:=by omega
      have hm:i + 8 <= bs.length:=by omega
      have R:bs.drop i ≠ []:=by
       intro e;have:=congrArg List.length e;rw [dw] at this;simp at this;omega
      have g:=Zdt R;have r:lw ((bs.drop i).take 8) < 18446744073709551616:=Zld (Zdw HB.out fun x hx => gg hx);rw [Zni (l:=bs) (i:=i) (k:=k) (by omega) ab];clear y;rw [i9] at g;generalize lw ((bs.drop i).take 8) = x at *;have H2:(d ++ [(⟨x,r⟩:W64)]).map Subtype.val ++ Zau (bs.drop (i + 8)) = Zau bs:=by
       rw [cj,ay,<- S.out,g];rfl
      have hN:d.length < (Zau bs).length:=by rw [<- S.out,g,ai,ba];simp
      have HH:=ae H2;clear H2 g;obtain ⟨fn,X,H,body,hy,hR⟩:=hY d ⟨x,r⟩ wr Q hN;dsimp only at hy;gi_wp2;refine hR.mono ?_;rintro e W3 (⟨rfl,L,M⟩ | ⟨rfl,z⟩)
      ·gi_wp2;go_roundw
       case rel => exact ⟨i + 8,d ++ [⟨x,r⟩],rfl,by omega,HH.out,L,E.trans M⟩
       case measure => simp [intOf];omega
      ·gi_wp2;refine bodyPost_ret (results_none rfl _ _ _) rfl ?_;exact ⟨⟨_,rfl⟩,.inr ⟨d ++ [⟨x,r⟩],⟨_,HH.out⟩,z⟩⟩
  ·have e:bs.drop i = []:=gh (by omega);rw [e,Zfl,bv] at T;have S:=ae T;clear T e N;gi_wp2;go_end0;exact ⟨⟨_,rfl⟩,.inl ⟨d,S.out,Q⟩⟩
theorem Zw5 (A:Option Addr) (n c:Nat) (w:World) :
  Calls prog 200 #[V A n c] w fun e a => e = Z (.func (.func 219) #[] #[Y (some ⟨w.heap.size,0,none⟩)]) /\ a = w.alloc (O #[V A n c] 96):=by
 go_enter func200,ntmps200;go_wp2;go_ret;exact ⟨rfl,rfl⟩
theorem Zqj (F:Fence) (n:Nat) (C:F.fn 219) (e:F.round = none) (hn:1 <= n) (Bs n₀:Nat) (bs:List Nat) (f:Zb6 bs) (g:bs.length <= 1099511627776) (A:Option Addr) (c:Nat) (w:World)
  (hc:Boxed w Bs 96 (V A bs.length c)) (h:n₀ <= w.heap.size)
  (a:∀ (k:Nat) (u:Value),(bys bs)[k]? = some u -> ∃ b o,A = some ⟨b,o,none⟩ /\ b < n₀ /\ w.cell? ⟨b,o + k,none⟩ = some u) :
  SeqStopsK F n prog 219 #[Y (some ⟨Bs,0,none⟩)] (fun x:W64 => #[Value.int G (x.1:Int)]) (Zcc n₀ Bs 96) (fun t => t.map Subtype.val = Zau bs) (fun d => d.map Subtype.val <+: Zau bs) (Zau bs).length w:=fun l J v W s _ _ z E =>
 Zw4 F n C e hn l Bs n₀ bs f g A c J v z W ((s.block Bs hc.lt).trans hc) (fun k u y => by
  obtain ⟨b,o,h1,r,H⟩:=a k u y;exact ⟨b,o,h1,r,(s.cell (p:=⟨b,o + k,none⟩) (ah r h)).trans H⟩) E
theorem info3:(prog.info? 3).map (fun i => (i.zero,i.size,i.bytes)) = some (some (I U 0),1,8):=by kernel_rfl
def Zbg (x:Nat):Int:=IntKind.i64.wrap (x:Int)
theorem Zba (h:x < 18446744073709551616):u64 (Zbg x) = x:=by
 have e:=Zoj (Zbg x);unfold Zbg at e;rw [az] at e;unfold Zbg;rw [az];omega
def wI (pre:List W64):List Int:=pre.map fun x => Zbg x.1
theorem Yge (a:List W64) (x:W64):Zdj (wI (a ++ [x])) = Zdj (wI a) ++ [I U (Zbg x.1)]:=by
 unfold wI Zdj;rw [cj,cj];rfl
theorem Yjd (a:List W64):wI a = (a.map Subtype.val).map Zbg:=by
 unfold wI;rw [iz];rfl
def Ze3 (s:ByteArray) (bs:List Nat):Nat:=Zvg (Zau (sb s)) s.size (Zau bs ++ [bs.length])
theorem Ze9 (bs:List Nat):(Zau bs).length <= bs.length:=by
 generalize hn:bs.length = n;induction n using Nat.strongRecOn generalizing bs with
 | _ n ih =>
  by_cases h:bs = []
  ·rw [h,Zfl];simp
  ·rw [Zdt h,au];have:0 < bs.length:=List.length_pos_iff.2 h;have hd:(bs.drop 8).length < n:=by rw [dw];omega
   have:=ih _ hd (bs.drop 8) rfl;rw [dw] at *;omega
theorem Zqk (s:ByteArray) (bs:List Nat) (a:Zb6 bs) (hn:bs.length <= 1099511627776):Zvg (Zau (sb s)) s.size (Zfn ((Zau bs).map Zbg ++ [(bs.length:Int)])) = Ze3 s bs:=by
 unfold Ze3 Zfn;congr 1;rw [cj,iz];congr 1
 ·conv => rhs;rw [<- List.map_id (Zau bs)]
  exact List.map_congr_left fun x b => Zba (Zvh a x b)
 ·have e:=Zoj (bs.length:Int);have:u64 (bs.length:Int) = bs.length:=by omega
  rw [du,fq,this]
theorem Zzm (s:ByteArray) (a4:s.size <= 1099511627776) (v:Value) (bs:List Nat) (af:Zb6 bs) (hn:bs.length <= 1000000000) (w:World) (hr:Rep w w.heap.size v (.s 1 (Zdv (bys bs)))) :
  Calls prog 160 #[.string s,v] w fun e w' => e = Z (I G (Ze3 s bs:Int)) /\ Bl w w':=by
 obtain ⟨A,c,rfl,hc,t⟩:=hr.row;rw [Za0] at hc ⊢;obtain ⟨i0,hi,R,T,ab⟩:=info_parts info3;refine (callsIn_wide (n:=5)).1 ?_;refine callsIn_of_wp_marks func160 rfl trivial ?_ rfl;simp only [ntmps160,ef,au,dk,Nat.reduceAdd,Nat.reduceSub,ff,ew,fp,fj,dm,dx];gi_wp2_with (refine ⟨trivial,?_⟩;gi_at_call 200;refine (callsIn_wide.2 (Zw5 _ _ _ _)).mono ?_;rintro e w' ⟨rfl,rfl⟩);have L:=(Boxed.new w 22 (V none 0 0)).alloc (O #[V A bs.length c] 96);have C:=Boxed.new (w.alloc (O #[V none 0 0] 22)) 96 (V A bs.length c);rw [ax] at C;have z:Bl w ((w.alloc (O #[V none 0 0] 22)).alloc (O #[V A bs.length c] 96)):=((ap _ w).alloc (ag _) _).alloc (by simp) _;refine wpIn_rangeFunc_ownG rfl (by omega) (gf:=219) (lb:=#[Y (some ⟨w.heap.size + 1,0,none⟩)]) rfl trivial (enters_of func219 (by kernel_rfl) rfl)
  (Zqj Fence.wide (5 - 1) trivial rfl (by omega) (w.heap.size + 1) w.heap.size bs af (by omega) A c _ C z.size (fun k u J => by
   obtain ⟨b,o,h1,h2,h3⟩:=t k u J;exact ⟨b,o,h1,h2,(z.cell (p:=⟨b,o + k,none⟩) h2).trans h3⟩)) Zcc.trans (Zcc.put (by simp;omega)) (ap _ _) (fun _ => rfl)
  (fun r W => (∃ v,Boxed W w.heap.size 22 v /\ W.ownsRow w.heap.size 3 1 v r.length (Zdj (wI r)) /\ True) /\ Bl w W)
  (fun _ _ _ => False)
  (OwnFrom.and (Own.from (holdsRow_own w.heap.size w.heap.size 22 3 1 (fun (r:List W64) => r.length) (fun r => Zdj (wI r)) (fun _ _ => True)) _) (ownFrom_below (ag _) (by simp;omega)))
  (fun _ _ _ _ _ hs _ _ => hs)
  ⟨⟨_,L,d8 _ _ _ _,trivial⟩,z⟩ ?aa ?assign ?body ?done ?stop
 case assign =>
  intro l x W K S;gi_wp2;exact S
 case body =>
  rintro k r x W ⟨⟨v,P,d,_⟩,H⟩ an;have X:=P.cell;have M:=Ze9 bs;clear L C z t;have a0:r.length + 1 <= 1000000001:=by omega
  have HS:w.heap.size <= (W.alloc (O #[I U (Zbg x.1)] 3)).heap.size:=aj (ia H.size) (jb (by simp));have HX:(IntKind.i64.wrap (x.1:Int)) = Zbg x.1:=rfl;clear an M;gi_wp2_with (gi_at_builtin;refine wpListIn_append_own _ rfl _ _ 22 rfl w.heap.size 3 i0 (I U 0) 1 8 underlying22 hi R T ab rfl (by decide) _ _ _ rfl (d.alloc _) ⟨W.heap.size,0,none⟩ 1 1 [I U (Zbg x.1)] rfl rfl (cell_one_new _ _ _) (by intro u J;rw [List.mem_singleton.mp J];rfl) (by unfold maxLen;omega) (by omega) HS ?_;intro v' w1 f a _;obtain ⟨g',a6,rfl⟩:=ownsRow_succ f;obtain ⟨al,a5,a1,a2,y⟩:=P.appended (by decide) d H.size (ag _) f a;have a9:=al.cell;have a7:=al.frozen);refine ⟨a2.from _,⟨y,fun u J => ?_⟩,⟨⟨_,a5,?_,trivial⟩,H.trans y⟩⟩
  ·exact ((J.alloc _).kept a (J.not_row (by decide) d)).other (by omega) _
  ·rw [Yge,ai];exact a1
 case done =>
  rintro D N W hD E ⟨⟨v,P,d,_⟩,H⟩ S;have X:=P.cell;have aq:N.length = (Zau bs).length:=by rw [<- E,ba]
  have M:=Ze9 bs;have HV:=ae (Zqk s bs af (by omega));rw [<- E,<- Yjd] at HV;clear L C z t;have a0:N.length + 1 <= 1000000001:=by omega
  have HS:w.heap.size <= (W.alloc (O #[I U (bs.length:Int)] 3)).heap.size:=aj (ia H.size) (jb (by simp));simp at hD;have bc:=ae E;clear E aq M;gi_wp2_with (gi_at_builtin;refine wpListIn_append_own _ rfl _ _ 22 rfl w.heap.size 3 i0 (I U 0) 1 8 underlying22 hi R T ab rfl (by decide) _ _ _ rfl (d.alloc _) ⟨W.heap.size,0,none⟩ 1 1 [I U (bs.length:Int)] rfl rfl (cell_one_new _ _ _) (by intro u J;rw [List.mem_singleton.mp J];rfl) (by unfold maxLen;omega) (by omega) HS ?_;intro v' w1 f a _);have HI:Zdj (wI N) ++ [Value.int U (bs.length:Int)] = Zdj (wI N ++ [(bs.length:Int)]):=by unfold Zdj;rw [cj];rfl
  rw [HI] at f;have y:Below w.heap.size W w1:=((ap _ W).alloc H.size _).grown a HS (fun k e => (d.lt k e).1);have am:=(KeepsOthers.of_grownBy a fun j o ej hj => by
   rcases (d.alloc (O #[I U (bs.length:Int)] 3)).2 with ⟨e,_⟩ | ⟨g,cap,a8,e,_,av,_⟩
   ·subst e;simp [Value.ownBlock,Act.eval] at ej
   ·subst e;obtain rfl:g = j:=by simpa [Value.ownBlock,Act.eval] using ej
    rw [av] at hj;cases hj;rfl).same D _ ((Below.heap_alloc W _ D (Array.getElem?_eq_some_iff.1 S).1).trans S) rfl
  clear a d P X HI S;refine ⟨trivial,?_⟩;refine (callsIn_wide.2 (Zzj s a4 v' (wI N ++ [(bs.length:Int)]) w1 (Rep.of_own_plain f) ?c2)).mono ?_
  case c2 => rw [ai];unfold wI;rw [ba];simp only [au,dk];omega
  rintro e w2 ⟨rfl,Q⟩;have a3:=H.trans (y.trans (Q.mono (aj H.size y.size)));rw [HV.out];have ad:w2.heap[D]? = some (.deferred (some [])):=(Q.block D (Array.getElem?_eq_some_iff.1 am).1).trans am;gi_wp2;refine ⟨by simp,.inl ⟨_,_,rfl,run_takeDeferred ad,?_⟩⟩;exact ⟨_,results_tmp rfl _ _ _,rfl,a3.trans (belowK_b (w:=w) (ag _) _ D _ _ (by omega) ad rfl rfl)⟩
 case stop =>
  rintro D c r W _ _ h _;exact h.elim
def Zw6 (s:ByteArray) (l:List Nat):Nat:=Zvg (Zau (sb s)) s.size l
theorem Zcn (s:ByteArray) (l:List Nat):Zw6 s l < 18446744073709551616:=Yfk _ _ _
theorem Zlf (s:ByteArray) (l:List Nat):Ze3 s l < 18446744073709551616:=Yfk _ _ _
def Ygf:ByteArray:={ data:=#[115,101,97,108] }
def Zdx:ByteArray:={ data:=#[115,101,97,108,101,100] }
def Ygg:ByteArray:={ data:=#[108,101,97,102] }
def Ygh:ByteArray:={ data:=#[110,111,100,101] }
def Yje:ByteArray:={ data:=#[110,111,110,101] }
def Yjf:ByteArray:={ data:=#[107,101,121] }
def Ygi:ByteArray:={ data:=#[115,105,103,110] }
def Zbo (bs:List Nat) (salt:Nat):Nat:=Zw6 Ygf [salt,Ze3 Zdx bs]
def Zce (h:Nat):Nat:=Zw6 Ygg [h]
def Zjg (a b:Nat):Nat:=Zw6 Ygh [a,b]
def Yjg:Nat:=Zw6 Yje []
def Zie (s:Nat):Nat:=Zw6 Yjf [s]
theorem Zvk {s:ByteArray} {l:List Int} (h:Zfn l = m):Zvg (Zau (sb s)) s.size (Zfn l) = Zw6 s m:=by rw [h];rfl
theorem Zaa {A:Nat} {a w2:World} (h:Below A w a) (k:Below B a w2) (b:A <= B):Below A w w2:=h.trans (k.mono b)
theorem Zab (w:World) (o:Obj):Bl w (w.alloc o):=(ap _ _).alloc (ag _) _
theorem Zgt (s:ByteArray) (b:s.size <= 1099511627776) (l:List Int) (m:List Nat) (n:Nat) (cs:Array Value) (w:World) (H:Nat) (d:w.heap.size = H) (a:cs = (Zdj l).toArray) (hn:l.length = n) (hm:Zfn l = m) (hl:l.length <= 1099511627776) :
  Calls prog 23 #[.string s,V (some ⟨H,0,none⟩) n n] (w.alloc (O cs 3)) fun e c => e = Z (I G (Zw6 s m:Int)) /\ Bl w c:=by
 subst a d;have hr:=Rep.fresh_plain (w:=w) (n:=n) (e:=3) (cs:=(Zdj l).toArray) (by simp [Zb1,hn]);refine (Zzj s b _ l _ hr hl).mono ?_;rintro e c ⟨rfl,f⟩;rw [Zvk hm];exact ⟨rfl,((ap w.heap.size w).alloc (ag _) _).trans (f.mono (by simp))⟩
theorem Zvl (h:Nat) (b:h < 18446744073709551616) (w:World) :
  Calls prog 157 #[I G (h:Int)] w fun e a => e = Z (I G (Zce h:Int)) /\ Bl w a:=by
 have d:=ae (Zba b);clear b;have f:IntKind.i64.wrap (h:Int) = Zbg h:=rfl;go_enter func157,ntmps157;go_wp2_with (go_at_call 23;refine (Zgt Ygg (by decide) [Zbg h] [h] 1 _ w _ rfl rfl rfl (by unfold Zfn;rw [du,fq,d.out]) (fw rfl)).mono ?_;rintro e a ⟨rfl,c⟩);go_ret;exact ⟨rfl,c⟩
theorem Zvm (a b:Nat) (f:a < 18446744073709551616) (c:b < 18446744073709551616) (w:World) :
  Calls prog 159 #[I G (a:Int),I G (b:Int)] w fun e d => e = Z (I G (Zjg a b:Int)) /\ Bl w d:=by
 have h:=ae (Zba f);have g:=ae (Zba c);clear f c;have o:IntKind.i64.wrap (a:Int) = Zbg a:=rfl;have k:IntKind.i64.wrap (b:Int) = Zbg b:=rfl;go_enter func159,ntmps159;go_wp2_with (go_at_call 23;refine (Zgt Ygh (by decide) [Zbg a,Zbg b] [a,b] 2 _ w _ rfl rfl rfl (by unfold Zfn;rw [du,du,fq,h.out,g.out]) (fw rfl)).mono ?_;rintro e d ⟨rfl,c⟩);go_ret;exact ⟨rfl,c⟩
theorem Zlg (s:Nat) (b:s < 18446744073709551616) (w:World) :
  Calls prog 6 #[I G (s:Int)] w fun e a => e = Z (I G (Zie s:Int)) /\ Bl w a:=by
 have d:=ae (Zba b);clear b;have f:IntKind.i64.wrap (s:Int) = Zbg s:=rfl;go_enter func6,ntmps6;go_wp2_with (go_at_call 23;refine (Zgt Yjf (by decide) [Zbg s] [s] 1 _ w _ rfl rfl rfl (by unfold Zfn;rw [du,fq,d.out]) (fw rfl)).mono ?_;rintro e a ⟨rfl,c⟩);go_ret;exact ⟨rfl,c⟩
theorem Znk (v:Value) (bs:List Nat) (d:Zb6 bs) (hn:bs.length <= 1000000000) (salt:Nat) (hs:salt < 18446744073709551616) (w:World) (hr:Rep w w.heap.size v (.s 1 (Zdv (bys bs)))) :
  Calls prog 118 #[v,I G (salt:Int)] w fun e f => e = Z (I G (Zbo bs salt:Int)) /\ Bl w f:=by
 have p:=ae (Zba hs);have g:=ae (Zba (Zlf Zdx bs));clear hs;have r:IntKind.i64.wrap (salt:Int) = Zbg salt:=rfl;have t:IntKind.i64.wrap (Ze3 Zdx bs:Int) = Zbg (Ze3 Zdx bs):=rfl;obtain ⟨A,c,rfl,hc,a⟩:=hr.row;have k:=ae hr;clear hr a;go_enter func118,ntmps118;go_wp2_with (go_at_call 160;refine (Zzm Zdx (by decide) _ bs d hn w k.out).mono ?_;rintro e h ⟨rfl,b⟩);go_wp2_with (go_at_call 23;refine (Zgt Ygf (by decide) [Zbg salt,Zbg (Ze3 Zdx bs)] [salt,Ze3 Zdx bs] 2 _ h _ rfl rfl rfl (by unfold Zfn;rw [du,du,fq,p.out,g.out]) (fw rfl)).mono ?_;rintro e f ⟨rfl,o⟩);go_ret;exact ⟨rfl,b.trans (o.mono b.size)⟩
end Go.Proofs.YtglkadmfjaecmaaGreatDoor
