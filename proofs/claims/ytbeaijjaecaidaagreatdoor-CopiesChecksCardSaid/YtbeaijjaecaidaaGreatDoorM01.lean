/- The plain law of the hash: one step is one to one in each of its two arguments, so a sum changes if exactly one of its elements does. Words of bytes: the plain law. One step of the hash, in the program and in its reference. The words of a string: the iterator's contract. Data in memory: a value and what it holds, as far as one can follow it through slices. The sum of a label and numbers, in the program. The zigzag form of a number, in the program and in its reference. Varints of the reference. (Not finished.) The words of bytes: the iterator's contract. The sum of bytes; the commitment of package seal. Sums with labels: the commitment of package seal, the nodes of package logtree, keys and signatures of package head. -/
import Derived.Test.YtbeaijjaecaidaaGreatDoorProg
import Derived.WalkKit
import Derived.WalkSpells
import Derived.WalkLawsBesides
import Derived.Lib.Hide
import Derived.Laws.Bits64
import Derived.RangeFuncNested
import Derived.RangeFuncBound
import Derived.RangeFuncCalls
import Derived.RangeFuncLeaves
import Derived.RangeFuncBox
import Derived.Shelf.Abstract
import Derived.Shelf.RegionOpen
import Derived.OwnWalkIn
import Derived.TacticsInMore
import Derived.LoopNIn
import Derived.LoopIn
import Derived.Below
import Derived.Deep.Draws
import Derived.Laws.AppendOwn
import Derived.Laws.OwnMore
import Derived.RangeFuncFrom
import Derived.RangeFuncWrites
import Derived.Deep.RegionHeld
import Derived.OrdersHeld
set_option maxRecDepth 100000
set_option maxHeartbeats 16000000
namespace Go.Proofs.YtbeaijjaecaidaaGreatDoor
open Go.RowKit Go.Shelf
/-- One operation alone is ready. -/
theorem rd {P : Program} {ops : Array Oper} {Q : Exit → Act → World → Prop} {md : Region.Mode} {S : World → Prop} {fuel : Nat} {listed : Array Bool} {a : Act} {w : World} (i : Nat) (d : Option Nat) {op : Op} {ty : TypeId} {pos : String} {after : Array Edge} {g : Option (Nat × Bool)} (ho : ops[i]? = some ⟨d, op, ty, pos, after, g⟩)
    (h : ∀ K' : Act → World → Prop, Shut (∀ a w, S w → (S w → wpAnyH P md ops Q S fuel (listed.setIfInBounds i true) a w) → K' a w) → if Region.wanted ⟨d, op, ty, pos, after, g⟩ (yielded ops a.tmps) = true then Oper.wp P ⟨d, op, ty, pos, after, g⟩ a w K' Q else K' (a.put (⟨d, op, ty, pos, after, g⟩ : Oper).dst undef) w) (hr : Region.ready md ops listed = [i] := by kernel_rfl) : wpAnyH P md ops Q S (fuel + 1) listed a w :=
  wpAnyH_ready hr (by simp) (AllReadyH.cons ho h AllReadyH.nil)
/-- Two are. -/
theorem rd2 {P : Program} {ops : Array Oper} {Q : Exit → Act → World → Prop} {md : Region.Mode} {S : World → Prop} {fuel : Nat} {listed : Array Bool} {a : Act} {w : World} (i : Nat) (d : Option Nat) (j : Nat) (d' : Option Nat) {op : Op} {ty : TypeId} {pos : String} {after : Array Edge} {g : Option (Nat × Bool)} {op' : Op} {ty' : TypeId} {pos' : String} {after' : Array Edge} {g' : Option (Nat × Bool)} (hr : Region.ready md ops listed = [i, j]) (ho : ops[i]? = some ⟨d, op, ty, pos, after, g⟩) (ho' : ops[j]? = some ⟨d', op', ty', pos', after', g'⟩)
    (h : ∀ K' : Act → World → Prop, Shut (∀ a w, S w → (S w → wpAnyH P md ops Q S fuel (listed.setIfInBounds i true) a w) → K' a w) → if Region.wanted ⟨d, op, ty, pos, after, g⟩ (yielded ops a.tmps) = true then Oper.wp P ⟨d, op, ty, pos, after, g⟩ a w K' Q else K' (a.put (⟨d, op, ty, pos, after, g⟩ : Oper).dst undef) w)
    (h' : ∀ K' : Act → World → Prop, Shut (∀ a w, S w → (S w → wpAnyH P md ops Q S fuel (listed.setIfInBounds j true) a w) → K' a w) → if Region.wanted ⟨d', op', ty', pos', after', g'⟩ (yielded ops a.tmps) = true then Oper.wp P ⟨d', op', ty', pos', after', g'⟩ a w K' Q else K' (a.put (⟨d', op', ty', pos', after', g'⟩ : Oper).dst undef) w) : wpAnyH P md ops Q S (fuel + 1) listed a w :=
  wpAnyH_ready hr (by simp) (AllReadyH.cons ho h (AllReadyH.cons ho' h' AllReadyH.nil))
theorem pS (a : Act) (t : Nat) (v : Value) : a.put (some t) v = { a with tmps := a.tmps.setIfInBounds t v } := rfl
theorem pB {α : Type} (l : List α) (i : Nat) (a : α) : l.toArray.setIfInBounds i a = (l.set i a).toArray := List.setIfInBounds_toArray ..
theorem pZ {α : Type} (x : α) (l : List α) (a : α) : (x :: l).set 0 a = a :: l := rfl
theorem pC {α : Type} (x : α) (l : List α) (n : Nat) (a : α) : (x :: l).set (n + 1) a = x :: l.set n a := rfl
theorem tq {P : Program} {ops : Array Oper} {Q : Exit → Act → World → Prop} {md : Region.Mode} {S : World → Prop} {fuel : Nat} {listed : Array Bool} {a : Act} {w : World} (i d : Nat) {op : Op} {ty : TypeId} {pos : String} {after : Array Edge} {g : Option (Nat × Bool)} {v : Value} {l : Array Bool} {b : Act} (hi : ops[i]? = some ⟨some d, op, ty, pos, after, g⟩)
    (h : wpAnyH P md ops Q S fuel l b w)
    (hy : ∀ w, S w → (execOp a.eval ⟨some d, op, ty, pos, after, g⟩).run P w = .ok (.value v) w := by intro w' hSw; (try dsimp only at hSw); go_simp; try (with_reducible rfl))
    (hl : listed.setIfInBounds i true = l := by (try simp only [pB, pZ, pC]); rfl)
    (hb : a.put (some d) v = b := by (try simp only [pS, pB, pZ, pC]); rfl)
    (hB : (Region.noSelect ops && Region.free md ops listed i && (Region.ready md ops listed).contains i) = true := by kernel_rfl)
    (hQ : ∀ c a w, Q (.panic c) (a.put (some d) v) w → Q (.panic c) a w := by first | exact fun _ _ _ h => h | exact fun _ _ _ h => absurd h.2 (by intro h; cases h))
    (hw : Region.wanted ⟨some d, op, ty, pos, after, g⟩ (yielded ops a.tmps) = true := by rfl) (hS : S w := by assumption) : wpAnyH P md ops Q S (fuel + 1) listed a w := by
  rw [Bool.and_eq_true, Bool.and_eq_true] at hB
  subst hl hb
  exact wpAnyH_take hi hB.1.1 hB.1.2 hB.2 hQ (.inl ⟨hw, hy⟩) hS h
theorem th {P : Program} {ops : Array Oper} {Q : Exit → Act → World → Prop} {md : Region.Mode} {S : World → Prop} {fuel : Nat} {listed : Array Bool} {a : Act} {w : World} (i d : Nat) {op : Op} {ty : TypeId} {pos : String} {after : Array Edge} {g : Option (Nat × Bool)} {v : Value} {l : Array Bool} {b : Act} {F : World → Prop} (hi : ops[i]? = some ⟨some d, op, ty, pos, after, g⟩) (hf : ∀ w, S w → F w)
    (h : wpAnyH P md ops Q S fuel l b w)
    (hy : ∀ w, S w → F w → (execOp a.eval ⟨some d, op, ty, pos, after, g⟩).run P w = .ok (.value v) w := by intro w' hSw hc; (try dsimp only at hSw hc); go_simp; try (with_reducible rfl))
    (hl : listed.setIfInBounds i true = l := by (try simp only [pB, pZ, pC]); rfl)
    (hb : a.put (some d) v = b := by (try simp only [pS, pB, pZ, pC]); rfl)
    (hB : (Region.noSelect ops && Region.free md ops listed i && (Region.ready md ops listed).contains i) = true := by kernel_rfl)
    (hQ : ∀ c a w, Q (.panic c) (a.put (some d) v) w → Q (.panic c) a w := by first | exact fun _ _ _ h => h | exact fun _ _ _ h => absurd h.2 (by intro h; cases h))
    (hw : Region.wanted ⟨some d, op, ty, pos, after, g⟩ (yielded ops a.tmps) = true := by rfl) (hS : S w := by assumption) : wpAnyH P md ops Q S (fuel + 1) listed a w :=
  tq i d hi h (fun w hw => hy w hw (hf w hw)) hl hb hB hQ hw hS
theorem dn {P : Program} {ops : Array Oper} {Q : Exit → Act → World → Prop} {md : Region.Mode} {S : World → Prop} {fuel : Nat} {listed : Array Bool} {a : Act} {w : World} (h : Q .normal a w) (hr : Region.ready md ops listed = [] := by kernel_rfl) : wpAnyH P md ops Q S fuel listed a w := wpAnyH_done hr h _
theorem tz {P : Program} {ops : Array Oper} {Q : Exit → Act → World → Prop} {md : Region.Mode} {S : World → Prop} {fuel : Nat} {listed : Array Bool} {a : Act} {w : World} (i d : Nat) {op : Op} {ty : TypeId} {pos : String} {after : Array Edge} {g : Option (Nat × Bool)} {l : Array Bool} {b : Act} (hi : ops[i]? = some ⟨some d, op, ty, pos, after, g⟩)
    (h : wpAnyH P md ops Q S fuel l b w)
    (hl : listed.setIfInBounds i true = l := by (try simp only [pB, pZ, pC]); rfl)
    (hb : a.put (some d) undef = b := by (try simp only [pS, pB, pZ, pC]); rfl)
    (hB : (Region.noSelect ops && Region.free md ops listed i && (Region.ready md ops listed).contains i) = true := by kernel_rfl)
    (hQ : ∀ c a w, Q (.panic c) (a.put (some d) undef) w → Q (.panic c) a w := by first | exact fun _ _ _ h => h | exact fun _ _ _ h => absurd h.2 (by intro h; cases h))
    (hw : Region.wanted ⟨some d, op, ty, pos, after, g⟩ (yielded ops a.tmps) = false := by rfl) (hS : S w := by assumption) : wpAnyH P md ops Q S (fuel + 1) listed a w := by
  rw [Bool.and_eq_true, Bool.and_eq_true] at hB
  subst hl hb
  exact wpAnyH_take hi hB.1.1 hB.1.2 hB.2 hQ (.inr ⟨hw, rfl⟩) hS h
theorem ty {P : Program} {ops : Array Oper} {Q : Exit → Act → World → Prop} {md : Region.Mode} {S : World → Prop} {fuel : Nat} {listed : Array Bool} {a : Act} {w : World} (i d : Nat) {op : Op} {ty : TypeId} {pos : String} {after : Array Edge} {g : Option (Nat × Bool)} {v : Value} {l : Array Bool} {b : Act} (hi : ops[i]? = some ⟨some d, op, ty, pos, after, g⟩)
    (hy : YieldsIf P ops S ⟨some d, op, ty, pos, after, g⟩ v a)
    (h : wpAnyH P md ops Q S fuel l b w)
    (hl : listed.setIfInBounds i true = l := by (try simp only [pB, pZ, pC]); rfl)
    (hb : a.put (some d) v = b := by (try simp only [pS, pB, pZ, pC]); rfl)
    (hB : (Region.noSelect ops && Region.free md ops listed i && (Region.ready md ops listed).contains i) = true := by kernel_rfl)
    (hQ : ∀ c a w, Q (.panic c) (a.put (some d) v) w → Q (.panic c) a w := by first | exact fun _ _ _ h => h | exact fun _ _ _ h => absurd h.2 (by intro h; cases h)) (hS : S w := by assumption) : wpAnyH P md ops Q S (fuel + 1) listed a w := by
  rw [Bool.and_eq_true, Bool.and_eq_true] at hB
  subst hl hb
  exact wpAnyH_take hi hB.1.1 hB.1.2 hB.2 hQ hy hS h
/-- Short words. -/
abbrev iI (x : Int) : Value := .int .i64 x
abbrev uI (x : Int) : Value := .int .u64 x
abbrev nN : Value := .slice none 0 0
attribute [simp, go_sem] iI uI nN
end Go.Proofs.YtbeaijjaecaidaaGreatDoor
namespace Go.Proofs.YtbeaijjaecaidaaGreatDoor
open Go.RowKit Go.Shelf
attribute [local go_sem] Oper.semAt_some
def mixN (s w:Nat):Nat:=((11400714819323198485 * (s ^^^ w)) % 18446744073709551616) ^^^ (((11400714819323198485 * (s ^^^ w)) % 18446744073709551616) / 4294967296)
theorem mixN_eq (s w:Nat):mixN s w = (((s ^^^ w) * 11400714819323198485) % 18446744073709551616) ^^^ ((((s ^^^ w) * 11400714819323198485) % 18446744073709551616) / 4294967296):=by
 unfold mixN;rw [Nat.mul_comm]
theorem xor_lt {a b:Nat} (ha:a < 18446744073709551616) (hb:b < 18446744073709551616):a ^^^ b < 18446744073709551616:=by
 have h:(18446744073709551616:Nat) = 2 ^ 64:=by decide
 rw [h] at *;exact Nat.xor_lt_two_pow ha hb
theorem xor_inj {a b c:Nat} (h:a ^^^ b = a ^^^ c):b = c:=by
 have:=congrArg (a ^^^ ·) h
 simpa [← Nat.xor_assoc] using this
theorem mul_inj {a b:Nat} (ha:a < 18446744073709551616) (hb:b < 18446744073709551616) (h:a * 11400714819323198485 % 18446744073709551616 = b * 11400714819323198485 % 18446744073709551616):a = b:=by
 have key:∀ x:Nat,x < 18446744073709551616 → (x * 11400714819323198485 % 18446744073709551616) * 17428512612931826493 % 18446744073709551616 = x:=fun x hx => by
  rw [Nat.mod_mul_mod,Nat.mul_assoc,← Nat.mul_mod_mod];rw [show 11400714819323198485 * 17428512612931826493 % 18446744073709551616 = 1 from by decide,Nat.mul_one,Nat.mod_eq_of_lt hx]
 rw [← key a ha,← key b hb,h]
theorem fold_inj {a b:Nat} (ha:a < 18446744073709551616) (hb:b < 18446744073709551616) (h:a ^^^ (a / 4294967296) = b ^^^ (b / 4294967296)):a = b:=by
 have p32:(4294967296:Nat) = 2 ^ 32:=by decide
 have hd:a / 4294967296 = b / 4294967296:=by
  have e:(a ^^^ (a / 4294967296)) / 4294967296 = (b ^^^ (b / 4294967296)) / 4294967296:=by rw [h]
  rw [p32] at *;rw [Nat.xor_div_two_pow,Nat.xor_div_two_pow] at e;have z1:a / 2 ^ 32 / 2 ^ 32 = 0:=by omega
  have z2:b / 2 ^ 32 / 2 ^ 32 = 0:=by omega
  rw [z1,z2,Nat.xor_zero,Nat.xor_zero] at e;exact e
 rw [hd,Nat.xor_comm a,Nat.xor_comm b] at h;exact xor_inj h
theorem mix_lt (s w:Nat):mixN s w < 18446744073709551616:=by
 rw [mixN_eq];exact xor_lt (Nat.mod_lt _ (by decide)) (by omega)
theorem mix_inj_w {s w w':Nat} (hs:s < 18446744073709551616) (hw:w < 18446744073709551616) (hw':w' < 18446744073709551616) (h:mixN s w = mixN s w'):w = w':=by
 rw [mixN_eq,mixN_eq] at h;have h1:=fold_inj (Nat.mod_lt _ (by decide)) (Nat.mod_lt _ (by decide)) h
 exact xor_inj (mul_inj (xor_lt hs hw) (xor_lt hs hw') h1)
theorem mix_inj_s {s s' w:Nat} (hs:s < 18446744073709551616) (hs':s' < 18446744073709551616) (hw:w < 18446744073709551616) (h:mixN s w = mixN s' w):s = s':=by
 rw [mixN_eq,mixN_eq] at h;rw [Nat.xor_comm s,Nat.xor_comm s'] at h;have h1:=fold_inj (Nat.mod_lt _ (by decide)) (Nat.mod_lt _ (by decide)) h
 exact xor_inj (mul_inj (xor_lt hw hs) (xor_lt hw hs') h1)
def runN (s:Nat) (l:List Nat):Nat:=l.foldl mixN s
def Words (l:List Nat):Prop:=∀ x ∈ l,x < 18446744073709551616
theorem run_lt:∀ (l:List Nat) (s:Nat),s < 18446744073709551616 → runN s l < 18446744073709551616
 | [],_,h => h
 | x :: l,s,_ => run_lt l (mixN s x) (mix_lt s x)
theorem run_inj:∀ (l:List Nat) (s s':Nat),Words l → s < 18446744073709551616 → s' < 18446744073709551616 → runN s l = runN s' l → s = s'
 | [],_,_,_,_,_,h => h
 | x :: l,s,s',hl,_,_,h =>
  mix_inj_s ‹_› ‹_› (hl x List.mem_cons_self) (run_inj l (mixN s x) (mixN s' x) (fun y hy => hl y (List.mem_cons_of_mem _ hy)) (mix_lt _ _) (mix_lt _ _) h)
theorem run_one {p q:List Nat} {x y s:Nat} (hs:s < 18446744073709551616) (hx:x < 18446744073709551616) (hy:y < 18446744073709551616) (hq:Words q) (h:runN s (p ++ x :: q) = runN s (p ++ y :: q)):x = y:=by
 unfold runN at h;rw [List.foldl_append,List.foldl_append,List.foldl_cons,List.foldl_cons] at h;have h1:=run_inj q _ _ hq (mix_lt _ _) (mix_lt _ _) h;exact mix_inj_w (run_lt p s hs) hx hy h1
def sumN (lw:List Nat) (len:Nat) (l:List Nat):Nat:=mixN (runN (mixN (mixN (runN 0 lw) len) l.length) l) 0
theorem sum_lt (lw:List Nat) (len:Nat) (l:List Nat):sumN lw len l < 18446744073709551616:=mix_lt _ _
theorem sum_one {lw:List Nat} {len:Nat} {p q:List Nat} {x y:Nat} (hx:x < 18446744073709551616) (hy:y < 18446744073709551616) (hq:Words q) (h:sumN lw len (p ++ x :: q) = sumN lw len (p ++ y :: q)):x = y:=by
 unfold sumN at h;have e:(p ++ x :: q).length = (p ++ y :: q).length:=by simp
 rw [e] at h;have h1:=mix_inj_s (run_lt _ _ (mix_lt _ _)) (run_lt _ _ (mix_lt _ _)) (by decide) h
 exact run_one (mix_lt _ _) hx hy hq h1
def lw:List Nat → Nat
 | [] => 0
 | b :: l => b + 256 * lw l
def Bytes (l:List Nat):Prop:=∀ x ∈ l,x < 256
theorem lw_snoc:∀ (l:List Nat) (b:Nat),lw (l ++ [b]) = lw l + b * 256 ^ l.length
 | [],b => by simp [lw]
 | a :: l,b => by
  rw [List.cons_append,lw,lw_snoc l b,lw,List.length_cons,Nat.pow_succ,Nat.mul_add,Nat.add_assoc];congr 2;rw [Nat.mul_comm 256,Nat.mul_assoc]
theorem lw_lt:∀ (l:List Nat),Bytes l → lw l < 256 ^ l.length
 | [],_ => by simp [lw]
 | a :: l,h => by
  have h1:=lw_lt l (fun x hx => h x (List.mem_cons_of_mem _ hx))
  have h2:=h a List.mem_cons_self;rw [lw,List.length_cons,Nat.pow_succ];omega
theorem lw_or {w b j:Nat} (h:w < 256 ^ j):w ||| b * 256 ^ j = w + b * 256 ^ j:=by
 have e:(256:Nat) ^ j = 2 ^ (8 * j):=by rw [Nat.pow_mul]
 rw [e] at h ⊢;rw [Nat.or_comm,Nat.mul_comm b,← Nat.two_pow_add_eq_or_of_lt h,Nat.add_comm]
def wordsL (l:List Nat):List Nat:=if _h:l = [] then [] else lw (l.take 8) :: wordsL (l.drop 8)
termination_by l.length
decreasing_by
 have:0 < l.length:=List.length_pos_iff.2 ‹_›;rw [List.length_drop];omega
theorem words_nil:wordsL [] = []:=by rw [wordsL];rfl
theorem words_cons {l:List Nat} (h:l ≠ []):wordsL l = lw (l.take 8) :: wordsL (l.drop 8):=by
 rw [wordsL,dif_neg h]
theorem bytes_sub {l m:List Nat} (h:Bytes l) (hs:∀ x ∈ m,x ∈ l):Bytes m:=fun x hx => h x (hs x hx)
theorem lw8_lt {l:List Nat} (h:Bytes l):lw (l.take 8) < 18446744073709551616:=by
 have h1:=lw_lt (l.take 8) (bytes_sub h fun x hx => List.mem_of_mem_take hx)
 have h2:(l.take 8).length ≤ 8:=by rw [List.length_take];omega
 have h3:(256:Nat) ^ (l.take 8).length ≤ 256 ^ 8:=Nat.pow_le_pow_right (by decide) h2
 have h4:(256:Nat) ^ 8 = 18446744073709551616:=by decide
 omega
theorem words_lt (n:Nat):∀ (l:List Nat),l.length ≤ n → Bytes l → Words (wordsL l):=by
 induction n with
 | zero =>
  intro l hl _;have:l = []:=List.length_eq_zero_iff.1 (by omega)
  rw [this,words_nil];intro x hx;cases hx
 | succ n ih =>
  intro l hl hb;by_cases h:l = []
  ·rw [h,words_nil];intro x hx;cases hx
  ·rw [words_cons h]
   intro x hx;rcases List.mem_cons.1 hx with rfl | hx
   ·exact lw8_lt hb
   ·have:0 < l.length:=List.length_pos_iff.2 h
    exact ih (l.drop 8) (by rw [List.length_drop];omega) (bytes_sub hb fun x hx => List.mem_of_mem_drop hx) x hx
theorem words_ok {l:List Nat} (h:Bytes l):Words (wordsL l):=words_lt l.length l (Nat.le_refl _) h
theorem lw_step {l:List Nat} {i k:Nat} (h1:i ≤ k) (h2:k < l.length):lw ((l.drop i).take (k + 1 - i)) = lw ((l.drop i).take (k - i)) + l[k] * 256 ^ (k - i):=by
 have e:(l.drop i).take (k + 1 - i) = (l.drop i).take (k - i) ++ [l[k]]:=by
  rw [show k + 1 - i = (k - i) + 1 from by omega,List.take_add_one,List.getElem?_drop,show i + (k - i) = k from by omega,List.getElem?_eq_getElem h2]
  rfl
 rw [e,lw_snoc,List.length_take,List.length_drop,Nat.min_eq_left (by omega)]
theorem lw_part {l:List Nat} (h:Bytes l) (i k:Nat) (h1:i ≤ k) (h2:k ≤ l.length):lw ((l.drop i).take (k - i)) < 256 ^ (k - i):=by
 have:=lw_lt ((l.drop i).take (k - i)) (bytes_sub h fun x hx => List.mem_of_mem_drop (List.mem_of_mem_take hx))
 rw [List.length_take,List.length_drop,Nat.min_eq_left (by omega)] at this
 exact this
theorem lw_end {l:List Nat} {i k:Nat} (h2:k = l.length ∨ k = i + 8) (h4:k ≤ i + 8):lw ((l.drop i).take (k - i)) = lw ((l.drop i).take 8):=by
 rcases h2 with h | h
 ·congr 1
  rw [List.take_of_length_le (by rw [List.length_drop];omega),List.take_of_length_le (by rw [List.length_drop];omega)]
 ·rw [show k - i = 8 from by omega]
def sb (s:ByteArray):List Nat:=s.data.toList.map UInt8.toNat
theorem sb_bytes (s:ByteArray):Bytes (sb s):=fun x hx => by
 obtain ⟨u,_,rfl⟩:=List.mem_map.1 hx;exact u.toNat_lt
theorem sb_length (s:ByteArray):(sb s).length = s.size:=by
 unfold sb;rw [List.length_map,Array.length_toList];rfl
theorem sb_get (s:ByteArray) (k:Nat) (h:k < s.size) (h':k < (sb s).length):(sb s)[k] = (s[k]'h).toNat:=by
 have e:(sb s)[k]? = some (s[k]'h).toNat:=by
  unfold sb;rw [List.getElem?_map,Array.getElem?_toList,Array.getElem?_eq_getElem h]
  rfl
 rw [List.getElem?_eq_getElem h'] at e
 exact Option.some.inj e
theorem wrap_mul (a:Nat):IntKind.u64.wrap ((a:Int) * 11400714819323198485) = ((a * 11400714819323198485 % 18446744073709551616:Nat):Int):=by
 simp [IntKind.wrap,IntKind.bits,IntKind.signed]
theorem mix_eq {s w:Nat} (hs:s < 18446744073709551616) (hw:w < 18446744073709551616) :
  bits .xor .u64 (IntKind.u64.wrap (bits .xor .u64 (s:Int) (w:Int) * 11400714819323198485)) (IntKind.u64.wrap (bits .xor .u64 (s:Int) (w:Int) * 11400714819323198485) / 4294967296) = (mixN s w:Int):=by
 have e:bits .xor .u64 (s:Int) (w:Int) = ((s ^^^ w:Nat):Int):=bits_xor_u64_nat s w hs hw;rw [e,wrap_mul];have hm:(s ^^^ w) * 11400714819323198485 % 18446744073709551616 < 18446744073709551616:=Nat.mod_lt _ (by decide)
 rw [mixN_eq];generalize (s ^^^ w) * 11400714819323198485 % 18446744073709551616 = m at *;rw [show (m:Int) / 4294967296 = ((m / 4294967296:Nat):Int) from by omega]
 exact bits_xor_u64_nat m _ hm (by omega)
theorem mix_any (s w:Nat) (W:World) (hs:s < 18446744073709551616) (hw:w < 18446744073709551616) :
  Calls Tryz.prog 96 #[.int .u64 (s:Int),.int .u64 (w:Int)] W fun e W' => e = .returned (.int .u64 (mixN s w:Int)) ∧ W = W':=by
 go_enter Tryz.func96,Tryz.ntmps96
 go_wp2;go_ret;exact ⟨congrArg (fun x => Ending.returned (Value.int .u64 x)) (mix_eq hs hw),rfl⟩
theorem u64_quo (X:Int):IntKind.u64.wrap ((IntKind.u64.wrap X).tdiv 4294967296) = IntKind.u64.wrap X / 4294967296:=by
 have e:∀ n:Int,IntKind.u64.wrap n = n % 18446744073709551616:=fun n => IntKind.wrap_u64 n
 rw [e,e];have h0:0 ≤ X % 18446744073709551616:=Int.emod_nonneg _ (by decide)
 have h1:X % 18446744073709551616 < 18446744073709551616:=Int.emod_lt_of_pos _ (by decide)
 generalize X % 18446744073709551616 = y at *;rw [Int.tdiv_eq_ediv_of_nonneg h0];omega
theorem refmix_any (s w:Nat) (W:World) (hs:s < 18446744073709551616) (hw:w < 18446744073709551616) :
  Calls Tryz.prog 119 #[.int .u64 (s:Int),.int .u64 (w:Int)] W fun e W' => e = .returned (.int .u64 (mixN s w:Int)) ∧ W = W':=by
 go_enter Tryz.func119,Tryz.ntmps119
 go_wp2;go_ret;exact ⟨congrArg (fun x => Ending.returned (Value.int .u64 x)) ((congrArg _ (u64_quo _)).trans (mix_eq hs hw)),rfl⟩
theorem ret_int {k:IntKind} {a b:Int} (h:a = b):Ending.returned (.int k a) = .returned (.int k b):=by rw [h]
def arN (n m:Int):Int:=(if n < 0 then -(n + 1) else n) % m
theorem arN_nonneg (n m:Int) (h:1 ≤ m):0 ≤ arN n m:=Int.emod_nonneg _ (by omega)
theorem arN_lt (n m:Int) (h:1 ≤ m):arN n m < m:=Int.emod_lt_of_pos _ (by omega)
theorem around_any (n m:Int) (w:World) (hn0:-9223372036854775808 ≤ n) (hn:n ≤ 9223372036854775807) (hm0:1 ≤ m) (hm:m ≤ 9223372036854775807) :
  Calls Tryz.prog 10 #[.int .i64 n,.int .i64 m] w fun e w' => e = .returned (.int .i64 (arN n m)) ∧ w = w':=by
 by_cases h:n < 0
 ·have e:arN n m = -(n + 1) % m:=by unfold arN;rw [if_pos h]
  rw [e];clear e;go_enter Tryz.func10,Tryz.ntmps10
  go_wp2;go_ret;exact ⟨ret_int (a:=-(n + 1).tmod m) (by rw [← Int.neg_tmod,Int.tmod_eq_emod_of_nonneg (by omega)]),rfl⟩
 ·have e:arN n m = n % m:=by unfold arN;rw [if_neg h]
  rw [e];clear e;go_enter Tryz.func10,Tryz.ntmps10
  go_wp2;go_ret;exact ⟨rfl,rfl⟩
abbrev W64:={ x:Nat // x < 18446744073709551616 }
theorem bits_or_u64_nat (a b:Nat) (ha:a < 18446744073709551616) (hb:b < 18446744073709551616) :
  bits .or .u64 (a:Int) (b:Int) = ((a ||| b:Nat):Int):=by
 have hx:a ||| b < 2 ^ 64:=Nat.or_lt_two_pow (by omega) (by omega)
 have h1:(BitVec.ofInt 64 (a:Int)).toNat = a:=by
  rw [BitVec.ofInt_natCast,BitVec.toNat_ofNat];exact Nat.mod_eq_of_lt (by omega)
 have h2:(BitVec.ofInt 64 (b:Int)).toNat = b:=by
  rw [BitVec.ofInt_natCast,BitVec.toNat_ofNat];exact Nat.mod_eq_of_lt (by omega)
 show IntKind.u64.wrap ((BitVec.ofInt 64 (a:Int) ||| BitVec.ofInt 64 (b:Int)).toNat:Int) = _
 rw [BitVec.toNat_or,h1,h2,IntKind.wrap_u64];omega
theorem or_step {w b j:Nat} (hb:b < 256) (hj:j < 8) (hw:w < 256 ^ j) :
  bits .or .u64 (w:Int) (IntKind.u64.wrap (IntKind.u64.wrap (b:Int) * 2 ^ (8 * j))) = ((w + b * 256 ^ j:Nat):Int):=by
 have p:(256:Nat) ^ j ≤ 256 ^ 7:=Nat.pow_le_pow_right (by decide) (by omega)
 have q:(256:Nat) ^ 7 = 72057594037927936:=by decide
 have e1:IntKind.u64.wrap (b:Int) = (b:Int):=by rw [IntKind.wrap_u64];omega
 have e2:((2:Int) ^ (8 * j)) = ((256 ^ j:Nat):Int):=by
  rw [show (256:Nat) = 2 ^ 8 from by decide,← Nat.pow_mul,Int.natCast_pow]
  rfl
 have hm:b * 256 ^ j ≤ 255 * 256 ^ j:=Nat.mul_le_mul_right _ (by omega)
 have e3:IntKind.u64.wrap (IntKind.u64.wrap (b:Int) * 2 ^ (8 * j)) = ((b * 256 ^ j:Nat):Int):=by
  rw [e1,e2,← Int.natCast_mul,IntKind.wrap_u64];omega
 rw [e3,bits_or_u64_nat _ _ (by omega) (by omega),lw_or hw]
theorem val_int {k:IntKind} {a b:Int} (h:a = b):Value.int k a = .int k b:=by rw [h]
def KeepBox (n₀ Bs:Nat) (t:TypeId) (W W':World):Prop:=Below n₀ W W' ∧ ∀ v,Boxed W Bs t v → Boxed W' Bs t v
theorem KeepBox.refl (n₀ Bs:Nat) (t:TypeId) (W:World):KeepBox n₀ Bs t W W:=⟨Below.refl _ _,fun _ h => h⟩
theorem KeepBox.trans {n₀ Bs:Nat} {t:TypeId} {A B C:World} (h:KeepBox n₀ Bs t A B) (k:KeepBox n₀ Bs t B C):KeepBox n₀ Bs t A C:=⟨h.1.trans k.1,fun v hv => k.2 v (h.2 v hv)⟩
theorem KeepBox.put {n₀ Bs:Nat} {t:TypeId} {w:World} (hn:n₀ ≤ w.heap.size) (W:World) (l:Nat) (o o':Obj) (hl:w.heap.size ≤ l) (h:W.heap[l]? = some o) (hc:o.isCells = false) (hw:o.isWalk = false):KeepBox n₀ Bs t W (W.putObj l o') :=
 ⟨belowK_b hn W l o o' hl h hc hw,fun v hv => hv.kept (grownBy_putObj' W l o') (fun e => by
  cases e
  unfold Boxed at hv;rw [hv] at h;cases h
  cases hc)⟩
theorem words1S_in (F:Fence) (n:Nat) (hf:F.fn 141) (hro:F.round = none) (hn:1 ≤ n) (l Bs n₀:Nat) (s:ByteArray) (bs:List Nat) (hbs:bs = sb s) (hsz:s.size ≤ 1099511627776) (J Jx:List W64 → World → Prop)
  (hY:∀ pre x W,J pre W → pre.length < (wordsL bs).length → YieldAt F (n - 1) Tryz.prog l #[.int .u64 (x.1:Int)] W fun e W' =>
   (e = .returned (.bool true) ∧ J (pre ++ [x]) W' ∧ KeepBox n₀ Bs 9 W W') ∨ (e = .returned (.bool false) ∧ Jx (pre ++ [x]) W'))
  (W:World) (hBs:Boxed W Bs 9 (.string s)) (h0:J [] W) :
  CallsIn F n Tryz.prog 141 #[.func (.yield l) #[] #[],.pointer (some ⟨Bs,0,none⟩)] W fun e W' => (∃ v,e = .returned v) ∧
   ((∃ ys:List W64,ys.map Subtype.val = wordsL bs ∧ J ys W') ∨ (∃ pre:List W64,pre.map Subtype.val <+: wordsL bs ∧ Jx pre W')):=by
 refine callsIn_of_wp Tryz.func141 rfl hf ?_ hro
 simp only [Tryz.ntmps141,List.size_toArray,List.length_cons,List.length_nil,Nat.reduceAdd,Nat.reduceSub,Array.replicate_succ,Array.replicate_zero,List.push_toArray,List.append_toArray,List.nil_append,List.cons_append];have hcb:=hBs.cell
 gi_wp2
 gi_loopw [3] (fun p wr => ∃ (i:Nat) (pre:List W64),p = .int .i64 (i:Int) ∧ i ≤ bs.length + 7 ∧ pre.map Subtype.val ++ wordsL (bs.drop i) = wordsL bs ∧ J pre wr ∧ KeepBox n₀ Bs 9 W wr)
  (fun p _ => bs.length + 8 - (intOf p).toNat)
 case atStart => exact ⟨0,[],rfl,by omega,by simp,h0,KeepBox.refl _ _ _ _⟩
 case round =>
  obtain ⟨i,pre,rfl,hi,hw,hJs,hnx⟩:=hrel;have hc:wr.cell? ⟨Bs,0,none⟩ = some (.string s):=(hnx.2 _ hBs).cell;have hlen:bs.length = s.size:=by rw [hbs];exact sb_length s
  by_cases hlt:i < s.size
  ·have HW:=Lib.hid hw
   clear hw;have HB:=Lib.hid hbs;clear hbs hBs hcb
   gi_wp2
   gi_loopw [4,5] (fun a b w2 => ∃ (k:Nat),a = .int .u64 (lw ((bs.drop i).take (k - i)):Int) ∧ b = .int .i64 (k:Int) ∧ i ≤ k ∧ k ≤ i + 8 ∧ k ≤ s.size ∧ w2 = wr) (fun _ b _ => s.size - (intOf b).toNat)
   case atStart => exact ⟨i,by simp [lw],rfl,by omega,by omega,by omega,rfl⟩
   case round =>
    obtain ⟨k,rfl,rfl,hk0,hk8,hks,rfl⟩:=hrel
    have step:∀ h:k < s.size,k - i < 8 → Value.int .u64 (bits .or .u64 (lw ((bs.drop i).take (k - i)):Int) (IntKind.u64.wrap (IntKind.u64.wrap ((s[k]'h).toNat:Int) * 2 ^ (8 * (k - i))))) = .int .u64 (lw ((bs.drop i).take (k + 1 - i)):Int):=fun h h8 => by
     have h2:k < bs.length:=by omega
     have e:=sb_get s k h (by rw [sb_length];exact h)
     have hb:(s[k]'h).toNat < 256:=(s[k]'h).toNat_lt
     have eb:bs[k] = (s[k]'h).toNat:=by
      rw [← e];simp only [HB.out]
     rw [lw_step hk0 h2,eb];exact val_int (or_step hb h8 (lw_part (by rw [HB.out];exact sb_bytes s) i k hk0 (by omega)))
    have STEP:=Lib.hid step;clear step;by_cases hks2:k < min (i + 8) s.size
    ·by_cases hm:s.size < i + 8
     ·have hks2:k < s.size:=by omega
      gi_wp2
      go_roundw
      case rel => exact ⟨k + 1,STEP.out hks2 (by omega),rfl,by omega,by omega,by omega,trivial⟩
      case measure => simp [intOf];omega
     ·have hks2:k < s.size:=by omega
      have hm:i + 8 ≤ s.size:=by omega
      have hk9:k < i + 8:=by omega
      gi_wp2
      go_roundw
      case rel => exact ⟨k + 1,STEP.out hks2 (by omega),rfl,by omega,by omega,by omega,trivial⟩
      case measure => simp [intOf];omega
    ·by_cases hm:s.size < i + 8
     ·have hks2:k = s.size:=by omega
      have hne:bs.drop i ≠ []:=by
       intro e;have:=congrArg List.length e;rw [List.length_drop] at this;simp at this;omega
      have HW2:=words_cons hne;have hl8:lw ((bs.drop i).take 8) < 18446744073709551616:=lw8_lt (bytes_sub (by rw [HB.out];exact sb_bytes s) fun x hx => List.mem_of_mem_drop hx)
      rw [lw_end (l:=bs) (i:=i) (k:=k) (by omega) hk8]
      clear STEP;rw [List.drop_drop] at HW2;generalize lw ((bs.drop i).take 8) = x at *
      have H2:(pre ++ [(⟨x,hl8⟩:W64)]).map Subtype.val ++ wordsL (bs.drop (i + 8)) = wordsL bs:=by
       rw [List.map_append,List.append_assoc,← HW.out,HW2];rfl
      have hN:pre.length < (wordsL bs).length:=by rw [← HW.out,HW2,List.length_append,List.length_map];simp
      have HH:=Lib.hid H2;clear H2 HW2;obtain ⟨fn,tmps,assign,body,hy,hR⟩:=hY pre ⟨x,hl8⟩ wr hJs hN;dsimp only at hy
      gi_wp2
      refine hR.mono ?_
      rintro e W3 (⟨rfl,hJ3,hk3⟩ | ⟨rfl,hJx3⟩)
      ·gi_wp2
       go_roundw
       case rel => exact ⟨i + 8,pre ++ [⟨x,hl8⟩],rfl,by omega,HH.out,hJ3,hnx.trans hk3⟩
       case measure => simp [intOf];omega
      ·gi_wp2
       refine bodyPost_ret (results_none rfl _ _ _) rfl ?_
       exact ⟨⟨_,rfl⟩,.inr ⟨pre ++ [⟨x,hl8⟩],⟨_,HH.out⟩,hJx3⟩⟩
     ·have hks2:k = i + 8:=by omega
      have hm:i + 8 ≤ s.size:=by omega
      have hne:bs.drop i ≠ []:=by
       intro e;have:=congrArg List.length e;rw [List.length_drop] at this;simp at this;omega
      have HW2:=words_cons hne;have hl8:lw ((bs.drop i).take 8) < 18446744073709551616:=lw8_lt (bytes_sub (by rw [HB.out];exact sb_bytes s) fun x hx => List.mem_of_mem_drop hx)
      rw [lw_end (l:=bs) (i:=i) (k:=k) (by omega) hk8]
      clear STEP;rw [List.drop_drop] at HW2;generalize lw ((bs.drop i).take 8) = x at *
      have H2:(pre ++ [(⟨x,hl8⟩:W64)]).map Subtype.val ++ wordsL (bs.drop (i + 8)) = wordsL bs:=by
       rw [List.map_append,List.append_assoc,← HW.out,HW2];rfl
      have hN:pre.length < (wordsL bs).length:=by rw [← HW.out,HW2,List.length_append,List.length_map];simp
      have HH:=Lib.hid H2;clear H2 HW2;obtain ⟨fn,tmps,assign,body,hy,hR⟩:=hY pre ⟨x,hl8⟩ wr hJs hN;dsimp only at hy
      gi_wp2
      refine hR.mono ?_
      rintro e W3 (⟨rfl,hJ3,hk3⟩ | ⟨rfl,hJx3⟩)
      ·gi_wp2
       go_roundw
       case rel => exact ⟨i + 8,pre ++ [⟨x,hl8⟩],rfl,by omega,HH.out,hJ3,hnx.trans hk3⟩
       case measure => simp [intOf];omega
      ·gi_wp2
       refine bodyPost_ret (results_none rfl _ _ _) rfl ?_
       exact ⟨⟨_,rfl⟩,.inr ⟨pre ++ [⟨x,hl8⟩],⟨_,HH.out⟩,hJx3⟩⟩
  ·have e:bs.drop i = []:=List.drop_eq_nil_of_le (by omega)
   rw [e,words_nil,List.append_nil] at hw;have HW:=Lib.hid hw;clear hw e hbs
   gi_wp2
   go_end0;exact ⟨⟨_,rfl⟩,.inl ⟨pre,HW.out,hJs⟩⟩
inductive D where
 | v (x:Value)
 | s (sz:Nat) (ds:List D)
inductive Rep (W:World) (B:Nat):Value → D → Prop where
 | v (x:Value):Rep W B x (.v x)
 | nil (sz:Nat):Rep W B (.slice none 0 0) (.s sz [])
 | s {b o n c sz:Nat} {ds:List D} {cs:List Value} (hc:cs.length = n * sz) (hd:ds.length = n * sz) (hn:n ≤ c) (hb:b < B)
   (cells:∀ (j:Nat) (u:Value),cs[j]? = some u → W.cell? ⟨b,o + j,none⟩ = some u)
   (sub:∀ (j:Nat) (u:Value) (d:D),cs[j]? = some u → ds[j]? = some d → Rep W B u d):Rep W B (.slice (some ⟨b,o,none⟩) n c) (.s sz ds)
theorem Rep.keep {W W':World} {B B':Nat} (hk:∀ p:Addr,p.block < B → W'.cell? p = W.cell? p) (hB:B ≤ B') {v:Value} {d:D} (h:Rep W B v d):Rep W' B' v d:=by
 induction h with
 | v x => exact .v x
 | nil sz => exact .nil sz
 | s hc hd hn hb cells sub ih => exact .s hc hd hn (Nat.lt_of_lt_of_le hb hB) (fun j u hu => (hk _ hb).trans (cells j u hu)) ih
theorem Rep.under {W W':World} {B:Nat} {v:Value} {d:D} (h:Rep W B v d) (hb:Below B W W'):Rep W' B v d:=h.keep (fun _ hp => hb.cell hp) (Nat.le_refl _)
theorem Rep.more {W:World} {B B':Nat} {v:Value} {d:D} (h:Rep W B v d) (hB:B ≤ B'):Rep W B' v d:=h.keep (fun _ _ => rfl) hB
theorem Rep.drew {W:World} {B:Nat} {v:Value} {d:D} (h:Rep W B v d):Rep W.drew B v d:=h.keep (fun p _ => World.cell?_drew W p) (Nat.le_refl _)
theorem Rep.drewN {W:World} {B:Nat} {v:Value} {d:D} (h:Rep W B v d) (k:Nat):Rep (W.drewN k) B v d:=h.keep (fun p _ => World.cell?_drewN W k p) (Nat.le_refl _)
theorem Rep.alloc {W:World} {B:Nat} {v:Value} {d:D} (h:Rep W B v d) (hB:B ≤ W.heap.size) (o:Obj):Rep (W.alloc o) B v d :=
 h.keep (fun p hp => World.cell?_alloc_lt W o p (by omega)) (Nat.le_refl _)
theorem Rep.setCell {W:World} {B:Nat} {v:Value} {d:D} (h:Rep W B v d) {p:Addr} (hB:B ≤ p.block) (u:Value):Rep (W.setCell p u) B v d :=
 h.keep (fun q hq => World.cell?_setCell_other W p q u (fun e => by subst e;omega)) (Nat.le_refl _)
theorem Rep.grown {W W':World} {B:Nat} {v:Value} {d:D} (h:Rep W B v d) {row:Option Nat} (hg:W.grownBy W' row) (hB:B ≤ W.heap.size) (hr:∀ g,row = some g → B ≤ g):Rep W' B v d :=
 h.keep (fun p hp => World.cell?_of_block (hg.block p.block (by omega) (fun e => by have:=hr _ e.symm;omega))) (Nat.le_refl _)
theorem Rep.plain {W:World} {B:Nat} {u x:Value} (h:Rep W B u (.v x)):u = x:=by cases h;rfl
def RepL (W:World) (B:Nat) (cs:List Value) (ds:List D):Prop:=cs.length = ds.length ∧ ∀ (j:Nat) (u:Value) (d:D),cs[j]? = some u → ds[j]? = some d → Rep W B u d
theorem RepL.keep {W W':World} {B B':Nat} (hk:∀ p:Addr,p.block < B → W'.cell? p = W.cell? p) (hB:B ≤ B') {cs:List Value} {ds:List D} (h:RepL W B cs ds):RepL W' B' cs ds :=
 ⟨h.1,fun j u d hu hd => (h.2 j u d hu hd).keep hk hB⟩
theorem RepL.nil (W:World) (B:Nat):RepL W B [] []:=⟨rfl,fun _ _ _ h => by simp at h⟩
theorem RepL.cons {W:World} {B:Nat} {u:Value} {d:D} {cs:List Value} {ds:List D} (h:Rep W B u d) (t:RepL W B cs ds):RepL W B (u :: cs) (d :: ds):=by
 refine ⟨by simp [t.1],fun j u' d' hu hd => ?_⟩
 cases j with
 | zero => simp at hu hd;subst hu hd;exact h
 | succ j => simp at hu hd;exact t.2 j u' d' hu hd
theorem RepL.inv {W:World} {B:Nat} {d:D} {cs:List Value} {ds:List D} (h:RepL W B cs (d :: ds)):∃ u cs',cs = u :: cs' ∧ Rep W B u d ∧ RepL W B cs' ds:=by
 cases cs with
 | nil => exact absurd h.1 (by simp)
 | cons u cs =>
  refine ⟨u,cs,rfl,h.2 0 u d rfl rfl,by simpa using h.1,fun j u' d' hu hd => h.2 (j + 1) u' d' (by simpa using hu) (by simpa using hd)⟩
theorem RepL.inv_nil {W:World} {B:Nat} {cs:List Value} (h:RepL W B cs []):cs = []:=List.eq_nil_of_length_eq_zero h.1
theorem RepL.append {W:World} {B:Nat}:∀ {cs es:List Value} {ds fs:List D},RepL W B cs ds → RepL W B es fs → RepL W B (cs ++ es) (ds ++ fs)
 | [],_,ds,_,h,k => by
  have:ds = []:=List.eq_nil_of_length_eq_zero h.1.symm;rw [this];exact k
 | u :: cs,_,ds,_,h,k => by
  cases ds with
  | nil => exact absurd h.1 (by simp)
  | cons d ds =>
   obtain ⟨u',cs',e,h1,h2⟩:=h.inv;cases e
   exact RepL.cons h1 (RepL.append h2 k)
theorem RepL.drop {W:World} {B:Nat} {cs:List Value} {ds:List D} (h:RepL W B cs ds) (k:Nat):RepL W B (cs.drop k) (ds.drop k) :=
 ⟨by simp [h.1],fun j u d hu hd => h.2 (k + j) u d (by simpa using hu) (by simpa using hd)⟩
theorem RepL.take {W:World} {B:Nat} {cs:List Value} {ds:List D} (h:RepL W B cs ds) (k:Nat):RepL W B (cs.take k) (ds.take k) :=
 ⟨by simp [h.1],fun j u d hu hd => by
  rw [List.getElem?_take] at hu hd
  by_cases hj:j < k
  ·rw [if_pos hj] at hu hd;exact h.2 j u d hu hd
  ·rw [if_neg hj] at hu;cases hu⟩
theorem Rep.slice {W:World} {B:Nat} {u:Value} {sz:Nat} {ds:List D} (h:Rep W B u (.s sz ds)):∃ (A:Option Addr) (n c:Nat),u = .slice A n c ∧ n ≤ c ∧ ds.length = n * sz ∧
  (0 < n → ∃ (b o:Nat) (cs:List Value),A = some ⟨b,o,none⟩ ∧ b < B ∧ RepL W B cs ds ∧ ∀ (j:Nat) (u:Value),cs[j]? = some u → W.cell? ⟨b,o + j,none⟩ = some u):=by
 cases h with
 | nil => exact ⟨none,0,0,rfl,Nat.le_refl _,by simp,fun h => absurd h (Nat.lt_irrefl _)⟩
 | s hc hd hn hb cells sub => exact ⟨_,_,_,rfl,hn,hd,fun _ => ⟨_,_,_,rfl,hb,⟨hc.trans hd.symm,sub⟩,cells⟩⟩
theorem Rep.spot {W:World} {B n c:Nat} {A:Option Addr} {sz:Nat} {ds:List D} (h:Rep W B (.slice A n c) (.s sz ds)):∀ a,A = some a → ∃ b o,a = ⟨b,o,none⟩:=by
 intro a e;subst e
 cases h with
 | s => exact ⟨_,_,rfl⟩
theorem Rep.mk {W:World} {B b o n c sz:Nat} {cs:List Value} {ds:List D} (hl:ds.length = n * sz) (hn:n ≤ c) (hb:b < B) (hr:RepL W B cs ds)
  (cells:∀ (j:Nat) (u:Value),cs[j]? = some u → W.cell? ⟨b,o + j,none⟩ = some u):Rep W B (.slice (some ⟨b,o,none⟩) n c) (.s sz ds) :=
 .s (hr.1.trans hl) hl hn hb cells hr.2
def valD (vs:List Value):List D:=vs.map .v
theorem valD_length (vs:List Value):(valD vs).length = vs.length:=List.length_map ..
theorem RepL.plain {W:World} {B:Nat}:∀ {cs vs:List Value},RepL W B cs (valD vs) → cs = vs
 | cs,[],h => h.inv_nil
 | cs,v :: vs,h => by
  obtain ⟨u,cs',rfl,hu,ht⟩:=RepL.inv (d:=.v v) (ds:=valD vs) h;rw [hu.plain,RepL.plain ht]
theorem RepL.of_plain (W:World) (B:Nat):∀ vs:List Value,RepL W B vs (valD vs)
 | [] => RepL.nil W B
 | v :: vs => RepL.cons (.v v) (RepL.of_plain W B vs)
theorem Rep.row {W:World} {B:Nat} {v:Value} {vs:List Value} (h:Rep W B v (.s 1 (valD vs))):∃ (A:Option Addr) (c:Nat),v = .slice A vs.length c ∧ vs.length ≤ c ∧
  ∀ (k:Nat) (u:Value),vs[k]? = some u → ∃ b o,A = some ⟨b,o,none⟩ ∧ b < B ∧ W.cell? ⟨b,o + k,none⟩ = some u:=by
 obtain ⟨A,n,c,rfl,hn,hl,hc⟩:=h.slice;rw [valD_length,Nat.mul_one] at hl;subst hl;refine ⟨A,c,rfl,hn,fun k u hu => ?_⟩
 have hk:k < vs.length:=by
  rcases Nat.lt_or_ge k vs.length with h | h
  ·exact h
  ·rw [List.getElem?_eq_none h] at hu;cases hu
 obtain ⟨b,o,cs,rfl,hb,hr,hcell⟩:=hc (by omega)
 have:=hr.plain;subst this;exact ⟨b,o,rfl,hb,hcell k u hu⟩
theorem Rep.of_own {w:World} {base B:Nat} {e:TypeId} {sz n:Nat} {v:Value} {xs:List Value} {ds:List D} (h:w.ownsRow base e sz v n xs) (hr:RepL w B xs ds) (hB:w.heap.size ≤ B):Rep w B v (.s sz ds):=by
 rcases h.2 with ⟨rfl,hn⟩ | ⟨g,cap,cur,rfl,hg,hb,hnc,hcap,hcur,hx⟩
 ·have h1:=h.1
  rw [hn,Nat.zero_mul] at h1;have:ds = []:=List.eq_nil_of_length_eq_zero (by rw [← hr.1];exact h1)
  subst this;exact .nil sz
 ·have hlt:=(h.lt g rfl).2
  refine Rep.mk (hr.1.symm.trans h.1) hnc (by omega) hr (fun j u hu => ?_)
  have hj:j < xs.length:=by
   rcases Nat.lt_or_ge j xs.length with h | h
   ·exact h
   ·rw [List.getElem?_eq_none h] at hu;cases hu
  rw [Nat.zero_add,h.cellAt j (by rw [← h.1];exact hj),hu]
theorem Rep.of_own_plain {w:World} {base:Nat} {e:TypeId} {n:Nat} {v:Value} {xs:List Value} (h:w.ownsRow base e 1 v n xs):Rep w w.heap.size v (.s 1 (valD xs)) :=
 Rep.of_own h (RepL.of_plain _ _ _) (Nat.le_refl _)
theorem Rep.fresh {w:World} {B n sz:Nat} {e:TypeId} {cs:Array Value} {ds:List D} (hl:cs.size = n * sz) (hr:RepL (w.alloc (.cells cs e)) B cs.toList ds) (hB:w.heap.size < B) :
  Rep (w.alloc (.cells cs e)) B (.slice (some ⟨w.heap.size,0,none⟩) n n) (.s sz ds):=by
 refine Rep.mk (by rw [← hr.1,Array.length_toList,hl]) (Nat.le_refl _) hB hr (fun j u hu => ?_)
 rw [Nat.zero_add,cell_of_row _ _ _ _ _ _ (heap_alloc_new w (.cells cs e)),← hu,Array.getElem?_toList]
theorem Rep.fresh_plain {w:World} {n:Nat} {e:TypeId} {cs:Array Value} (hl:cs.size = n) :
  Rep (w.alloc (.cells cs e)) (w.alloc (.cells cs e)).heap.size (.slice (some ⟨w.heap.size,0,none⟩) n n) (.s 1 (valD cs.toList)) :=
 Rep.fresh (by omega) (RepL.of_plain _ _ _) (by simp)
theorem flat_length {α β:Type} {f:α → List β} {k:Nat}:∀ {l:List α},(∀ x ∈ l,(f x).length = k) → (l.flatMap f).length = l.length * k
 | [],_ => by simp
 | a :: l,h => by
  rw [List.flatMap_cons,List.length_append,h a List.mem_cons_self,flat_length (fun x hx => h x (List.mem_cons_of_mem _ hx)),List.length_cons,Nat.add_mul,Nat.one_mul,Nat.add_comm]
theorem flat_part {α β:Type} {f:α → List β} {k:Nat}:∀ {l:List α} {i:Nat} {a:α},(∀ x ∈ l,(f x).length = k) → l[i]? = some a → ((l.flatMap f).drop (i * k)).take k = f a
 | [],_,_,_,h => by simp at h
 | a :: l,0,_,h,e => by
  simp at e;subst e;rw [Nat.zero_mul,List.drop_zero,List.flatMap_cons,List.take_append_of_le_length (Nat.le_of_eq (h a List.mem_cons_self).symm),← h a List.mem_cons_self,List.take_length]
 | a :: l,i + 1,b,h,e => by
  have ha:=h a List.mem_cons_self;have:=flat_part (f:=f) (k:=k) (l:=l) (i:=i) (a:=b) (fun x hx => h x (List.mem_cons_of_mem _ hx)) (by simpa using e)
  rw [List.flatMap_cons,show (i + 1) * k = (f a).length + i * k from by rw [ha,Nat.add_mul,Nat.one_mul,Nat.add_comm],← List.drop_drop,List.drop_left]
  exact this
theorem wordsS_any (s:ByteArray) (w:World) :
  Calls Tryz.prog 95 #[.string s] w fun e w' => e = .returned (.func (.func 141) #[] #[.pointer (some ⟨w.heap.size,0,none⟩)]) ∧ w' = w.alloc (.cells #[.string s] 9):=by
 go_enter Tryz.func95,Tryz.ntmps95
 go_wp2;go_ret;exact ⟨rfl,rfl⟩
theorem wordsS_stops (F:Fence) (n:Nat) (hf:F.fn 141) (hro:F.round = none) (hn:1 ≤ n) (Bs n₀:Nat) (s:ByteArray) (hsz:s.size ≤ 1099511627776) (w:World)
  (hc:Boxed w Bs 9 (.string s)) :
  SeqStopsK F n Tryz.prog 141 #[.pointer (some ⟨Bs,0,none⟩)] (fun x:W64 => #[Value.int .u64 (x.1:Int)]) (KeepBox n₀ Bs 9) (fun ys => ys.map Subtype.val = wordsL (sb s)) (fun pre => pre.map Subtype.val <+: wordsL (sb s)) (wordsL (sb s)).length w:=fun l J Jx W hW _ _ hY h0 =>
 words1S_in F n hf hro hn l Bs n₀ s (sb s) rfl hsz J Jx hY W ((hW.block Bs hc.lt).trans hc) h0
def u64 (n:Int):Nat:=(n % 18446744073709551616).toNat
def u64L (l:List Int):List Nat:=l.map u64
def ints (l:List Int):List Value:=l.map (.int .i64)
theorem ints_length (l:List Int):(ints l).length = l.length:=List.length_map ..
theorem ints_get (l:List Int) (k:Nat) (h:k < l.length):(ints l)[k]? = some (.int .i64 l[k]):=by
 unfold ints;rw [List.getElem?_map,List.getElem?_eq_getElem h]
 rfl
theorem u64_int (n:Int):(u64 n:Int) = n % 18446744073709551616:=Int.toNat_of_nonneg (Int.emod_nonneg _ (by decide))
theorem u64_lt (n:Int):u64 n < 18446744073709551616:=by
 have h:=u64_int n;have h1:n % 18446744073709551616 < 18446744073709551616:=Int.emod_lt_of_pos _ (by decide)
 generalize n % 18446744073709551616 = m at *;omega
theorem wrap_u64' (n:Int):IntKind.u64.wrap n = (u64 n:Int):=by
 rw [IntKind.wrap_u64,u64_int]
theorem run_snoc (s:Nat) (l:List Nat) (x:Nat):runN s (l ++ [x]) = mixN (runN s l) x:=by unfold runN;rw [List.foldl_append,List.foldl_cons,List.foldl_nil]
theorem run_step {s:Nat} {l:List Int} {k:Nat} (h:k < l.length):mixN (runN s ((u64L l).take k)) (u64 l[k]) = runN s ((u64L l).take (k + 1)):=by
 have e:(u64L l)[k]? = some (u64 l[k]):=by
  unfold u64L;rw [List.getElem?_map,List.getElem?_eq_getElem h]
  rfl
 rw [List.take_add_one,e,Option.toList_some,run_snoc]
theorem sum_any (s:ByteArray) (hsz:s.size ≤ 1099511627776) (v:Value) (l:List Int) (w:World) (hr:Rep w w.heap.size v (.s 1 (valD (ints l)))) (hl:l.length ≤ 1099511627776) :
  Calls Tryz.prog 43 #[.string s,v] w fun e w' => e = .returned (.int .u64 (sumN (wordsL (sb s)) s.size (u64L l):Int)) ∧ Below w.heap.size w w':=by
 obtain ⟨A,c,rfl,hc,hcell⟩:=hr.row;rw [ints_length] at hc ⊢;clear hr;refine (callsIn_wide (n:=5)).1 ?_
 refine callsIn_of_wp_marks Tryz.func43 rfl trivial ?_ rfl
 simp only [Tryz.ntmps43,List.size_toArray,List.length_cons,List.length_nil,Nat.reduceAdd,Nat.reduceSub,Array.replicate_succ,Array.replicate_zero,List.push_toArray,List.append_toArray,List.nil_append,List.cons_append]
 gi_wp2_with (refine ⟨trivial,?_⟩;gi_at_call 95;refine (callsIn_wide.2 (wordsS_any s _)).mono ?_;rintro e w' ⟨rfl,rfl⟩)
 have hb0:=(Boxed.new w 27 (.int .u64 0)).alloc (.cells #[.string s] 9);have hb1:=Boxed.new (w.alloc (.cells #[.int .u64 0] 27)) 9 (.string s);rw [World.size_alloc] at hb1;have hB0:Below w.heap.size w ((w.alloc (.cells #[.int .u64 0] 27)).alloc (.cells #[.string s] 9)):=((Below.refl _ w).alloc (Nat.le_refl _) _).alloc (by simp) _
 refine wpIn_rangeFunc_ownF rfl (by omega) (gf:=141) (lb:=#[.pointer (some ⟨w.heap.size + 1,0,none⟩)]) rfl trivial (enters_of Tryz.func141 (by kernel_rfl) rfl)
  (wordsS_stops Fence.wide (5 - 1) trivial rfl (by omega) (w.heap.size + 1) w.heap.size s hsz _ hb1) KeepBox.trans (KeepBox.put (by simp;omega)) (Below.refl _ _) (fun _ => rfl)
  (fun pre W => Boxed W w.heap.size 27 (.int .u64 (runN 0 (pre.map Subtype.val):Int)) ∧ Below w.heap.size w W)
  (fun _ _ _ => False)
  (OwnFrom.and (Own.from (boxed_own _ _ _) _) (ownFrom_below (Nat.le_refl _) (by simp;omega)))
  (fun _ _ _ _ _ hs _ _ => hs)
  ⟨hb0,hB0⟩ ?aa ?assign ?body ?done ?stop
 case assign =>
  intro l x W K hK
  gi_wp2
  exact hK
 case body =>
  rintro k pre x W ⟨hv,hB⟩ _;have hc1:=hv.cell;have hf1:=hv.frozen;clear hb0 hb1 hB0 hcell
  gi_wp2_with (refine ⟨trivial,?_⟩;gi_at_call 96;refine (CallsIn.inRound k (callsIn_wide.2 (mix_any _ _ _ (run_lt _ _ (by decide)) x.2))).mono ?_;rintro e w' ⟨rfl,rfl⟩)
  refine ⟨KeepsOthers.setCell _ _ _,⟨(Below.refl _ _).setCell (p:=⟨w.heap.size,0,none⟩) (Nat.le_refl _) _,fun v hv' => hv'.other (by omega) _⟩,?_,hB.setCell (p:=⟨w.heap.size,0,none⟩) (Nat.le_refl _) _⟩
  rw [List.map_append,List.map_cons,List.map_nil,run_snoc];exact hv.set _
 case done =>
  rintro D ys W hD hys ⟨hv,hB⟩ hK;simp at hD;rw [hys] at hv;clear hb0 hb1 hB0 hys;have hc1:=hv.cell;have hf1:=hv.frozen;generalize hS:runN 0 (wordsL (sb s)) = S at *;have HS:S < 18446744073709551616:=by rw [← hS];exact run_lt _ _ (by decide)
  have HS:=Lib.hid HS
  gi_wp2_with (refine ⟨trivial,?_⟩;gi_at_call 96;refine (callsIn_wide.2 (mix_any _ _ _ (by first | exact HS.out | exact mix_lt _ _) (by omega))).mono ?_;rintro e w' ⟨rfl,rfl⟩)
  have HS0:=Lib.hid (mix_lt (mixN S s.size) l.length);have hv:=hv.set (.int .u64 ((mixN (mixN S s.size) l.length:Nat):Int));have hB:=hB.setCell (p:=⟨w.heap.size,0,none⟩) (Nat.le_refl _) (.int .u64 ((mixN (mixN S s.size) l.length:Nat):Int));have hK:=(KeepsOthers.setCell W ⟨w.heap.size,0,none⟩ (.int .u64 ((mixN (mixN S s.size) l.length:Nat):Int))).same D _ hK rfl
  have HE:sumN (wordsL (sb s)) s.size (u64L l) = mixN (runN (mixN (mixN S s.size) l.length) (u64L l)) 0:=by
   unfold sumN;rw [hS];unfold u64L;rw [List.length_map]
  have HE:=Lib.hid HE;clear hc1 hf1 hS;generalize mixN (mixN S s.size) l.length = S0 at *;generalize W.setCell ⟨w.heap.size,0,none⟩ (.int .u64 (S0:Int)) = W0 at *
  gi_loopw [26] (fun i wr => ∃ k:Nat,i = .int .i64 (k:Int) ∧ k ≤ l.length ∧ Boxed wr w.heap.size 27 (.int .u64 (runN S0 ((u64L l).take k):Int)) ∧ Below w.heap.size w wr ∧ wr.heap[D]? = some (.deferred (some [])))
   (fun i _ => l.length - (intOf i).toNat)
  case atStart => exact ⟨0,rfl,Nat.zero_le _,hv,hB,hK⟩
  case round =>
   obtain ⟨k,rfl,hk,hv,hB,hK⟩:=hrel;have hc1:=hv.cell;have hf1:=hv.frozen;have HR:=Lib.hid (run_lt ((u64L l).take k) S0 HS0.out);by_cases hlt:k < l.length
   ·obtain ⟨b,o,rfl,hb,hcw⟩:=hcell k _ (ints_get l k hlt)
    have hcr:=(hB.cell (p:=⟨b,o + k,none⟩) hb).trans hcw;have hu:=wrap_u64' l[k];have HU:=Lib.hid (u64_lt l[k]);have HT:=Lib.hid (run_step (s:=S0) hlt);clear hcw hcell;generalize l[k] = n at *
    gi_wp2_with (refine ⟨trivial,?_⟩;gi_at_call 96;refine (callsIn_wide.2 (mix_any _ _ _ HR.out HU.out)).mono ?_;rintro e w' ⟨rfl,rfl⟩)
    go_roundw
    case rel => exact ⟨k + 1,by go_num,by omega,by rw [← HT.out];exact hv.set _,hB.setCell (p:=⟨w.heap.size,0,none⟩) (Nat.le_refl _) _,(KeepsOthers.setCell _ _ _).same D _ hK rfl⟩
    case measure => simp [intOf];omega
   ·obtain rfl:k = l.length:=by omega
    gi_wp2_with (refine ⟨trivial,?_⟩;gi_at_call 96;refine (callsIn_wide.2 (mix_any _ _ _ HR.out (by decide))).mono ?_;rintro e w' ⟨rfl,rfl⟩)
    refine ⟨by simp,.inl ⟨_,_,rfl,run_takeDeferred hK,?_⟩⟩
    refine ⟨_,results_tmp rfl _ _ _,?_,hB.trans (belowK_b (w:=w) (Nat.le_refl _) _ D _ _ (by omega) hK rfl rfl)⟩
    rw [HE.out,show List.take l.length (u64L l) = u64L l from List.take_of_length_le (by unfold u64L;rw [List.length_map];exact Nat.le_refl _)]
    rfl
 case stop =>
  rintro D c pre W _ _ h _;exact h.elim
def zz (n:Int):Nat:=if n < 0 then (2 * (-(n + 1)) + 1).toNat else (2 * n).toNat
theorem xor_full {m:Nat} (h:m < 2 ^ 64):m ^^^ (2 ^ 64 - 1) = 2 ^ 64 - (m + 1):=by
 apply Nat.eq_of_testBit_eq;intro i;rw [Nat.testBit_xor,Nat.testBit_two_pow_sub_one,Nat.testBit_two_pow_sub_succ h];by_cases hi:i < 64
 ·simp [hi]
 ·have:m.testBit i = false:=Nat.testBit_lt_two_pow (Nat.lt_of_lt_of_le h (Nat.pow_le_pow_right (by decide) (by omega)))
  simp [hi,this]
theorem zig_neg {n:Int} (h0:-9223372036854775808 ≤ n) (h:n < 0):bits .xor .u64 (IntKind.u64.wrap (IntKind.u64.wrap n * 2)) (IntKind.u64.wrap (n / 9223372036854775808)) = (zz n:Int):=by
 have e1:IntKind.u64.wrap (n / 9223372036854775808) = ((18446744073709551615:Nat):Int):=by rw [IntKind.wrap_u64];omega
 have e2:IntKind.u64.wrap (IntKind.u64.wrap n * 2) = (((2 * n) % 18446744073709551616).toNat:Int):=by rw [IntKind.wrap_u64,IntKind.wrap_u64];omega
 rw [e1,e2,bits_xor_u64_nat _ _ (by omega) (by decide)]
 have p:(2:Nat) ^ 64 = 18446744073709551616:=by decide
 have x:=xor_full (m:=((2 * n) % 18446744073709551616).toNat) (by rw [p];omega)
 rw [p] at x;rw [show (18446744073709551615:Nat) = 18446744073709551616 - 1 from by decide,x]
 unfold zz;rw [if_pos h];omega
theorem zig_pos {n:Int} (h1:n ≤ 9223372036854775807) (h:¬ n < 0):bits .xor .u64 (n * 2) (n / 9223372036854775808) = (zz n:Int):=by
 have e1:n / 9223372036854775808 = ((0:Nat):Int):=by omega
 have e2:n * 2 = ((2 * n).toNat:Int):=by omega
 rw [e1,e2,bits_xor_u64_nat _ _ (by omega) (by decide),Nat.xor_zero]
 unfold zz;rw [if_neg h]
theorem zig_any (n:Int) (w:World) (h0:-9223372036854775808 ≤ n) (h1:n ≤ 9223372036854775807) :
  Calls Tryz.prog 103 #[.int .i64 n] w fun e w' => e = .returned (.int .u64 (zz n:Int)) ∧ w = w':=by
 by_cases h:n < 0
 ·go_enter Tryz.func103,Tryz.ntmps103
  go_wp2;go_ret;exact ⟨congrArg (fun x => Ending.returned (Value.int .u64 x)) (zig_neg h0 (by omega)),rfl⟩
 ·go_enter Tryz.func103,Tryz.ntmps103
  go_wp2;go_ret;exact ⟨congrArg (fun x => Ending.returned (Value.int .u64 x)) (zig_pos h1 (by omega)),rfl⟩
theorem refzig_any (n:Int) (w:World) (h0:-9223372036854775808 ≤ n) (h1:n ≤ 9223372036854775807) :
  Calls Tryz.prog 136 #[.int .i64 n] w fun e w' => e = .returned (.int .u64 (zz n:Int)) ∧ w = w':=by
 by_cases h:n < 0
 ·have e:(zz n:Int) = 2 * (-(n + 1)) + 1:=by unfold zz;rw [if_pos h];omega
  rw [e];clear e;go_enter Tryz.func136,Tryz.ntmps136
  go_wp2;go_ret;exact ⟨rfl,rfl⟩
 ·have e:(zz n:Int) = 2 * n:=by unfold zz;rw [if_neg h];omega
  rw [e];clear e;go_enter Tryz.func136,Tryz.ntmps136
  go_wp2;go_ret;exact ⟨rfl,rfl⟩
def uvL (n:Nat):List Nat:=if h:n < 128 then [n] else (128 + n % 128) :: uvL (n / 128)
termination_by n
decreasing_by omega
theorem uv_small {n:Nat} (h:n < 128):uvL n = [n]:=by rw [uvL,dif_pos h]
theorem uv_big {n:Nat} (h:¬ n < 128):uvL n = (128 + n % 128) :: uvL (n / 128):=by rw [uvL,dif_neg h]
def bys (l:List Nat):List Value:=l.map fun (b:Nat) => Value.int .u8 (b:Int)
theorem Tryz.info5:(Tryz.prog.info? 5).map (fun i => (i.zero,i.size,i.bytes)) = some (some (.int .u8 0),1,1):=by kernel_rfl
theorem uv_len:∀ (k n:Nat),n < 128 ^ (k + 1) → (uvL n).length ≤ k + 1
 | 0,n,h => by rw [uv_small (by simpa using h)];exact Nat.le_refl _
 | k + 1,n,h => by
  by_cases h1:n < 128
  ·rw [uv_small h1];simp
  ·rw [uv_big h1,List.length_cons]
   have:=uv_len k (n / 128) (by rw [Nat.pow_succ] at h;omega)
   omega
theorem uv_len10 {n:Nat} (h:n < 18446744073709551616):(uvL n).length ≤ 10:=uv_len 9 n (by omega)
theorem uv_pos (n:Nat):0 < (uvL n).length:=by
 by_cases h1:n < 128
 ·rw [uv_small h1];simp
 ·rw [uv_big h1];simp
theorem owns_ge {w:World} {base:Nat} {e:TypeId} {size:Nat} {v:Value} {n:Nat} {xs:List Value} (h:w.ownsRow base e size v n xs) (k:Nat) (hk:v.ownBlock = some k):base ≤ k:=by
 rcases h.2 with ⟨hv,_⟩ | ⟨g,c,cur,hv,hb,_⟩
 ·rw [hv] at hk;simp [Value.ownBlock] at hk
 ·rw [hv] at hk;simp [Value.ownBlock] at hk;omega
theorem bys_app (a b:List Nat):bys (a ++ b) = bys a ++ bys b:=List.map_append ..
theorem one_byte {x:Int} {k:Nat} (h:x = (k:Int)):[Value.int .u8 x] = bys [k]:=by rw [h];rfl
theorem bys_length (l:List Nat):(bys l).length = l.length:=List.length_map ..
theorem fits_len {k:Nat} (h:k ≤ 1000000):k ≤ maxLen:=by unfold maxLen;omega
theorem fits_b {k:Nat} (h:k ≤ 1000000):k * 1 ≤ 140737488355328:=by omega
theorem cell_u8 (m:Int):∀ u ∈ [Value.int .u8 m],u.oneCell' = true:=by intro u hu;rw [List.mem_singleton.mp hu];rfl
theorem refuint_any (n:Int) (w:World) (hn0:0 ≤ n) (hn:n < 18446744073709551616) :
  Calls Tryz.prog 89 #[.int .u64 n] w fun e w' => ∃ v,e = .returned v ∧ w'.ownsRow w.heap.size 5 1 v (uvL n.toNat).length (bys (uvL n.toNat)) ∧ Below w.heap.size w w':=by
 obtain ⟨i0,hi,hz0,hz1,hz2⟩:=info_parts Tryz.info5;go_enter Tryz.func89,Tryz.ntmps89
 go_wp2;go_loopw [0,3] (fun t v wr => ∃ (m:Int) (pre:List Nat),0 ≤ m ∧ m < 18446744073709551616 ∧ t = .int .u64 m ∧ wr.ownsRow w.heap.size 5 1 v pre.length (bys pre) ∧ Below w.heap.size w wr ∧ uvL n.toNat = pre ++ uvL m.toNat) (fun t _ _ => (intOf t).toNat)
 case atStart => exact ⟨n,[],hn0,hn,rfl,World.ownsRow_nil ..,Below.refl _ _,rfl⟩
 case round =>
  obtain ⟨m,pre,hm0,hm1,rfl,hown,hb,hu⟩:=hrel;have HU:=Lib.hid hu
  have HL:pre.length ≤ 9:=by
   have:=uv_len10 (n:=n.toNat) (by omega)
   rw [hu,List.length_append] at this;have:=uv_pos m.toNat;omega
  have hL1:pre.length + 1 ≤ 1000000:=by omega
  have HS:w.heap.size ≤ (wr.alloc (.cells #[.int .u8 (128 + m % 128)] 5)).heap.size:=Nat.le_trans (Nat.le_succ_of_le hb.size) (Nat.le_of_eq (by simp))
  have HT:w.heap.size ≤ (wr.alloc (.cells #[.int .u8 m] 5)).heap.size:=Nat.le_trans (Nat.le_succ_of_le hb.size) (Nat.le_of_eq (by simp))
  clear hu hn hn0;have hq0:0 ≤ m % 128:=by omega
  have hq1:m % 128 < 128:=by omega
  by_cases h:127 < m
  ·go_wp2_with (at_builtin;refine wpList_append_own _ rfl _ _ 55 rfl w.heap.size 5 i0 (.int .u8 0) 1 1 Tryz.underlying55 hi hz0 hz1 hz2 rfl (by decide) _ _ _ rfl (hown.alloc _) ⟨wr.heap.size,0,none⟩ 1 1 [.int .u8 (128 + m % 128)] rfl rfl (cell_one_new _ _ _) (cell_u8 _) (fits_len hL1) (fits_b hL1) HS ?_)
   intro v1 w1 hown1 hg1 _;have HB:Below w.heap.size w w1:=(hb.alloc hb.size _).grown hg1 HS (owns_ge hown);clear hg1 hown hb;go_wp2;go_roundw
   case rel =>
    have hu:uvL n.toNat = (pre ++ [(128 + m % 128).toNat]) ++ uvL (m / 128).toNat:=by
     have h2:=uv_big (n:=m.toNat) (by omega)
     have e1:(128 + m % 128).toNat = 128 + m.toNat % 128:=by omega
     have e2:(m / 128).toNat = m.toNat / 128:=by omega
     rw [HU.out,h2,e1,e2,List.append_assoc];rfl
    have E:bys pre ++ [Value.int .u8 (128 + m % 128)] = bys (pre ++ [(128 + m % 128).toNat]):=by rw [bys_app,one_byte (k:=(128 + m % 128).toNat) (by omega)]
    have L:pre.length + 1 = (pre ++ [(128 + m % 128).toNat]).length:=by simp
    rw [E,L] at hown1;exact ⟨m / 128,pre ++ [(128 + m % 128).toNat],by omega,by omega,rfl,hown1,HB,hu⟩
   case measure => simp [intOf];omega
  ·go_wp2_with (at_builtin;refine wpList_append_own _ rfl _ _ 55 rfl w.heap.size 5 i0 (.int .u8 0) 1 1 Tryz.underlying55 hi hz0 hz1 hz2 rfl (by decide) _ _ _ rfl (hown.alloc _) ⟨wr.heap.size,0,none⟩ 1 1 [.int .u8 m] rfl rfl (cell_one_new _ _ _) (cell_u8 _) (fits_len hL1) (fits_b hL1) HT ?_)
   intro v1 w1 hown1 hg1 _;have HB:Below w.heap.size w w1:=(hb.alloc hb.size _).grown hg1 HT (owns_ge hown);clear hg1 hown hb;go_wp2;go_ret;have hu:uvL n.toNat = pre ++ [m.toNat]:=by rw [← uv_small (n:=m.toNat) (by omega)];exact HU.out
   have E:bys pre ++ [Value.int .u8 m] = bys (uvL n.toNat):=by rw [hu,bys_app,one_byte (k:=m.toNat) (by omega)]
   have L:pre.length + 1 = (uvL n.toNat).length:=by rw [hu];simp
   rw [E,L] at hown1;exact ⟨v1,rfl,hown1,HB⟩
theorem bys_get (l:List Nat) (k:Nat) (h:k < l.length):(bys l)[k]? = some (.int .u8 ((l[k]:Nat):Int)):=by
 unfold bys;rw [List.getElem?_map,List.getElem?_eq_getElem h]
 rfl
theorem words1B_in (F:Fence) (n:Nat) (hf:F.fn 159) (hro:F.round = none) (hn:1 ≤ n) (l Bs n₀:Nat) (bs:List Nat) (hbb:Bytes bs) (hsz:bs.length ≤ 1099511627776) (A:Option Addr) (c:Nat) (J Jx:List W64 → World → Prop)
  (hY:∀ pre x W,J pre W → pre.length < (wordsL bs).length → YieldAt F (n - 1) Tryz.prog l #[.int .u64 (x.1:Int)] W fun e W' =>
   (e = .returned (.bool true) ∧ J (pre ++ [x]) W' ∧ KeepBox n₀ Bs 55 W W') ∨ (e = .returned (.bool false) ∧ Jx (pre ++ [x]) W'))
  (W:World) (hBs:Boxed W Bs 55 (.slice A bs.length c)) (hcell:∀ (k:Nat) (u:Value),(bys bs)[k]? = some u → ∃ b o,A = some ⟨b,o,none⟩ ∧ b < n₀ ∧ W.cell? ⟨b,o + k,none⟩ = some u) (h0:J [] W) :
  CallsIn F n Tryz.prog 159 #[.func (.yield l) #[] #[],.pointer (some ⟨Bs,0,none⟩)] W fun e W' => (∃ v,e = .returned v) ∧
   ((∃ ys:List W64,ys.map Subtype.val = wordsL bs ∧ J ys W') ∨ (∃ pre:List W64,pre.map Subtype.val <+: wordsL bs ∧ Jx pre W')):=by
 refine callsIn_of_wp Tryz.func159 rfl hf ?_ hro
 simp only [Tryz.ntmps159,List.size_toArray,List.length_cons,List.length_nil,Nat.reduceAdd,Nat.reduceSub,Array.replicate_succ,Array.replicate_zero,List.push_toArray,List.append_toArray,List.nil_append,List.cons_append];have hcb:=hBs.cell
 gi_wp2
 gi_loopw [3] (fun p wr => ∃ (i:Nat) (pre:List W64),p = .int .i64 (i:Int) ∧ i ≤ bs.length + 7 ∧ pre.map Subtype.val ++ wordsL (bs.drop i) = wordsL bs ∧ J pre wr ∧ KeepBox n₀ Bs 55 W wr)
  (fun p _ => bs.length + 8 - (intOf p).toNat)
 case atStart => exact ⟨0,[],rfl,by omega,by simp,h0,KeepBox.refl _ _ _ _⟩
 case round =>
  obtain ⟨i,pre,rfl,hi,hw,hJs,hnx⟩:=hrel;have hc:wr.cell? ⟨Bs,0,none⟩ = some (.slice A bs.length c):=(hnx.2 _ hBs).cell;by_cases hlt:i < bs.length
  ·have HW:=Lib.hid hw
   clear hw;have HB:=Lib.hid hbb;clear hbb hBs hcb
   gi_wp2
   gi_loopw [4,5] (fun a b w2 => ∃ (k:Nat),a = .int .u64 (lw ((bs.drop i).take (k - i)):Int) ∧ b = .int .i64 (k:Int) ∧ i ≤ k ∧ k ≤ i + 8 ∧ k ≤ bs.length ∧ w2 = wr) (fun _ b _ => bs.length - (intOf b).toNat)
   case atStart => exact ⟨i,by simp [lw],rfl,by omega,by omega,by omega,rfl⟩
   case round =>
    obtain ⟨k,rfl,rfl,hk0,hk8,hks,rfl⟩:=hrel
    have step:∀ h:k < bs.length,k - i < 8 → Value.int .u64 (bits .or .u64 (lw ((bs.drop i).take (k - i)):Int) (IntKind.u64.wrap (IntKind.u64.wrap ((bs[k]'h:Nat):Int) * 2 ^ (8 * (k - i))))) = .int .u64 (lw ((bs.drop i).take (k + 1 - i)):Int):=fun h h8 => by
     have hb:bs[k]'h < 256:=HB.out _ (List.getElem_mem h);rw [lw_step hk0 h];exact val_int (or_step hb h8 (lw_part HB.out i k hk0 (by omega)))
    have STEP:=Lib.hid step;clear step;by_cases hks2:k < min (i + 8) bs.length
    ·by_cases hm:bs.length < i + 8
     ·have hks2:k < bs.length:=by omega
      have hks2':k < bs.length:=by omega
      obtain ⟨b,o,rfl,hb0,hcw⟩:=hcell k _ (bys_get bs k hks2');have hcw:=(hnx.1.cell (p:=⟨b,o + k,none⟩) hb0).trans hcw;clear hcell
      gi_wp2
      go_roundw
      case rel => exact ⟨k + 1,STEP.out hks2 (by omega),rfl,by omega,by omega,by omega,trivial⟩
      case measure => simp [intOf];omega
     ·have hks2:k < bs.length:=by omega
      have hm:i + 8 ≤ bs.length:=by omega
      have hk9:k < i + 8:=by omega
      have hks2':k < bs.length:=by omega
      obtain ⟨b,o,rfl,hb0,hcw⟩:=hcell k _ (bys_get bs k hks2');have hcw:=(hnx.1.cell (p:=⟨b,o + k,none⟩) hb0).trans hcw;clear hcell
      gi_wp2
      go_roundw
      case rel => exact ⟨k + 1,STEP.out hks2 (by omega),rfl,by omega,by omega,by omega,trivial⟩
      case measure => simp [intOf];omega
    ·by_cases hm:bs.length < i + 8
     ·have hks2:k = bs.length:=by omega
      have hne:bs.drop i ≠ []:=by
       intro e;have:=congrArg List.length e;rw [List.length_drop] at this;simp at this;omega
      have HW2:=words_cons hne;have hl8:lw ((bs.drop i).take 8) < 18446744073709551616:=lw8_lt (bytes_sub HB.out fun x hx => List.mem_of_mem_drop hx)
      rw [lw_end (l:=bs) (i:=i) (k:=k) (by omega) hk8]
      clear STEP;rw [List.drop_drop] at HW2;generalize lw ((bs.drop i).take 8) = x at *
      have H2:(pre ++ [(⟨x,hl8⟩:W64)]).map Subtype.val ++ wordsL (bs.drop (i + 8)) = wordsL bs:=by
       rw [List.map_append,List.append_assoc,← HW.out,HW2];rfl
      have hN:pre.length < (wordsL bs).length:=by rw [← HW.out,HW2,List.length_append,List.length_map];simp
      have HH:=Lib.hid H2;clear H2 HW2;obtain ⟨fn,tmps,assign,body,hy,hR⟩:=hY pre ⟨x,hl8⟩ wr hJs hN;dsimp only at hy
      gi_wp2
      refine hR.mono ?_
      rintro e W3 (⟨rfl,hJ3,hk3⟩ | ⟨rfl,hJx3⟩)
      ·gi_wp2
       go_roundw
       case rel => exact ⟨i + 8,pre ++ [⟨x,hl8⟩],rfl,by omega,HH.out,hJ3,hnx.trans hk3⟩
       case measure => simp [intOf];omega
      ·gi_wp2
       refine bodyPost_ret (results_none rfl _ _ _) rfl ?_
       exact ⟨⟨_,rfl⟩,.inr ⟨pre ++ [⟨x,hl8⟩],⟨_,HH.out⟩,hJx3⟩⟩
     ·have hks2:k = i + 8:=by omega
      have hm:i + 8 ≤ bs.length:=by omega
      have hne:bs.drop i ≠ []:=by
       intro e;have:=congrArg List.length e;rw [List.length_drop] at this;simp at this;omega
      have HW2:=words_cons hne;have hl8:lw ((bs.drop i).take 8) < 18446744073709551616:=lw8_lt (bytes_sub HB.out fun x hx => List.mem_of_mem_drop hx)
      rw [lw_end (l:=bs) (i:=i) (k:=k) (by omega) hk8]
      clear STEP;rw [List.drop_drop] at HW2;generalize lw ((bs.drop i).take 8) = x at *
      have H2:(pre ++ [(⟨x,hl8⟩:W64)]).map Subtype.val ++ wordsL (bs.drop (i + 8)) = wordsL bs:=by
       rw [List.map_append,List.append_assoc,← HW.out,HW2];rfl
      have hN:pre.length < (wordsL bs).length:=by rw [← HW.out,HW2,List.length_append,List.length_map];simp
      have HH:=Lib.hid H2;clear H2 HW2;obtain ⟨fn,tmps,assign,body,hy,hR⟩:=hY pre ⟨x,hl8⟩ wr hJs hN;dsimp only at hy
      gi_wp2
      refine hR.mono ?_
      rintro e W3 (⟨rfl,hJ3,hk3⟩ | ⟨rfl,hJx3⟩)
      ·gi_wp2
       go_roundw
       case rel => exact ⟨i + 8,pre ++ [⟨x,hl8⟩],rfl,by omega,HH.out,hJ3,hnx.trans hk3⟩
       case measure => simp [intOf];omega
      ·gi_wp2
       refine bodyPost_ret (results_none rfl _ _ _) rfl ?_
       exact ⟨⟨_,rfl⟩,.inr ⟨pre ++ [⟨x,hl8⟩],⟨_,HH.out⟩,hJx3⟩⟩
  ·have e:bs.drop i = []:=List.drop_eq_nil_of_le (by omega)
   rw [e,words_nil,List.append_nil] at hw;have HW:=Lib.hid hw;clear hw e hbb
   gi_wp2
   go_end0;exact ⟨⟨_,rfl⟩,.inl ⟨pre,HW.out,hJs⟩⟩
theorem wordsB_any (A:Option Addr) (n c:Nat) (w:World) :
  Calls Tryz.prog 114 #[.slice A n c] w fun e w' => e = .returned (.func (.func 159) #[] #[.pointer (some ⟨w.heap.size,0,none⟩)]) ∧ w' = w.alloc (.cells #[.slice A n c] 55):=by
 go_enter Tryz.func114,Tryz.ntmps114
 go_wp2;go_ret;exact ⟨rfl,rfl⟩
theorem wordsB_stops (F:Fence) (n:Nat) (hf:F.fn 159) (hro:F.round = none) (hn:1 ≤ n) (Bs n₀:Nat) (bs:List Nat) (hbb:Bytes bs) (hsz:bs.length ≤ 1099511627776) (A:Option Addr) (c:Nat) (w:World)
  (hc:Boxed w Bs 55 (.slice A bs.length c)) (hn₀:n₀ ≤ w.heap.size)
  (hcell:∀ (k:Nat) (u:Value),(bys bs)[k]? = some u → ∃ b o,A = some ⟨b,o,none⟩ ∧ b < n₀ ∧ w.cell? ⟨b,o + k,none⟩ = some u) :
  SeqStopsK F n Tryz.prog 159 #[.pointer (some ⟨Bs,0,none⟩)] (fun x:W64 => #[Value.int .u64 (x.1:Int)]) (KeepBox n₀ Bs 55) (fun ys => ys.map Subtype.val = wordsL bs) (fun pre => pre.map Subtype.val <+: wordsL bs) (wordsL bs).length w:=fun l J Jx W hW _ _ hY h0 =>
 words1B_in F n hf hro hn l Bs n₀ bs hbb hsz A c J Jx hY W ((hW.block Bs hc.lt).trans hc) (fun k u hu => by
  obtain ⟨b,o,h1,h2,h3⟩:=hcell k u hu;exact ⟨b,o,h1,h2,(hW.cell (p:=⟨b,o + k,none⟩) (Nat.lt_of_lt_of_le h2 hn₀)).trans h3⟩) h0
theorem Tryz.info3:(Tryz.prog.info? 3).map (fun i => (i.zero,i.size,i.bytes)) = some (some (.int .i64 0),1,8):=by kernel_rfl
def wordI (x:Nat):Int:=IntKind.i64.wrap (x:Int)
theorem u64_wordI {x:Nat} (h:x < 18446744073709551616):u64 (wordI x) = x:=by
 have e:=u64_int (wordI x);unfold wordI at e;rw [IntKind.wrap_i64] at e;unfold wordI;rw [IntKind.wrap_i64];omega
def wI (pre:List W64):List Int:=pre.map fun x => wordI x.1
theorem wI_snoc (pre:List W64) (x:W64):ints (wI (pre ++ [x])) = ints (wI pre) ++ [.int .i64 (wordI x.1)]:=by
 unfold wI ints;rw [List.map_append,List.map_append];rfl
theorem wI_eq (pre:List W64):wI pre = (pre.map Subtype.val).map wordI:=by
 unfold wI;rw [List.map_map];rfl
def bytesN (s:ByteArray) (bs:List Nat):Nat:=sumN (wordsL (sb s)) s.size (wordsL bs ++ [bs.length])
theorem words_length (bs:List Nat):(wordsL bs).length ≤ bs.length:=by
 generalize hn:bs.length = n
 induction n using Nat.strongRecOn generalizing bs with
 | _ n ih =>
  by_cases h:bs = []
  ·rw [h,words_nil];simp
  ·rw [words_cons h,List.length_cons]
   have:0 < bs.length:=List.length_pos_iff.2 h;have hd:(bs.drop 8).length < n:=by rw [List.length_drop];omega
   have:=ih _ hd (bs.drop 8) rfl;rw [List.length_drop] at *;omega
theorem bytes_val (s:ByteArray) (bs:List Nat) (hbb:Bytes bs) (hn:bs.length ≤ 1099511627776):sumN (wordsL (sb s)) s.size (u64L ((wordsL bs).map wordI ++ [(bs.length:Int)])) = bytesN s bs:=by
 unfold bytesN u64L;congr 1;rw [List.map_append,List.map_map];congr 1
 ·conv => rhs;rw [← List.map_id (wordsL bs)]
  exact List.map_congr_left fun x hx => u64_wordI (words_ok hbb x hx)
 ·have e:=u64_int (bs.length:Int)
  have:u64 (bs.length:Int) = bs.length:=by omega
  rw [List.map_cons,List.map_nil,this]
theorem bytes_any (s:ByteArray) (hsz:s.size ≤ 1099511627776) (v:Value) (bs:List Nat) (hbb:Bytes bs) (hn:bs.length ≤ 1000000000) (w:World) (hr:Rep w w.heap.size v (.s 1 (valD (bys bs)))) :
  Calls Tryz.prog 64 #[.string s,v] w fun e w' => e = .returned (.int .u64 (bytesN s bs:Int)) ∧ Below w.heap.size w w':=by
 obtain ⟨A,c,rfl,hc,hcell⟩:=hr.row;rw [bys_length] at hc ⊢;obtain ⟨i0,hi,hz0,hz1,hz2⟩:=info_parts Tryz.info3;refine (callsIn_wide (n:=5)).1 ?_
 refine callsIn_of_wp_marks Tryz.func64 rfl trivial ?_ rfl
 simp only [Tryz.ntmps64,List.size_toArray,List.length_cons,List.length_nil,Nat.reduceAdd,Nat.reduceSub,Array.replicate_succ,Array.replicate_zero,List.push_toArray,List.append_toArray,List.nil_append,List.cons_append]
 gi_wp2_with (refine ⟨trivial,?_⟩;gi_at_call 114;refine (callsIn_wide.2 (wordsB_any _ _ _ _)).mono ?_;rintro e w' ⟨rfl,rfl⟩)
 have hb0:=(Boxed.new w 22 (.slice none 0 0)).alloc (.cells #[.slice A bs.length c] 55);have hb1:=Boxed.new (w.alloc (.cells #[.slice none 0 0] 22)) 55 (.slice A bs.length c);rw [World.size_alloc] at hb1;have hB0:Below w.heap.size w ((w.alloc (.cells #[.slice none 0 0] 22)).alloc (.cells #[.slice A bs.length c] 55)):=((Below.refl _ w).alloc (Nat.le_refl _) _).alloc (by simp) _
 refine wpIn_rangeFunc_ownG rfl (by omega) (gf:=159) (lb:=#[.pointer (some ⟨w.heap.size + 1,0,none⟩)]) rfl trivial (enters_of Tryz.func159 (by kernel_rfl) rfl)
  (wordsB_stops Fence.wide (5 - 1) trivial rfl (by omega) (w.heap.size + 1) w.heap.size bs hbb (by omega) A c _ hb1 hB0.size (fun k u hu => by
   obtain ⟨b,o,h1,h2,h3⟩:=hcell k u hu;exact ⟨b,o,h1,h2,(hB0.cell (p:=⟨b,o + k,none⟩) h2).trans h3⟩)) KeepBox.trans (KeepBox.put (by simp;omega)) (Below.refl _ _) (fun _ => rfl)
  (fun pre W => (∃ v,Boxed W w.heap.size 22 v ∧ W.ownsRow w.heap.size 3 1 v pre.length (ints (wI pre)) ∧ True) ∧ Below w.heap.size w W)
  (fun _ _ _ => False)
  (OwnFrom.and (Own.from (holdsRow_own w.heap.size w.heap.size 22 3 1 (fun (pre:List W64) => pre.length) (fun pre => ints (wI pre)) (fun _ _ => True)) _) (ownFrom_below (Nat.le_refl _) (by simp;omega)))
  (fun _ _ _ _ _ hs _ _ => hs)
  ⟨⟨_,hb0,World.ownsRow_nil _ _ _ _,trivial⟩,hB0⟩ ?aa ?assign ?body ?done ?stop
 case assign =>
  intro l x W K hK
  gi_wp2
  exact hK
 case body =>
  rintro k pre x W ⟨⟨v,hv,hrow,_⟩,hB⟩ hlt;have hc0:=hv.cell;have hpl:=words_length bs;clear hb0 hb1 hB0 hcell;have hfb:pre.length + 1 ≤ 1000000001:=by omega
  have HS:w.heap.size ≤ (W.alloc (.cells #[.int .i64 (wordI x.1)] 3)).heap.size:=Nat.le_trans (Nat.le_succ_of_le hB.size) (Nat.le_of_eq (by simp))
  have HX:(IntKind.i64.wrap (x.1:Int)) = wordI x.1:=rfl;clear hlt hpl
  gi_wp2_with (gi_at_builtin;refine wpListIn_append_own _ rfl _ _ 22 rfl w.heap.size 3 i0 (.int .i64 0) 1 8 Tryz.underlying22 hi hz0 hz1 hz2 rfl (by decide) _ _ _ rfl (hrow.alloc _) ⟨W.heap.size,0,none⟩ 1 1 [.int .i64 (wordI x.1)] rfl rfl (cell_one_new _ _ _) (by intro u hu;rw [List.mem_singleton.mp hu];rfl) (by unfold maxLen;omega) (by omega) HS ?_;intro v' w1 hown' hgrow _;obtain ⟨g',cap',rfl⟩:=ownsRow_succ hown';obtain ⟨hv1,hv2,hr2,hk2,hb2⟩:=hv.appended (by decide) hrow hB.size (Nat.le_refl _) hown' hgrow;have hc1:=hv1.cell;have hf1:=hv1.frozen)
  refine ⟨hk2.from _,⟨hb2,fun u hu => ?_⟩,⟨⟨_,hv2,?_,trivial⟩,hB.trans hb2⟩⟩
  ·exact ((hu.alloc _).kept hgrow (hu.not_row (by decide) hrow)).other (by omega) _
  ·rw [wI_snoc,List.length_append]
   exact hr2
 case done =>
  rintro D ys W hD hys ⟨⟨v,hv,hrow,_⟩,hB⟩ hK;have hc0:=hv.cell;have hyl:ys.length = (wordsL bs).length:=by rw [← hys,List.length_map]
  have hpl:=words_length bs;have HV:=Lib.hid (bytes_val s bs hbb (by omega))
  rw [← hys,← wI_eq] at HV;clear hb0 hb1 hB0 hcell;have hfb:ys.length + 1 ≤ 1000000001:=by omega
  have HS:w.heap.size ≤ (W.alloc (.cells #[.int .i64 (bs.length:Int)] 3)).heap.size:=Nat.le_trans (Nat.le_succ_of_le hB.size) (Nat.le_of_eq (by simp))
  simp at hD;have HYS:=Lib.hid hys;clear hys hyl hpl
  gi_wp2_with (gi_at_builtin;refine wpListIn_append_own _ rfl _ _ 22 rfl w.heap.size 3 i0 (.int .i64 0) 1 8 Tryz.underlying22 hi hz0 hz1 hz2 rfl (by decide) _ _ _ rfl (hrow.alloc _) ⟨W.heap.size,0,none⟩ 1 1 [.int .i64 (bs.length:Int)] rfl rfl (cell_one_new _ _ _) (by intro u hu;rw [List.mem_singleton.mp hu];rfl) (by unfold maxLen;omega) (by omega) HS ?_;intro v' w1 hown' hgrow _)
  have HI:ints (wI ys) ++ [Value.int .i64 (bs.length:Int)] = ints (wI ys ++ [(bs.length:Int)]):=by unfold ints;rw [List.map_append];rfl
  rw [HI] at hown';have hb2:Below w.heap.size W w1:=((Below.refl _ W).alloc hB.size _).grown hgrow HS (fun k e => (hrow.lt k e).1)
  have hK1:=(KeepsOthers.of_grownBy hgrow fun j o ej hj => by
   rcases (hrow.alloc (.cells #[.int .i64 (bs.length:Int)] 3)).2 with ⟨e,_⟩ | ⟨g,cap,cur,e,_,hgb,_⟩
   ·subst e;simp [Value.ownBlock,Act.eval] at ej
   ·subst e
    obtain rfl:g = j:=by simpa [Value.ownBlock,Act.eval] using ej
    rw [hgb] at hj;cases hj;rfl).same D _ ((Below.heap_alloc W _ D (Array.getElem?_eq_some_iff.1 hK).1).trans hK) rfl
  clear hgrow hrow hv hc0 HI hK;refine ⟨trivial,?_⟩
  refine (callsIn_wide.2 (sum_any s hsz v' (wI ys ++ [(bs.length:Int)]) w1 (Rep.of_own_plain hown') ?c2)).mono ?_
  case c2 => rw [List.length_append];unfold wI;rw [List.length_map];simp only [List.length_cons,List.length_nil];omega
  rintro e w2 ⟨rfl,hb3⟩;have hB2:=hB.trans (hb2.trans (hb3.mono (Nat.le_trans hB.size hb2.size)));rw [HV.out];have hK2:w2.heap[D]? = some (.deferred (some [])):=(hb3.block D (Array.getElem?_eq_some_iff.1 hK1).1).trans hK1
  gi_wp2
  refine ⟨by simp,.inl ⟨_,_,rfl,run_takeDeferred hK2,?_⟩⟩
  exact ⟨_,results_tmp rfl _ _ _,rfl,hB2.trans (belowK_b (w:=w) (Nat.le_refl _) _ D _ _ (by omega) hK2 rfl rfl)⟩
 case stop =>
  rintro D c pre W _ _ h _;exact h.elim
def labN (s:ByteArray) (l:List Nat):Nat:=sumN (wordsL (sb s)) s.size l
theorem lab_lt (s:ByteArray) (l:List Nat):labN s l < 18446744073709551616:=sum_lt _ _ _
theorem bytesN_lt (s:ByteArray) (l:List Nat):bytesN s l < 18446744073709551616:=sum_lt _ _ _
def sSeal:ByteArray:={ data:=#[115,101,97,108] }
def sSealed:ByteArray:={ data:=#[115,101,97,108,101,100] }
def sLeaf:ByteArray:={ data:=#[108,101,97,102] }
def sNode:ByteArray:={ data:=#[110,111,100,101] }
def sNone:ByteArray:={ data:=#[110,111,110,101] }
def sKey:ByteArray:={ data:=#[107,101,121] }
def sSign:ByteArray:={ data:=#[115,105,103,110] }
def commitN (bs:List Nat) (salt:Nat):Nat:=labN sSeal [salt,bytesN sSealed bs]
def leafN (h:Nat):Nat:=labN sLeaf [h]
def nodeN (a b:Nat):Nat:=labN sNode [a,b]
def noneN:Nat:=labN sNone []
def keyN (s:Nat):Nat:=labN sKey [s]
theorem sum_vals {s:ByteArray} {l:List Int} {m:List Nat} (h:u64L l = m):sumN (wordsL (sb s)) s.size (u64L l) = labN s m:=by rw [h];rfl
theorem below_up {A B:Nat} {w w1 w2:World} (h:Below A w w1) (k:Below B w1 w2) (hB:A ≤ B):Below A w w2:=h.trans (k.mono hB)
theorem below_new (w:World) (o:Obj):Below w.heap.size w (w.alloc o):=(Below.refl _ _).alloc (Nat.le_refl _) _
theorem sum_fresh (s:ByteArray) (hsz:s.size ≤ 1099511627776) (l:List Int) (m:List Nat) (n:Nat) (cs:Array Value) (w:World) (H:Nat) (hH:w.heap.size = H) (hcs:cs = (ints l).toArray) (hn:l.length = n) (hm:u64L l = m) (hl:l.length ≤ 1099511627776) :
  Calls Tryz.prog 43 #[.string s,.slice (some ⟨H,0,none⟩) n n] (w.alloc (.cells cs 3)) fun e w' => e = .returned (.int .u64 (labN s m:Int)) ∧ Below w.heap.size w w':=by
 subst hcs hH;have hr:=Rep.fresh_plain (w:=w) (n:=n) (e:=3) (cs:=(ints l).toArray) (by simp [ints_length,hn])
 refine (sum_any s hsz _ l _ hr hl).mono ?_
 rintro e w' ⟨rfl,hb⟩;rw [sum_vals hm];exact ⟨rfl,((Below.refl w.heap.size w).alloc (Nat.le_refl _) _).trans (hb.mono (by simp))⟩
theorem leaf_any (h:Nat) (hh:h < 18446744073709551616) (w:World) :
  Calls Tryz.prog 116 #[.int .u64 (h:Int)] w fun e w' => e = .returned (.int .u64 (leafN h:Int)) ∧ Below w.heap.size w w':=by
 have HU:=Lib.hid (u64_wordI hh);clear hh;have HX:IntKind.i64.wrap (h:Int) = wordI h:=rfl;go_enter Tryz.func116,Tryz.ntmps116
 go_wp2_with (go_at_call 43;refine (sum_fresh sLeaf (by decide) [wordI h] [h] 1 _ w _ rfl rfl rfl (by unfold u64L;rw [List.map_cons,List.map_nil,HU.out]) (Nat.le_of_ble_eq_true rfl)).mono ?_;rintro e w' ⟨rfl,hb⟩)
 go_ret;exact ⟨rfl,hb⟩
theorem node_any (a b:Nat) (ha:a < 18446744073709551616) (hb:b < 18446744073709551616) (w:World) :
  Calls Tryz.prog 117 #[.int .u64 (a:Int),.int .u64 (b:Int)] w fun e w' => e = .returned (.int .u64 (nodeN a b:Int)) ∧ Below w.heap.size w w':=by
 have HA:=Lib.hid (u64_wordI ha);have HB:=Lib.hid (u64_wordI hb);clear ha hb;have HX:IntKind.i64.wrap (a:Int) = wordI a:=rfl;have HY:IntKind.i64.wrap (b:Int) = wordI b:=rfl;go_enter Tryz.func117,Tryz.ntmps117
 go_wp2_with (go_at_call 43;refine (sum_fresh sNode (by decide) [wordI a,wordI b] [a,b] 2 _ w _ rfl rfl rfl (by unfold u64L;rw [List.map_cons,List.map_cons,List.map_nil,HA.out,HB.out]) (Nat.le_of_ble_eq_true rfl)).mono ?_;rintro e w' ⟨rfl,hb⟩)
 go_ret;exact ⟨rfl,hb⟩
theorem key_any (s:Nat) (hh:s < 18446744073709551616) (w:World) :
  Calls Tryz.prog 12 #[.int .u64 (s:Int)] w fun e w' => e = .returned (.int .u64 (keyN s:Int)) ∧ Below w.heap.size w w':=by
 have HU:=Lib.hid (u64_wordI hh);clear hh;have HX:IntKind.i64.wrap (s:Int) = wordI s:=rfl;go_enter Tryz.func12,Tryz.ntmps12
 go_wp2_with (go_at_call 43;refine (sum_fresh sKey (by decide) [wordI s] [s] 1 _ w _ rfl rfl rfl (by unfold u64L;rw [List.map_cons,List.map_nil,HU.out]) (Nat.le_of_ble_eq_true rfl)).mono ?_;rintro e w' ⟨rfl,hb⟩)
 go_ret;exact ⟨rfl,hb⟩
theorem commit_any (v:Value) (bs:List Nat) (hbb:Bytes bs) (hn:bs.length ≤ 1000000000) (salt:Nat) (hs:salt < 18446744073709551616) (w:World) (hr:Rep w w.heap.size v (.s 1 (valD (bys bs)))) :
  Calls Tryz.prog 25 #[v,.int .u64 (salt:Int)] w fun e w' => e = .returned (.int .u64 (commitN bs salt:Int)) ∧ Below w.heap.size w w':=by
 have HA:=Lib.hid (u64_wordI hs);have HB:=Lib.hid (u64_wordI (bytesN_lt sSealed bs));clear hs;have HX:IntKind.i64.wrap (salt:Int) = wordI salt:=rfl;have HY:IntKind.i64.wrap (bytesN sSealed bs:Int) = wordI (bytesN sSealed bs):=rfl;obtain ⟨A,c,rfl,hc,hcell⟩:=hr.row;have HR:=Lib.hid hr;clear hr hcell;go_enter Tryz.func25,Tryz.ntmps25
 go_wp2_with (go_at_call 64;refine (bytes_any sSealed (by decide) _ bs hbb hn w HR.out).mono ?_;rintro e w1 ⟨rfl,hb1⟩)
 go_wp2_with (go_at_call 43;refine (sum_fresh sSeal (by decide) [wordI salt,wordI (bytesN sSealed bs)] [salt,bytesN sSealed bs] 2 _ w1 _ rfl rfl rfl (by unfold u64L;rw [List.map_cons,List.map_cons,List.map_nil,HA.out,HB.out]) (Nat.le_of_ble_eq_true rfl)).mono ?_;rintro e w' ⟨rfl,hb⟩)
 go_ret;exact ⟨rfl,hb1.trans (hb.mono hb1.size)⟩
end Go.Proofs.YtbeaijjaecaidaaGreatDoor
