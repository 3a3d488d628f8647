/- CopiesShelf: for every input the law returns true and leaves its arguments alone; the package-level variable that it lists starts as the program's text lays it. -/
import Derived.Test.YtglkadmfjaecmaaGreatDoorD10
import Derived.Test.YtglkadmfjaecmaaGreatDoorD32
import Derived.Test.YtglkadmfjaecmaaGreatDoorD22
import Derived.Test.YtglkadmfjaecmaaGreatDoorD20
import Derived.Test.YtglkadmfjaecmaaGreatDoorD19
import Derived.Test.YtglkadmfjaecmaaGreatDoorD01
import Derived.Test.YtglkadmfjaecmaaGreatDoorCards
import Derived.Test.YtglkadmfjaecmaaGreatDoorTie
set_option maxRecDepth 100000
set_option maxHeartbeats 16000000
namespace Go.Proofs.YtglkadmfjaecmaaGreatDoor.copiesShelfDone
open Go.ChangeShapes Go.WideShapes Go.ChangeAt Go.RowKit
theorem lifted (os : Os) (started : os.Started) (H : Type) (enc : TypeId × Value → H) (F : Stop.Interp) :
  ReturnsInHanded {} Tryz.checked os 3 .any ((OpenSpec.ofChange Rows.copiesShelfSpec).preRow enc Tryz.prog Tryz.f3 Rows.copiesShelfRow.domain false Rows.copiesShelfRow.laid) (((OpenSpec.ofChange Rows.copiesShelfSpec).at F).post enc Tryz.prog Tryz.f3 false true false false) := by
 refine returnsInHanded_of_row (C := Tryz.checked) (s := OpenSpec.ofChange Rows.copiesShelfSpec) own started (by kernel_rfl) Tryz.func3
  (ChangeSpec.witness_shaped (enc := enc) (C := Tryz.checked) (os := os) (s := Rows.copiesShelfSpec) (X := fun w _ => laidMetH Tryz.prog Zox w) false (World.laidAll Tryz.prog os Zox) #[.slice none 0 0, .slice none 0 0, .slice none 0 0, .int .i64 0, .int .i64 0] 8 (World.laidAll_os _ _ _)
   (Zkd os _) (by kernel_rfl) (by kernel_rfl) (by kernel_rfl) (Zrf os _)) ?_
 intro W base args ds gs before hval0 hW _ _ _ hlaid hsh _
 have hval : ∀ (j : Nat) t v, Tryz.f3.params[j]? = some t → args[j]? = some v → Value.okWide Tryz.prog W .any base t v := hval0
 have hW' := hW
 obtain ⟨p, q, hA0, hV, rfl, hfz, hnd⟩ := hW
 have hA : DataW.TrodAll enc Tryz.prog W 0 (fun _ => true) true Tryz.f3.params.toList args.toList ds p := hA0
 rw [Tryz.params3] at hA hval
 obtain ⟨v0, vs0, d0, ds0, p0, q0, hargs, rfl, rfl, h0, r0⟩ := trodAll_cons hA
 obtain ⟨v1, vs1, d1, ds1, p1, q1, rfl, rfl, rfl, h1, r1⟩ := trodAll_cons r0
 obtain ⟨v2, vs2, d2, ds2, p2, q2, rfl, rfl, rfl, h2, r2⟩ := trodAll_cons r1
 obtain ⟨v3, vs3, d3, ds3, p3, q3, rfl, rfl, rfl, h3, r3⟩ := trodAll_cons r2
 obtain ⟨v4, vs4, d4, ds4, p4, q4, rfl, rfl, rfl, h4, r4⟩ := trodAll_cons r3
 obtain ⟨rfl, rfl, rfl⟩ := trodAll_nil r4
 obtain rfl : args = #[v0, v1, v2, v3, v4] := by cases args; simp_all
 obtain ⟨rfl, rfl⟩ := trodVars_none hV
 obtain ⟨a3, rfl, rfl, rfl, w3⟩ := open_int Tryz.underlying3 (hval 3 3 v3 rfl rfl) h3
 obtain ⟨a4, rfl, rfl, rfl, w4⟩ := open_int Tryz.underlying3 (hval 4 3 v4 rfl rfl) h4
 clear hA0 hval0
 simp only [List.append_nil] at hW'
 obtain ⟨hG, hw0⟩ := Zh1 hlaid
 have hlt0 : ∀ x ∈ p0, x.block < W.heap.size := fun x hx => hW'.lt x (by simp [hx])
 have hback0 : ∀ (W' : World), Below W.heap.size W W' → DataW.Trod enc Tryz.prog W' 0 (fun b => decide (b < W.heap.size)) true 22 v0 d0 p0 := fun W' hn => Below.trod Zhh (by kernel_rfl) (of_decide_eq_true (by kernel_rfl)) h0 hn hlt0
 obtain ⟨A0, n0, c0, rfl, hI0, hB0⟩ := Zhi (hval 0 22 v0 rfl rfl) h0
 have hlt1 : ∀ x ∈ p1, x.block < W.heap.size := fun x hx => hW'.lt x (by simp [hx])
 have hback1 : ∀ (W' : World), Below W.heap.size W W' → DataW.Trod enc Tryz.prog W' 0 (fun b => decide (b < W.heap.size)) true 22 v1 d1 p1 := fun W' hn => Below.trod Zhh (by kernel_rfl) (of_decide_eq_true (by kernel_rfl)) h1 hn hlt1
 obtain ⟨A1, n1, c1, rfl, hI1, hB1⟩ := Zhi (hval 1 22 v1 rfl rfl) h1
 have hlt2 : ∀ x ∈ p2, x.block < W.heap.size := fun x hx => hW'.lt x (by simp [hx])
 have hback2 : ∀ (W' : World), Below W.heap.size W W' → DataW.Trod enc Tryz.prog W' 0 (fun b => decide (b < W.heap.size)) true 22 v2 d2 p2 := fun W' hn => Below.trod Zhh (by kernel_rfl) (of_decide_eq_true (by kernel_rfl)) h2 hn hlt2
 obtain ⟨A2, n2, c2, rfl, hI2, hB2⟩ := Zhi (hval 2 22 v2 rfl rfl) h2
 refine (Zy9 A0 A1 A2 n0 c0 n1 c1 n2 c2 a3 a4 W (Zwf hlaid) hI0 hB0 hI1 hB1 hI2 (Yaa w3) (Yaa w4)).mono fun e W' ⟨he, hb⟩ => ?_
 subst he
 exact ⟨_, rfl, _, _, _, [], _, [], hW', trodAll_mk1 (shut_bool Tryz.underlying4 _), (trodAll_cons_mk (hback0 _ hb) (trodAll_cons_mk (hback1 _ hb) (trodAll_cons_mk (hback2 _ hb) (trodAll_cons_mk (shut_int Tryz.underlying3 w3) (trodAll_cons_mk (shut_int Tryz.underlying3 w4) trodAll_mk0))))), rfl, hb.frame _, fun h => by cases h⟩
theorem said : Rows.CopiesShelfSaid :=
 OpenClaim.holds_of_cond 3 Tryz.f3 rfl rfl rfl rfl rfl rfl rfl ⟨rfl, rfl, rfl, rfl, rfl⟩ rfl rfl rfl rfl rfl (by kernel_rfl) Tryz.func3 (by kernel_rfl)
  (of_decide_eq_true (by kernel_rfl)) (by unfold Func.isWrapper; first | (rw [if_pos (by decide +kernel)]; kernel_rfl) | (rw [if_neg (by decide +kernel)]; exact ⟨rfl, rfl⟩))
  (fun os started H enc _ F => by rw [OpenClaim.pre_eq_preRow]; exact lifted os started H enc F)
theorem plain (f : FuncId) (fn : Func) (hf : Tryz.pinned.checked.prog.funcNamed "priorart/priorartlaw37.CopiesShelf" = some f) (hfn : Tryz.pinned.checked.prog.funcs[f]? = some fn) :
  false = Tryz.pinned.checked.prog.looks [] ∧ ∀ (j : Nat) t, fn.params[j]? = some t → Tryz.pinned.checked.prog.wantsStandIn t = false := by
 obtain rfl : f = 3 := Option.some.inj ((show Tryz.prog.funcNamed "priorart/priorartlaw37.CopiesShelf" = some 3 by kernel_rfl).symm.trans hf) |>.symm
 obtain rfl : fn = Tryz.f3 := (Option.some.inj (Tryz.func3.symm.trans hfn)).symm
 refine ⟨by kernel_rfl, fun j t ht => ?_⟩
 rw [Tryz.params3] at ht
 have hm : t ∈ [22, 22, 22, 3, 3] := by simpa using Array.mem_of_getElem? ht
 have z3 : Tryz.prog.wantsStandIn 3 = false := by kernel_rfl
 have z22 : Tryz.prog.wantsStandIn 22 = false := by kernel_rfl
 simp only [List.mem_cons, List.not_mem_nil, or_false] at hm
 rcases hm with rfl | rfl | rfl | rfl | rfl <;> first | exact z3 | exact z22
/-- The card. -/
theorem card : Rows.CopiesShelfCardSaid :=
 Claim7.holds_tied_plain_at .later [] _ _ _ _ said (fun _ h => by cases h) (by kernel_rfl) (fun _ h => by cases h) copiesShelf_row_tie rfl ⟨rfl, rfl⟩ (by kernel_rfl) rfl plain (by kernel_rfl)
#print axioms card
end Go.Proofs.YtglkadmfjaecmaaGreatDoor.copiesShelfDone
