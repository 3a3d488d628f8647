/- Parse of the package: what it returns. -/
import Derived.Test.YtjcdjmjebbllkaaDoorParB
import Derived.Test.YtjcdjmjebbllkaaDoorParC
namespace Go.Proofs.YtjcdjmjebbllkaaDoor
open Go.RowKit

theorem cut_no {l : List UInt8} {c : UInt8} {a b : List UInt8} (h : Lib.cut l [c] = (a, b, false)) : a = l ∧ b = [] := by
  unfold Lib.cut at h
  split at h
  · simp at h
  · simp at h
    exact ⟨h.1.symm, h.2⟩

theorem parse_any (l : List UInt8) (w : World) (hl : l.length ≤ 1000) (hE : Env w) :
    Calls Tryd.prog 21 #[.string ⟨l.toArray⟩] w fun e w' => e = .returned (rat3 (parL l)) ∧ Below w.heap.size w w' := by
  unfold parL
  rw [← prg_eq]
  generalize hneg : Lib.hasPrefix l [45] = neg
  generalize hrr : Lib.trimPrefix l [45] = r
  unfold prgR
  generalize h47 : Lib.cut r [47] = z47
  obtain ⟨a, b, sl⟩ := z47
  cases sl with
  | true =>
    simp only [if_true]
    by_cases d1 : digL a 15 = true
    · by_cases d2 : digL b 7 = true
      · rw [if_pos ⟨d1, d2⟩]
        unfold fin
        by_cases hz : numV 0 b = 0
        · rw [if_pos hz]
          exact parse_s3 l w hl hE neg r hneg hrr a b h47 d1 d2 hz
        · rw [if_neg hz, if_neg (by have := num_15 (digL_iff.1 d1).2.2 (digL_iff.1 d1).2.1; omega)]
          exact parse_s4 l w hl hE neg r hneg hrr a b h47 d1 d2 hz
      · rw [if_neg (fun e => d2 e.2)]
        exact parse_s2 l w hl hE neg r hneg hrr a b h47 d1 (by simpa using d2)
    · rw [if_neg (fun e => d1 e.1)]
      exact parse_s1 l w hl hE neg r hneg hrr a b h47 (by simpa using d1)
  | false =>
    obtain ⟨rfl, rfl⟩ := cut_no h47
    simp only [Bool.false_eq_true, if_false]
    generalize h46 : Lib.cut a [46] = z46
    obtain ⟨x, y, pt⟩ := z46
    simp only
    by_cases d1 : digL x 15 = true
    · cases pt with
      | true =>
        by_cases d2 : digL y 6 = true
        · rw [if_pos ⟨d1, fun _ => d2⟩]
          unfold fin
          rw [if_neg (Nat.ne_of_gt (pow_1 y.length))]
          by_cases hv : 10000000000000000000 ≤ numV 0 (x ++ y)
          · rw [if_pos hv]
            exact parse_p3t l w hl hE neg a hneg hrr x y h47 h46 d1 d2 hv
          · rw [if_neg hv]
            exact parse_p4t l w hl hE neg a hneg hrr x y h47 h46 d1 d2 hv _ rfl
        · rw [if_neg (fun e => d2 (e.2 rfl))]
          exact parse_p2 l w hl hE neg a hneg hrr x y h47 h46 d1 (by simpa using d2)
      | false =>
        obtain ⟨-, d2⟩ := cut_no h46
        rw [if_pos ⟨d1, fun e => absurd e (by decide)⟩]
        unfold fin
        rw [if_neg (Nat.ne_of_gt (pow_1 y.length))]
        by_cases hv : 10000000000000000000 ≤ numV 0 (x ++ y)
        · rw [if_pos hv]
          exact parse_p3f l w hl hE neg a hneg hrr x y h47 h46 d1 d2 hv
        · rw [if_neg hv]
          exact parse_p4f l w hl hE neg a hneg hrr x y h47 h46 d1 d2 hv _ rfl
    · rw [if_neg (fun e => d1 e.1)]
      exact parse_p1 l w hl hE neg a hneg hrr x y pt h47 h46 (by simpa using d1)
end Go.Proofs.YtjcdjmjebbllkaaDoor
