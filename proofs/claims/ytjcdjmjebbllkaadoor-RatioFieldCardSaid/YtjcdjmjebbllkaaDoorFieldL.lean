/- The plain law of RatioField: for three small ratios every result that the law compares. No program in sight. -/
import Derived.Test.YtjcdjmjebbllkaaDoorFieldM
namespace Go.Proofs.YtjcdjmjebbllkaaDoor

def AddIs (a b c d n e : Int) : Prop := addN a b c d = n ∧ addD a b c d = e ∧ addE a b c d = 0
def SubIs (a b c d n e : Int) : Prop := subN a b c d = n ∧ subD a b c d = e ∧ subE a b c d = 0
def MulIs (a b c d n e : Int) : Prop := mulN a b c d = n ∧ mulD a b c d = e ∧ mulE a b c d = 0
def DivIs (a b c d n e : Int) : Prop := divN a b c d = n ∧ divD a b c d = e ∧ divE a b c d = 0
def CmpIs (a b c d x : Int) : Prop := cmpI a b c d = x ∧ val2 a b c d = 0

theorem cmp_is {a b c d : Int} (v1 : valE a b = 0) (v2 : valE c d = 0) : CmpIs a b c d (sgnI (a * d) (c * b)) := by
  refine ⟨?_, val2_yes v1 v2⟩
  unfold cmpI
  rw [sel_ok (val2_yes v1 v2)]

theorem field_law {A E B F C G : Int} (va : valE A E = 0) (vb : valE B F = 0) (vc : valE C G = 0) (a1 : A.natAbs ≤ 30) (a2 : E.natAbs ≤ 12) (b1 : B.natAbs ≤ 30) (b2 : F.natAbs ≤ 12) (c1 : C.natAbs ≤ 30) (c2 : G.natAbs ≤ 12) :
    ∃ s1 s2 t1 t2 l1 l2 p1 p2 q1 q2 m1 m2 y1 y2 o1 o2 h1 h2 x z : Int,
      (valE s1 s2 = 0 ∧ valE t1 t2 = 0 ∧ valE l1 l2 = 0 ∧ valE p1 p2 = 0 ∧ valE q1 q2 = 0 ∧ valE m1 m2 = 0 ∧ valE y1 y2 = 0 ∧ valE o1 o2 = 0 ∧ valE h1 h2 = 0) ∧
      (AddIs A E B F s1 s2 ∧ AddIs B F A E s1 s2 ∧ AddIs B F C G t1 t2 ∧ AddIs s1 s2 C G l1 l2 ∧ AddIs A E t1 t2 l1 l2 ∧ SubIs s1 s2 B F A E) ∧
      (MulIs A E B F p1 p2 ∧ MulIs B F A E p1 p2 ∧ MulIs A E C G q1 q2 ∧ AddIs p1 p2 q1 q2 m1 m2 ∧ MulIs A E t1 t2 m1 m2 ∧ MulIs B F C G y1 y2 ∧ MulIs p1 p2 C G o1 o2 ∧ MulIs A E y1 y2 o1 o2) ∧
      ((B = 0 → divE p1 p2 B F = 1) ∧ (B ≠ 0 → DivIs p1 p2 B F A E)) ∧
      (CmpIs A E B F x ∧ CmpIs B F A E (-x) ∧ CmpIs l1 l2 t1 t2 z ∧ CmpIs A E 0 1 z ∧ AddIs A E C G h1 h2 ∧ CmpIs h1 h2 t1 t2 x) ∧
      (x = 0 ↔ A = B ∧ E = F) ∧ (-1 ≤ x ∧ x ≤ 1) := by
  have E0 := (valE_ok va).1
  have F0 := (valE_ok vb).1
  have G0 := (valE_ok vc).1
  have nE : E ≠ 0 := by omega
  have nF : F ≠ 0 := by omega
  have nG : G ≠ 0 := by omega
  have ra := rep_self va
  have rb := rep_self vb
  obtain ⟨s3, vs, rs, s4, s5⟩ := add_all 30 12 30 12 va vb a1 a2 b1 b2 (by decide) (by decide)
  obtain ⟨s3', vs', rs', s4', s5'⟩ := add_all 30 12 30 12 vb va b1 b2 a1 a2 (by decide) (by decide)
  have nEF := Int.mul_ne_zero nE nF
  have nFE := Int.mul_ne_zero nF nE
  have nFG := Int.mul_ne_zero nF nG
  have nEG := Int.mul_ne_zero nE nG
  have us := rs'.uniq rs nFE nEF (by grind)
  rw [us.1, us.2] at vs' rs' 
  generalize hs1 : addN A E B F = s1 at *
  generalize hs2 : addD A E B F = s2 at *
  obtain ⟨t3, vt, rt, t4, t5⟩ := add_all 30 12 30 12 vb vc b1 b2 c1 c2 (by decide) (by decide)
  generalize ht1 : addN B F C G = t1 at *
  generalize ht2 : addD B F C G = t2 at *
  have S0 := (valE_ok vs).1
  have T0 := (valE_ok vt).1
  have nS : s2 ≠ 0 := by omega
  have nT : t2 ≠ 0 := by omega
  obtain ⟨l3, vl, rl, l4, l5⟩ := add_all _ _ 30 12 vs vc s4 s5 c1 c2 (by decide) (by decide)
  obtain ⟨l3', vl', rl', l4', l5'⟩ := add_all 30 12 _ _ va vt a1 a2 t4 t5 (by decide) (by decide)
  have nEFG := Int.mul_ne_zero nEF nG
  have rl := rl.move (u := A * F * G + B * E * G + C * E * F) (v := E * F * G) (Int.mul_ne_zero nS nG) (by have := rs.2.2; grind)
  have rl' := rl'.move (u := A * F * G + B * E * G + C * E * F) (v := E * F * G) (Int.mul_ne_zero nE nT) (by have := rt.2.2; grind)
  have ul := rl'.uniq rl nEFG nEFG rfl
  generalize hl1 : addN s1 s2 C G = l1 at *
  generalize hl2 : addD s1 s2 C G = l2 at *
  obtain ⟨k3, vk, rk, k4, k5⟩ := sub_all _ _ 30 12 vs vb s4 s5 b1 b2 (by decide) (by decide)
  have uk := rk.uniq ra (Int.mul_ne_zero nS nF) nE (by have := rs.2.2; grind)
  obtain ⟨p3, vp, rp, p4, p5⟩ := mul_all 30 12 30 12 va vb a1 a2 b1 b2 (by decide) (by decide)
  obtain ⟨p3', vp', rp', p4', p5'⟩ := mul_all 30 12 30 12 vb va b1 b2 a1 a2 (by decide) (by decide)
  have up := rp'.uniq rp nFE nEF (by grind)
  generalize hp1 : mulN A E B F = p1 at *
  generalize hp2 : mulD A E B F = p2 at *
  obtain ⟨q3, vq, rq, q4, q5⟩ := mul_all 30 12 30 12 va vc a1 a2 c1 c2 (by decide) (by decide)
  generalize hq1 : mulN A E C G = q1 at *
  generalize hq2 : mulD A E C G = q2 at *
  have P0 := (valE_ok vp).1
  have Q0 := (valE_ok vq).1
  have nP : p2 ≠ 0 := by omega
  have nQ : q2 ≠ 0 := by omega
  obtain ⟨m3, vm, rm, m4, m5⟩ := add_all _ _ _ _ vp vq p4 p5 q4 q5 (by decide) (by decide)
  obtain ⟨m3', vm', rm', m4', m5'⟩ := mul_all 30 12 _ _ va vt a1 a2 t4 t5 (by decide) (by decide)
  have rm := rm.move (u := A * (B * G + C * F)) (v := E * F * G) (Int.mul_ne_zero nP nQ) (by
    have e1 := rp.2.2
    have e2 := rq.2.2
    refine cancel nEFG ?_
    refine cancel nE ?_
    grind)
  have rm' := rm'.move (u := A * (B * G + C * F)) (v := E * F * G) (Int.mul_ne_zero nE nT) (by have := rt.2.2; grind)
  have um := rm'.uniq rm nEFG nEFG rfl
  generalize hm1 : addN p1 p2 q1 q2 = m1 at *
  generalize hm2 : addD p1 p2 q1 q2 = m2 at *
  obtain ⟨y3, vy, ry, y4, y5⟩ := mul_all 30 12 30 12 vb vc b1 b2 c1 c2 (by decide) (by decide)
  generalize hy1 : mulN B F C G = y1 at *
  generalize hy2 : mulD B F C G = y2 at *
  have Y0 := (valE_ok vy).1
  have nY : y2 ≠ 0 := by omega
  obtain ⟨o3, vo, ro, o4, o5⟩ := mul_all _ _ 30 12 vp vc p4 p5 c1 c2 (by decide) (by decide)
  obtain ⟨o3', vo', ro', o4', o5'⟩ := mul_all 30 12 _ _ va vy a1 a2 y4 y5 (by decide) (by decide)
  have ro := ro.move (u := A * B * C) (v := E * F * G) (Int.mul_ne_zero nP nG) (by have := rp.2.2; grind)
  have ro' := ro'.move (u := A * B * C) (v := E * F * G) (Int.mul_ne_zero nE nY) (by have := ry.2.2; grind)
  have uo := ro'.uniq ro nEFG nEFG rfl
  generalize ho1 : mulN p1 p2 C G = o1 at *
  generalize ho2 : mulD p1 p2 C G = o2 at *
  obtain ⟨h3, vh, rh, h4, h5⟩ := add_all 30 12 30 12 va vc a1 a2 c1 c2 (by decide) (by decide)
  generalize hh1 : addN A E C G = h1 at *
  generalize hh2 : addD A E C G = h2 at *
  have L0 := (valE_ok vl).1
  have H0 := (valE_ok vh).1
  have z0 : valE 0 1 = 0 := by decide
  have cab := cmp_is va vb
  have cba := cmp_is vb va
  have clt := cmp_is vl vt
  have ca0 := cmp_is va z0
  have cht := cmp_is vh vt
  have pE : 0 < E := by omega
  have pF : 0 < F := by omega
  have pG : 0 < G := by omega
  have e1 : sgnI (l1 * t2) (t1 * l2) = sgnI (A * 1) (0 * E) := by
    refine sgn_scale (K := E * F * G * F * G) (L := l2 * t2 * F * G * F * G) ?_ ?_ ?_
    · exact Int.mul_pos (Int.mul_pos (Int.mul_pos (Int.mul_pos pE pF) pG) pF) pG
    · exact Int.mul_pos (Int.mul_pos (Int.mul_pos (Int.mul_pos (Int.mul_pos (by omega) (by omega)) pF) pG) pF) pG
    · have i1 := rl.2.2
      have i2 := rt.2.2
      grind
  have e2 : sgnI (h1 * t2) (t1 * h2) = sgnI (A * F) (B * E) := by
    refine sgn_scale (K := E * G * F * G) (L := h2 * t2 * G * G) ?_ ?_ ?_
    · exact Int.mul_pos (Int.mul_pos (Int.mul_pos pE pG) pF) pG
    · exact Int.mul_pos (Int.mul_pos (Int.mul_pos (by omega) (by omega)) pG) pG
    · have i1 := rh.2.2
      have i2 := rt.2.2
      grind
  rw [e1] at clt
  rw [e2] at cht
  rw [sgn_swap (B * E) (A * F)] at cba
  refine ⟨s1, s2, t1, t2, l1, l2, p1, p2, q1, q2, m1, m2, y1, y2, o1, o2, h1, h2, sgnI (A * F) (B * E), sgnI (A * 1) (0 * E), ⟨vs, vt, vl, vp, vq, vm, vy, vo, vh⟩, ⟨⟨hs1, hs2, s3⟩, ⟨us.1, us.2, s3'⟩, ⟨ht1, ht2, t3⟩, ⟨hl1, hl2, l3⟩, ⟨ul.1, ul.2, l3'⟩, ⟨uk.1, uk.2, k3⟩⟩, ⟨⟨hp1, hp2, p3⟩, ⟨up.1, up.2, p3'⟩, ⟨hq1, hq2, q3⟩, ⟨hm1, hm2, m3⟩, ⟨um.1, um.2, m3'⟩, ⟨hy1, hy2, y3⟩, ⟨ho1, ho2, o3⟩, ⟨uo.1, uo.2, o3'⟩⟩, ⟨?_, ?_⟩, ⟨cab, cba, clt, ca0, ⟨hh1, hh2, h3⟩, cht⟩, ?_, ?_⟩
  · intro hB
    unfold divE
    rw [sel_ok (val2_yes vp vb), if_pos hB]
  · intro hB
    obtain ⟨d3, vd, rd, d4, d5⟩ := div_all _ _ 30 12 vp vb hB p4 p5 b1 b2 (by decide) (by decide)
    have ud := rd.uniq ra (Int.mul_ne_zero nP hB) nE (by have := rp.2.2; grind)
    exact ⟨ud.1, ud.2, d3⟩
  · rw [sgn_zero]
    constructor
    · intro h
      exact ra.uniq rb nE nF h
    · rintro ⟨rfl, rfl⟩; rfl
  · unfold sgnI
    split <;> (try split) <;> omega
end Go.Proofs.YtjcdjmjebbllkaaDoor
