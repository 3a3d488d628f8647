/- An act of a copy, with any fields: a filing as it should be, or not valid in the program and in the reference. append(row, slice...) of plain values, at any type of elements. ref18.Spoilt of an act of a copy. Written by mkspo.py. Copies with any act: their cells; law37.real; copies.Make. Written by mkcpm.py. -/
import Derived.Test.YtbeaijjaecaidaaGreatDoorM20
import Derived.Test.YtbeaijjaecaidaaGreatDoorM22
import Derived.Test.YtbeaijjaecaidaaGreatDoorM13
import Derived.Test.YtbeaijjaecaidaaGreatDoorM12
import Derived.Test.YtbeaijjaecaidaaGreatDoorM18
import Derived.Test.YtbeaijjaecaidaaGreatDoorM01
set_option maxRecDepth 100000
set_option maxHeartbeats 16000000
namespace Go.Proofs.YtbeaijjaecaidaaGreatDoor
open Go.RowKit Go.Shelf
attribute [local go_sem] Oper.semAt_some
def TxG (d:List F) (c:List Cl) (tv:Int):Prop:=(tv=0∧OkTx d c)∨(tv=1∧∃ op,leafOk op=false∧d=[leafF op]∧c=[])
theorem textvalid_gen {d:List F} {c:List Cl} {tv:Int} (h:TxG d c tv) (dv cv:Value) (w:World) (B:Nat) (hBw:B≤w.heap.size) (hd:Rep w B dv (.s 4 (d.flatMap F.cells))) (hc:Rep w B cv (.s 5 (c.flatMap Cl.cells))) :
  Calls Tryz.prog 104 #[.agg #[dv,cv]] w fun e w'=>e=.returned (.int .i64 tv)∧Below w.heap.size w w':=by
 rcases h with ⟨rfl,h⟩ | ⟨rfl,op,ho,rfl,rfl⟩
 ·exact textvalid_any d c h dv cv w B hBw hd hc
 ·obtain ⟨A,q,rfl,_,_⟩:=hc.claims
  exact textvalid_leaf op ho dv A _ q w B hBw hd
theorem reftextvalid_gen {d:List F} {c:List Cl} {tv:Int} (h:TxG d c tv) (dv cv:Value) (w:World) (B:Nat) (hBw:B≤w.heap.size) (hd:Rep w B dv (.s 4 (d.flatMap F.cells))) (hc:Rep w B cv (.s 5 (c.flatMap Cl.cells))) :
  Calls Tryz.prog 160 #[.agg #[dv,cv]] w fun e w'=>e=.returned (.int .i64 tv)∧Below w.heap.size w w':=by
 rcases h with ⟨rfl,h⟩ | ⟨rfl,op,ho,rfl,rfl⟩
 ·exact reftextvalid_any d c h dv cv w B hBw hd hc
 ·obtain ⟨A,q,rfl,_,_⟩:=hc.claims
  exact reftextvalid_leaf op ho dv A _ q w B hBw hd
structure Ac where
 kn:Int
 day:Int
 known:Int
 file:Int
 office:Int
 party:Int
 other:Int
 number:Int
 amount:Int
 sn:Int
 sd:Int
 d:List F
 c:List Cl
 nl:Nat
 e:List (Int × Int)
 fo:Int
 fn:Int
def Ac.vals (x:Ac) (dv cv lv ev:Value):Array Value:=actV x.kn x.day x.known x.file x.office x.party x.other x.number x.amount x.sn x.sd dv cv lv ev x.fo x.fn
def LvAt (lv:Value) (nl:Nat):Prop:=(lv=.slice none 0 0∧nl=0)∨(∃ Al cl,lv=.slice Al nl cl∧0<nl)
def AcAt (w:World) (B:Nat) (V:Array Value) (x:Ac):Prop:=∃ dv cv lv ev,V=x.vals dv cv lv ev∧Rep w B dv (.s 4 (x.d.flatMap F.cells))∧Rep w B cv (.s 5 (x.c.flatMap Cl.cells))∧LvAt lv x.nl∧Rep w B ev (.s 2 (prD x.e))
theorem AcAt.keep {w W:World} {B B':Nat} {V:Array Value} {x:Ac} (h:AcAt w B V x) (hk:∀ p:Addr,p.block<B→W.cell? p=w.cell? p) (hB:B≤B'):AcAt W B' V x:=by
 obtain ⟨dv,cv,lv,ev,e,h1,h2,h3,h4⟩:=h;exact ⟨dv,cv,lv,ev,e,h1.keep hk hB,h2.keep hk hB,h3,h4.keep hk hB⟩
def I64 (x:Int):Prop:=-9223372036854775808≤x∧x≤9223372036854775807
structure AcOk (x:Ac):Prop where
 some:1≤x.d.length
 dlen:x.d.length≤1000000
 clen:x.c.length≤1000000
 elen:x.e.length≤8
 file:I64 x.file
 earl:∀ p∈x.e,I64 p.1
 text:∃ tv,TxG x.d x.c tv
theorem inR_iff {x lo hi:Int}:inR x lo hi=true↔lo≤x∧x≤hi:=by
 unfold inR;rw [Bool.and_eq_true,decide_eq_true_eq,decide_eq_true_eq]
theorem es_good {file:Int} {e:List (Int × Int)} (h:¬ BadEs file e):(∀ p∈e,(0≤p.1∧p.1≤4095)∧(0≤p.2∧p.2≤131072)∧p.1≠file)∧(e.map Prod.fst).Nodup:=by
 have hg:∀ (k:Nat) (hk:k<e.length),badEa (seenAt file e k) e[k].1 e[k].2=false:=fun k hk=>by
  cases hb:badEa (seenAt file e k) e[k].1 e[k].2 with
  | false=>rfl
  | true=>exact absurd ⟨k,hk,hb⟩ h
 refine ⟨fun p hp=>?_,?_⟩
 ·obtain ⟨k,hk,rfl⟩:=List.mem_iff_getElem.1 hp
  have:=hg k hk;unfold badEa at this;simp only [Bool.or_eq_false_iff,Bool.not_eq_false',decide_eq_false_iff_not] at this;obtain ⟨⟨h1,h2⟩,h3⟩:=this;exact ⟨inR_iff.1 h2,inR_iff.1 h3,fun e2=>h1 ((mem_seenAt (Nat.le_of_lt hk)).2 (.inl e2))⟩
 ·rw [List.nodup_iff_pairwise_ne,List.pairwise_iff_getElem]
  intro i j hi hj hij e2;rw [List.length_map] at hi hj;rw [List.getElem_map,List.getElem_map] at e2;have:=hg j hj;rw [badEa_twice (Nat.le_of_lt hj) hij e2] at this;cases this
def Ac.bb (x:Ac):Bool:=x.number == 0 && x.amount == 0 && (x.sn == 0 && x.sd == 0) && (x.nl == 0) && (x.fo == 0 && x.fn == 0)
def Ac.Good (x:Ac) (tv:Int):Prop:=x.kn=0∧ActGood x.day x.known x.file x.office x.party x.bb (FilGood x.file x.other tv x.e)
def Ac.fil (x:Ac):Fil:=⟨x.day,x.known,x.file,x.office,x.party,x.other,x.d,x.c,x.e⟩
theorem Ac.good_fil {x:Ac} {tv:Int} (hg:x.Good tv) (ht:TxG x.d x.c tv) (he:x.e.length≤8):OkFil x.fil:=by
 obtain ⟨_,h1,h2,_,h3,h4,h5,h6,h7,h8,h9⟩:=hg;obtain ⟨g1,g2⟩:=es_good h9;rcases ht with ⟨_,ht⟩ | ⟨h10,_⟩
 ·exact ⟨inR_iff.1 h1,inR_iff.1 h2,inR_iff.1 h3,inR_iff.1 h4,inR_iff.1 h5,⟨(inR_iff.1 h6).1,(inR_iff.1 h6).2,h7⟩,ht,he,g1,g2⟩
 ·omega
theorem Ac.good_vals {x:Ac} {tv:Int} (hg:x.Good tv) {dv cv lv ev:Value} (hl:LvAt lv x.nl):x.vals dv cv lv ev=x.fil.vals dv cv ev:=by
 obtain ⟨h0,_,_,hb,_⟩:=hg;unfold Ac.bb at hb;simp only [Bool.and_eq_true,beq_iff_eq] at hb;obtain ⟨⟨⟨⟨a1,a2⟩,a3,a4⟩,a5⟩,a6,a7⟩:=hb;rcases hl with ⟨rfl,_⟩ | ⟨_,_,_,h⟩
 ·unfold Ac.vals actV Fil.vals Ac.fil
  rw [h0,a1,a2,a3,a4,a6,a7]
 ·omega
theorem LvAt.slice {lv:Value} {nl:Nat} (h:LvAt lv nl):∃ Al cl,lv=.slice Al nl cl:=by
 rcases h with ⟨rfl,rfl⟩ | ⟨Al,cl,rfl,_⟩
 ·exact ⟨none,0,rfl⟩
 ·exact ⟨Al,cl,rfl⟩
theorem bare_all (w:World) (kn:Nat) (F:Int) (hkn:kn<22) (hG:w.cell? ⟨0,kn,none⟩=some (.int .i64 F)) (h0:0<w.heap.size) (x:Ac) (hkx:x.kn=(kn:Int)) (Ad Ak Al Ae:Option Addr) (nd cd nc cc nl cl ne ce:Nat) (hnd:nd≤1000000) (hnc:nc≤1000000) :
  Calls Tryz.prog 100 #[.agg (x.vals (.slice Ad nd cd) (.slice Ak nc cc) (.slice Al nl cl) (.slice Ae ne ce))] w
   fun e w'=>e=.returned (.bool (bareT (x.file != 0) (x.office != 0) (x.party != 0) (x.other != 0) (x.number != 0) (x.amount != 0) (!(x.sn == 0 && x.sd == 0)) (decide (0<nd+nc)) (decide (0<nl)) (decide (0<ne)) (x.fo != 0 || x.fn != 0) F))∧Below w.heap.size w w':=by
 unfold Ac.vals actV bareT;rw [hkx];exact bare_G w kn F hkn hG h0 x.day x.known x.file x.office x.party x.other x.number x.amount x.sn x.sd x.fo x.fn Ad Ak Al Ae nd cd nc cc nl cl ne ce hnd hnc _ _ _ _ _ _ _ _ _ _ _ rfl rfl rfl rfl rfl rfl rfl rfl rfl rfl rfl
theorem bb_bare (x:Ac) (b1 b2 b3 b4 b8 b10:Bool):bareT b1 b2 b3 b4 (x.number != 0) (x.amount != 0) (!(x.sn == 0 && x.sd == 0)) b8 (decide (0<x.nl)) b10 (x.fo != 0 || x.fn != 0) 655=x.bb:=by
 rw [bareT_filing]
 have e:decide (0<x.nl)=!(x.nl == 0):=by
  rcases Nat.eq_zero_or_pos x.nl with h | h
  ·rw [h];rfl
  ·rw [decide_eq_true h,beq_false_of_ne (by omega)];rfl
 unfold Ac.bb;rw [e];simp only [bne,Bool.not_not,Bool.not_or]
theorem bb_ref (x:Ac):(numB true true true true (x.number == 0) (x.amount == 0) (x.sn == 0) (x.sd == 0) && ((x.fo == 0) && (x.fn == 0)) && true && true && ((x.nl:Int) == 0) && true)=x.bb:=by
 have e:((x.nl:Int) == 0)=(x.nl == 0):=by
  rcases Nat.eq_zero_or_pos x.nl with h | h
  ·rw [h];rfl
  ·rw [beq_false_of_ne (by omega),beq_false_of_ne (by omega)]
 unfold Ac.bb numB;rw [e];generalize (x.number == 0)=a1;generalize (x.amount == 0)=a2;generalize (x.sn == 0)=a3;generalize (x.sd == 0)=a4;generalize (x.fo == 0)=a5;generalize (x.fn == 0)=a6;generalize (x.nl == 0)=a7
 revert a1 a2 a3 a4 a5 a6 a7
 decide
theorem avalid_bad {x:Ac} {tv:Int} (hg:¬ x.Good tv) (ht:TxG x.d x.c tv) (hok:AcOk x) (dv cv lv ev:Value) (w:World) (hT:TabAt w) (B:Nat) (hBw:B≤w.heap.size) (hd:Rep w B dv (.s 4 (x.d.flatMap F.cells))) (hc:Rep w B cv (.s 5 (x.c.flatMap Cl.cells))) (hl:LvAt lv x.nl) (he:Rep w B ev (.s 2 (prD x.e))) :
  Calls Tryz.prog 49 #[.agg (x.vals dv cv lv ev)] w fun e w'=>e=.returned (.int .i64 1)∧Below w.heap.size w w':=by
 obtain ⟨Ad,cd,rfl,_,_⟩:=hd.formulas;obtain ⟨Ak,cc,rfl,_,_⟩:=hc.claims;obtain ⟨Ae,ce,rfl,_,_⟩:=he.pairs;obtain ⟨Al,cl,rfl⟩:=hl.slice
 cases hk:inR x.kn 0 21 with
 | false=>exact avalid_out x.kn x.day x.known x.file x.office x.party x.other x.number x.amount x.sn x.sd x.fo x.fn hk _ _ _ _ w
 | true =>
  have hk2:=inR_iff.1 hk;obtain ⟨k,hkk⟩:∃ k:Nat,x.kn=(k:Int):=⟨x.kn.toNat,by omega⟩
  have HB:∀ W,Below w.heap.size w W→Calls Tryz.prog 100 #[.agg (x.vals (.slice Ad x.d.length cd) (.slice Ak x.c.length cc) (.slice Al x.nl cl) (.slice Ae x.e.length ce))] W fun e w'=>e=.returned (.bool (bareT (x.file != 0) (x.office != 0) (x.party != 0) (x.other != 0) (x.number != 0) (x.amount != 0) (!(x.sn == 0 && x.sd == 0)) (decide (0<x.d.length+x.c.length)) (decide (0<x.nl)) (decide (0<x.e.length)) (x.fo != 0 || x.fn != 0) (fieldsTab.getD k 0)))∧Below W.heap.size W w':=fun W hW =>
   bare_all W k _ (by omega) ((hT.keep hW hT.2).1 k (by omega)) (hT.keep hW hT.2).2 x hkk Ad Ak Al Ae _ cd _ cc _ cl _ ce hok.dlen hok.clen
  by_cases hk0:x.kn=0
  ·obtain rfl:k=0:=by omega
   have HV:∀ W,Below w.heap.size w W→Calls Tryz.prog 104 #[.agg #[.slice Ad x.d.length cd,.slice Ak x.c.length cc]] W fun e w'=>e=.returned (.int .i64 tv)∧Below W.heap.size W w':=fun W hW =>
    textvalid_gen ht _ _ W B (Nat.le_trans hBw hW.size) (hd.keep (fun p hp=>hW.cell (Nat.lt_of_lt_of_le hp hBw)) (Nat.le_refl _)) (hc.keep (fun p hp=>hW.cell (Nat.lt_of_lt_of_le hp hBw)) (Nat.le_refl _))
   have h:=avalid_core x.day x.known x.file x.office x.party x.other x.number x.amount x.sn x.sd x.fo x.fn (.slice Ad x.d.length cd) (.slice Ak x.c.length cc) (.slice Al x.nl cl) (.slice Ae x.e.length ce) x.bb (FilGood x.file x.other tv x.e) w hT
    (Lib.hid fun W hW=>by
     have h2:=HB W hW;unfold Ac.vals actV at h2;rw [hk0,show fieldsTab.getD 0 0=(655:Int) from rfl,bb_bare] at h2
     exact h2)
    (Lib.hid fun W hW=>aformed_gen x.day x.known x.file x.office x.party x.other x.number x.amount x.sn x.sd x.fo x.fn Ad Ak Al _ cd _ cc _ cl x.e (.slice Ae x.e.length ce) hok.elen hok.file hok.earl tv W B (Nat.le_trans hBw hW.size) (he.keep (fun p hp=>hW.cell (Nat.lt_of_lt_of_le hp hBw)) (Nat.le_refl _)) (Lib.hid fun U hU=>HV U (hW.trans (hU.mono hW.size))))
   unfold Ac.vals actV;rw [hk0];refine h.mono ?_
   rintro e w' ⟨⟨c,rfl,hcc⟩,hb⟩;rcases hcc with ⟨_,hgood⟩ | ⟨rfl,_⟩
   ·exact absurd ⟨hk0,hgood⟩ hg
   ·exact ⟨rfl,hb⟩
  ·refine avalid_kind x.kn x.day x.known x.file x.office x.party x.other x.number x.amount x.sn x.sd x.fo x.fn hk _ _ _ _ w (Lib.hid fun W hW=>?_)
   have h2:=HB W hW;rw [decide_eq_true (show 0<x.d.length+x.c.length by have:=hok.some;omega),bareT_text _ _ _ _ _ _ _ _ _ _ k (by omega) (by omega)] at h2
   exact h2
theorem refavalid_bad {x:Ac} {tv:Int} (hg:¬ x.Good tv) (ht:TxG x.d x.c tv) (hok:AcOk x) (dv cv lv ev:Value) (w:World) (B:Nat) (hBw:B≤w.heap.size) (hd:Rep w B dv (.s 4 (x.d.flatMap F.cells))) (hc:Rep w B cv (.s 5 (x.c.flatMap Cl.cells))) (hl:LvAt lv x.nl) (he:Rep w B ev (.s 2 (prD x.e))) :
  Calls Tryz.prog 77 #[.agg (x.vals dv cv lv ev)] w fun e w'=>e=.returned (.int .i64 1)∧Below w.heap.size w w':=by
 obtain ⟨Ad,cd,rfl,_,_⟩:=hd.formulas;obtain ⟨Ak,cc,rfl,_,_⟩:=hc.claims;obtain ⟨Ae,ce,rfl,_,_⟩:=he.pairs;obtain ⟨Al,cl,rfl⟩:=hl.slice
 have fin:∀ {e:Ending} {w':World},(∃ c:Int,e=.returned (.int .i64 c)∧((c=0∧x.Good tv)∨(c=1∧¬ x.Good tv)))∧Below w.heap.size w w'→e=.returned (.int .i64 1)∧Below w.heap.size w w':=by
  rintro e w' ⟨⟨c,rfl,hcc⟩,hb⟩;rcases hcc with ⟨_,hgood⟩ | ⟨rfl,_⟩
  ·exact absurd hgood hg
  ·exact ⟨rfl,hb⟩
 by_cases hk0:x.kn=0
 ·have HV:∀ W,Below w.heap.size w W→Calls Tryz.prog 160 #[.agg #[.slice Ad x.d.length cd,.slice Ak x.c.length cc]] W fun e w'=>e=.returned (.int .i64 tv)∧Below W.heap.size W w':=fun W hW =>
   reftextvalid_gen ht _ _ W B (Nat.le_trans hBw hW.size) (hd.keep (fun p hp=>hW.cell (Nat.lt_of_lt_of_le hp hBw)) (Nat.le_refl _)) (hc.keep (fun p hp=>hW.cell (Nat.lt_of_lt_of_le hp hBw)) (Nat.le_refl _))
  have h:=refavalid_core 0 x.day x.known x.file x.office x.party x.other x.number x.amount x.sn x.sd x.fo x.fn Ad Ak Al Ae x.d.length cd x.c.length cc x.nl cl x.e.length ce true x.bb (RGood x.file x.office x.party x.other tv x.e) (x.Good tv) rfl
   (Lib.hid (by
    unfold Ac.Good ActGood RGood;constructor
    ·rintro ⟨_,h1,h2,h3,h4,h5,h6,h7⟩
     exact ⟨rfl,h1,h2,h4,h3,h5,h6,h7⟩
    ·rintro ⟨_,h1,h2,h4,h3,h5,h6,h7⟩
     exact ⟨hk0,h1,h2,h3,h4,h5,h6,h7⟩)) w
   (Lib.hid fun W=>by
    refine (refbare_0 x.day x.known x.file x.office x.party x.other x.number x.amount x.sn x.sd x.fo x.fn Ad Ak Al Ae x.d.length cd x.c.length cc x.nl cl x.e.length ce W).mono ?_
    rintro e w' ⟨rfl,hb⟩;refine ⟨⟨_,rfl,fun U=>?_⟩,hb⟩
    have h2:=refclean_gen 0 x.day x.known 0 0 0 0 x.number x.amount x.sn x.sd x.fo x.fn none none Al none 0 0 0 0 x.nl cl 0 0 true true true true _ _ _ _ _ _ true true _ true rfl rfl rfl rfl rfl rfl rfl rfl rfl rfl rfl rfl rfl rfl U;rw [bb_ref] at h2;exact h2)
   (Lib.hid fun _ _ W hW=>refaformed_gen x.day x.known x.file x.office x.party x.other x.number x.amount x.sn x.sd x.fo x.fn Ad Ak Al Ae x.d.length cd x.c.length cc x.nl cl x.e.length ce _ W
    (Lib.hid fun U hU=>reffiling_gen 0 x.day x.known x.file x.office x.party x.other x.number x.amount x.sn x.sd x.fo x.fn Ad Ak Al x.d.length cd x.c.length cc x.nl cl x.e (.slice Ae x.e.length ce) hok.elen tv U B (Nat.le_trans hBw (Nat.le_trans hW.size hU.size)) (he.keep (fun p hp=>(hW.trans (hU.mono hW.size)).cell (Nat.lt_of_lt_of_le hp hBw)) (Nat.le_refl _)) (Lib.hid fun U2 hU2=>HV U2 ((hW.trans (hU.mono hW.size)).trans (hU2.mono (Nat.le_trans hW.size hU.size))))))
  unfold Ac.vals actV;rw [hk0];exact h.mono fun _ _ h=>fin h
 ·have h:=refavalid_core x.kn x.day x.known x.file x.office x.party x.other x.number x.amount x.sn x.sd x.fo x.fn Ad Ak Al Ae x.d.length cd x.c.length cc x.nl cl x.e.length ce _ false True (x.Good tv) rfl
   (Lib.hid (iff_of_false (fun h=>hk0 h.1) (fun h=>by cases h.2.2.2.2.1))) w
   (Lib.hid fun W=>by
    refine (refbare_kind x.kn x.day x.known x.file x.office x.party x.other x.number x.amount x.sn x.sd x.fo x.fn hk0 Ad Ak Al Ae x.d.length cd x.c.length cc x.nl cl x.e.length ce W).mono ?_
    rintro e w' ⟨⟨V,rfl,⟨file,office,party,other,number,amount,sn,sd,fo,fn,Al2,Ae2,nl2,cl2,ne2,ce2,rfl⟩⟩,hb⟩;refine ⟨⟨_,rfl,fun U=>?_⟩,hb⟩
    have h2:=refclean_gen x.kn x.day x.known file office party other number amount sn sd fo fn Ad Ak Al2 Ae2 x.d.length cd x.c.length cc nl2 cl2 ne2 ce2 _ _ _ _ _ _ _ _ _ _ false _ _ _ rfl rfl rfl rfl rfl rfl rfl rfl rfl rfl (beq_false_of_ne (by have:=hok.some;omega)) rfl rfl rfl U
    rw [Bool.and_false,Bool.false_and,Bool.false_and,Bool.false_and] at h2;exact h2)
   (Lib.hid fun _ h=>by cases h)
  exact h.mono fun _ _ h=>fin h
theorem act_split {w:World} {V:Array Value} {x:Ac} (hT:TabAt w) (hok:AcOk x) (hA:AcAt w w.heap.size V x):∃ a,ActS w V a:=by
 obtain ⟨dv,cv,lv,ev,rfl,hd,hc,hl,he⟩:=hA;obtain ⟨tv,ht⟩:=hok.text;by_cases hg:x.Good tv
 ·exact ⟨some x.fil,dv,cv,ev,Ac.good_vals hg hl,Ac.good_fil hg ht hok.elen,hd,hc,he⟩
 ·exact ⟨none,rfl,fun W hW=>avalid_bad hg ht hok dv cv lv ev W (hT.keep hW hT.2) w.heap.size hW.size (hd.keep (fun p hp=>hW.cell hp) (Nat.le_refl _)) (hc.keep (fun p hp=>hW.cell hp) (Nat.le_refl _)) hl (he.keep (fun p hp=>hW.cell hp) (Nat.le_refl _)),
   fun W hW=>refavalid_bad hg ht hok dv cv lv ev W w.heap.size hW.size (hd.keep (fun p hp=>hW.cell hp) (Nat.le_refl _)) (hc.keep (fun p hp=>hW.cell hp) (Nat.le_refl _)) hl (he.keep (fun p hp=>hW.cell hp) (Nat.le_refl _))⟩
def SrcP (w:World) (src:Value) (m size:Nat) (cs:List Value):Prop:=cs.length=m * size∧((src=.slice none 0 0∧m=0)∨∃ b o c,src=.slice (some ⟨b,o,none⟩) m c∧b<w.heap.size∧∀ (j:Nat) (u:Value),cs[j]?=some u→w.cell? ⟨b,o+j,none⟩=some u)
theorem SrcP.keep {w w':World} {src:Value} {m size:Nat} {cs:List Value} (h:SrcP w src m size cs) (hb:Below w.heap.size w w'):SrcP w' src m size cs:=by
 refine ⟨h.1,?_⟩
 rcases h.2 with h | ⟨b,o,c,e,hlt,h⟩
 ·exact .inl h
 ·exact .inr ⟨b,o,c,e,Nat.lt_of_lt_of_le hlt hb.size,fun j u hu=>(hb.cell hlt).trans (h j u hu)⟩
theorem SrcP.of_own {w:World} {base:Nat} {e:TypeId} {size:Nat} {v:Value} {n:Nat} {xs:List Value} (h:w.ownsRow base e size v n xs):SrcP w v n size xs:=by
 refine ⟨h.1,?_⟩
 have h2:=h;rcases h.2 with ⟨rfl,rfl⟩ | ⟨g,cap,cur,rfl,hg,hb,hnc,hcap,hcur,hx⟩
 ·exact .inl ⟨rfl,rfl⟩
 ·refine .inr ⟨g,0,cap,rfl,(h2.lt g rfl).2,fun j u hu=>?_⟩
  have hj:=lt_of_some hu;rw [Nat.zero_add,h2.cellAt j (by rw [← h2.1];exact hj)]
  exact hu
theorem SrcP.of_new {w:World} {e:TypeId} {b m c:Nat} {size:Nat} {cs:Array Value} (h:Blk w b e cs) (hs:cs.size=m * size):SrcP w (.slice (some ⟨b,0,none⟩) m c) m size cs.toList :=
 ⟨by rw [Array.length_toList,hs],.inr ⟨b,0,c,rfl,h.lt,fun j u hu=>by rw [Nat.zero_add,h.cell j,← Array.getElem?_toList];exact hu⟩⟩
theorem run_appP {T e:TypeId} {z:Value} {size bytes:Nat} (hT:Tryz.prog.underlying T=some (.slice e)) (hinf:(Tryz.prog.info? e).map (fun i=>(i.zero,i.size,i.bytes))=some (some z,size,bytes)) (hz:z.cells.size=size) (hp:0<size) (hby:bytes≤1000)
  {w:World} {base:Nat} {v:Value} {n:Nat} {xs:List Value} (hown:w.ownsRow base e size v n xs) {src:Value} {m:Nat} {cs:List Value} (hs:SrcP w src m size cs) (h1:∀ u∈cs,u.oneCell'=true)
  (hn:n≤100000) (hm:m≤1000) (hbase:base≤w.heap.size) {ty:TypeId} :
  ∃ v' w',(Builtin.append_ #[T,T] ty #[v,src]).run Tryz.prog w=.ok v' w'∧w'.ownsRow base e size v' (n+m) (xs++cs)∧w.grownBy w' v.ownBlock∧(v'.ownBlock=v.ownBlock∨v'.ownBlock=some w.heap.size):=by
 obtain ⟨i0,hi,hz0,hz1,hz2⟩:=info_parts hinf;obtain ⟨hl,hs⟩:=hs;rcases hs with ⟨rfl,rfl⟩ | ⟨b,o,c,rfl,_,hcell⟩
 ·have e0:cs=[]:=List.eq_nil_of_length_eq_zero (by rw [hl,Nat.zero_mul])
  subst e0;exact ⟨v,w,run_append_owned_none (P:=Tryz.prog) (w:=w) base T ty e i0 size hT (by rw [hi]) v n xs (by exact hown),by rw [List.append_nil,Nat.add_zero];exact hown,World.grownBy.refl w _,.inl rfl⟩
 ·obtain ⟨v',w',r1,r2,r3,_,r5⟩:=run_append_own_at (P:=Tryz.prog) w base T ty e i0 z size bytes hT hi hz0 hz1 hz2 hz hp v n xs hown ⟨b,o,none⟩ m c cs hl
   (fun j u hu=>by rw [Addr.add_lit];exact hcell j u hu) h1 (by unfold maxLen;omega) (by
    have:=Nat.mul_le_mul (show n+m≤101000 by omega) hby
    omega) hbase
  exact ⟨v',w',r1,r2,r3,r5⟩
theorem wpList_appP {T e:TypeId} {z:Value} {size bytes:Nat} (hT:Tryz.prog.underlying T=some (.slice e)) (hinf:(Tryz.prog.info? e).map (fun i=>(i.zero,i.size,i.bytes))=some (some z,size,bytes)) (hz:z.cells.size=size) (hp:0<size) (hby:bytes≤1000)
  {w:World} {base:Nat} {v:Value} {n:Nat} {xs:List Value} (hown:w.ownsRow base e size v n xs) {src:Value} {m:Nat} {cs:List Value} (hs:SrcP w src m size cs) (h1:∀ u∈cs,u.oneCell'=true)
  (hn:n≤100000) (hm:m≤1000) (hbase:base≤w.heap.size)
  {ops:Array Oper} {rest:List Oper} {o:Oper} {a:Act} {Q:Exit→Act→World→Prop} (hgd:o.guard=none) (s x:Operand) (ho:o.op=.call { callee:=.builtin .append,args:=#[s,x],argTypes:=#[T,T] }) (hsv:a.eval s=v) (hx:a.eval x=src)
  (hK:∀ v' w',w'.ownsRow base e size v' (n+m) (xs++cs)→w.grownBy w' v.ownBlock→(v'.ownBlock=v.ownBlock∨v'.ownBlock=some w.heap.size)→wpList Tryz.prog ops Q rest (a.put o.dst v') w'):wpList Tryz.prog ops Q (o::rest) a w :=
 let ⟨v',w',r1,r2,r3,r4⟩:=run_appP hT hinf hz hp hby hown hs h1 hn hm hbase (ty:=o.type)
 wpList_plain hgd fun _ hK'=>wp_app_run s x T v _ v' ho hsv hx r1 (hK' _ _ (hK v' w' r2 r3 r4))
def AcM (H:List Nat) (w:World) (V:Array Value) (x:Ac):Prop:=∃ dv cv lv ev,V=x.vals dv cv lv ev∧RepM [] H w dv (.s 4 (x.d.flatMap F.cells))∧RepM [] H w cv (.s 5 (x.c.flatMap Cl.cells))∧LvAt lv x.nl∧RepM [] H w ev (.s 2 (prD x.e))
theorem AcM.out {H:List Nat} {w:World} {V:Array Value} {x:Ac} (h:AcM H w V x):AcAt w w.heap.size V x:=by
 obtain ⟨dv,cv,lv,ev,e,h1,h2,h3,h4⟩:=h;exact ⟨dv,cv,lv,ev,e,h1.out,h2.out,h3,h4.out⟩
theorem rep_mask {H:List Nat} {w W:World} {v:Value} {d:D} (h:Rep w w.heap.size v d) (hW:Below w.heap.size w W) (hH:∀ i∈H,w.heap.size≤i):RepM [] H W v d :=
 (Rep.keep (W':=maskM [] H W) (fun p hp=>by
  have hm:(maskM [] H W).cell? p=W.cell? p:=by
   cases hc:W.cell? p with
   | some u=>exact maskM_cell.2 ⟨hc,(fun ⟨_,_,_,_,h⟩=>by cases h),(fun h=>absurd (hH _ h) (Nat.not_le_of_lt hp))⟩
   | none =>
    cases hc2:(maskM [] H W).cell? p with
    | none=>rfl
    | some u=>rw [(maskM_cell.1 hc2).1] at hc;cases hc
  exact hm.trans (hW.cell hp)) hW.size h)
theorem AcM.of {H:List Nat} {w W:World} {V:Array Value} {x:Ac} (h:AcAt w w.heap.size V x) (hW:Below w.heap.size w W) (hH:∀ i∈H,w.heap.size≤i):AcM H W V x:=by
 obtain ⟨dv,cv,lv,ev,e,h1,h2,h3,h4⟩:=h;exact ⟨dv,cv,lv,ev,e,rep_mask h1 hW hH,rep_mask h2 hW hH,h3,rep_mask h4 hW hH⟩
theorem AcM.step {H:List Nat} {w W:World} {V:Array Value} {x:Ac} (h:AcM H w V x) {row:Option Nat} (hg:w.grownBy W row) (hr:∀ g,row=some g→g∈H):AcM H W V x:=by
 obtain ⟨dv,cv,lv,ev,e,h1,h2,h3,h4⟩:=h;exact ⟨dv,cv,lv,ev,e,h1.step hg (fun g e _=>.inr (hr g e)) (fun _ h=>.inl h),h2.step hg (fun g e _=>.inr (hr g e)) (fun _ h=>.inl h),h3,h4.step hg (fun g e _=>.inr (hr g e)) (fun _ h=>.inl h)⟩
theorem rep_leaf {H:List Nat} {W:World} {g:Nat} {op:Int} (h:Blk W g 39 #[.int .i64 op,.int .i64 0,.slice none 0 0,.slice none 0 0]) (hg:g ∉ H):RepM [] H W (.slice (some ⟨g,0,none⟩) 1 1) (.s 4 ([leafF op].flatMap F.cells)) :=
 RepM.of_blk h (by simp) hg rfl (RepL.cons (.v _) (RepL.cons (.v _) (RepL.cons (.nil 8) (RepL.cons (.nil 4) (RepL.nil _ _)))))
theorem leaf_tx {op:Int} (h:leafOk op=true):OkTx [leafF op] []:=by
 refine ⟨by simp,fun f hf=>?_,⟨by simp,fun i hi=>absurd hi (Nat.not_lt_zero _)⟩,?_,?_⟩
 ·rw [List.mem_singleton.1 hf]
  exact leaf_ok h
 ·exact fun k h=>absurd h (Nat.not_lt_zero _)
 ·rw [List.flatMap_cons,List.flatMap_nil,List.append_nil]
  unfold leafF F.tops;split
  ·exact Nat.zero_le _
  ·show 1+0≤128
   omega
def prV (e:List (Int × Int)):List Value:=e.flatMap fun p=>[.int .i64 p.1,.int .i64 p.2]
theorem prV_one (e:List (Int × Int)):∀ u∈prV e,u.oneCell'=true:=fun u hu=>by
 obtain ⟨p,_,hp⟩:=List.mem_flatMap.1 hu;simp only [List.mem_cons,List.not_mem_nil,or_false] at hp;rcases hp with rfl | rfl <;> rfl
theorem prD_val (e:List (Int × Int)):prD e=valD (prV e):=by
 unfold prD prV valD;rw [List.map_flatMap];rfl
theorem prV_length (e:List (Int × Int)):(prV e).length=e.length * 2:=by
 have h:=prD_length e;rw [prD_val,valD_length] at h;exact h
theorem srcE {W:World} {A:Option Addr} {c:Nat} {e:List (Int × Int)} (h:Rep W W.heap.size (.slice A e.length c) (.s 2 (prD e))):SrcP W (.slice A e.length c) e.length 2 (prV e):=by
 refine ⟨prV_length e,?_⟩
 rw [prD_val] at h;generalize hv:(Value.slice A e.length c)=v at *;generalize hn:e.length=n at *;generalize hds:valD (prV e)=ds at *
 cases h with
 | nil =>
  injection hv with _ h2 _
  exact .inl ⟨rfl,h2⟩
 | @s b o n' c' _ _ cs hc hd hnc hb cells sub =>
  injection hv with h1 h2 h3
  have hcs:RepL W W.heap.size cs (valD (prV e)):=by rw [hds];exact ⟨hc.trans hd.symm,sub⟩
  rw [RepL.plain hcs] at cells;exact .inr ⟨b,o,c',by rw [h2],hb,cells⟩
theorem OkTx.len {d:List F} {c:List Cl} (h:OkTx d c):d.length≤16∧c.length≤32:=⟨h.1,h.2.2.1.1⟩
def SpoR (H:List Nat) (m:Nat) (w':World) (r:Ending):Prop:=∃ V' x',r=.returned (.agg V')∧AcOk x'∧x'.e.length≤m+2∧AcM H w' V' x'∧V'.size=19∧V'.all (·.oneCell')=true
theorem spoR_mk {H:List Nat} {m:Nat} {w':World} {V':Array Value} (x':Ac) (h1:AcOk x') (h2:x'.e.length≤m+2) (h3:AcM H w' V' x') (h4:V'.size=19) (h5:V'.all (·.oneCell')=true):SpoR H m w' (.returned (.agg V')):=⟨V',x',rfl,h1,h2,h3,h4,h5⟩
theorem txg_leaf (op:Int):∃ tv,TxG [leafF op] [] tv:=by
 cases h:leafOk op with
 | true=>exact ⟨0,.inl ⟨rfl,leaf_tx h⟩⟩
 | false=>exact ⟨1,.inr ⟨rfl,op,h,rfl,rfl⟩⟩
theorem spoilt_core (kn day known file office party other number amount sn sd fo fn:Int) (d:List F) (c:List Cl) (nl:Nat) (e:List (Int × Int)) (Ad Ak Al Ae:Option Addr) (cd cc cl ce:Nat) (hok:AcOk ⟨kn,day,known,file,office,party,other,number,amount,sn,sd,d,c,nl,e,fo,fn⟩) (m:Nat) (hm:e.length≤m) (hm6:m≤6) (how by_:Int) (hhow:-9223372036854775808≤how∧how≤9223372036854775807) (hby:I64 by_) (H:List Nat) (w:World) (hH:∀ i∈H,i<w.heap.size)
  (hd:RepM [] H w (.slice Ad d.length cd) (.s 4 (d.flatMap F.cells))) (hc:RepM [] H w (.slice Ak c.length cc) (.s 5 (c.flatMap Cl.cells))) (hl:LvAt (.slice Al nl cl) nl) (he:RepM [] H w (.slice Ae e.length ce) (.s 2 (prD e))) :
  Calls Tryz.prog 57 #[.agg #[iI kn,iI day,iI known,iI file,iI office,iI party,iI other,iI number,iI amount,iI sn,iI sd,.slice Ad d.length cd,.slice Ak c.length cc,.slice Al nl cl,.slice Ae e.length ce,iI fo,iI fn,nN,nN],.int .i64 how,.int .i64 by_] w
   fun r w'=>SpoR H m w' r∧Below w.heap.size w w':=by
 have HAT:=Lib.hid (fun (W:World) (hW:Below w.heap.size w W)=>(⟨hd.step (grown_of_below (row:=none) hW) (fun _ e=>by cases e) (fun _ h=>.inl h),hc.step (grown_of_below (row:=none) hW) (fun _ e=>by cases e) (fun _ h=>.inl h),he.step (grown_of_below (row:=none) hW) (fun _ e=>by cases e) (fun _ h=>.inl h)⟩:RepM [] H W (.slice Ad d.length cd) (.s 4 (d.flatMap F.cells))∧RepM [] H W (.slice Ak c.length cc) (.s 5 (c.flatMap Cl.cells))∧RepM [] H W (.slice Ae e.length ce) (.s 2 (prD e))))
 have HSRC:=Lib.hid (fun (W:World) (hW:Below w.heap.size w W)=>(srcE he.out).keep hW)
 have HOK:=Lib.hid hok;have HHH:=Lib.hid hH;have HLV:=Lib.hid hl;have HM:=Lib.hid hm;have HM6:=Lib.hid hm6;have HBY:=Lib.hid hby;clear hok hH hd hc hl he hm hm6 hby;have X0:=Blk.new w 41 #[iI kn,iI day,iI known,iI file,iI office,iI party,iI other,iI number,iI amount,iI sn,iI sd,.slice Ad d.length cd,.slice Ak c.length cc,.slice Al nl cl,.slice Ae e.length ce,iI fo,iI fn,nN,nN];have P0:=below_new w (.cells #[iI kn,iI day,iI known,iI file,iI office,iI party,iI other,iI number,iI amount,iI sn,iI sd,.slice Ad d.length cd,.slice Ak c.length cc,.slice Al nl cl,.slice Ae e.length ce,iI fo,iI fn,nN,nN] 41);generalize hw1:w.alloc (.cells #[iI kn,iI day,iI known,iI file,iI office,iI party,iI other,iI number,iI amount,iI sn,iI sd,.slice Ad d.length cd,.slice Ak c.length cc,.slice Al nl cl,.slice Ae e.length ce,iI fo,iI fn,nN,nN] 41)=w1 at *;have hs1:w1.heap.size=w.heap.size+1:=by rw [← hw1,World.size_alloc]
 go_enter Tryz.func57,Tryz.ntmps57
 go_upto_region 1 with fail;have X1:=X0.alloc (.cells #[iI 0,iI 0,iI 0,iI 0,iI 0,iI 0,iI 0,iI 0,iI 0,iI 0,iI 0,nN,nN,nN,nN,iI 0,iI 0,nN,nN] 41);have Y1:=Blk.new w1 41 #[iI 0,iI 0,iI 0,iI 0,iI 0,iI 0,iI 0,iI 0,iI 0,iI 0,iI 0,nN,nN,nN,nN,iI 0,iI 0,nN,nN];have P1:=P0.alloc P0.size (.cells #[iI 0,iI 0,iI 0,iI 0,iI 0,iI 0,iI 0,iI 0,iI 0,iI 0,iI 0,nN,nN,nN,nN,iI 0,iI 0,nN,nN] 41);rw [hs1] at Y1;clear X0 P0 hw1 hs1;generalize w1.alloc (.cells #[iI 0,iI 0,iI 0,iI 0,iI 0,iI 0,iI 0,iI 0,iI 0,iI 0,iI 0,nN,nN,nN,nN,iI 0,iI 0,nN,nN] 41)=w2 at *;go_wp2_with fail;refine (around_any how 14 _ hhow.1 hhow.2 (by omega) (by omega)).mono ?_
 rintro r w' ⟨rfl,rfl⟩;have k0:=arN_nonneg how 14 (by omega)
 have k1:=arN_lt how 14 (by omega)
 generalize arN how 14=k at *;clear hhow;obtain rfl | rfl | rfl | rfl | rfl | rfl | rfl | rfl | rfl | rfl | rfl | rfl | rfl | rfl:k=0∨k=1∨k=2∨k=3∨k=4∨k=5∨k=6∨k=7∨k=8∨k=9∨k=10∨k=11∨k=12∨k=13:=by omega
 ·clear k0 k1
  have c0:=X1.cell 0;have f0:=X1.frozen 0;go_upto_region 29 with fail;have X3:=(X1.set 0 (.int .i64 by_));have Y3:=(Y1.far (p:=⟨w.heap.size,0,none⟩) (Nat.succ_ne_self _) (.int .i64 by_));have P3:=(P1.setCell (p:=⟨w.heap.size,0,none⟩) (Nat.le_refl _) (.int .i64 by_));simp only [pB,pZ] at X3;clear c0 f0 X1 Y1 P1;generalize (w2.setCell ⟨w.heap.size,0,none⟩ (.int .i64 by_))=w3 at *;go_wp2_with (first | (refine wpList_loadA X3 rfl _ rfl rfl rfl ?_) | (refine wpList_storeA Y3 rfl _ _ rfl rfl rfl _ rfl rfl (by kernel_rfl) ?_;intro wz Yz gz))
  have Pz:=P3.grown gz P3.size (fun k e=>by injection e with e;omega)
  obtain ⟨r1,r2,r3⟩:=HAT.out _ Pz;exact bodyPost_ret (results_A rfl _ rfl Yz rfl) rfl ⟨spoR_mk ⟨by_,day,known,file,office,party,other,number,amount,sn,sd,d,c,nl,e,fo,fn⟩ ⟨HOK.out.some,HOK.out.dlen,HOK.out.clen,HOK.out.elen,HOK.out.file,HOK.out.earl,HOK.out.text⟩ (Nat.le_trans HM.out (by omega)) ⟨_,_,_,_,rfl,r1,r2,HLV.out,r3⟩ rfl (by kernel_rfl),Pz⟩
 ·clear k0 k1
  have c1:=X1.cell 1;have f1:=X1.frozen 1;go_upto_region 29 with fail;have X3:=(X1.set 1 (.int .i64 by_));have Y3:=(Y1.far (p:=⟨w.heap.size,1,none⟩) (Nat.succ_ne_self _) (.int .i64 by_));have P3:=(P1.setCell (p:=⟨w.heap.size,1,none⟩) (Nat.le_refl _) (.int .i64 by_));simp only [pB,pZ,pC] at X3;clear c1 f1 X1 Y1 P1;generalize (w2.setCell ⟨w.heap.size,1,none⟩ (.int .i64 by_))=w3 at *;go_wp2_with (first | (refine wpList_loadA X3 rfl _ rfl rfl rfl ?_) | (refine wpList_storeA Y3 rfl _ _ rfl rfl rfl _ rfl rfl (by kernel_rfl) ?_;intro wz Yz gz))
  have Pz:=P3.grown gz P3.size (fun k e=>by injection e with e;omega)
  obtain ⟨r1,r2,r3⟩:=HAT.out _ Pz;exact bodyPost_ret (results_A rfl _ rfl Yz rfl) rfl ⟨spoR_mk ⟨kn,by_,known,file,office,party,other,number,amount,sn,sd,d,c,nl,e,fo,fn⟩ ⟨HOK.out.some,HOK.out.dlen,HOK.out.clen,HOK.out.elen,HOK.out.file,HOK.out.earl,HOK.out.text⟩ (Nat.le_trans HM.out (by omega)) ⟨_,_,_,_,rfl,r1,r2,HLV.out,r3⟩ rfl (by kernel_rfl),Pz⟩
 ·clear k0 k1
  have c2:=X1.cell 2;have f2:=X1.frozen 2;go_upto_region 29 with fail;have X3:=(X1.set 2 (.int .i64 by_));have Y3:=(Y1.far (p:=⟨w.heap.size,2,none⟩) (Nat.succ_ne_self _) (.int .i64 by_));have P3:=(P1.setCell (p:=⟨w.heap.size,2,none⟩) (Nat.le_refl _) (.int .i64 by_));simp only [pB,pZ,pC] at X3;clear c2 f2 X1 Y1 P1;generalize (w2.setCell ⟨w.heap.size,2,none⟩ (.int .i64 by_))=w3 at *;go_wp2_with (first | (refine wpList_loadA X3 rfl _ rfl rfl rfl ?_) | (refine wpList_storeA Y3 rfl _ _ rfl rfl rfl _ rfl rfl (by kernel_rfl) ?_;intro wz Yz gz))
  have Pz:=P3.grown gz P3.size (fun k e=>by injection e with e;omega)
  obtain ⟨r1,r2,r3⟩:=HAT.out _ Pz;exact bodyPost_ret (results_A rfl _ rfl Yz rfl) rfl ⟨spoR_mk ⟨kn,day,by_,file,office,party,other,number,amount,sn,sd,d,c,nl,e,fo,fn⟩ ⟨HOK.out.some,HOK.out.dlen,HOK.out.clen,HOK.out.elen,HOK.out.file,HOK.out.earl,HOK.out.text⟩ (Nat.le_trans HM.out (by omega)) ⟨_,_,_,_,rfl,r1,r2,HLV.out,r3⟩ rfl (by kernel_rfl),Pz⟩
 ·clear k0 k1
  have c3:=X1.cell 3;have f3:=X1.frozen 3;go_upto_region 29 with fail;have X3:=(X1.set 3 (.int .i64 by_));have Y3:=(Y1.far (p:=⟨w.heap.size,3,none⟩) (Nat.succ_ne_self _) (.int .i64 by_));have P3:=(P1.setCell (p:=⟨w.heap.size,3,none⟩) (Nat.le_refl _) (.int .i64 by_));simp only [pB,pZ,pC] at X3;clear c3 f3 X1 Y1 P1;generalize (w2.setCell ⟨w.heap.size,3,none⟩ (.int .i64 by_))=w3 at *;go_wp2_with (first | (refine wpList_loadA X3 rfl _ rfl rfl rfl ?_) | (refine wpList_storeA Y3 rfl _ _ rfl rfl rfl _ rfl rfl (by kernel_rfl) ?_;intro wz Yz gz))
  have Pz:=P3.grown gz P3.size (fun k e=>by injection e with e;omega)
  obtain ⟨r1,r2,r3⟩:=HAT.out _ Pz;exact bodyPost_ret (results_A rfl _ rfl Yz rfl) rfl ⟨spoR_mk ⟨kn,day,known,by_,office,party,other,number,amount,sn,sd,d,c,nl,e,fo,fn⟩ ⟨HOK.out.some,HOK.out.dlen,HOK.out.clen,HOK.out.elen,HBY.out,HOK.out.earl,HOK.out.text⟩ (Nat.le_trans HM.out (by omega)) ⟨_,_,_,_,rfl,r1,r2,HLV.out,r3⟩ rfl (by kernel_rfl),Pz⟩
 ·clear k0 k1
  have c4:=X1.cell 4;have f4:=X1.frozen 4;go_upto_region 29 with fail;have X3:=(X1.set 4 (.int .i64 by_));have Y3:=(Y1.far (p:=⟨w.heap.size,4,none⟩) (Nat.succ_ne_self _) (.int .i64 by_));have P3:=(P1.setCell (p:=⟨w.heap.size,4,none⟩) (Nat.le_refl _) (.int .i64 by_));simp only [pB,pZ,pC] at X3;clear c4 f4 X1 Y1 P1;generalize (w2.setCell ⟨w.heap.size,4,none⟩ (.int .i64 by_))=w3 at *;go_wp2_with (first | (refine wpList_loadA X3 rfl _ rfl rfl rfl ?_) | (refine wpList_storeA Y3 rfl _ _ rfl rfl rfl _ rfl rfl (by kernel_rfl) ?_;intro wz Yz gz))
  have Pz:=P3.grown gz P3.size (fun k e=>by injection e with e;omega)
  obtain ⟨r1,r2,r3⟩:=HAT.out _ Pz;exact bodyPost_ret (results_A rfl _ rfl Yz rfl) rfl ⟨spoR_mk ⟨kn,day,known,file,by_,party,other,number,amount,sn,sd,d,c,nl,e,fo,fn⟩ ⟨HOK.out.some,HOK.out.dlen,HOK.out.clen,HOK.out.elen,HOK.out.file,HOK.out.earl,HOK.out.text⟩ (Nat.le_trans HM.out (by omega)) ⟨_,_,_,_,rfl,r1,r2,HLV.out,r3⟩ rfl (by kernel_rfl),Pz⟩
 ·clear k0 k1
  have c5:=X1.cell 5;have f5:=X1.frozen 5;go_upto_region 29 with fail;have X3:=(X1.set 5 (.int .i64 by_));have Y3:=(Y1.far (p:=⟨w.heap.size,5,none⟩) (Nat.succ_ne_self _) (.int .i64 by_));have P3:=(P1.setCell (p:=⟨w.heap.size,5,none⟩) (Nat.le_refl _) (.int .i64 by_));simp only [pB,pZ,pC] at X3;clear c5 f5 X1 Y1 P1;generalize (w2.setCell ⟨w.heap.size,5,none⟩ (.int .i64 by_))=w3 at *;go_wp2_with (first | (refine wpList_loadA X3 rfl _ rfl rfl rfl ?_) | (refine wpList_storeA Y3 rfl _ _ rfl rfl rfl _ rfl rfl (by kernel_rfl) ?_;intro wz Yz gz))
  have Pz:=P3.grown gz P3.size (fun k e=>by injection e with e;omega)
  obtain ⟨r1,r2,r3⟩:=HAT.out _ Pz;exact bodyPost_ret (results_A rfl _ rfl Yz rfl) rfl ⟨spoR_mk ⟨kn,day,known,file,office,by_,other,number,amount,sn,sd,d,c,nl,e,fo,fn⟩ ⟨HOK.out.some,HOK.out.dlen,HOK.out.clen,HOK.out.elen,HOK.out.file,HOK.out.earl,HOK.out.text⟩ (Nat.le_trans HM.out (by omega)) ⟨_,_,_,_,rfl,r1,r2,HLV.out,r3⟩ rfl (by kernel_rfl),Pz⟩
 ·clear k0 k1
  have c6:=X1.cell 6;have f6:=X1.frozen 6;go_upto_region 29 with fail;have X3:=(X1.set 6 (.int .i64 by_));have Y3:=(Y1.far (p:=⟨w.heap.size,6,none⟩) (Nat.succ_ne_self _) (.int .i64 by_));have P3:=(P1.setCell (p:=⟨w.heap.size,6,none⟩) (Nat.le_refl _) (.int .i64 by_));simp only [pB,pZ,pC] at X3;clear c6 f6 X1 Y1 P1;generalize (w2.setCell ⟨w.heap.size,6,none⟩ (.int .i64 by_))=w3 at *;go_wp2_with (first | (refine wpList_loadA X3 rfl _ rfl rfl rfl ?_) | (refine wpList_storeA Y3 rfl _ _ rfl rfl rfl _ rfl rfl (by kernel_rfl) ?_;intro wz Yz gz))
  have Pz:=P3.grown gz P3.size (fun k e=>by injection e with e;omega)
  obtain ⟨r1,r2,r3⟩:=HAT.out _ Pz;exact bodyPost_ret (results_A rfl _ rfl Yz rfl) rfl ⟨spoR_mk ⟨kn,day,known,file,office,party,by_,number,amount,sn,sd,d,c,nl,e,fo,fn⟩ ⟨HOK.out.some,HOK.out.dlen,HOK.out.clen,HOK.out.elen,HOK.out.file,HOK.out.earl,HOK.out.text⟩ (Nat.le_trans HM.out (by omega)) ⟨_,_,_,_,rfl,r1,r2,HLV.out,r3⟩ rfl (by kernel_rfl),Pz⟩
 ·clear k0 k1
  have c7:=X1.cell 7;have f7:=X1.frozen 7;go_upto_region 29 with fail;have X3:=(X1.set 7 (.int .i64 by_));have Y3:=(Y1.far (p:=⟨w.heap.size,7,none⟩) (Nat.succ_ne_self _) (.int .i64 by_));have P3:=(P1.setCell (p:=⟨w.heap.size,7,none⟩) (Nat.le_refl _) (.int .i64 by_));simp only [pB,pZ,pC] at X3;clear c7 f7 X1 Y1 P1;generalize (w2.setCell ⟨w.heap.size,7,none⟩ (.int .i64 by_))=w3 at *;go_wp2_with (first | (refine wpList_loadA X3 rfl _ rfl rfl rfl ?_) | (refine wpList_storeA Y3 rfl _ _ rfl rfl rfl _ rfl rfl (by kernel_rfl) ?_;intro wz Yz gz))
  have Pz:=P3.grown gz P3.size (fun k e=>by injection e with e;omega)
  obtain ⟨r1,r2,r3⟩:=HAT.out _ Pz;exact bodyPost_ret (results_A rfl _ rfl Yz rfl) rfl ⟨spoR_mk ⟨kn,day,known,file,office,party,other,by_,amount,sn,sd,d,c,nl,e,fo,fn⟩ ⟨HOK.out.some,HOK.out.dlen,HOK.out.clen,HOK.out.elen,HOK.out.file,HOK.out.earl,HOK.out.text⟩ (Nat.le_trans HM.out (by omega)) ⟨_,_,_,_,rfl,r1,r2,HLV.out,r3⟩ rfl (by kernel_rfl),Pz⟩
 ·clear k0 k1
  have c8:=X1.cell 8;have f8:=X1.frozen 8;go_upto_region 29 with fail;have X3:=(X1.set 8 (.int .i64 by_));have Y3:=(Y1.far (p:=⟨w.heap.size,8,none⟩) (Nat.succ_ne_self _) (.int .i64 by_));have P3:=(P1.setCell (p:=⟨w.heap.size,8,none⟩) (Nat.le_refl _) (.int .i64 by_));simp only [pB,pZ,pC] at X3;clear c8 f8 X1 Y1 P1;generalize (w2.setCell ⟨w.heap.size,8,none⟩ (.int .i64 by_))=w3 at *;go_wp2_with (first | (refine wpList_loadA X3 rfl _ rfl rfl rfl ?_) | (refine wpList_storeA Y3 rfl _ _ rfl rfl rfl _ rfl rfl (by kernel_rfl) ?_;intro wz Yz gz))
  have Pz:=P3.grown gz P3.size (fun k e=>by injection e with e;omega)
  obtain ⟨r1,r2,r3⟩:=HAT.out _ Pz;exact bodyPost_ret (results_A rfl _ rfl Yz rfl) rfl ⟨spoR_mk ⟨kn,day,known,file,office,party,other,number,by_,sn,sd,d,c,nl,e,fo,fn⟩ ⟨HOK.out.some,HOK.out.dlen,HOK.out.clen,HOK.out.elen,HOK.out.file,HOK.out.earl,HOK.out.text⟩ (Nat.le_trans HM.out (by omega)) ⟨_,_,_,_,rfl,r1,r2,HLV.out,r3⟩ rfl (by kernel_rfl),Pz⟩
 ·clear k0 k1
  have c9:=X1.cell 9;have f9:=X1.frozen 9;have c10:=X1.cell 10;have f10:=X1.frozen 10;go_upto_region 29 with fail;have X3:=((X1.set 9 (.int .i64 by_)).set 10 (.int .i64 2));have Y3:=((Y1.far (p:=⟨w.heap.size,9,none⟩) (Nat.succ_ne_self _) (.int .i64 by_)).far (p:=⟨w.heap.size,10,none⟩) (Nat.succ_ne_self _) (.int .i64 2));have P3:=((P1.setCell (p:=⟨w.heap.size,9,none⟩) (Nat.le_refl _) (.int .i64 by_)).setCell (p:=⟨w.heap.size,10,none⟩) (Nat.le_refl _) (.int .i64 2));simp only [pB,pZ,pC] at X3;clear c9 f9 c10 f10 X1 Y1 P1;generalize ((w2.setCell ⟨w.heap.size,9,none⟩ (.int .i64 by_)).setCell ⟨w.heap.size,10,none⟩ (.int .i64 2))=w3 at *;go_wp2_with (first | (refine wpList_loadA X3 rfl _ rfl rfl rfl ?_) | (refine wpList_storeA Y3 rfl _ _ rfl rfl rfl _ rfl rfl (by kernel_rfl) ?_;intro wz Yz gz))
  have Pz:=P3.grown gz P3.size (fun k e=>by injection e with e;omega)
  obtain ⟨r1,r2,r3⟩:=HAT.out _ Pz;exact bodyPost_ret (results_A rfl _ rfl Yz rfl) rfl ⟨spoR_mk ⟨kn,day,known,file,office,party,other,number,amount,by_,2,d,c,nl,e,fo,fn⟩ ⟨HOK.out.some,HOK.out.dlen,HOK.out.clen,HOK.out.elen,HOK.out.file,HOK.out.earl,HOK.out.text⟩ (Nat.le_trans HM.out (by omega)) ⟨_,_,_,_,rfl,r1,r2,HLV.out,r3⟩ rfl (by kernel_rfl),Pz⟩
 ·clear k0 k1
  have hlt:w.heap.size<w2.heap.size:=X1.lt;have hY:w.heap.size+1<w2.heap.size:=Y1.lt;have c11:=X1.cell 11;have f11:=X1.frozen 11;have c12:=X1.cell 12;have f12:=X1.frozen 12;go_upto_region 29 with fail;have P2:=((P1.setCell (p:=⟨w.heap.size,11,none⟩) (Nat.le_refl _) (.slice (some ⟨w2.heap.size,0,none⟩) 1 1)).setCell (p:=⟨w.heap.size,12,none⟩) (Nat.le_refl _) (.slice none 0 0));have F3:=Blk.new (((w2.setCell ⟨w.heap.size,11,none⟩ (.slice (some ⟨w2.heap.size,0,none⟩) 1 1)).setCell ⟨w.heap.size,12,none⟩ (.slice none 0 0))) 39 #[.int .i64 by_,.int .i64 0,.slice none 0 0,.slice none 0 0];have hsz:(((w2.setCell ⟨w.heap.size,11,none⟩ (.slice (some ⟨w2.heap.size,0,none⟩) 1 1)).setCell ⟨w.heap.size,12,none⟩ (.slice none 0 0))).heap.size=w2.heap.size:=by simp [World.setCell]
  rw [hsz] at F3;have X3:=(((X1.set 11 (.slice (some ⟨w2.heap.size,0,none⟩) 1 1)).set 12 (.slice none 0 0))).alloc (.cells #[.int .i64 by_,.int .i64 0,.slice none 0 0,.slice none 0 0] 39);have Y3:=(((Y1.far (p:=⟨w.heap.size,11,none⟩) (Nat.succ_ne_self _) (.slice (some ⟨w2.heap.size,0,none⟩) 1 1)).far (p:=⟨w.heap.size,12,none⟩) (Nat.succ_ne_self _) (.slice none 0 0))).alloc (.cells #[.int .i64 by_,.int .i64 0,.slice none 0 0,.slice none 0 0] 39);have P3:=P2.alloc P2.size (.cells #[.int .i64 by_,.int .i64 0,.slice none 0 0,.slice none 0 0] 39);simp only [pB,pZ,pC] at X3;clear c11 f11 c12 f12 X1 Y1 P1 P2 hsz hlt;generalize (((w2.setCell ⟨w.heap.size,11,none⟩ (.slice (some ⟨w2.heap.size,0,none⟩) 1 1)).setCell ⟨w.heap.size,12,none⟩ (.slice none 0 0))).alloc (.cells #[.int .i64 by_,.int .i64 0,.slice none 0 0,.slice none 0 0] 39)=w3 at *;have HLT:=Lib.hid hY;clear hY;go_wp2_with (first | (refine wpList_loadA X3 rfl _ rfl rfl rfl ?_) | (refine wpList_storeA Y3 rfl _ _ rfl rfl rfl _ rfl rfl (by kernel_rfl) ?_;intro wz Yz gz))
  have Pz:=P3.grown gz P3.size (fun k e=>by injection e with e;omega)
  obtain ⟨r1,r2,r3⟩:=HAT.out _ Pz;have rf:=rep_leaf (F3.grown gz (fun e=>by injection e with e;exact absurd e (Nat.ne_of_gt HLT.out))) (fun h=>by have:=HHH.out _ h;have:=HLT.out;omega)
  exact bodyPost_ret (results_A rfl _ rfl Yz rfl) rfl ⟨spoR_mk ⟨kn,day,known,file,office,party,other,number,amount,sn,sd,[leafF by_],[],nl,e,fo,fn⟩ ⟨by simp,by simp,by simp,HOK.out.elen,HOK.out.file,HOK.out.earl,txg_leaf by_⟩ (Nat.le_trans HM.out (by omega)) ⟨_,_,_,_,rfl,rf,.nil 5,HLV.out,r3⟩ rfl (by kernel_rfl),Pz⟩
 ·clear k0 k1
  have hlt:w.heap.size<w2.heap.size:=X1.lt;have c13:=X1.cell 13;have f13:=X1.frozen 13;go_upto_region 29 with fail;have P2:=(P1.setCell (p:=⟨w.heap.size,13,none⟩) (Nat.le_refl _) (.slice (some ⟨w2.heap.size+1,0,none⟩) 1 1));have P2b:=P2.alloc P2.size (.cells #[.int .i64 by_] 3);have X3:=(((X1.set 13 (.slice (some ⟨w2.heap.size+1,0,none⟩) 1 1))).alloc (.cells #[.int .i64 by_] 3)).alloc (.cells #[.slice (some ⟨w2.heap.size,0,none⟩) 1 1,.int .i64 0,.int .i64 0,.slice none 0 0,.slice none 0 0] 169);have Y3:=(((Y1.far (p:=⟨w.heap.size,13,none⟩) (Nat.succ_ne_self _) (.slice (some ⟨w2.heap.size+1,0,none⟩) 1 1))).alloc (.cells #[.int .i64 by_] 3)).alloc (.cells #[.slice (some ⟨w2.heap.size,0,none⟩) 1 1,.int .i64 0,.int .i64 0,.slice none 0 0,.slice none 0 0] 169);have P3:=P2b.alloc P2b.size (.cells #[.slice (some ⟨w2.heap.size,0,none⟩) 1 1,.int .i64 0,.int .i64 0,.slice none 0 0,.slice none 0 0] 169);simp only [pB,pZ,pC] at X3;clear c13 f13 X1 Y1 P1 P2 P2b hlt;generalize (((w2.setCell ⟨w.heap.size,13,none⟩ (.slice (some ⟨w2.heap.size+1,0,none⟩) 1 1))).alloc (.cells #[.int .i64 by_] 3)).alloc (.cells #[.slice (some ⟨w2.heap.size,0,none⟩) 1 1,.int .i64 0,.int .i64 0,.slice none 0 0,.slice none 0 0] 169)=w3 at *;go_wp2_with (first | (refine wpList_loadA X3 rfl _ rfl rfl rfl ?_) | (refine wpList_storeA Y3 rfl _ _ rfl rfl rfl _ rfl rfl (by kernel_rfl) ?_;intro wz Yz gz))
  have Pz:=P3.grown gz P3.size (fun k e=>by injection e with e;omega)
  obtain ⟨r1,r2,r3⟩:=HAT.out _ Pz;exact bodyPost_ret (results_A rfl _ rfl Yz rfl) rfl ⟨spoR_mk ⟨kn,day,known,file,office,party,other,number,amount,sn,sd,d,c,1,e,fo,fn⟩ ⟨HOK.out.some,HOK.out.dlen,HOK.out.clen,HOK.out.elen,HOK.out.file,HOK.out.earl,HOK.out.text⟩ (Nat.le_trans HM.out (by omega)) ⟨_,_,_,_,rfl,r1,r2,.inr ⟨_,_,rfl,Nat.zero_lt_one⟩,r3⟩ rfl (by kernel_rfl),Pz⟩
 ·clear k0 k1
  have hlt:w.heap.size<w2.heap.size:=X1.lt;have hY:w.heap.size+1<w2.heap.size:=Y1.lt;have XA:=X1.alloc (.cells #[] 106);have YA:=Y1.alloc (.cells #[] 106);have PA:=P1.alloc P1.size (.cells #[] 106);have OA:=World.ownsRow_made w2 #[] 0 (base:=w2.heap.size) (e:=106) (size:=2) (Nat.le_refl _) (Nat.zero_le _) rfl;have SA:=HSRC.out _ PA;have hc14:=X1.cell 14;have hne:e.length≤8:=HOK.out.elen;go_upto_region 29 with (at_builtin;first | (refine wpList_appP Tryz.underlying36 Tryz.info106 rfl (by omega) (by omega) OA SA (prV_one e) (by omega) (by omega) (by simp) rfl _ _ rfl rfl rfl ?_;intro v4 w4 O4 g4 l4;rw [Nat.zero_add,List.nil_append] at O4;obtain ⟨A4,q4,rfl⟩:=own_slice O4;have X4:=(XA.grown g4 (fun e=>by injection e with e;have e:w.heap.size=w2.heap.size:=e;omega)).alloc (.cells #[.int .i64 by_,.int .i64 5,.int .i64 4095,.int .i64 by_] 106);have Y4:=(YA.grown g4 (fun e=>by injection e with e;have e:w.heap.size+1=w2.heap.size:=e;omega)).alloc (.cells #[.int .i64 by_,.int .i64 5,.int .i64 4095,.int .i64 by_] 106);have P4a:=PA.grown g4 PA.size (fun k e=>by injection e with e;have e:w2.heap.size=k:=e;omega);have P4:=P4a.alloc P4a.size (.cells #[.int .i64 by_,.int .i64 5,.int .i64 4095,.int .i64 by_] 106);have gs4:=g4.size;rw [World.size_alloc] at gs4;have gs5:w2.heap.size≤(w4.alloc (.cells #[.int .i64 by_,.int .i64 5,.int .i64 4095,.int .i64 by_] 106)).heap.size:=(by rw [World.size_alloc];omega);have O5:=O4.alloc (.cells #[.int .i64 by_,.int .i64 5,.int .i64 4095,.int .i64 by_] 106);have S5:=SrcP.of_new (m:=2) (c:=2) (size:=2) (Blk.new w4 106 #[.int .i64 by_,.int .i64 5,.int .i64 4095,.int .i64 by_]) rfl) | (refine wpList_appP Tryz.underlying36 Tryz.info106 rfl (by omega) (by omega) O5 S5 (by simp [Value.oneCell']) (by omega) (by omega) gs5 rfl _ _ rfl rfl rfl ?_;intro v6 w6 O6 g6 l6;obtain ⟨A6,q6,rfl⟩:=own_slice O6;have X6:=X4.grown g6 (fun e=>by have:=(O5.lt _ e.symm).1;omega);have Y6:=Y4.grown g6 (fun e=>by have:=(O5.lt _ e.symm).1;omega);have P6:=P4.grown g6 P4.size (fun k e=>by have:=(O5.lt _ e).1;omega);have c14:=X6.cell 14;have f14:=X6.frozen 14))
  have O7:=O6.kept (grown_set w6 w.heap.size 14 (.slice A6 (e.length+2) q6)) (.inr (fun e=>by have:=(O6.lt _ e).1;omega))
  have X3:=(X6.set 14 (.slice A6 (e.length+2) q6));have Y3:=(Y6.far (p:=⟨w.heap.size,14,none⟩) (Nat.succ_ne_self _) (.slice A6 (e.length+2) q6));have P3:=(P6.setCell (p:=⟨w.heap.size,14,none⟩) (Nat.le_refl _) (.slice A6 (e.length+2) q6));simp only [pB,pZ,pC] at X3;clear c14 f14 X1 Y1 P1 XA YA PA OA SA hc14 X4 Y4 P4 P4a O4 O5 S5 gs4 gs5 g4 g6 l4 l6 X6 Y6 P6 O6;generalize (w6.setCell ⟨w.heap.size,14,none⟩ (.slice A6 (e.length+2) q6))=w3 at *;go_wp2_with (first | (refine wpList_loadA X3 rfl _ rfl rfl rfl ?_) | (refine wpList_storeA Y3 rfl _ _ rfl rfl rfl _ rfl rfl (by kernel_rfl) ?_;intro wz Yz gz))
  have Pz:=P3.grown gz P3.size (fun k e=>by injection e with e;omega)
  obtain ⟨r1,r2,r3⟩:=HAT.out _ Pz;have Oz:=O7.kept gz (.inr (fun e=>by have:=(O7.lt _ e).1;omega))
  have rE:RepM [] H wz (.slice A6 (e.length+2) q6) (.s 2 (prD (e++[(by_,5),(4095,by_)]))):=by
   rw [prD_val,show prV (e++[(by_,5),(4095,by_)])=prV e++[.int .i64 by_,.int .i64 5,.int .i64 4095,.int .i64 by_] by unfold prV;rw [List.flatMap_append];rfl]
   exact OwnM.rep (ts:=[]) (ts':=[]) ⟨_,_,Oz,RepL.of_plain _ _ _⟩ (fun _ h=>h) (by simp) (fun i hi=>by have:=HHH.out i hi;omega)
  exact bodyPost_ret (results_A rfl _ rfl Yz rfl) rfl ⟨spoR_mk ⟨kn,day,known,file,office,party,other,number,amount,sn,sd,d,c,nl,(e++[(by_,5),(4095,by_)]),fo,fn⟩ ⟨HOK.out.some,HOK.out.dlen,HOK.out.clen,by have:=HM.out;have:=HM6.out;simp;omega,HOK.out.file,(fun p hp=>by rcases List.mem_append.1 hp with hp | hp;exact HOK.out.earl p hp;simp at hp;rcases hp with rfl | rfl;exact HBY.out;exact (⟨by decide,by decide⟩:I64 4095)),HOK.out.text⟩ (by have:=HM.out;simp;omega) ⟨_,_,_,_,rfl,r1,r2,HLV.out,rE⟩ rfl (by kernel_rfl),Pz⟩
 ·clear k0 k1
  have c15:=X1.cell 15;have f15:=X1.frozen 15;have c16:=X1.cell 16;have f16:=X1.frozen 16;have c17:=X1.cell 17;have f17:=X1.frozen 17;have c18:=X1.cell 18;have f18:=X1.frozen 18;go_upto_region 29 with fail;have X3:=((((X1.set 15 (.int .i64 by_)).set 16 (.int .i64 1)).set 17 (.slice none 0 0)).set 18 (.slice none 0 0));have Y3:=((((Y1.far (p:=⟨w.heap.size,15,none⟩) (Nat.succ_ne_self _) (.int .i64 by_)).far (p:=⟨w.heap.size,16,none⟩) (Nat.succ_ne_self _) (.int .i64 1)).far (p:=⟨w.heap.size,17,none⟩) (Nat.succ_ne_self _) (.slice none 0 0)).far (p:=⟨w.heap.size,18,none⟩) (Nat.succ_ne_self _) (.slice none 0 0));have P3:=((((P1.setCell (p:=⟨w.heap.size,15,none⟩) (Nat.le_refl _) (.int .i64 by_)).setCell (p:=⟨w.heap.size,16,none⟩) (Nat.le_refl _) (.int .i64 1)).setCell (p:=⟨w.heap.size,17,none⟩) (Nat.le_refl _) (.slice none 0 0)).setCell (p:=⟨w.heap.size,18,none⟩) (Nat.le_refl _) (.slice none 0 0));simp only [pB,pZ,pC] at X3;clear c15 f15 c16 f16 c17 f17 c18 f18 X1 Y1 P1;generalize ((((w2.setCell ⟨w.heap.size,15,none⟩ (.int .i64 by_)).setCell ⟨w.heap.size,16,none⟩ (.int .i64 1)).setCell ⟨w.heap.size,17,none⟩ (.slice none 0 0)).setCell ⟨w.heap.size,18,none⟩ (.slice none 0 0))=w3 at *;go_wp2_with (first | (refine wpList_loadA X3 rfl _ rfl rfl rfl ?_) | (refine wpList_storeA Y3 rfl _ _ rfl rfl rfl _ rfl rfl (by kernel_rfl) ?_;intro wz Yz gz))
  have Pz:=P3.grown gz P3.size (fun k e=>by injection e with e;omega)
  obtain ⟨r1,r2,r3⟩:=HAT.out _ Pz;exact bodyPost_ret (results_A rfl _ rfl Yz rfl) rfl ⟨spoR_mk ⟨kn,day,known,file,office,party,other,number,amount,sn,sd,d,c,nl,e,by_,1⟩ ⟨HOK.out.some,HOK.out.dlen,HOK.out.clen,HOK.out.elen,HOK.out.file,HOK.out.earl,HOK.out.text⟩ (Nat.le_trans HM.out (by omega)) ⟨_,_,_,_,rfl,r1,r2,HLV.out,r3⟩ rfl (by kernel_rfl),Pz⟩
theorem spoilt_any {H:List Nat} {w:World} {V:Array Value} {x:Ac} (hok:AcOk x) (hA:AcM H w V x) (hH:∀ i∈H,i<w.heap.size) (m:Nat) (hm:x.e.length≤m) (hm6:m≤6) (how by_:Int) (hhow:-9223372036854775808≤how∧how≤9223372036854775807) (hby:I64 by_) :
  Calls Tryz.prog 57 #[.agg V,.int .i64 how,.int .i64 by_] w
   fun r w'=>(∃ V' x',r=.returned (.agg V')∧AcOk x'∧x'.e.length≤m+2∧AcM H w' V' x'∧V'.size=19∧V'.all (·.oneCell')=true)∧Below w.heap.size w w':=by
 obtain ⟨dv,cv,lv,ev,rfl,hd,hc,hl,he⟩:=hA;obtain ⟨Ad,cd,rfl,_,_⟩:=hd.out.formulas;obtain ⟨Ak,cc,rfl,_,_⟩:=hc.out.claims;obtain ⟨Ae,ce,rfl,_,_⟩:=he.out.pairs;obtain ⟨Al,cl,rfl⟩:=hl.slice;obtain ⟨kn,day,known,file,office,party,other,number,amount,sn,sd,d,c,nl,e,fo,fn⟩:=x;exact spoilt_core kn day known file office party other number amount sn sd fo fn d c nl e Ad Ak Al Ae cd cc cl ce hok m hm hm6 how by_ hhow hby H w hH hd hc hl he
def copA (h:Hd) (i:Int) (V:Array Value) (salt:Nat) (p:Value):Array Value:=List.toArray ((h.vals.toList++[Value.int .i64 i])++(V.toList++[Value.int .u64 (salt:Int),p]))
theorem copA_one {h:Hd} {i:Int} {V:Array Value} {salt:Nat} {A:Option Addr} {n c:Nat} (hV:V.all (·.oneCell')=true):(copA h i V salt (.slice A n c)).all (·.oneCell')=true:=by
 refine all_oneCell_toArray (fun v hv=>?_)
 rcases List.mem_append.1 hv with hv | hv
 ·simp only [Hd.vals,List.mem_append,List.mem_cons,List.not_mem_nil,or_false] at hv
  rcases hv with (h | h | h | h | h | h | h | h) | h <;> (subst h;rfl)
 ·rcases List.mem_append.1 hv with hv | hv
  ·exact Array.all_eq_true_iff_forall_mem.1 hV v (by simpa using hv)
  ·simp only [List.mem_cons,List.not_mem_nil,or_false] at hv
   rcases hv with h | h <;> (subst h;rfl)
theorem copA_is {h:Hd} {i:Int} {V:Array Value} {salt:Nat} {p:Value} (hV:V.size=19):CopV (copA h i V salt p) h i V salt p:=by
 have h9:(h.vals.toList++[Value.int .i64 i]).length=9:=rfl;have h19:V.toList.length=19:=by rw [Array.length_toList,hV]
 have get:∀ k,(copA h i V salt p)[k]?=((h.vals.toList++[Value.int .i64 i])++(V.toList++[.int .u64 (salt:Int),p]))[k]?:=fun k=>List.getElem?_toArray
 refine ⟨?_,hV,fun j v hj=>?_,fun j v hj=>?_,?_,?_,?_⟩
 ·unfold copA
  rw [List.size_toArray,List.length_append,h9,List.length_append,h19];rfl
 ·have hlt:j<V.toList.length:=lt_of_some hj
  rw [get,List.getElem?_append_right (by omega),h9,show 9+j - 9=j by omega,List.getElem?_append_left hlt]
  exact hj
 ·have hlt:j<8:=lt_of_some hj
  rw [get,List.getElem?_append_left (by omega),List.getElem?_append_left hlt]
  exact hj
 ·rw [get,List.getElem?_append_left (by omega)]
  rfl
 ·rw [get,List.getElem?_append_right (by omega),List.getElem?_append_right (by omega),h9,h19]
  rfl
 ·rw [get,List.getElem?_append_right (by omega),List.getElem?_append_right (by omega),h9,h19]
  rfl
theorem CopV.eq {C:Array Value} {h:Hd} {i:Int} {V:Array Value} {salt:Nat} {p:Value} (hC:CopV C h i V salt p):C=copA h i V salt p:=by
 have hI:=copA_is (h:=h) (i:=i) (salt:=salt) (p:=p) hC.vs;refine Array.ext_getElem? (fun k=>?_)
 rcases (by omega:k<8∨k=8∨(9≤k∧k<28)∨k=28∨k=29∨30≤k) with hk | rfl | hk | rfl | rfl | hk
 ·obtain ⟨v,hv⟩:∃ v,h.vals.toList[k]?=some v:=⟨_,List.getElem?_eq_getElem hk⟩
  rw [hC.hd k v hv,hI.hd k v hv]
 ·rw [hC.idx,hI.idx]
 ·obtain ⟨j,rfl⟩:∃ j,k=9+j:=⟨k - 9,by omega⟩
  obtain ⟨v,hv⟩:∃ v,V.toList[j]?=some v:=⟨_,List.getElem?_eq_getElem (by rw [Array.length_toList,hC.vs];omega)⟩
  rw [hC.act j v hv,hI.act j v hv]
 ·rw [hC.salt,hI.salt]
 ·rw [hC.path,hI.path]
 ·rw [Array.getElem?_eq_none (by rw [hC.size];exact hk),Array.getElem?_eq_none (by rw [hI.size];exact hk)]
theorem exec_buildT {T:TypeId} (hT:T=51∨T=44) (d:Option Tmp) (ty:TypeId) (pos:String) (after:Array Edge) (gd:Option (Nat × Bool)) (r:Operand→Value) (x0 x1 x2 x3 x4:Operand) (h:Hd) (i:Int) (V:Array Value) (hV:V.size=19) (salt:Nat) (A:Option Addr) (n c:Nat)
  (h0:r x0=.agg h.vals) (h1:r x1=.int .i64 i) (h2:r x2=.agg V) (h3:r x3=.int .u64 (salt:Int)) (h4:r x4=.slice A n c) (w:World) :
  (execOp r ⟨d,.build T #[(0,x0),(1,x1),(2,x2),(3,x3),(4,x4)],ty,pos,after,gd⟩).run Tryz.prog w=.ok (.value (.agg (copA h i V salt (.slice A n c)))) w:=by
 obtain ⟨v0,v1,v2,v3,v4,v5,v6,v7,v8,v9,v10,v11,v12,v13,v14,v15,v16,v17,v18,rfl⟩:=arr19 hV;have e:copA h i #[v0,v1,v2,v3,v4,v5,v6,v7,v8,v9,v10,v11,v12,v13,v14,v15,v16,v17,v18] salt (.slice A n c)=#[iI h.office,iI h.tick,iI h.day,iI h.size,uI (h.log:Int),uI (h.map:Int),iI h.sld,uI (h.sign:Int),iI i,v0,v1,v2,v3,v4,v5,v6,v7,v8,v9,v10,v11,v12,v13,v14,v15,v16,v17,v18,uI (salt:Int),.slice A n c]:=rfl;rw [e];unfold Hd.vals at h0;rcases hT with rfl | rfl
 ·simp only [execOp]
  go_simp
 ·simp only [execOp]
  go_simp
theorem yieldsVH {T:TypeId} {C:Array Value} {h:Hd} {i:Int} {V:Array Value} {salt:Nat} {p:Value} (hC:CopV C h i V salt p) {HT:TypeId} {S:World→Prop} {ops:Array Oper} {g:Nat} {o:Oper} {a:Act} {d:TypeDesc} (x:Operand) (ho:o.op=.load HT x) (hx:a.eval x=.pointer (some ⟨g,0,none⟩)) (hS:∀ W,S W→Blk W g T C) (hu:Tryz.prog.underlying HT=some d) (hd:d.isRow=true) (hi:(Tryz.prog.info? HT).map (·.size)=some 8) (hw:Region.wanted o (yielded ops a.tmps)=true):YieldsIf Tryz.prog ops S o (.agg h.vals) a:=by
 have h:=yieldsIf_load_mid (P:=Tryz.prog) (ops:=ops) (S:=S) hw HT x ho g 0 hx h.vals.toList d (fun w h=>hC.hrange (hS w h)) hu hd hi
 rwa [Array.toArray_toList] at h
theorem yieldsVA {T:TypeId} {C:Array Value} {h:Hd} {i:Int} {V:Array Value} {salt:Nat} {p:Value} (hC:CopV C h i V salt p) {S:World→Prop} {ops:Array Oper} {g:Nat} {o:Oper} {a:Act} (x:Operand) (ho:o.op=.load 41 x) (hx:a.eval x=.pointer (some ⟨g,9,none⟩)) (hS:∀ W,S W→Blk W g T C) (hw:Region.wanted o (yielded ops a.tmps)=true):YieldsIf Tryz.prog ops S o (.agg V) a:=by
 have h:=yieldsIf_load_mid (P:=Tryz.prog) (ops:=ops) (S:=S) hw 41 x ho g 9 hx V.toList _ (fun w h=>hC.range (hS w h)) Tryz.underlying41 rfl (by rw [Array.length_toList,hC.vs];kernel_rfl)
 rwa [Array.toArray_toList] at h
theorem real_V {C:Array Value} {h:Hd} {i:Int} {V:Array Value} {salt:Nat} {A:Option Addr} {n c:Nat} (hC:CopV C h i V salt (.slice A n c)) (hC1:C.all (·.oneCell')=true) (w:World) :
  Calls Tryz.prog 14 #[.agg C] w fun e w'=>e=.returned (.agg C)∧Below w.heap.size w w':=by
 have HO:=Lib.hid (fun W=>own_any h W)
 have hvs:=hC.vs;have HCE:=Lib.hid hC.eq;have X0:=(Blk.new w 44 C).alloc (.cells zeroC 51);have Y0:=Blk.new (w.alloc (.cells C 44)) 51 zeroC;rw [World.size_alloc] at Y0;have P0:=(below_new w (.cells C 44)).alloc (by simp) (.cells zeroC 51)
 unfold zeroC at X0 Y0 P0;have hcs:=hC.size;go_enter Tryz.func14,Tryz.ntmps14
 go_upto_region 1 with fail;generalize (w.alloc (.cells C 44)).alloc (.cells #[iI 0,iI 0,iI 0,iI 0,uI 0,uI 0,iI 0,uI 0,iI 0,iI 0,iI 0,iI 0,iI 0,iI 0,iI 0,iI 0,iI 0,iI 0,iI 0,iI 0,nN,nN,nN,nN,iI 0,iI 0,nN,nN,uI 0,nN] 51)=w1 at *;refine wp_region_held_drew (S:=(fun W=>Blk W w.heap.size 44 C∧(∃ cs,Blk W (w.heap.size+1) 51 cs∧cs.size=30)∧Below w.heap.size w W)) (by kernel_rfl) ?_ (fun hHeld=>?_)
 ·first | done | ((try dsimp only);exact ⟨X0,⟨_,Y0,rfl⟩,P0.drew⟩)
 clear X0 Y0 P0;generalize w1.drew=wb at *;refine tq 0 3 rfl ?_
 refine ty 1 4 rfl (yieldsVH hC _ rfl rfl (fun _ h=>h.1) Tryz.underlying29 rfl (by kernel_rfl) rfl) ?_
 refine tq 3 6 rfl ?_
 refine th 4 7 rfl (fun _ hSw=>hSw.1.cellAt _ _ hC.idx) ?_
 refine tq 5 8 rfl ?_
 refine ty 6 9 rfl (yieldsVA hC _ rfl rfl (fun _ h=>h.1) rfl) ?_
 refine tq 7 10 rfl ?_
 refine th 8 11 rfl (fun _ hSw=>hSw.1.cellAt _ _ hC.salt) ?_
 refine tq 9 12 rfl ?_
 refine th 10 13 rfl (fun _ hSw=>hSw.1.cellAt _ _ hC.path) ?_
 refine rd 2 (some 5) rfl fun K hK=>?_
 go_simp
 (refine (HO.out _).mono ?_;rintro e w2 ⟨rfl,hb2⟩)
 refine hK.out _ _ ?_ (fun hHeld=>?_)
 ·first | done | ((try dsimp only);exact ⟨hHeld.1.keep hb2,(by obtain ⟨cs,k1,k2⟩:=hHeld.2.1;exact ⟨cs,k1.keep hb2,k2⟩),below_up hHeld.2.2 hb2 hHeld.2.2.size⟩)
 clear hK K;(try simp only [pS,pB,pZ,pC]);refine tq 11 14 rfl ?_ (hy:=by intro w' hSw;(try dsimp only at hSw);refine exec_buildT (.inl rfl) _ _ _ _ _ _ (.tmp 5) (.tmp 7) (.tmp 9) (.tmp 11) (.tmp 13) h i V hvs salt A n c ?_ ?_ ?_ ?_ ?_ _ <;> rfl;try (with_reducible rfl))
 have ⟨K1,⟨zs,K2,K3⟩,K4⟩:=hHeld;refine rd 12 none rfl fun K hK=>?_
 rw [if_pos (by rfl)]
 refine wp_storeW (T:=51) (n:=30) (by kernel_rfl) K2 K3 _ _ rfl rfl _ rfl (copA_is hvs).size (by rw [← HCE.out];exact hC1) (fun w3 K5 gs=>?_)
 have K6:Below w.heap.size w w3:=K4.grown gs K4.size (fun k e=>by injection e with e;omega)
 refine hK.out _ _ ?_ (fun hHeld=>?_)
 ·exact ⟨K1.grown gs (fun e=>by injection e with e;omega),⟨_,K5,(copA_is hvs).size⟩,K6⟩
 clear hK K;refine dn ?_
 rw [← HCE.out] at K5;go_wp2_with fail;exact bodyPost_ret (results_C rfl _ rfl K5 hcs) rfl ⟨rfl,K6⟩
theorem cmake_all {h:Hd} {i:Int} {V:Array Value} {salt:Nat} {ps:List Nat} (hV:V.size=19) (hV1:V.all (·.oneCell')=true) {a:Option Fil} (w:World) (hA:ActS w V a) (hp:ps.length≤100) (hpw:Words ps) (hsalt:salt<18446744073709551616) (hG:w.cell? ⟨0,0,none⟩=some (.int .i64 655)) (h0:0<w.heap.size)
  (base:Nat) (Ap:Option Addr) (cp:Nat) (hpv:w.ownsRow base 27 1 (.slice Ap ps.length cp) ps.length (us ps)) :
  Calls Tryz.prog 17 #[.agg h.vals,.int .i64 i,.agg V,.int .u64 (salt:Int),.slice Ap ps.length cp] w fun e w'=>(∃ Cr,e=.returned (.tuple #[.agg Cr,.int .i64 (mkE h salt i ps a)])∧(Cr.size=30∧Cr.all (·.oneCell')=true)∧(mkE h salt i ps a=0→∃ A c,CopV Cr h i V salt (.slice A ps.length c)∧Cr.all (·.oneCell')=true∧ps.length≤c∧w'.ownsRow w.heap.size 27 1 (.slice A ps.length c) ps.length (us ps)))∧Below w.heap.size w w':=by
 have hK:∀ W,Below w.heap.size w W→W.cell? ⟨0,0,none⟩=some (.int .i64 655)∧0<W.heap.size:=fun W hW=>⟨(hW.cell (p:=⟨0,0,none⟩) h0).trans hG,Nat.lt_of_lt_of_le h0 hW.size⟩
 refine (make_full (fun A c=>copA h i V salt (.slice A ps.length c)) h.vals V i salt ps rfl hV (by omega) (fun A c=>(copA_is hV).size) (fun A c=>copA_one hV1) (actE h a) (logY h salt i ps a)
  (Lib.hid (fun d ty pos after gd r x0 x1 x2 x3 x4 A c h0 h1 h2 h3 h4 w=>exec_buildT (.inl rfl) d ty pos after gd r x0 x1 x2 x3 x4 h i V hV salt A ps.length c h0 h1 h2 h3 h4 w)) base Ap cp w
  (Lib.hid (fun W hW=>hpv.kept (grown_of_below (row:=none) hW) (by
   cases hv:(Value.slice Ap ps.length cp).ownBlock with
   | none=>exact .inl rfl
   | some b=>exact .inr (fun e=>by cases e))))
  (Lib.hid (fun A c W hW=>cfiling_all (copA_is hV) W (hA.keep hW) (hK W hW).1 (hK W hW).2))
  (Lib.hid (fun hz A c W hW hR hc=>clogY (copA_is hV) W (hA.keep hW) hp hc hpw hsalt (hK W hW).1 (hK W hW).2 hR hz))).mono ?_
 rintro e w' ⟨⟨Cr,rfl,hcr,hm⟩,hb⟩;refine ⟨⟨Cr,rfl,hcr,fun hz=>?_⟩,hb⟩
 obtain ⟨A,c,rfl,ho⟩:=hm hz;exact ⟨A,c,copA_is hV,copA_one hV1,own_capV ho,ho⟩
end Go.Proofs.YtbeaijjaecaidaaGreatDoor
