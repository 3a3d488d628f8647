/- The law CopiesChecks, walked. Written by mkchkw.py. -/
import Derived.Test.YtbeaijjaecaidaaGreatDoorM24
import Derived.Test.YtbeaijjaecaidaaGreatDoorM19
import Derived.Test.YtbeaijjaecaidaaGreatDoorM01
set_option maxRecDepth 100000
set_option maxHeartbeats 16000000
namespace Go.Proofs.YtbeaijjaecaidaaGreatDoor
open Go.RowKit Go.Shelf
attribute [local go_sem] Oper.semAt_some
theorem exec_row4 (d:Option Tmp) (ty:TypeId) (pos:String) (after:Array Edge) (gd:Option (Nat × Bool)) (r:Operand→Value) (x0 x1 x2 x3:Operand) (C0 C1 C2 C3:Array Value) (s0:C0.size=30) (s1:C1.size=30) (s2:C2.size=30) (s3:C3.size=30) (h0:r x0=.agg C0) (h1:r x1=.agg C1) (h2:r x2=.agg C2) (h3:r x3=.agg C3) (w:World) :
  (execOp r ⟨d,.buildSlice 53 4 #[(0,x0),(1,x1),(2,x2),(3,x3)],ty,pos,after,gd⟩).run Tryz.prog w=.ok (.value (.slice (some ⟨w.heap.size,0,none⟩) 4 4)) (w.alloc (.cells ([C0,C1,C2,C3].flatMap Array.toList).toArray 44)):=by
 obtain ⟨a0,a1,a2,a3,a4,a5,a6,a7,a8,a9,a10,a11,a12,a13,a14,a15,a16,a17,a18,a19,a20,a21,a22,a23,a24,a25,a26,a27,a28,a29,rfl⟩:=arr30 s0;obtain ⟨b0,b1,b2,b3,b4,b5,b6,b7,b8,b9,b10,b11,b12,b13,b14,b15,b16,b17,b18,b19,b20,b21,b22,b23,b24,b25,b26,b27,b28,b29,rfl⟩:=arr30 s1;obtain ⟨c0,c1,c2,c3,c4,c5,c6,c7,c8,c9,c10,c11,c12,c13,c14,c15,c16,c17,c18,c19,c20,c21,c22,c23,c24,c25,c26,c27,c28,c29,rfl⟩:=arr30 s2;obtain ⟨d0,d1,d2,d3,d4,d5,d6,d7,d8,d9,d10,d11,d12,d13,d14,d15,d16,d17,d18,d19,d20,d21,d22,d23,d24,d25,d26,d27,d28,d29,rfl⟩:=arr30 s3;simp only [execOp];go_simp
theorem wp_row4 {o:Oper} {a:Act} {w:World} {K:Act→World→Prop} {Q:Exit→Act→World→Prop} (x0 x1 x2 x3:Operand) (ho:o.op=.buildSlice 53 4 #[(0,x0),(1,x1),(2,x2),(3,x3)]) (C0 C1 C2 C3:Array Value) (s0:C0.size=30) (s1:C1.size=30) (s2:C2.size=30) (s3:C3.size=30) (h0:a.eval x0=.agg C0) (h1:a.eval x1=.agg C1) (h2:a.eval x2=.agg C2) (h3:a.eval x3=.agg C3)
  (hK:K (a.put o.dst (.slice (some ⟨w.heap.size,0,none⟩) 4 4)) (w.alloc (.cells ([C0,C1,C2,C3].flatMap Array.toList).toArray 44))):o.wp Tryz.prog a w K Q:=by
 obtain ⟨d,op,ty,pos,after,gd⟩:=o;obtain rfl:op=_:=ho;unfold Oper.wp;rw [exec_row4 d ty pos after gd a.eval x0 x1 x2 x3 C0 C1 C2 C3 s0 s1 s2 s3 h0 h1 h2 h3 w,Oper.upon_value];exact hK
theorem row4_range {W:World} {g:Nat} {L:List (Array Value)} (hb:Blk W g 44 (L.flatMap Array.toList).toArray) (hs:∀ C∈L,C.size=30) {k:Nat} (hk:k<L.length):W.rangeAt g (k * 30) L[k].toList:=fun j u hu=>by
 have hp:=flat_part (l:=L) (f:=fun C:Array Value=>C.toList) (k:=30) (i:=k) (a:=L[k]) (fun C hC=>by rw [Array.length_toList];exact hs C hC) (List.getElem?_eq_getElem hk)
 have hj:j<30:=by have:=lt_of_some hu;rw [Array.length_toList,hs _ (List.getElem_mem hk)] at this;exact this
 have h1:(((L.flatMap fun C=>C.toList).drop (k * 30)).take 30)[j]?=some u:=by rw [hp];exact hu
 rw [List.getElem?_take,if_pos hj,List.getElem?_drop] at h1
 exact hb.cellAt _ _ (by rw [List.getElem?_toArray];exact h1)
theorem yieldsK {T:TypeId} {d:TypeDesc} (hu:Tryz.prog.underlying T=some d) (hd:d.isRow=true) (hi:(Tryz.prog.info? T).map (·.size)=some 30) {C:Array Value} (hs:C.size=30) {S:World→Prop} {ops:Array Oper} {g:Nat} {o:Oper} {a:Act} (x:Operand) (ho:o.op=.load T x) (hx:a.eval x=.pointer (some ⟨g,0,none⟩)) (hS:∀ W,S W→Blk W g T C) (hw:Region.wanted o (yielded ops a.tmps)=true):YieldsIf Tryz.prog ops S o (.agg C) a:=by
 have h:=yieldsIf_load_mid (P:=Tryz.prog) (ops:=ops) (S:=S) hw T x ho g 0 hx C.toList d (fun w h=>blk_range (hS w h)) hu hd (by rw [Array.length_toList,hs];exact hi)
 rwa [Array.toArray_toList] at h
theorem Cy.size {w:World} {C:Array Value} {m k:Nat} (h:Cy w C m k):C.size=30∧C.all (·.oneCell')=true:=by
 obtain ⟨base,h,i,V,x,s,A,c,ps,g⟩:=h;rw [g.cop];exact ⟨(copA_is g.vs).size,copA_one g.one⟩
theorem checks_walk (A:Option Addr) (n c:Nat) (at_ how by_ secret:Int) (w:World) (hT:TabAt w) (hA:IntsAt w A n) (hA2:∀ a,A=some a→a.block<w.heap.size) (hat:-9223372036854775808≤at_∧at_≤9223372036854775807) (hhow:-9223372036854775808≤how∧how≤9223372036854775807) (hby:-9223372036854775808≤by_∧by_≤9223372036854775807) :
  Calls Tryz.prog 4 #[.slice A n c,.int .i64 at_,.int .i64 how,.int .i64 by_,.int .i64 secret] w fun e w'=>e=.returned (.bool true)∧Below w.heap.size w w':=by
 have HLG:=Lib.hid (log_any A n c 1 (by omega) w hA hA2)
 have HT:=Lib.hid hT;clear hA hA2 hT;have HLV:=Lib.hid (fun (W:World) (hW:Below w.heap.size w W)=>lives_any W ((hW.cell (p:=⟨0,0,none⟩) HT.out.2).trans HT.out.zero) (Nat.lt_of_lt_of_le HT.out.2 hW.size))
 obtain ⟨sec,hwS,hsl⟩:∃ z:Nat,IntKind.u64.wrap secret=(z:Int)∧z<18446744073709551616:=⟨u64 secret,wrap_u64' secret,u64_lt secret⟩;obtain ⟨nb,hwb,hnb⟩:∃ z:Nat,IntKind.u64.wrap by_=(z:Int)∧z<18446744073709551616:=⟨u64 by_,wrap_u64' by_,u64_lt by_⟩;have HWS:=Lib.hid hwS;have HSL:=Lib.hid hsl;have HWB:=Lib.hid hwb;have HNB:=Lib.hid hnb;clear hwS hsl hwb hnb;go_enter Tryz.func4,Tryz.ntmps4
 go_wp2_with fail;refine HLG.out.mono ?_
 rintro e w1 ⟨Ao,co,fl,rfl,hco,hlog,hrow,hb1⟩;by_cases hz:fl.length=0
 ·have ez:((fl.length:Int) == 0)=true:=by rw [hz];rfl
  clear hrow;go_wp2_with fail;refine (HLV.out _ hb1).mono ?_
  rintro e w2 ⟨rfl,hb2⟩;have P2:=below_up hb1 hb2 hb1.size;go_wp2_with fail;go_ret;exact ⟨rfl,P2⟩
 ·have ez:((fl.length:Int) == 0)=false:=by rw [beq_eq_false_iff_ne];omega
  have HROW:=Lib.hid hrow;have HLOG:=Lib.hid hlog;have hl14:=hlog.len;clear hrow hlog;go_wp2_with fail;refine (around_any at_ (fl.length:Int) _ hat.1 hat.2 (by omega) (by omega)).mono ?_
  rintro e w2 ⟨rfl,rfl⟩
  obtain ⟨i,hk,hi⟩:∃ k:Nat,arN at_ (fl.length:Int)=(k:Int)∧k<fl.length:=by
   have h1:=arN_nonneg at_ (fl.length:Int) (by omega)
   have h2:=arN_lt at_ (fl.length:Int) (by omega)
   exact ⟨(arN at_ (fl.length:Int)).toNat,by omega,by omega⟩
  rw [hk];clear hk ez hz;obtain ⟨r,hr,hri,hr1⟩:∃ r:Nat,IntKind.i64.wrap ((fl.length:Int) - (i:Int))=(r:Int)∧i+r=fl.length∧1≤r:=⟨fl.length - i,by rw [IntKind.wrap_i64];omega,by omega,by omega⟩
  go_wp2_with fail;refine (around_any by_ (r:Int) _ hby.1 hby.2 (by omega) (by omega)).mono ?_
  rintro e w2 ⟨rfl,rfl⟩
  obtain ⟨b,hk,hbr⟩:∃ k:Nat,arN by_ (r:Int)=(k:Int)∧k<r:=by
   have h1:=arN_nonneg by_ (r:Int) (by omega)
   have h2:=arN_lt by_ (r:Int) (by omega)
   exact ⟨(arN by_ (r:Int)).toNat,by omega,by omega⟩
  rw [hk];clear hk;obtain ⟨sz,hsz,hsz1,hsz2⟩:∃ z:Nat,IntKind.i64.wrap ((i:Int)+1+(b:Int))=(z:Int)∧i<z∧z≤fl.length:=⟨i+1+b,by rw [IntKind.wrap_i64];omega,by omega,by omega⟩
  have hwS:=HWS.out;have hsl:=HSL.out;have HOF:=Lib.hid (of_cy sec hsl fl 1 HLOG.out Ao co hco w1 w1.heap.size (Nat.le_refl _) HROW.out i sz hsz1 hsz2);clear hr hri hr1 hbr hsz1 hsz2 hi hl14 HLOG HROW hco;go_wp2_with fail;refine HOF.out.mono ?_
  rintro e w2 ⟨⟨C,rfl,hC⟩,hb2⟩;have P2:=below_up hb1 hb2 hb1.size;clear HOF hb1 hb2 hsz;have hcs:=hC.size;have Z2:=Blk.new w2 44 #[iI 0,iI 0,iI 0,iI 0,uI 0,uI 0,iI 0,uI 0,iI 0,iI 0,iI 0,iI 0,iI 0,iI 0,iI 0,iI 0,iI 0,iI 0,iI 0,iI 0,nN,nN,nN,nN,iI 0,iI 0,nN,nN,uI 0,nN];go_upto_region 7 with (refine wpList_storeW (T:=44) (n:=30) (by kernel_rfl) Z2 rfl _ _ rfl rfl rfl C rfl hcs.1 hcs.2 ?_;intro w3 X3 g3)
  have Q3:=(below_new w2 (.cells #[iI 0,iI 0,iI 0,iI 0,uI 0,uI 0,iI 0,uI 0,iI 0,iI 0,iI 0,iI 0,iI 0,iI 0,iI 0,iI 0,iI 0,iI 0,iI 0,iI 0,nN,nN,nN,nN,iI 0,iI 0,nN,nN,uI 0,nN] 44)).grown g3 (by simp) (fun k e=>by injection e with e;omega)
  have C3:=hC.keep Q3;have P3:=below_up P2 Q3 P2.size;clear Z2 g3 Q3 hC P2;generalize w2.heap.size=gc at *;go_wp2_with (refine wpList_loadK X3 hcs.1 _ rfl rfl rfl ?_)
  refine (bent37_any C3 (by omega) (by omega) (by omega) how by_ hhow hby).mono ?_
  rintro e w4 ⟨⟨D,rfl,hD⟩,hb4⟩;have C4:=C3.keep hb4;have X4:=X3.keep hb4;have P4:=below_up P3 hb4 P3.size;have hds:=hD.size;have hgc:=X4.lt;clear hb4 C3 X3 P3;have Z4:=Blk.new w4 44 #[iI 0,iI 0,iI 0,iI 0,uI 0,uI 0,iI 0,uI 0,iI 0,iI 0,iI 0,iI 0,iI 0,iI 0,iI 0,iI 0,iI 0,iI 0,iI 0,iI 0,nN,nN,nN,nN,iI 0,iI 0,nN,nN,uI 0,nN];go_upto_region 8 with (refine wpList_storeW (T:=44) (n:=30) (by kernel_rfl) Z4 rfl _ _ rfl rfl rfl D rfl hds.1 hds.2 ?_;intro w5 Y5 g5)
  have Q5:=(below_new w4 (.cells #[iI 0,iI 0,iI 0,iI 0,uI 0,uI 0,iI 0,uI 0,iI 0,iI 0,iI 0,iI 0,iI 0,iI 0,iI 0,iI 0,iI 0,iI 0,iI 0,iI 0,nN,nN,nN,nN,iI 0,iI 0,nN,nN,uI 0,nN] 44)).grown g5 (by simp) (fun k e=>by injection e with e;omega)
  have C5:=C4.keep Q5;have D5:=hD.keep Q5;have X5:=X4.keep Q5;have P5:=below_up P4 Q5 P4.size;clear Z4 g5 Q5 C4 hD X4 P4 hgc;generalize w4.heap.size=gd at *;(try simp only [Act.put]);go_cut [16] (fun v wx=>∃ (g:Nat) (L:List (Array Value)),v=.slice (some ⟨g,0,none⟩) 4 4∧L.length=4∧(∀ E∈L,Cy wx E 6 20)∧Blk wx g 44 (L.flatMap Array.toList).toArray∧Below w.heap.size w wx)
  case first=>as_aux_lemma =>
   refine wp_region_held_drew (S:=(fun V=>Below w5.heap.size w5 V)) (by kernel_rfl) ?_ (fun hHeld=>?_)
   ·first | done | ((try dsimp only);exact (Below.refl _ _).drew)
   have Q6:=(Below.refl w5.heap.size w5).drew;generalize w5.drew=w6 at *;refine ty 0 52 rfl (yieldsK Tryz.underlying44 rfl (by kernel_rfl) hcs.1 _ rfl rfl (fun V h=>X5.keep h) rfl) ?_
   refine ty 1 53 rfl (yieldsK Tryz.underlying44 rfl (by kernel_rfl) hds.1 _ rfl rfl (fun V h=>Y5.keep h) rfl) ?_
   refine ty 2 54 rfl (yieldsK Tryz.underlying44 rfl (by kernel_rfl) hds.1 _ rfl rfl (fun V h=>Y5.keep h) rfl) ?_
   refine tq 3 55 rfl ?_
   refine tq 4 56 rfl ?_
   refine ty 6 58 rfl (yieldsK Tryz.underlying44 rfl (by kernel_rfl) hcs.1 _ rfl rfl (fun V h=>X5.keep h) rfl) ?_
   refine tq 7 59 rfl ?_
   refine tq 8 60 rfl ?_
   refine rd 5 (some 57) rfl fun K hK=>?_
   go_simp
   (refine (bent37_any (D5.keep Q6) (by omega) (by omega) (by omega) by_ how hby hhow).mono ?_;rintro e w7 ⟨⟨E,rfl,hE⟩,hb7⟩)
   refine hK.out _ _ (Q6.trans (hb7.mono Q6.size)) fun hHeld=>?_
   clear hK K;(try simp only [pS,pB,pZ,pC]);have Q7:=Q6.trans (hb7.mono Q6.size);clear hb7;refine rd 9 (some 61) rfl fun K hK=>?_
   go_simp
   (refine (bent37_any (C5.keep Q7) (by omega) (by omega) (by omega) by_ at_ hby hat).mono ?_;rintro e w8 ⟨⟨F,rfl,hF⟩,hb8⟩)
   refine hK.out _ _ (Q7.trans (hb8.mono Q7.size)) fun hHeld=>?_
   clear hK K;(try simp only [pS,pB,pZ,pC]);have Q8:=Q7.trans (hb8.mono Q7.size);have hE8:=hE.keep hb8;clear hb8 hE;refine rd 10 (some 62) rfl fun K hK=>?_
   rw [if_pos (by rfl)]
   refine wp_row4 _ _ _ _ rfl C D E F hcs.1 hds.1 hE8.size.1 hF.size.1 rfl rfl rfl rfl ?_
   refine hK.out _ _ ?_ (fun hHeld=>?_)
   ·exact Q8.alloc Q8.size _
   clear hK K;(try simp only [pS,pB,pZ,pC]);have BL:=Blk.new w8 44 ([C,D,E,F].flatMap Array.toList).toArray;have PL:=below_new w8 (.cells ([C,D,E,F].flatMap Array.toList).toArray 44);have QL:=Q8.trans (PL.mono Q8.size);have H1:=Lib.hid ((C5.keep QL).more (show 2≤6 by omega) (show 18≤20 by omega))
   have H2:=Lib.hid ((D5.keep QL).more (show 2+2≤6 by omega) (show 18+1≤20 by omega))
   have H3:=Lib.hid ((hE8.keep PL).more (show 2+2+2≤6 by omega) (show 18+1+1≤20 by omega))
   have H4:=Lib.hid ((hF.keep PL).more (show 2+2≤6 by omega) (show 18+1≤20 by omega))
   have PX:=below_up P5 QL P5.size;clear C5 D5 X5 Y5 P5 Q8 Q7 Q6 PL hE8 hF hHeld hcs hds;generalize w8.alloc (.cells ([C,D,E,F].flatMap Array.toList).toArray 44)=w9 at *;refine tq 11 16 rfl ?_
   refine dn ?_
   go_wp2_with fail;go_meet;refine ⟨_,[C,D,E,F],rfl,rfl,fun X hX=>?_,BL,PX⟩
   simp only [List.mem_cons,List.not_mem_nil,or_false] at hX;rcases hX with rfl | rfl | rfl | rfl
   ·exact H1.out
   ·exact H2.out
   ·exact H3.out
   ·exact H4.out
  case rest=>as_aux_lemma =>
   obtain ⟨gl,L,rfl,hL,hcy,BL,P9⟩:=hcut;obtain ⟨w9,rfl⟩:∃ z:World,z=wc:=⟨_,rfl⟩;clear C5 D5 X5 Y5 P5 hcs hds;have HCY:=Lib.hid hcy;clear hcy;have hwb:=HWB.out;have hnb:=HNB.out;have hkl:keyN sec<18446744073709551616:=lab_lt _ _;go_wp2_with fail;refine (key_any sec hsl w9).mono ?_
   rintro e w10 ⟨rfl,hb10⟩;have B10:=BL.keep hb10;have P10:=below_up P9 hb10 P9.size;generalize keyN sec=key at *;go_upto_region 10 with fail;have B11:=B10.alloc (.cells #[.int .u64 (key:Int),.int .u64 (nb:Int)] 27);have K11:=Blk.new w10 27 #[.int .u64 (key:Int),.int .u64 (nb:Int)];have Q11:=below_new w10 (.cells #[.int .u64 (key:Int),.int .u64 (nb:Int)] 27);have P11:=below_up P10 Q11 P10.size;have HL:=Lib.hid (fun (E:Array Value) (hE:E∈L)=>((HCY.out E hE).keep hb10).keep Q11)
   clear B10 P10 hb10 Q11 BL P9 HCY hwb hsl hwS;generalize w10.alloc (.cells #[.int .u64 (key:Int),.int .u64 (nb:Int)] 27)=w11 at *;generalize w10.heap.size=gk at *;go_wp2_with fail;go_loopw [18] (fun k wr=>∃ q:Nat,k=.int .i64 (q:Int)∧q≤4∧Below w11.heap.size w11 wr) (fun k _=>4 - (intOf k).toNat)
   case atStart=>exact ⟨0,rfl,by omega,Below.refl _ _⟩
   case round=>as_aux_lemma =>
    obtain ⟨q,rfl,hq,hB⟩:=hrel;by_cases hlt:q<4
    ·have hd:decide (q<4)=true:=decide_eq_true hlt
     have hrg:=row4_range B11 (fun C hC=>(HL.out C hC).size.1) (k:=q) (by omega)
     have hrg':wr.rangeAt gl (q * 30) (L[q]'(by omega)).toList:=fun j u hu=>(hB.cell (p:=⟨gl,q * 30+j,none⟩) B11.lt).trans (hrg j u hu)
     have HE:=Lib.hid ((HL.out (L[q]'(by omega)) (List.getElem_mem _)).keep hB)
     have hcs:=HE.out.size;have HTW:=Lib.hid (HT.out.keep (P11.trans (hB.mono P11.size)) HT.out.2);clear hrg;generalize L[q]'(by omega)=E at *
     have Z1:=Blk.new wr 44 #[iI 0,iI 0,iI 0,iI 0,uI 0,uI 0,iI 0,uI 0,iI 0,iI 0,iI 0,iI 0,iI 0,iI 0,iI 0,iI 0,iI 0,iI 0,iI 0,iI 0,nN,nN,nN,nN,iI 0,iI 0,nN,nN,uI 0,nN];go_upto_region 14 with (first | (refine wpList_load_mid rfl 44 _ rfl gl (q * 30) (by go_simp) E.toList _ hrg' Tryz.underlying44 rfl (by rw [Array.length_toList,hcs.1];kernel_rfl) ?_;rw [Array.toArray_toList]) | (refine wpList_storeW (T:=44) (n:=30) (by kernel_rfl) Z1 rfl _ _ rfl rfl rfl E rfl hcs.1 hcs.2 ?_;intro w12 X12 g12))
     have Q12:=(below_new wr (.cells #[iI 0,iI 0,iI 0,iI 0,uI 0,uI 0,iI 0,uI 0,iI 0,iI 0,iI 0,iI 0,iI 0,iI 0,iI 0,iI 0,iI 0,iI 0,iI 0,iI 0,nN,nN,nN,nN,iI 0,iI 0,nN,nN,uI 0,nN] 44)).grown g12 (by simp) (fun k e=>by injection e with e;omega)
     have hgx:=X12.lt;clear Z1 g12 hrg';have B12:=hB.trans (Q12.mono hB.size);have hT12:=HTW.out.keep Q12 HTW.out.2;have hC12:=HE.out.keep Q12;clear Q12;generalize wr.heap.size=gx at *;obtain ⟨base,h,i2,V,x,s,Ap,cp,ps,hy⟩:=hC12;obtain ⟨rfl,hvs,hv1,hok,hel,hact,hlen,hwds,hrow2,hlg,hmp,hsalt⟩:=hy;obtain ⟨a,hA⟩:=act_split hT12 hok hact;have hpc:=own_capV hrow2;have hru:=own_rowUV hrow2;have HCP:=Lib.hid (copA_is (h:=h) (i:=i2) (salt:=s) (p:=.slice Ap ps.length cp) hvs);have HKZ:=Lib.hid (fun (W:World) (hW:Below w12.heap.size w12 W)=>(⟨(hW.cell (p:=⟨0,0,none⟩) hT12.2).trans hT12.zero,Nat.lt_of_lt_of_le hT12.2 hW.size⟩:W.cell? ⟨0,0,none⟩=some (.int .i64 655)∧0<W.heap.size))
     have HMK:=Lib.hid (fun (W:World) (hW:Below w12.heap.size w12 W)=>cmake_all (h:=h) (i:=i2) (salt:=s) hvs hv1 W (hA.keep hW) (by omega) hwds hsalt (HKZ.out W hW).1 (HKZ.out W hW).2 base Ap cp (own_below hrow2 hW))
     have HRM:=Lib.hid (fun (W:World) (hW:Below w12.heap.size w12 W)=>rmake_all HCP.out W (hA.keep hW) (by omega) hpc hwds hsalt (hru.keep hW))
     have HCK:=Lib.hid (fun (kk:Nat) (hkk:kk<18446744073709551616) (W:World) (hW:Below w12.heap.size w12 W)=>ccheck_all HCP.out W (hA.keep hW) kk hkk hlg hmp (by omega) hpc hwds hsalt (HKZ.out W hW).1 (HKZ.out W hW).2 (hru.keep hW))
     have HRC:=Lib.hid (fun (kk:Nat) (hkk:kk<18446744073709551616) (W:World) (hW:Below w12.heap.size w12 W)=>rcheck_all HCP.out W (hA.keep hW) kk hkk hlg hmp (by omega) hpc hwds hsalt (hru.keep hW))
     have HONE:=Lib.hid (copA_one (h:=h) (i:=i2) (salt:=s) (A:=Ap) (n:=ps.length) (c:=cp) hv1);have HAC:=Lib.hid hA;have HVS:=Lib.hid hvs;have HPS:=Lib.hid hrow2;have HLN:=Lib.hid (show ps.length≤100 by omega)
     have HFL:=Lib.hid (fun (f:Fil) (e:a=some f)=>(by rw [e] at hA;exact hA:ActS w12 V (some f)))
     have HNO:=Lib.hid (fun (e:a=none) (hm:mkE h s i2 ps a=0)=>(by rw [e] at hm;exact absurd (show (1:Int)=0 from hm) (by decide):False))
     have hcs:=HCP.out.size;clear hvs hv1 hok hel hact hlen hwds hrow2 hlg hmp hsalt hA hpc hru hT12 HE HKZ;(try simp only [Act.put]);go_cut [20,21] (fun p e wx=>∃ (g:Nat) (Cr:Array Value),p=.pointer (some ⟨g,0,none⟩)∧e=.int .i64 (mkE h s i2 ps a)∧Blk wx g 51 Cr∧Cr.size=30∧Cr.all (·.oneCell')=true∧(mkE h s i2 ps a=0→∃ A2 c2 b2,CopV Cr h i2 V s (.slice A2 ps.length c2)∧wx.ownsRow b2 27 1 (.slice A2 ps.length c2) ps.length (us ps))∧Below w12.heap.size w12 wx)
     case first=>as_aux_lemma =>
      obtain ⟨fr,hfr⟩:∃ z,z=mkE h s i2 ps a:=⟨_,rfl⟩;rw [← hfr] at HMK;have HFR:=Lib.hid hfr;clear hfr;have HRG:=Lib.hid (fun (W:World) (hW:Below w12.heap.size w12 W)=>HCP.out.hrange (X12.keep hW))
      have hon:=Lib.hid (fun W=>own_any h W)
      refine wp_region_held_drew (S:=(fun V=>Below w12.heap.size w12 V)) (by kernel_rfl) ?_ (fun hHeld=>?_)
      ·first | done | ((try dsimp only);exact (Below.refl _ _).drew)
      have Q13:=(Below.refl w12.heap.size w12).drew;have hge:=Q13.size;generalize w12.drew=w13 at *;refine tq 0 80 rfl ?_
      refine ty 1 81 rfl (yieldsVH HCP.out _ rfl rfl (fun V hV=>X12.keep hV) Tryz.underlying29 rfl (by kernel_rfl) rfl) ?_
      refine tq 3 83 rfl ?_
      refine th 4 84 rfl (fun _ hSw=>(X12.keep hSw).cellAt _ _ HCP.out.idx) ?_
      refine tq 5 85 rfl ?_
      refine ty 6 86 rfl (yieldsVA HCP.out _ rfl rfl (fun V hV=>X12.keep hV) rfl) ?_
      refine tq 7 87 rfl ?_
      refine th 8 88 rfl (fun _ hSw=>(X12.keep hSw).cellAt _ _ HCP.out.salt) ?_
      refine tq 9 89 rfl ?_
      refine th 10 90 rfl (fun _ hSw=>(X12.keep hSw).cellAt _ _ HCP.out.path) ?_
      refine rd2 2 (some 82) 15 (some 20) (by kernel_rfl) rfl rfl (fun K hK=>?_) fun K hK=>?_
      ·skip
       go_simp
       (refine (hon.out _).mono ?_;rintro e w14 ⟨rfl,hb14⟩)
       refine hK.out _ _ (Q13.trans (hb14.mono Q13.size)) fun hHeld=>?_
       clear hK K;(try simp only [pS,pB,pZ,pC]);have Q14:=Q13.trans (hb14.mono Q13.size);clear hb14;refine rd2 11 (some 91) 15 (some 20) (by kernel_rfl) rfl rfl (fun K hK=>?_) fun K hK=>?_
       ·skip
        go_simp
        (refine (HMK.out _ Q14).mono ?_;rintro e w15 ⟨⟨Cr,rfl,hcr,hm2⟩,hb15⟩)
        refine hK.out _ _ (Q14.trans (hb15.mono Q14.size)) fun hHeld=>?_
        clear hK K;(try simp only [pS,pB,pZ,pC]);have Q15:=Q14.trans (hb15.mono Q14.size);have HM2:=Lib.hid hm2;have hgw:=Q14.size;clear hm2;refine tq 12 79 rfl ?_
        refine tq 13 92 rfl ?_
        refine tq 14 93 rfl ?_
        have Y16:=Blk.new w15 51 #[iI 0,iI 0,iI 0,iI 0,uI 0,uI 0,iI 0,uI 0,iI 0,iI 0,iI 0,iI 0,iI 0,iI 0,iI 0,iI 0,iI 0,iI 0,iI 0,iI 0,nN,nN,nN,nN,iI 0,iI 0,nN,nN,uI 0,nN];refine rd 15 (some 20) rfl fun K hK=>?_
        go_simp;skip;refine hK.out _ _ (Q15.alloc Q15.size _) fun hHeld=>?_
        clear hK K;(try simp only [pS,pB,pZ,pC]);have Q16:=Q15.alloc Q15.size (.cells #[iI 0,iI 0,iI 0,iI 0,uI 0,uI 0,iI 0,uI 0,iI 0,iI 0,iI 0,iI 0,iI 0,iI 0,iI 0,iI 0,iI 0,iI 0,iI 0,iI 0,nN,nN,nN,nN,iI 0,iI 0,nN,nN,uI 0,nN] 51);have hg15:=Q15.size;have hb15s:=hb15.size;refine rd 16 none rfl fun K hK=>?_
        rw [if_pos (by rfl)]
        refine wp_storeW (T:=51) (n:=30) (by kernel_rfl) Y16 rfl _ _ rfl rfl Cr rfl hcr.1 hcr.2 (fun w18 Y18 g18=>?_)
        have Q18:=Q16.grown g18 Q16.size (fun k e=>by injection e with e;omega)
        refine hK.out _ _ ?_ (fun hHeld=>?_)
        ·exact Q18
        clear hK K;refine tq 17 21 rfl ?_
        refine dn ?_
        go_wp2_with fail;go_meet;refine ⟨_,Cr,rfl,by rw [HFR.out],Y18,hcr.1,hcr.2,fun hz=>?_,Q18⟩
        obtain ⟨A2,c2,hc2,_,_,ho2⟩:=HM2.out (HFR.out.trans hz);exact ⟨A2,c2,_,hc2,(ho2.alloc (.cells #[iI 0,iI 0,iI 0,iI 0,uI 0,uI 0,iI 0,uI 0,iI 0,iI 0,iI 0,iI 0,iI 0,iI 0,iI 0,iI 0,iI 0,iI 0,iI 0,iI 0,nN,nN,nN,nN,iI 0,iI 0,nN,nN,uI 0,nN] 51)).kept g18 (by cases hv9:(Value.slice A2 ps.length c2).ownBlock with | none=>exact .inl rfl | some b=>exact .inr (fun e=>by injection e with e;have:=(ho2.lt b hv9);omega))⟩
       ·skip
        go_simp;skip;refine hK.out _ _ (Q14.alloc Q14.size _) fun hHeld=>?_
        clear hK K;(try simp only [pS,pB,pZ,pC]);have Q15a:=Q14.alloc Q14.size (.cells #[iI 0,iI 0,iI 0,iI 0,uI 0,uI 0,iI 0,uI 0,iI 0,iI 0,iI 0,iI 0,iI 0,iI 0,iI 0,iI 0,iI 0,iI 0,iI 0,iI 0,nN,nN,nN,nN,iI 0,iI 0,nN,nN,uI 0,nN] 51);have Y15:=Blk.new w14 51 #[iI 0,iI 0,iI 0,iI 0,uI 0,uI 0,iI 0,uI 0,iI 0,iI 0,iI 0,iI 0,iI 0,iI 0,iI 0,iI 0,iI 0,iI 0,iI 0,iI 0,nN,nN,nN,nN,iI 0,iI 0,nN,nN,uI 0,nN];have hwz:(w14.alloc (.cells #[iI 0,iI 0,iI 0,iI 0,uI 0,uI 0,iI 0,uI 0,iI 0,iI 0,iI 0,iI 0,iI 0,iI 0,iI 0,iI 0,iI 0,iI 0,iI 0,iI 0,nN,nN,nN,nN,iI 0,iI 0,nN,nN,uI 0,nN] 51)).heap.size=w14.heap.size+1:=World.size_alloc ..;refine rd 11 (some 91) rfl fun K hK=>?_
        go_simp
        (refine (HMK.out _ Q15a).mono ?_;rintro e w15 ⟨⟨Cr,rfl,hcr,hm2⟩,hb15⟩)
        refine hK.out _ _ (Q15a.trans (hb15.mono Q15a.size)) fun hHeld=>?_
        clear hK K;(try simp only [pS,pB,pZ,pC]);have Q16:=Q15a.trans (hb15.mono Q15a.size);have Y16:=Y15.keep hb15;have HM2:=Lib.hid hm2;have hg15:=Q14.size;have hb15s:=hb15.size;clear hm2;refine tq 12 79 rfl ?_
        refine tq 13 92 rfl ?_
        refine tq 14 93 rfl ?_
        refine rd 16 none rfl fun K hK=>?_
        rw [if_pos (by rfl)]
        refine wp_storeW (T:=51) (n:=30) (by kernel_rfl) Y16 rfl _ _ rfl rfl Cr rfl hcr.1 hcr.2 (fun w18 Y18 g18=>?_)
        have Q18:=Q16.grown g18 Q16.size (fun k e=>by injection e with e;omega)
        refine hK.out _ _ ?_ (fun hHeld=>?_)
        ·exact Q18
        clear hK K;refine tq 17 21 rfl ?_
        refine dn ?_
        go_wp2_with fail;go_meet;refine ⟨_,Cr,rfl,by rw [HFR.out],Y18,hcr.1,hcr.2,fun hz=>?_,Q18⟩
        obtain ⟨A2,c2,hc2,_,_,ho2⟩:=HM2.out (HFR.out.trans hz);exact ⟨A2,c2,_,hc2,ho2.kept g18 (by cases hv9:(Value.slice A2 ps.length c2).ownBlock with | none=>exact .inl rfl | some b=>exact .inr (fun e=>by injection e with e;have:=(ho2.lt b hv9);omega))⟩
      ·skip
       go_simp;skip;refine hK.out _ _ (Q13.alloc Q13.size _) fun hHeld=>?_
       clear hK K;(try simp only [pS,pB,pZ,pC]);have Q14:=Q13.alloc Q13.size (.cells #[iI 0,iI 0,iI 0,iI 0,uI 0,uI 0,iI 0,uI 0,iI 0,iI 0,iI 0,iI 0,iI 0,iI 0,iI 0,iI 0,iI 0,iI 0,iI 0,iI 0,nN,nN,nN,nN,iI 0,iI 0,nN,nN,uI 0,nN] 51);have Y14:=Blk.new w13 51 #[iI 0,iI 0,iI 0,iI 0,uI 0,uI 0,iI 0,uI 0,iI 0,iI 0,iI 0,iI 0,iI 0,iI 0,iI 0,iI 0,iI 0,iI 0,iI 0,iI 0,nN,nN,nN,nN,iI 0,iI 0,nN,nN,uI 0,nN];have hwz:(w13.alloc (.cells #[iI 0,iI 0,iI 0,iI 0,uI 0,uI 0,iI 0,uI 0,iI 0,iI 0,iI 0,iI 0,iI 0,iI 0,iI 0,iI 0,iI 0,iI 0,iI 0,iI 0,nN,nN,nN,nN,iI 0,iI 0,nN,nN,uI 0,nN] 51)).heap.size=w13.heap.size+1:=World.size_alloc ..;refine rd 2 (some 82) rfl fun K hK=>?_
       go_simp
       (refine (hon.out _).mono ?_;rintro e w14 ⟨rfl,hb14⟩)
       refine hK.out _ _ (Q14.trans (hb14.mono Q14.size)) fun hHeld=>?_
       clear hK K;(try simp only [pS,pB,pZ,pC]);have Q15a:=Q14.trans (hb14.mono Q14.size);have Y15:=Y14.keep hb14;have hz14:w13.heap.size+1≤w14.heap.size:=by have:=hb14.size;rw [World.size_alloc] at this;exact this
       clear hb14;refine rd 11 (some 91) rfl fun K hK=>?_
       go_simp
       (refine (HMK.out _ Q15a).mono ?_;rintro e w15 ⟨⟨Cr,rfl,hcr,hm2⟩,hb15⟩)
       refine hK.out _ _ (Q15a.trans (hb15.mono Q15a.size)) fun hHeld=>?_
       clear hK K;(try simp only [pS,pB,pZ,pC]);have Q16:=Q15a.trans (hb15.mono Q15a.size);have Y16:=Y15.keep hb15;have HM2:=Lib.hid hm2;have hb15s:=hb15.size;clear hm2;refine tq 12 79 rfl ?_
       refine tq 13 92 rfl ?_
       refine tq 14 93 rfl ?_
       refine rd 16 none rfl fun K hK=>?_
       rw [if_pos (by rfl)]
       refine wp_storeW (T:=51) (n:=30) (by kernel_rfl) Y16 rfl _ _ rfl rfl Cr rfl hcr.1 hcr.2 (fun w18 Y18 g18=>?_)
       have Q18:=Q16.grown g18 Q16.size (fun k e=>by injection e with e;omega)
       refine hK.out _ _ ?_ (fun hHeld=>?_)
       ·exact Q18
       clear hK K;refine tq 17 21 rfl ?_
       refine dn ?_
       go_wp2_with fail;go_meet;refine ⟨_,Cr,rfl,by rw [HFR.out],Y18,hcr.1,hcr.2,fun hz=>?_,Q18⟩
       obtain ⟨A2,c2,hc2,_,_,ho2⟩:=HM2.out (HFR.out.trans hz);exact ⟨A2,c2,_,hc2,ho2.kept g18 (by cases hv9:(Value.slice A2 ps.length c2).ownBlock with | none=>exact .inl rfl | some b=>exact .inr (fun e=>by injection e with e;have:=(ho2.lt b hv9);omega))⟩
     case rest=>as_aux_lemma =>
      obtain ⟨gm,Cr,rfl,rfl,YM,hrs,hr1,hmm,Q13⟩:=hcut;obtain ⟨w13,rfl⟩:∃ z:World,z=wc:=⟨_,rfl⟩;have HMM:=Lib.hid hmm;have HRS:=Lib.hid hrs;have HR1:=Lib.hid hr1;clear hmm HMK;have hcsm:=HCP.out.size;have hx13:=X12.keep Q13;obtain ⟨fr,hfr⟩:∃ z,z=mkE h s i2 ps a:=⟨_,rfl⟩;rw [← hfr] at HRM HMM HNO ⊢
      have HPL:=Lib.hid (fun (hz:fr=0) (W:World)=>(by
       obtain ⟨A2,c2,b2,hc2,ho2⟩:=HMM.out hz;exact plain_V hc2 HR1.out W:Calls Tryz.prog 21 #[.agg Cr] W fun e w'=>e=.returned (.agg Cr)∧Below W.heap.size W w'))
      have HSM:=Lib.hid (fun (hz:fr=0) (W:World) (hW:Below w13.heap.size w13 W)=>(by
       obtain ⟨A2,c2,b2,hc2,ho2⟩:=HMM.out hz
       cases a with
       | none=>exact (HNO.out rfl hz).elim
       | some f =>
        obtain ⟨dv,cv,ev,e,hok,hf⟩:=HFL.out f rfl;have hWW:=Q13.trans (hW.mono Q13.size);have r2:=Rep.of_own_plain (own_below HPS.out hWW);have r1:=Rep.of_own_plain (own_below ho2 hW);have hcp:=HCP.out;subst e;exact same37_eq hok HLN.out W (hf.keep (fun p hp=>hWW.cell hp) hWW.size) r1 r2 hc2 hcp
      :Calls Tryz.prog 20 #[.agg Cr,.agg (copA h i2 V s (.slice Ap ps.length cp))] W fun e w'=>e=.returned (.bool true)∧Below W.heap.size W w'))
      have HRL:=Lib.hid (fun (W:World)=>real_V HCP.out HONE.out W)
      clear HMM HNO HFL hfr;generalize copA h i2 V s (.slice Ap ps.length cp)=CC at *;go_upto_region 15 with fail;go_cut [108] (fun v wx=>v=.bool false∧Below w13.heap.size w13 wx)
      case first=>as_aux_lemma =>
       refine wp_region_held_drew (S:=(fun V=>Below w13.heap.size w13 V)) (by kernel_rfl) ?_ (fun hHeld=>?_)
       ·first | done | ((try dsimp only);exact (Below.refl _ _).drew)
       have Q14:=(Below.refl w13.heap.size w13).drew;generalize w13.drew=w14 at *;refine tq 0 94 rfl ?_
       refine ty 1 95 rfl (yieldsK Tryz.underlying44 rfl (by kernel_rfl) hcsm _ rfl rfl (fun V hV=>hx13.keep hV) rfl) ?_
       refine rd 2 (some 96) rfl fun K hK=>?_
       go_simp
       (refine (HRM.out _ (Q13.trans (Q14.mono Q13.size))).mono ?_;rintro e w15 ⟨rfl,hb15⟩)
       refine hK.out _ _ (Q14.trans (hb15.mono Q14.size)) fun hHeld=>?_
       clear hK K;(try simp only [pS,pB,pZ,pC]);have Q15:=Q14.trans (hb15.mono Q14.size);clear hb15 HRM;refine tq 3 97 rfl ?_
       refine tq 4 98 rfl ?_
       refine tq 5 99 rfl ?_
       by_cases hz:fr=0
       ·have HPL0:=Lib.hid (HPL.out hz)
        have HSM0:=Lib.hid (HSM.out hz);clear HPL HSM;subst hz;refine tq 6 100 rfl ?_
        refine tq 7 101 rfl ?_
        refine ty 8 102 rfl (yieldsK Tryz.underlying51 rfl (by kernel_rfl) HRS.out _ rfl rfl (fun V hV=>YM.keep hV) rfl) ?_
        refine ty 10 104 rfl (yieldsK Tryz.underlying44 rfl (by kernel_rfl) hcsm _ rfl rfl (fun V hV=>hx13.keep hV) rfl) ?_
        refine rd 9 (some 103) rfl fun K hK=>?_
        go_simp
        (refine (HPL0.out _).mono ?_;rintro e w16 ⟨rfl,hb16⟩)
        refine hK.out _ _ (Q15.trans (hb16.mono Q15.size)) fun hHeld=>?_
        clear hK K;(try simp only [pS,pB,pZ,pC]);have Q16:=Q15.trans (hb16.mono Q15.size);clear hb16;refine rd 11 (some 105) rfl fun K hK=>?_
        go_simp
        (refine (HSM0.out _ Q16).mono ?_;rintro e w17 ⟨rfl,hb17⟩)
        refine hK.out _ _ (Q16.trans (hb17.mono Q16.size)) fun hHeld=>?_
        clear hK K;(try simp only [pS,pB,pZ,pC]);refine tq 12 106 rfl ?_
        refine tq 13 107 rfl ?_
        refine tq 14 108 rfl ?_
        refine dn ?_
        go_wp2_with fail;go_meet;exact ⟨rfl,hHeld⟩
       ·have e0:(fr == 0)=false:=by simpa using hz
        have HZ:=Lib.hid hz;clear hz HPL HSM;refine tq 6 100 rfl ?_
        refine tq 7 101 rfl ?_
        refine tz 8 102 rfl ?_
        refine tz 9 103 rfl ?_
        refine tz 10 104 rfl ?_
        refine tz 11 105 rfl ?_
        refine tz 12 106 rfl ?_
        refine tq 13 107 rfl ?_
        refine tq 14 108 rfl ?_
        refine dn ?_
        go_wp2_with fail;go_meet;exact ⟨rfl,Q15⟩
      case rest=>as_aux_lemma =>
       obtain ⟨rfl,Q14⟩:=hcut;obtain ⟨w14,rfl⟩:∃ z:World,z=wc:=⟨_,rfl⟩;have R14:=Q13.trans (Q14.mono Q13.size);have hx14:=hx13.keep Q14;have B14:=B12.trans (R14.mono B12.size);have K14:=K11.keep B14;clear HPL HSM HRM hx13 YM Q13 Q14 HRS HR1;rename_i hKK;refine hKK _ _ ?_
       clear hKK;go_wp2_with fail;go_loopw [22] (fun j wr2=>∃ t:Nat,j=.int .i64 (t:Int)∧t≤2∧Below w14.heap.size w14 wr2) (fun j _=>2 - (intOf j).toNat)
       case atStart=>exact ⟨0,rfl,by omega,Below.refl _ _⟩
       case round=>as_aux_lemma =>
        obtain ⟨t,rfl,ht,hB2⟩:=hrel;by_cases htl:t<2
        ·have hd2:decide (t<2)=true:=decide_eq_true htl
         obtain ⟨kj,hkj,hkjl⟩:∃ kj:Nat,w14.cell? ⟨gk,t,none⟩=some (.int .u64 (kj:Int))∧kj<18446744073709551616:=by
          rcases (by omega:t=0∨t=1) with rfl | rfl
          ·exact ⟨key,K14.c2.1,hkl⟩
          ·exact ⟨nb,K14.c2.2,HNB.out⟩
         have HKJ:=Lib.hid (fun (W:World) (hW:Below w14.heap.size w14 W)=>(hW.cell (p:=⟨gk,t,none⟩) K14.lt).trans hkj)
         have H1:=Lib.hid (fun (W:World) (hW:Below w14.heap.size w14 W)=>HCK.out kj hkjl W (R14.trans (hW.mono R14.size)))
         have H2:=Lib.hid (fun (W:World) (hW:Below w14.heap.size w14 W)=>HRC.out kj hkjl W (R14.trans (hW.mono R14.size)))
         clear hkj hkjl HCK HRC;generalize chE kj h s i2 ps a=ce at *;go_upto_region 20 with fail;refine wp_region_held_drew (S:=(fun V=>Below w14.heap.size w14 V)) (by kernel_rfl) ?_ (fun hHeld=>?_)
         ·first | done | ((try dsimp only);exact hB2.drew)
         have Q21:=hB2.drew;generalize wr.drew=w21 at *;refine tq 0 113 rfl ?_
         refine tq 1 114 rfl ?_
         refine tq 2 115 rfl ?_
         refine th 3 116 rfl (fun _ hSw=>HKJ.out _ hSw) ?_
         refine ty 4 117 rfl (yieldsK Tryz.underlying44 rfl (by kernel_rfl) hcsm _ rfl rfl (fun V hV=>hx14.keep hV) rfl) ?_
         refine tq 7 120 rfl ?_
         refine tq 8 121 rfl ?_
         refine tq 9 122 rfl ?_
         refine th 10 123 rfl (fun _ hSw=>HKJ.out _ hSw) ?_
         refine ty 11 124 rfl (yieldsK Tryz.underlying44 rfl (by kernel_rfl) hcsm _ rfl rfl (fun V hV=>hx14.keep hV) rfl) ?_
         refine rd 5 (some 118) rfl fun K hK=>?_
         go_simp
         (refine (HRL.out _).mono ?_;rintro e w22 ⟨rfl,hb22⟩)
         refine hK.out _ _ (Q21.trans (hb22.mono Q21.size)) fun hHeld=>?_
         clear hK K;(try simp only [pS,pB,pZ,pC]);have Q22:=Q21.trans (hb22.mono Q21.size);clear hb22;refine rd 6 (some 119) rfl fun K hK=>?_
         go_simp
         (refine (H1.out _ Q22).mono ?_;rintro e w23 ⟨rfl,hb23⟩)
         refine hK.out _ _ (Q22.trans (hb23.mono Q22.size)) fun hHeld=>?_
         clear hK K;(try simp only [pS,pB,pZ,pC]);have Q23:=Q22.trans (hb23.mono Q22.size);clear hb23;refine rd 12 (some 125) rfl fun K hK=>?_
         go_simp
         (refine (H2.out _ Q23).mono ?_;rintro e w24 ⟨rfl,hb24⟩)
         refine hK.out _ _ (Q23.trans (hb24.mono Q23.size)) fun hHeld=>?_
         clear hK K;(try simp only [pS,pB,pZ,pC]);have Q24:=Q23.trans (hb24.mono Q23.size);clear hb24;refine tq 13 126 rfl ?_
         refine dn ?_
         go_wp2_with fail;go_roundw
         case rel=>exact ⟨t+1,by go_num,by omega,Q24⟩
         case measure=>simp [intOf];omega
        ·have hd2:decide (t<2)=false:=decide_eq_false htl
         have B15:=B14.trans (hB2.mono B14.size);go_wp2_with fail;go_roundw
         case rel=>exact ⟨q+1,by go_num,by omega,B15⟩
         case measure=>simp [intOf];omega
    ·have hd:decide (q<4)=false:=decide_eq_false hlt
     have P12:=below_up P11 hB P11.size;go_wp2_with fail;refine (HLV.out _ P12).mono ?_
     rintro e w13 ⟨rfl,hb13⟩;have P13:=below_up P12 hb13 P12.size;clear P12 hb13;go_wp2_with fail;go_ret;exact ⟨rfl,P13⟩
end Go.Proofs.YtbeaijjaecaidaaGreatDoor
