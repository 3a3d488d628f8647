/- ref32.Check of any index, size and path. ref34.Formed and ref34.Check of any head. Copies with any act: copies.Check and copies.Make. Copies with any act: the reference's Make and Check. ref34.Bent of any head. A drawing region in which some operations may come up in any order: each keeps an invariant that tells which have come. -/
import Derived.Test.YtbeaijjaecaidaaGreatDoorM19
import Derived.Test.YtbeaijjaecaidaaGreatDoorM16
import Derived.Test.YtbeaijjaecaidaaGreatDoorM11
import Derived.Test.YtbeaijjaecaidaaGreatDoorM13
import Derived.Test.YtbeaijjaecaidaaGreatDoorM01
set_option maxRecDepth 100000
set_option maxHeartbeats 16000000
namespace Go.Proofs.YtbeaijjaecaidaaGreatDoor
open Go.RowKit Go.Shelf
attribute [local go_sem] Oper.semAt_some
theorem refhalf_gen (n:Nat) (h2:2≤n) (hn:n≤65536) (w:World) :
  Calls Tryz.prog 69 #[.int .i64 (n:Int)] w fun e w'=>e=.returned (.int .i64 (halfG n:Int))∧w'=w:=by
 have HS:=Lib.hid (fun (j:Nat) h1 h3=>halfG_is (n:=n) (j:=j) h2 h1 h3)
 go_enter Tryz.func69,Tryz.ntmps69
 go_wp2_with fail;go_loopw [3] (fun j W=>∃ k:Nat,j=.int .i64 (k:Int)∧(∃ q,k=2 ^ q)∧1≤k∧k<n∧w=W) (fun j _=>n - (intOf j).toNat)
 case atStart=>exact ⟨1,rfl,⟨0,rfl⟩,by omega,by omega,rfl⟩
 case round =>
  obtain ⟨k,rfl,hq,h1k,hkn,rfl⟩:=hrel;have HQ:=Lib.hid hq;clear hq;have hw2:IntKind.i64.wrap (2 * (k:Int))=((2 * k:Nat):Int):=by rw [IntKind.wrap_i64];omega
  by_cases hlt:2 * k<n
  ·have hd:decide (((2 * k:Nat):Int)<(n:Int))=true:=decide_eq_true (by omega)
   have HQ2:=Lib.hid (show ∃ q,2 * k=2 ^ q by
    obtain ⟨q,hq⟩:=HQ.out;exact ⟨q+1,by rw [Nat.pow_succ];omega⟩)
   generalize h2k:2 * k=k2 at *;go_wp2_with fail;go_roundw
   case rel=>exact ⟨k2,by go_num,HQ2.out,by omega,by omega,trivial⟩
   case measure=>simp [intOf];omega
  ·have hd:decide (((2 * k:Nat):Int)<(n:Int))=false:=decide_eq_false (by omega)
   have hf:k=halfG n:=by
    obtain ⟨q,rfl⟩:=HQ.out;exact HS.out q hkn hlt
   have HF:=Lib.hid hf;clear hf;generalize h2k:2 * k=k2 at *;go_wp2_with fail;go_ret;exact ⟨by rw [← HF.out];rfl,rfl⟩
theorem refclimb_one (h:Nat) (hh:h<18446744073709551616) (i m:Nat) (hm:m≤100) (A:Option Addr) (c:Nat) (w:World) :
  Calls Tryz.prog 158 #[.int .i64 (i:Int),.int .i64 1,.int .u64 (h:Int),.slice A m c] w fun e w'=>e=.returned (.tuple #[.int .u64 (leafN h:Int),.bool (decide (m=0))])∧Below w.heap.size w w':=by
 have HL:=Lib.hid (fun W=>refleaf_any h hh W)
 have hls:IntKind.i64.wrap ((m:Int) - 1)=(m:Int) - 1:=by rw [IntKind.wrap_i64];omega
 have el:decide ((m:Int) - 1<0)=decide (m=0):=by
  by_cases h0:m=0
  ·rw [decide_eq_true h0,decide_eq_true (by omega)]
  ·rw [decide_eq_false h0,decide_eq_false (by omega)]
 generalize decide (m=0)=b at *;clear hh;go_enter Tryz.func158,Tryz.ntmps158
 go_wp2_with fail;refine (HL.out _).mono ?_
 rintro e w' ⟨rfl,hb⟩;go_wp2_with fail;exact bodyPost_ret (results_tmp2 rfl _ _ _) rfl ⟨rfl,hb⟩
theorem refclimb_short (h:Nat) (i n:Nat) (hn:n≠1) (A:Option Addr) (c:Nat) (w:World) :
  Calls Tryz.prog 158 #[.int .i64 (i:Int),.int .i64 (n:Int),.int .u64 (h:Int),.slice A 0 c] w fun e w'=>e=.returned (.tuple #[.int .u64 0,.bool false])∧Below w.heap.size w w':=by
 have en:((n:Int) == 1)=false:=by rw [beq_eq_false_iff_ne];omega
 go_enter Tryz.func158,Tryz.ntmps158
 go_wp2_with fail;exact bodyPost_ret (results_tmp2 rfl _ _ _) rfl ⟨rfl,Below.refl _ _⟩
theorem refclimb_gen (h:Nat) (hh:h<18446744073709551616) (f:Nat):∀ (i n:Nat) (ps:List Nat) (A:Option Addr) (c:Nat) (w:World),i<n→n≤65536→ps.length<f→ps.length≤100→ps.length≤c→Words ps→RowU w A ps →
  Calls Tryz.prog 158 #[.int .i64 (i:Int),.int .i64 (n:Int),.int .u64 (h:Int),.slice A ps.length c] w fun e w'=>(∃ x:Nat,e=.returned (.tuple #[.int .u64 (x:Int),.bool (fitG f i n ps.length)])∧x<18446744073709551616∧(fitG f i n ps.length=true→x=climbG f i n h ps))∧Below w.heap.size w w':=by
 induction f with
 | zero=>intro i n ps A c w _ _ hf;omega
 | succ f ih =>
  intro i n ps A c w hi hn hpf hp hc hw hr;by_cases hn1:n=1
  ·subst hn1
   rw [climbG,if_pos (.inl rfl),fitG,if_pos (.inl rfl)];refine (refclimb_one h hh i ps.length hp A c w).mono ?_
   rintro e w' ⟨rfl,hb⟩;refine ⟨⟨leafN h,?_,lab_lt _ _,fun _=>rfl⟩,hb⟩
   simp
  ·by_cases hp0:ps.length=0
   ·rw [fitG,if_pos (.inr hp0),hp0]
    refine (refclimb_short h i n hn1 A c w).mono ?_
    rintro e w' ⟨rfl,hb⟩;refine ⟨⟨0,?_,by omega,fun h=>?_⟩,hb⟩
    ·simp [hn1]
    ·simp [hn1] at h
   ·have h1:¬ (n=1∨ps.length=0):=by omega
    obtain ⟨b,o,rfl,hlast⟩:=hr (ps.length - 1) (by omega)
    have hb:=halfG_bd (n:=n) (by omega)
    have hld:ps.dropLast.length=ps.length - 1:=List.length_dropLast;have HH:=Lib.hid (fun (W:World)=>refhalf_gen n (by omega) hn W)
    have hgl:ps.getD (ps.length - 1) 0=ps[ps.length - 1]'(by omega):=by
     simp [List.getD,show ps.length - 1<ps.length by omega]
    obtain ⟨x,hxe⟩:∃ x:Nat,x=ps[ps.length - 1]'(by omega):=⟨_,rfl⟩
    have hx:x<18446744073709551616:=by rw [hxe];exact hw _ (List.getElem_mem _)
    rw [← hxe] at hgl hlast;clear hxe
    have e2:climbG (f+1) i n h ps=if i<halfG n then nodeN (climbG f i (halfG n) h ps.dropLast) x else nodeN x (climbG f (i - halfG n) (n - halfG n) h ps.dropLast):=by
     rw [climbG];rw [if_neg h1,hgl]
    have e3:fitG (f+1) i n ps.length=if i<halfG n then fitG f i (halfG n) (ps.length - 1) else fitG f (i - halfG n) (n - halfG n) (ps.length - 1):=by
     rw [fitG];rw [if_neg h1]
    have hwd:=words_drop hw;have HL:=Lib.hid (fun (W:World) (hW:Below w.heap.size w W)=>(hW.cell (World.block_lt_of_cell? _ _ hlast)).trans hlast)
    have en:((n:Int) == 1)=false:=by rw [beq_eq_false_iff_ne];omega
    have el:decide (((ps.length - 1:Nat):Int)<0)=false:=decide_eq_false (by omega)
    have hls:IntKind.i64.wrap ((ps.length:Int) - 1)=((ps.length - 1:Nat):Int):=by rw [IntKind.wrap_i64];omega
    by_cases hk:i<halfG n
    ·rw [if_pos hk] at e2 e3
     have HI:=Lib.hid (fun (W:World) (hW:Below w.heap.size w W)=>ih i (halfG n) ps.dropLast (some ⟨b,o,none⟩) c W hk (by omega) (by omega) (by omega) (by omega) hwd (hr.drop.keep hW))
     rw [hld,← e3] at HI;have HN:=Lib.hid (fun (y:Nat) (hy2:y<18446744073709551616) (W:World)=>refnode_any y x hy2 hx W)
     have hdk:decide ((i:Int)<(halfG n:Int))=true:=decide_eq_true (by omega)
     have HE:=Lib.hid e2;have hm1:ps.length - 1<ps.length:=by omega
     clear e2 e3 hld hr hw hwd ih hlast hgl hx hpf;generalize climbG (f+1) i n h ps=R at *;generalize climbG f i (halfG n) h ps.dropLast=RA at *;generalize fitG (f+1) i n ps.length=ft at *;generalize halfG n=k at *;generalize ps.length - 1=m at *;generalize ps.length=q at *;go_enter Tryz.func158,Tryz.ntmps158
     go_wp2_with fail;refine (HH.out _).mono ?_
     rintro e w1 ⟨rfl,e1⟩;have e1:=e1.symm;subst e1;go_wp2_with (refine wpList_prefix Tryz.underlying42 sizeU64 b o q c m rfl rfl (by omega) ?_)
     refine (HI.out _ (Below.refl _ _)).mono ?_
     rintro e w2 ⟨⟨y,rfl,hy,hfy⟩,hb2⟩;have HFY:=Lib.hid hfy;have hc:=HL.out _ hb2;clear hfy;go_wp2_with fail;refine (HN.out y hy _).mono ?_
     rintro e w3 ⟨rfl,hb3⟩;clear hc;go_wp2_with fail;exact bodyPost_ret (results_tmp2 rfl _ _ _) rfl ⟨⟨_,rfl,lab_lt _ _,fun h=>by rw [HFY.out h];exact HE.out.symm⟩,hb2.trans (hb3.mono hb2.size)⟩
    ·rw [if_neg hk] at e2 e3
     have HI:=Lib.hid (fun (W:World) (hW:Below w.heap.size w W)=>ih (i - halfG n) (n - halfG n) ps.dropLast (some ⟨b,o,none⟩) c W (by omega) (by omega) (by omega) (by omega) (by omega) hwd (hr.drop.keep hW))
     rw [hld,← e3] at HI;have HN:=Lib.hid (fun (y:Nat) (hy2:y<18446744073709551616) (W:World)=>refnode_any x y hx hy2 W)
     have hdk:decide ((i:Int)<(halfG n:Int))=false:=decide_eq_false (by omega)
     have HE:=Lib.hid e2;have hm1:ps.length - 1<ps.length:=by omega
     have hsi:IntKind.i64.wrap ((i:Int) - (halfG n:Int))=((i - halfG n:Nat):Int):=by rw [IntKind.wrap_i64];omega
     have hsn:IntKind.i64.wrap ((n:Int) - (halfG n:Int))=((n - halfG n:Nat):Int):=by rw [IntKind.wrap_i64];omega
     clear e2 e3 hld hr hw hwd ih hlast hgl hx hpf;generalize climbG (f+1) i n h ps=R at *;generalize fitG (f+1) i n ps.length=ft at *;generalize i - halfG n=i2 at *;generalize n - halfG n=n2 at *;generalize climbG f i2 n2 h ps.dropLast=RA at *;generalize halfG n=k at *;generalize ps.length - 1=m at *;generalize ps.length=q at *;go_enter Tryz.func158,Tryz.ntmps158
     go_wp2_with fail;refine (HH.out _).mono ?_
     rintro e w1 ⟨rfl,e1⟩;have e1:=e1.symm;subst e1;go_wp2_with (refine wpList_prefix Tryz.underlying42 sizeU64 b o q c m rfl rfl (by omega) ?_)
     refine (HI.out _ (Below.refl _ _)).mono ?_
     rintro e w2 ⟨⟨y,rfl,hy,hfy⟩,hb2⟩;have HFY:=Lib.hid hfy;have hc:=HL.out _ hb2;clear hfy;go_wp2_with fail;refine (HN.out y hy _).mono ?_
     rintro e w3 ⟨rfl,hb3⟩;clear hc;go_wp2_with fail;exact bodyPost_ret (results_tmp2 rfl _ _ _) rfl ⟨⟨_,rfl,lab_lt _ _,fun h=>by rw [HFY.out h];exact HE.out.symm⟩,hb2.trans (hb3.mono hb2.size)⟩
theorem refcheck_out (root h:Nat) (i n:Int) (hd:n<1∨65536<n∨i<0∨n≤i) (A:Option Addr) (m c:Nat) (w:World) :
  Calls Tryz.prog 112 #[.int .u64 (root:Int),.int .i64 i,.int .i64 n,.int .u64 (h:Int),.slice A m c] w fun e w'=>e=.returned (.int .i64 5)∧Below w.heap.size w w':=by
 by_cases h1:n<1
 ·have e1:decide (n<1)=true:=decide_eq_true h1
  clear hd h1;go_enter Tryz.func112,Tryz.ntmps112
  go_wp2_with fail;go_ret;exact ⟨rfl,Below.refl _ _⟩
 have e1:decide (n<1)=false:=decide_eq_false h1;by_cases h2:65536<n
 ·have e2:decide (65536<n)=true:=decide_eq_true h2
  clear hd h1 h2;go_enter Tryz.func112,Tryz.ntmps112
  go_wp2_with fail;go_ret;exact ⟨rfl,Below.refl _ _⟩
 have e2:decide (65536<n)=false:=decide_eq_false h2;by_cases h3:i<0
 ·have e3:decide (i<0)=true:=decide_eq_true h3
  clear hd h1 h2 h3;go_enter Tryz.func112,Tryz.ntmps112
  go_wp2_with fail;go_ret;exact ⟨rfl,Below.refl _ _⟩
 have e3:decide (i<0)=false:=decide_eq_false h3;have e4:decide (n≤i)=true:=decide_eq_true (by omega)
 clear hd h1 h2 h3;go_enter Tryz.func112,Tryz.ntmps112
 go_wp2_with fail;go_ret;exact ⟨rfl,Below.refl _ _⟩
theorem refcheck_in (root:Nat) (i n h:Nat) (hi:i<n) (hn:n≤65536) (hh:h<18446744073709551616) (ps:List Nat) (hp:ps.length≤100) (hw:Words ps) (A:Option Addr) (c:Nat) (hc:ps.length≤c) (w:World) (hr:RowU w A ps) :
  Calls Tryz.prog 112 #[.int .u64 (root:Int),.int .i64 (i:Int),.int .i64 (n:Int),.int .u64 (h:Int),.slice A ps.length c] w fun e w'=>e=.returned (.int .i64 (if root=climbG (ps.length+1) i n h ps∧fitG (ps.length+1) i n ps.length=true then 0 else 10))∧Below w.heap.size w w':=by
 obtain ⟨ans,hans⟩:∃ z:Int,z=if root=climbG (ps.length+1) i n h ps∧fitG (ps.length+1) i n ps.length=true then 0 else 10:=⟨_,rfl⟩
 rw [← hans];have HANS:=Lib.hid hans;clear hans;have HC:=Lib.hid (refclimb_gen h hh (ps.length+1) i n ps A c w hi hn (by omega) hp hc hw hr)
 generalize climbG (ps.length+1) i n h ps=R at *;generalize fitG (ps.length+1) i n ps.length=ft at *;have e1:decide ((n:Int)<1)=false:=decide_eq_false (by omega)
 have e2:decide ((65536:Int)<(n:Int))=false:=decide_eq_false (by omega)
 have e3:decide ((i:Int)<0)=false:=decide_eq_false (by omega)
 have e4:decide ((n:Int)≤(i:Int))=false:=decide_eq_false (by omega)
 clear hh hw hr hp hc;go_enter Tryz.func112,Tryz.ntmps112
 go_wp2_with fail;refine HC.out.mono ?_
 rintro e w1 ⟨⟨x,rfl,hx,hfx⟩,hb1⟩;have HFX:=Lib.hid hfx;clear hfx
 cases ft with
 | false =>
  go_wp2_with fail;go_ret;exact ⟨by have e:=HANS.out;simp at e;subst e;rfl,hb1⟩
 | true =>
  have hxR:=HFX.out rfl;by_cases hR:root=R
  ·have hne:((x:Int) != (root:Int))=false:=by rw [hxR,hR];simp
   have HR:=Lib.hid hR;clear hR hxR;go_wp2_with fail;go_ret;exact ⟨by have e:=HANS.out;have r:=HR.out;simp [r] at e;subst e;rfl,hb1⟩
  ·have hne:((x:Int) != (root:Int))=true:=by
    simp only [bne_iff_ne,ne_eq];omega
   have HR:=Lib.hid hR;clear hR hxR;go_wp2_with fail;go_ret;exact ⟨by have e:=HANS.out;have r:=HR.out;simp [r] at e;subst e;rfl,hb1⟩
theorem refcheck_all (root h:Nat) (i n:Int) (hh:h<18446744073709551616) (ps:List Nat) (hp:ps.length≤100) (hw:Words ps) (A:Option Addr) (c:Nat) (hc:ps.length≤c) (w:World) (hr:RowU w A ps) :
  Calls Tryz.prog 112 #[.int .u64 (root:Int),.int .i64 i,.int .i64 n,.int .u64 (h:Int),.slice A ps.length c] w fun e w'=>e=.returned (.int .i64 (logC root i n h ps))∧Below w.heap.size w w':=by
 unfold logC;by_cases hd:n<1∨65536<n∨i<0∨n≤i
 ·rw [if_pos hd]
  exact refcheck_out root h i n hd A ps.length c w
 ·rw [if_neg hd]
  obtain ⟨n',rfl⟩:=Int.eq_ofNat_of_zero_le (a:=n) (by omega)
  obtain ⟨i',rfl⟩:=Int.eq_ofNat_of_zero_le (a:=i) (by omega)
  exact refcheck_in root i' n' h (by omega) (by omega) hh ps hp hw A c hc w hr
theorem refformed_gen (o t d s:Int) (l m:Nat) (sl:Int) (sg:Nat) (w:World) :
  Calls Tryz.prog 113 #[.agg #[iI o,iI t,iI d,iI s,uI (l:Int),uI (m:Int),iI sl,uI (sg:Int)]] w fun e w'=>e=.returned (.bool (hdB o t d s sl))∧Below w.heap.size w w':=by
 have P0:=below_new w (.cells #[iI o,iI t,iI d,iI s,uI (l:Int),uI (m:Int),iI sl,uI (sg:Int)] 29);by_cases h0:o<0
 ·have e0:decide (o<0)=true:=decide_eq_true h0
  have eb:hdB o t d s sl=false:=by
   simp only [hdB,inB,Bool.and_eq_false_iff,decide_eq_false_iff_not];omega
  rw [eb];clear eb h0;go_enter Tryz.func113,Tryz.ntmps113
  go_wp2_with fail;go_ret;exact ⟨rfl,P0⟩
 have e0:decide (o<0)=false:=decide_eq_false h0;by_cases h1:11<o
 ·have e1:decide (11<o)=true:=decide_eq_true h1
  have eb:hdB o t d s sl=false:=by
   simp only [hdB,inB,Bool.and_eq_false_iff,decide_eq_false_iff_not];omega
  rw [eb];clear eb h0 h1;go_enter Tryz.func113,Tryz.ntmps113
  go_wp2_with fail;go_ret;exact ⟨rfl,P0⟩
 have e1:decide (11<o)=false:=decide_eq_false h1;by_cases h2:t<0
 ·have e2:decide (t<0)=true:=decide_eq_true h2
  have eb:hdB o t d s sl=false:=by
   simp only [hdB,inB,Bool.and_eq_false_iff,decide_eq_false_iff_not];omega
  rw [eb];clear eb h0 h1 h2;go_enter Tryz.func113,Tryz.ntmps113
  go_wp2_with fail;go_ret;exact ⟨rfl,P0⟩
 have e2:decide (t<0)=false:=decide_eq_false h2;by_cases h3:1099511627776<t
 ·have e3:decide (1099511627776<t)=true:=decide_eq_true h3
  have eb:hdB o t d s sl=false:=by
   simp only [hdB,inB,Bool.and_eq_false_iff,decide_eq_false_iff_not];omega
  rw [eb];clear eb h0 h1 h2 h3;go_enter Tryz.func113,Tryz.ntmps113
  go_wp2_with fail;go_ret;exact ⟨rfl,P0⟩
 have e3:decide (1099511627776<t)=false:=decide_eq_false h3;by_cases h4:d<0
 ·have e4:decide (d<0)=true:=decide_eq_true h4
  have eb:hdB o t d s sl=false:=by
   simp only [hdB,inB,Bool.and_eq_false_iff,decide_eq_false_iff_not];omega
  rw [eb];clear eb h0 h1 h2 h3 h4;go_enter Tryz.func113,Tryz.ntmps113
  go_wp2_with fail;go_ret;exact ⟨rfl,P0⟩
 have e4:decide (d<0)=false:=decide_eq_false h4;by_cases h5:131072<d
 ·have e5:decide (131072<d)=true:=decide_eq_true h5
  have eb:hdB o t d s sl=false:=by
   simp only [hdB,inB,Bool.and_eq_false_iff,decide_eq_false_iff_not];omega
  rw [eb];clear eb h0 h1 h2 h3 h4 h5;go_enter Tryz.func113,Tryz.ntmps113
  go_wp2_with fail;go_ret;exact ⟨rfl,P0⟩
 have e5:decide (131072<d)=false:=decide_eq_false h5;by_cases h6:¬ 0≤s
 ·have e6:decide (0≤s)=false:=decide_eq_false h6
  have eb:hdB o t d s sl=false:=by
   simp only [hdB,inB,Bool.and_eq_false_iff,decide_eq_false_iff_not];omega
  rw [eb];clear eb h0 h1 h2 h3 h4 h5 h6;go_enter Tryz.func113,Tryz.ntmps113
  go_wp2_with fail;go_ret;exact ⟨rfl,P0⟩
 have e6:decide (0≤s)=true:=decide_eq_true (Decidable.not_not.1 h6);by_cases h7:¬ s≤4096
 ·have e7:decide (s≤4096)=false:=decide_eq_false h7
  have eb:hdB o t d s sl=false:=by
   simp only [hdB,inB,Bool.and_eq_false_iff,decide_eq_false_iff_not];omega
  rw [eb];clear eb h0 h1 h2 h3 h4 h5 h6 h7;go_enter Tryz.func113,Tryz.ntmps113
  go_wp2_with fail;go_ret;exact ⟨rfl,P0⟩
 have e7:decide (s≤4096)=true:=decide_eq_true (Decidable.not_not.1 h7);by_cases h8:¬ 0≤sl
 ·have e8:decide (0≤sl)=false:=decide_eq_false h8
  have eb:hdB o t d s sl=false:=by
   simp only [hdB,inB,Bool.and_eq_false_iff,decide_eq_false_iff_not];omega
  rw [eb];clear eb h0 h1 h2 h3 h4 h5 h6 h7 h8;go_enter Tryz.func113,Tryz.ntmps113
  go_wp2_with fail;go_ret;exact ⟨rfl,P0⟩
 have e8:decide (0≤sl)=true:=decide_eq_true (Decidable.not_not.1 h8);by_cases h9:¬ sl≤s
 ·have e9:decide (sl≤s)=false:=decide_eq_false h9
  have eb:hdB o t d s sl=false:=by
   simp only [hdB,inB,Bool.and_eq_false_iff,decide_eq_false_iff_not];omega
  rw [eb];clear eb h0 h1 h2 h3 h4 h5 h6 h7 h8 h9;go_enter Tryz.func113,Tryz.ntmps113
  go_wp2_with fail;go_ret;exact ⟨rfl,P0⟩
 have e9:decide (sl≤s)=true:=decide_eq_true (Decidable.not_not.1 h9)
 have eb:hdB o t d s sl=true:=by
  simp only [hdB,inB,Bool.and_eq_true,decide_eq_true_eq];omega
 rw [eb];clear eb h0 h1 h2 h3 h4 h5 h6 h7 h8 h9;go_enter Tryz.func113,Tryz.ntmps113
 go_wp2_with fail;go_ret;exact ⟨rfl,P0⟩
theorem refhdcheck_gen (key:Nat) (hk:key<18446744073709551616) (h:Hd) (hl:h.log<18446744073709551616) (hm:h.map<18446744073709551616) (w:World) :
  Calls Tryz.prog 63 #[.int .u64 (key:Int),.agg h.vals] w fun e w'=>e=.returned (.int .i64 (hdC key h))∧Below w.heap.size w w':=by
 obtain ⟨ans,hans⟩:∃ z:Int,z=hdC key h:=⟨_,rfl⟩;rw [← hans];obtain ⟨o,t,d,s,l,m,sl,sg⟩:=h;unfold hdC at hans;unfold Hd.vals;dsimp only at hl hm hans ⊢;have HANS:=Lib.hid hans;clear hans;have HS:=Lib.hid (fun W=>refsignature_any key hk o t d s l m hl hm sl sg W)
 have HF:=Lib.hid (fun W=>refformed_gen o t d s l m sl sg W)
 have X0:=Blk.new w 29 #[iI o,iI t,iI d,iI s,uI (l:Int),uI (m:Int),iI sl,uI (sg:Int)];have P0:=below_new w (.cells #[iI o,iI t,iI d,iI s,uI (l:Int),uI (m:Int),iI sl,uI (sg:Int)] 29);have hc:=X0.c8;clear hk hl hm;generalize sigN key ⟨o,t,d,s,l,m,sl,sg⟩=S at *;generalize hdB o t d s sl=hb at *;go_enter Tryz.func63,Tryz.ntmps63
 go_wp2_with fail;refine (HF.out _).mono ?_
 rintro e w1 ⟨rfl,hb1⟩;have X1:=X0.keep hb1;have P1:=below_up P0 hb1 P0.size;clear hc X0 P0 hb1;have hc:=X1.c8
 cases hb with
 | false =>
  go_wp2_with fail;go_ret;exact ⟨by have e:=HANS.out;simp at e;subst e;rfl,P1⟩
 | true =>
  obtain ⟨bq,hbq⟩:∃ b,((sg:Int) != (S:Int))=b:=⟨_,rfl⟩
  have HBQ:=Lib.hid (show (bq=false∧sg=S)∨(bq=true∧¬ sg=S) from by
   rw [← hbq];by_cases h:sg=S
   ·exact .inl ⟨by rw [h];simp,h⟩
   ·exact .inr ⟨by simp only [bne_iff_ne,ne_eq];omega,h⟩)
  clear hc;go_upto_region 4 with fail;refine wp_region_held_drew (S:=(fun W=>Blk W w.heap.size 29 #[iI o,iI t,iI d,iI s,uI (l:Int),uI (m:Int),iI sl,uI (sg:Int)]∧Below w.heap.size w W)) (by kernel_rfl) ?_ (fun hHeld=>?_)
  ·first | done | ((try dsimp only);exact ⟨X1,P1.drew⟩)
  clear X1 P1;generalize w1.drew=wb at *;refine tq 0 10 rfl ?_
  refine th 1 11 rfl (fun _ hSw=>hSw.1.c8) ?_
  refine tq 2 12 rfl ?_
  refine th 3 13 rfl (fun _ hSw=>hSw.1.c8) ?_
  refine rd 4 (some 14) rfl fun K hK=>?_
  go_simp
  (refine (HS.out _).mono ?_;rintro e w2 ⟨rfl,hb2⟩)
  refine hK.out _ _ (⟨hHeld.1.keep hb2,below_up hHeld.2 hb2 hHeld.2.size⟩) fun hHeld=>?_
  clear hK K;(try simp only [pS,pB,pZ,pC]);refine tq 5 15 rfl ?_
  refine dn ?_
  have HB:=Lib.hid hHeld.2;clear hHeld;clear hbq;rcases HBQ.out with ⟨rfl,hs⟩ | ⟨rfl,hs⟩
  ·have HR:=Lib.hid hs
   clear hs HBQ;go_wp2_with fail;go_ret;exact ⟨by have e:=HANS.out;have r:=HR.out;simp [r] at e;subst e;rfl,HB.out⟩
  ·have HR:=Lib.hid hs
   clear hs HBQ;go_wp2_with fail;go_ret;exact ⟨by have e:=HANS.out;have r:=HR.out;simp [r] at e;subst e;rfl,HB.out⟩
structure CopV (C:Array Value) (h:Hd) (i:Int) (V:Array Value) (salt:Nat) (p:Value):Prop where
 size:C.size=30
 vs:V.size=19
 act:∀ (j:Nat) (v:Value),V.toList[j]?=some v→C[9+j]?=some v
 hd:HdIn C h
 idx:C[8]?=some (.int .i64 i)
 salt:C[28]?=some (.int .u64 (salt:Int))
 path:C[29]?=some p
theorem CopV.cop {C:Array Value} {h:Hd} {i:Int} {f:Fil} {dv cv ev:Value} {salt:Nat} {p:Value} (hc:CopV C h i (f.vals dv cv ev) salt p):IsCop C h i f dv cv ev salt p:=⟨hc.size,hc.act,hc.hd,hc.idx,hc.salt,hc.path⟩
theorem IsCop.copV {C:Array Value} {h:Hd} {i:Int} {f:Fil} {dv cv ev:Value} {salt:Nat} {p:Value} (hc:IsCop C h i f dv cv ev salt p):CopV C h i (f.vals dv cv ev) salt p:=⟨hc.size,rfl,hc.act,hc.hd,hc.idx,hc.salt,hc.path⟩
section
variable {T:TypeId} {C:Array Value} {h:Hd} {i:Int} {V:Array Value} {salt:Nat} {p:Value}
theorem CopV.range {W:World} {g:Nat} (hc:CopV C h i V salt p) (hb:Blk W g T C):W.rangeAt g 9 V.toList:=fun j v hj=>hb.cellAt _ _ (hc.act j v hj)
theorem CopV.hrange {W:World} {g:Nat} (hc:CopV C h i V salt p) (hb:Blk W g T C):W.rangeAt g 0 h.vals.toList:=fun j v hj=>by rw [Nat.zero_add];exact hb.cellAt _ _ (hc.hd j v hj)
theorem wp_loadCV (hc:CopV C h i V salt p) {w:World} {g:Nat} (hb:Blk w g T C) {o:Oper} {a:Act} {K:Act→World→Prop} {Q:Exit→Act→World→Prop} (x:Operand) (ho:o.op=.load 41 x)
  (hx:a.eval x=.pointer (some ⟨g,9,none⟩)) (hK:K (a.put o.dst (.agg V)) w):o.wp Tryz.prog a w K Q:=by
 refine wp_load_mid 41 x ho g 9 hx V.toList _ (hc.range hb) Tryz.underlying41 rfl (by rw [Array.length_toList,hc.vs];kernel_rfl) ?_
 rw [Array.toArray_toList];exact hK
theorem wpList_loadCV (hc:CopV C h i V salt p) {w:World} {g:Nat} (hb:Blk w g T C) {ops:Array Oper} {rest:List Oper} {o:Oper} {a:Act} {Q:Exit→Act→World→Prop} (x:Operand) (ho:o.op=.load 41 x) (hw:Region.wanted o (yielded ops a.tmps)=true)
  (hx:a.eval x=.pointer (some ⟨g,9,none⟩)) (hK:wpList Tryz.prog ops Q rest (a.put o.dst (.agg V)) w):wpList Tryz.prog ops Q (o::rest) a w :=
 wpList_step fun _ h2=>by
  rw [if_pos hw];exact wp_loadCV hc hb x ho hx (h2 _ _ hK)
theorem wpList_loadHV {w:World} {g o0:Nat} (hr:w.rangeAt g o0 h.vals.toList) {ops:Array Oper} {rest:List Oper} {o:Oper} {a:Act} {Q:Exit→Act→World→Prop} (x:Operand) (ho:o.op=.load 49 x) (hw:Region.wanted o (yielded ops a.tmps)=true)
  (hx:a.eval x=.pointer (some ⟨g,o0,none⟩)) (hK:wpList Tryz.prog ops Q rest (a.put o.dst (.agg h.vals)) w):wpList Tryz.prog ops Q (o::rest) a w :=
 wpList_step fun _ h2=>by
  rw [if_pos hw];refine wp_load_mid 49 x ho g o0 hx h.vals.toList _ hr Tryz.underlying49 rfl (by kernel_rfl) ?_
  rw [Array.toArray_toList];exact h2 _ _ hK
end
def logX (h:Hd) (f:Fil) (salt:Nat) (i:Int) (ps:List Nat):Int:=if h.tick<f.known then 13 else logC h.log i h.size (commitN (encA f) salt) ps
theorem clogged_late {C:Array Value} {h:Hd} {f:Fil} {dv cv ev:Value} {salt:Nat} {i:Int} {p:Value} (hC:IsCop C h i f dv cv ev salt p) (hkt:h.tick<f.known) (w:World) :
  Calls Tryz.prog 48 #[.agg C] w fun e w'=>e=.returned (.int .i64 13)∧Below w.heap.size w w':=by
 have X0:=Blk.new w 51 C;have P0:=below_new w (.cells C 51);have hcc:=hC.size;have hk:decide (h.tick<f.known)=true:=decide_eq_true hkt;have hc:=hC.cells X0;go_enter Tryz.func48,Tryz.ntmps48
 go_wp2_with fail;go_ret;exact ⟨rfl,P0⟩
theorem clogged_all {C:Array Value} {h:Hd} {f:Fil} {dv cv ev:Value} {salt:Nat} {A:Option Addr} {cp:Nat} {i:Int} {ps:List Nat} (hC:IsCop C h i f dv cv ev salt (.slice A ps.length cp)) (hok:OkFil f) (hp:ps.length≤100) (hpc:ps.length≤cp) (hpw:Words ps) (hsalt:salt<18446744073709551616) (w:World) (hG:w.cell? ⟨0,0,none⟩=some (.int .i64 655)) (h0:0<w.heap.size) (B:Nat) (hBw:B≤w.heap.size) (hf:FilAt w B f dv cv ev) (hps:RowU w A ps) :
  Calls Tryz.prog 48 #[.agg C] w fun e w'=>e=.returned (.int .i64 (logX h f salt i ps))∧Below w.heap.size w w':=by
 unfold logX;by_cases hkt:h.tick<f.known
 ·rw [if_pos hkt]
  exact clogged_late hC hkt w
 rw [if_neg hkt];have HE:=Lib.hid (fun (W:World) (hW:Below w.heap.size w W)=>aenc_own f hok dv cv ev W ((hW.cell (p:=⟨0,0,none⟩) h0).trans hG) (Nat.lt_of_lt_of_le h0 hW.size) B (Nat.le_trans hBw hW.size) (hf.keep (fun p hp=>hW.cell (Nat.lt_of_lt_of_le hp hBw)) (Nat.le_refl _)))
 have HPS:=Lib.hid (fun (W:World) (hW:Below w.heap.size w W)=>hps.keep hW)
 have X0:=Blk.new w 51 C;have P0:=below_new w (.cells C 51);have hcc:=hC.size;have hk:decide (h.tick<f.known)=false:=decide_eq_false hkt;have hlen:=encA_len hok;have hbb:=Lib.hid (encA_bytes f);obtain ⟨le,hle⟩:∃ z,z=logC h.log i h.size (commitN (encA f) salt) ps:=⟨_,rfl⟩;rw [← hle];have HLE:=Lib.hid hle;clear hle hkt;clear hok hf hG hps;generalize encA f=bs at *;have hc:=hC.cells X0;go_enter Tryz.func48,Tryz.ntmps48
 go_wp2_with (refine wpList_loadCA hC X0 _ rfl rfl rfl ?_)
 refine (HE.out _ P0).mono ?_
 rintro e w1 ⟨u,rfl,o1,hb1⟩;have X1:=X0.keep hb1;have P1:=below_up P0 hb1 P0.size;have R1:=o1.rep;have hclt:commitN bs salt<18446744073709551616:=lab_lt _ _;clear hc P0 hb1 o1;go_upto_region 6 with fail;refine wp_region_held_drew (S:=(fun W=>Below w1.heap.size w1 W)) (by kernel_rfl) ?_ (fun hHeld=>?_)
 ·first | done | ((try dsimp only);exact (Below.refl _ _).drew)
 generalize w1.drew=wb at *;refine tq 0 21 rfl ?_
 refine tq 1 22 rfl ?_
 refine th 2 23 rfl (fun _ hSw=>hC.cells (X1.keep hSw)) ?_
 refine tq 3 24 rfl ?_
 refine th 4 25 rfl (fun _ hSw=>hC.cells (X1.keep hSw)) ?_
 refine tq 5 26 rfl ?_
 refine tq 6 27 rfl ?_
 refine th 7 28 rfl (fun _ hSw=>hC.cells (X1.keep hSw)) ?_
 refine tq 8 29 rfl ?_
 refine tq 9 30 rfl ?_
 refine th 10 31 rfl (fun _ hSw=>hC.cells (X1.keep hSw)) ?_
 refine tq 12 33 rfl ?_
 refine th 13 34 rfl (fun _ hSw=>hC.cells (X1.keep hSw)) ?_
 refine rd 11 (some 32) rfl fun K hK=>?_
 go_simp
 (refine (commit_any u bs hbb.out (by omega) salt hsalt _ (R1.keep (fun p hp=>hHeld.cell hp) hHeld.size)).mono ?_;rintro e w2 ⟨rfl,hb2⟩)
 refine hK.out _ _ (hHeld.trans (hb2.mono hHeld.size)) fun hHeld=>?_
 clear hK K;(try simp only [pS,pB,pZ,pC]);refine rd 14 (some 35) rfl fun K hK=>?_
 go_simp
 (refine (logcheck_all h.log _ i h.size hclt ps hp hpw A cp hpc _ (HPS.out _ (P1.trans (hHeld.mono P1.size)))).mono ?_;rintro e w2 ⟨rfl,hb2⟩;rw [← HLE.out])
 refine hK.out _ _ (hHeld.trans (hb2.mono hHeld.size)) fun hHeld=>?_
 clear hK K;(try simp only [pS,pB,pZ,pC]);refine tq 15 2 rfl ?_
 refine dn ?_
 have HB:=Lib.hid (below_up P1 hHeld P1.size);clear hHeld;go_wp2_with fail;go_ret;exact ⟨rfl,HB.out⟩
theorem cfiling_bad {C:Array Value} {h:Hd} {i:Int} {V:Array Value} {salt:Nat} {p:Value} (hC:CopV C h i V salt p) (w:World)
  (HV:Hid (∀ W,Below w.heap.size w W→Calls Tryz.prog 49 #[.agg V] W fun e w'=>e=.returned (.int .i64 1)∧Below W.heap.size W w')) :
  Calls Tryz.prog 45 #[.agg C] w fun e w'=>e=.returned (.int .i64 1)∧Below w.heap.size w w':=by
 have X0:=Blk.new w 51 C;have P0:=below_new w (.cells C 51);have hcc:=hC.size;go_enter Tryz.func45,Tryz.ntmps45
 go_wp2_with (refine wpList_loadCV hC X0 _ rfl rfl rfl ?_)
 refine (HV.out _ P0).mono ?_
 rintro e w1 ⟨rfl,hb1⟩;have P1:=below_up P0 hb1 P0.size;go_wp2_with fail;go_ret;exact ⟨rfl,P1⟩
theorem ccheck1_all {C:Array Value} {h:Hd} {i:Int} {V:Array Value} {salt:Nat} {p:Value} (hC:CopV C h i V salt p) (key:Nat) (hk:key<18446744073709551616) (hl:h.log<18446744073709551616) (hm:h.map<18446744073709551616) (kb cb:Nat) (w:World)
  (hb:Blk w kb 27 #[.int .u64 (key:Int)]) (hx:Blk w cb 51 C) :
  Calls Tryz.prog 46 #[.pointer (some ⟨kb,0,none⟩),.pointer (some ⟨cb,0,none⟩)] w fun e w'=>e=.returned (.int .i64 (hdC key h))∧Below w.heap.size w w':=by
 have HK:=Lib.hid (fun W=>hdcheck_gen key hk h hl hm W)
 have hr:=hC.hrange hx;have hc:=hb.c1;clear hk hl hm hb;go_enter Tryz.func46,Tryz.ntmps46
 go_wp2_with (refine wpList_loadHV hr _ rfl rfl rfl ?_)
 refine (HK.out _).mono ?_
 rintro e w1 ⟨rfl,hb1⟩;go_wp2_with fail;go_ret;exact ⟨rfl,hb1⟩
theorem ccheck_core (C:Array Value) (hcs:C.size=30) (key:Nat) (e1 e2 e3:Int) (w:World)
  (H1:Hid (∀ W,Below w.heap.size w W→Calls Tryz.prog 45 #[.agg C] W fun e w'=>e=.returned (.int .i64 e1)∧Below W.heap.size W w'))
  (H2:Hid (∀ (W:World) (kb cb:Nat),Blk W kb 27 #[.int .u64 (key:Int)]→Blk W cb 51 C→Calls Tryz.prog 46 #[.pointer (some ⟨kb,0,none⟩),.pointer (some ⟨cb,0,none⟩)] W fun e w'=>e=.returned (.int .i64 e2)∧Below W.heap.size W w'))
  (H3:Hid (e1=0→e2=0→∀ W,Below w.heap.size w W→Calls Tryz.prog 48 #[.agg C] W fun e w'=>e=.returned (.int .i64 e3)∧Below W.heap.size W w')) :
  Calls Tryz.prog 13 #[.int .u64 (key:Int),.agg C] w fun e w'=>e=.returned (.int .i64 (first3 e1 e2 e3))∧Below w.heap.size w w':=by
 have X0:=(Blk.new (w.alloc (.cells #[.int .u64 (key:Int)] 27)) 51 C);rw [World.size_alloc] at X0;have K0:=(Blk.new w 27 #[.int .u64 (key:Int)]).alloc (.cells C 51);have P0:=(below_new w (.cells #[.int .u64 (key:Int)] 27)).alloc (by simp) (.cells C 51)
 go_enter Tryz.func13,Tryz.ntmps13
 go_wp2_with (refine wpList_loadC X0 hcs _ rfl rfl rfl ?_)
 have hF:=Blk.new ((w.alloc (.cells #[.int .u64 (key:Int)] 27)).alloc (.cells C 51)) 97 #[.func (.func 45) #[.agg C] #[],.func (.func 46) #[] #[.pointer (some ⟨w.heap.size,0,none⟩),.pointer (some ⟨w.heap.size+1,0,none⟩)],.func (.func 48) #[.agg C] #[]]
 have PF:=P0.alloc (by simp;omega) (.cells #[.func (.func 45) #[.agg C] #[],.func (.func 46) #[] #[.pointer (some ⟨w.heap.size,0,none⟩),.pointer (some ⟨w.heap.size+1,0,none⟩)],.func (.func 48) #[.agg C] #[]] 97)
 have XF:=X0.alloc (.cells #[.func (.func 45) #[.agg C] #[],.func (.func 46) #[] #[.pointer (some ⟨w.heap.size,0,none⟩),.pointer (some ⟨w.heap.size+1,0,none⟩)],.func (.func 48) #[.agg C] #[]] 97)
 have KF:=K0.alloc (.cells #[.func (.func 45) #[.agg C] #[],.func (.func 46) #[] #[.pointer (some ⟨w.heap.size,0,none⟩),.pointer (some ⟨w.heap.size+1,0,none⟩)],.func (.func 48) #[.agg C] #[]] 97)
 rw [World.size_alloc,World.size_alloc] at hF;refine (first3_any C _ _ e1 e2 e3 _ _ hF (fun W hW=>H1.out W (PF.trans (hW.mono (PF.size)))) (fun _ W hW=>H2.out W _ _ (KF.keep hW) (XF.keep hW)) (fun h1 h2 W hW=>H3.out h1 h2 W (PF.trans (hW.mono (PF.size))))).mono ?_
 rintro e w2 ⟨rfl,hb2⟩;have P2:=PF.trans (hb2.mono PF.size);clear hF PF XF KF hb2 H1 H2 H3 X0 K0 P0;go_wp2_with fail;go_ret;exact ⟨rfl,P2⟩
def ActS (w:World) (V:Array Value):Option Fil→Prop
 | some f=>∃ dv cv ev,V=f.vals dv cv ev∧OkFil f∧FilAt w w.heap.size f dv cv ev
 | none=>V.size=19∧(∀ W,Below w.heap.size w W→Calls Tryz.prog 49 #[.agg V] W fun e w'=>e=.returned (.int .i64 1)∧Below W.heap.size W w')∧(∀ W,Below w.heap.size w W→Calls Tryz.prog 77 #[.agg V] W fun e w'=>e=.returned (.int .i64 1)∧Below W.heap.size W w')
theorem ActS.keep {w W:World} {V:Array Value} {a:Option Fil} (h:ActS w V a) (hW:Below w.heap.size w W):ActS W V a:=by
 cases a with
 | some f =>
  obtain ⟨dv,cv,ev,e,hok,hf⟩:=h;exact ⟨dv,cv,ev,e,hok,hf.keep (fun p hp=>hW.cell hp) hW.size⟩
 | none=>exact ⟨h.1,fun U hU=>h.2.1 U (hW.trans (hU.mono hW.size)),fun U hU=>h.2.2 U (hW.trans (hU.mono hW.size))⟩
def actE (h:Hd):Option Fil→Int
 | some f=>filE f h.office
 | none=>1
def logY (h:Hd) (salt:Nat) (i:Int) (ps:List Nat):Option Fil→Int
 | some f=>logX h f salt i ps
 | none=>0
def mkE (h:Hd) (salt:Nat) (i:Int) (ps:List Nat) (a:Option Fil):Int:=first2 (actE h a) (logY h salt i ps a)
def chE (key:Nat) (h:Hd) (salt:Nat) (i:Int) (ps:List Nat) (a:Option Fil):Int:=first3 (actE h a) (hdC key h) (logY h salt i ps a)
theorem cfiling_all {C:Array Value} {h:Hd} {i:Int} {V:Array Value} {salt:Nat} {p:Value} (hC:CopV C h i V salt p) {a:Option Fil} (w:World) (hA:ActS w V a) (hG:w.cell? ⟨0,0,none⟩=some (.int .i64 655)) (h0:0<w.heap.size) :
  Calls Tryz.prog 45 #[.agg C] w fun e w'=>e=.returned (.int .i64 (actE h a))∧Below w.heap.size w w':=by
 cases a with
 | some f =>
  obtain ⟨dv,cv,ev,rfl,hok,hf⟩:=hA;exact cfiling_any hC.cop hok w hG h0 _ (Nat.le_refl _) hf
 | none=>exact cfiling_bad hC w (Lib.hid hA.2.1)
theorem clogY {C:Array Value} {h:Hd} {i:Int} {V:Array Value} {salt:Nat} {A:Option Addr} {cp:Nat} {ps:List Nat} (hC:CopV C h i V salt (.slice A ps.length cp)) {a:Option Fil} (w:World) (hA:ActS w V a) (hp:ps.length≤100) (hpc:ps.length≤cp) (hpw:Words ps) (hsalt:salt<18446744073709551616) (hG:w.cell? ⟨0,0,none⟩=some (.int .i64 655)) (h0:0<w.heap.size) (hps:RowU w A ps) (hz:actE h a=0) :
  Calls Tryz.prog 48 #[.agg C] w fun e w'=>e=.returned (.int .i64 (logY h salt i ps a))∧Below w.heap.size w w':=by
 cases a with
 | some f =>
  obtain ⟨dv,cv,ev,rfl,hok,hf⟩:=hA;exact clogged_all hC.cop hok hp hpc hpw hsalt w hG h0 _ (Nat.le_refl _) hf hps
 | none=>exact absurd (show (1:Int)=0 from hz) (by decide)
theorem ccheck_all {C:Array Value} {h:Hd} {i:Int} {V:Array Value} {salt:Nat} {A:Option Addr} {cp:Nat} {ps:List Nat} (hC:CopV C h i V salt (.slice A ps.length cp)) {a:Option Fil} (w:World) (hA:ActS w V a) (key:Nat) (hk:key<18446744073709551616) (hlog:h.log<18446744073709551616) (hm:h.map<18446744073709551616) (hp:ps.length≤100) (hpc:ps.length≤cp) (hpw:Words ps) (hsalt:salt<18446744073709551616) (hG:w.cell? ⟨0,0,none⟩=some (.int .i64 655)) (h0:0<w.heap.size) (hps:RowU w A ps) :
  Calls Tryz.prog 13 #[.int .u64 (key:Int),.agg C] w fun e w'=>e=.returned (.int .i64 (chE key h salt i ps a))∧Below w.heap.size w w' :=
 ccheck_core C hC.size key _ _ _ w (Lib.hid fun W hW=>cfiling_all hC W (hA.keep hW) ((hW.cell (p:=⟨0,0,none⟩) h0).trans hG) (Nat.lt_of_lt_of_le h0 hW.size)) (Lib.hid fun W kb cb hb hx=>ccheck1_all hC key hk hlog hm kb cb W hb hx)
  (Lib.hid fun hz _ W hW=>clogY hC W (hA.keep hW) hp hpc hpw hsalt ((hW.cell (p:=⟨0,0,none⟩) h0).trans hG) (Nat.lt_of_lt_of_le h0 hW.size) (hps.keep hW) hz)
theorem wpList_loadRV {h:Hd} {w:World} {g o0:Nat} (hr:w.rangeAt g o0 h.vals.toList) {ops:Array Oper} {rest:List Oper} {o:Oper} {a:Act} {Q:Exit→Act→World→Prop} (x:Operand) (ho:o.op=.load 29 x) (hw:Region.wanted o (yielded ops a.tmps)=true)
  (hx:a.eval x=.pointer (some ⟨g,o0,none⟩)) (hK:wpList Tryz.prog ops Q rest (a.put o.dst (.agg h.vals)) w):wpList Tryz.prog ops Q (o::rest) a w :=
 wpList_step fun _ h2=>by
  rw [if_pos hw];refine wp_load_mid 29 x ho g o0 hx h.vals.toList _ hr Tryz.underlying29 rfl (by kernel_rfl) ?_
  rw [Array.toArray_toList];exact h2 _ _ hK
theorem rfiling_bad (V:Array Value) (hV:V.size=19) (o:Int) (w:World) (HV:Hid (∀ W,Below w.heap.size w W→Calls Tryz.prog 77 #[.agg V] W fun e w'=>e=.returned (.int .i64 1)∧Below W.heap.size W w')) :
  Calls Tryz.prog 59 #[.agg V,.int .i64 o] w fun e w'=>e=.returned (.int .i64 1)∧Below w.heap.size w w':=by
 have X0:=Blk.new w 41 V;have P0:=below_new w (.cells V 41);go_enter Tryz.func59,Tryz.ntmps59
 go_wp2_with (refine wpList_loadA X0 hV _ rfl rfl rfl ?_)
 refine (HV.out _ P0).mono ?_
 rintro e w1 ⟨rfl,hb1⟩;have P1:=below_up P0 hb1 P0.size;go_wp2_with fail;go_ret;exact ⟨rfl,P1⟩
theorem rfiling_good (f:Fil) (hok:OkFil f) (dv cv ev:Value) (o:Int) (w:World) (B:Nat) (hBw:B≤w.heap.size) (hf:FilAt w B f dv cv ev) :
  Calls Tryz.prog 59 #[.agg (f.vals dv cv ev),.int .i64 o] w fun e w'=>e=.returned (.int .i64 (filE f o))∧Below w.heap.size w w':=by
 have HV:=Lib.hid (fun (W:World) (hW:Below w.heap.size w W)=>refavalid_any f hok dv cv ev W B (Nat.le_trans hBw hW.size) (hf.keep (fun p hp=>hW.cell (Nat.lt_of_lt_of_le hp hBw)) (Nat.le_refl _)))
 have X0:=Blk.new w 41 (f.vals dv cv ev);have P0:=below_new w (.cells (f.vals dv cv ev) 41);have hE:filE f o=if f.office=o then 0 else 22:=rfl
 have hv0:(f.vals dv cv ev)[0]?=some (.int .i64 0):=rfl;have hv4:(f.vals dv cv ev)[4]?=some (.int .i64 f.office):=rfl;have hvs:(f.vals dv cv ev).size=19:=rfl;clear hok hf;generalize filE f o=fe at *;generalize f.office=ofc at *;generalize f.vals dv cv ev=V at *;have HE:=Lib.hid hE;clear hE;go_enter Tryz.func59,Tryz.ntmps59
 go_wp2_with (refine wpList_loadA X0 hvs _ rfl rfl rfl ?_)
 refine (HV.out _ P0).mono ?_
 rintro e w1 ⟨rfl,hb1⟩;have X1:=X0.keep hb1;have P1:=below_up P0 hb1 P0.size;have c0:=X1.cellAt 0 _ hv0;have c4:=X1.cellAt 4 _ hv4;clear X0 P0 hb1 hv0 hv4;by_cases he:ofc=o
 ·have e1:(ofc != o)=false:=by simp [he]
  have HH:=Lib.hid he;clear he;go_wp2_with fail;go_ret;exact ⟨by rw [HE.out,if_pos HH.out];rfl,P1⟩
 ·have e1:(ofc != o)=true:=by simp [he]
  have HH:=Lib.hid he;clear he;go_wp2_with fail;go_ret;exact ⟨by rw [HE.out,if_neg HH.out];rfl,P1⟩
theorem rlogged_late {C:Array Value} {h:Hd} {f:Fil} {dv cv ev:Value} {salt:Nat} {i:Int} {p:Value} (hC:IsCop C h i f dv cv ev salt p) (hkt:h.tick<f.known) (w:World) :
  Calls Tryz.prog 60 #[.agg C] w fun e w'=>e=.returned (.int .i64 13)∧Below w.heap.size w w':=by
 have X0:=Blk.new w 44 C;have P0:=below_new w (.cells C 44);have hcc:=hC.size;have hk:decide (h.tick<f.known)=true:=decide_eq_true hkt;have hc:=hC.cells X0;clear hkt;go_enter Tryz.func60,Tryz.ntmps60
 go_wp2_with fail;go_ret;exact ⟨rfl,P0⟩
theorem rlogged_all {C:Array Value} {h:Hd} {f:Fil} {dv cv ev:Value} {salt:Nat} {A:Option Addr} {cp:Nat} {i:Int} {ps:List Nat} (hC:IsCop C h i f dv cv ev salt (.slice A ps.length cp)) (hok:OkFil f) (hp:ps.length≤100) (hpc:ps.length≤cp) (hpw:Words ps) (hsalt:salt<18446744073709551616) (w:World) (B:Nat) (hBw:B≤w.heap.size) (hf:FilAt w B f dv cv ev) (hps:RowU w A ps) :
  Calls Tryz.prog 60 #[.agg C] w fun e w'=>e=.returned (.int .i64 (logX h f salt i ps))∧Below w.heap.size w w':=by
 unfold logX;by_cases hkt:h.tick<f.known
 ·rw [if_pos hkt]
  exact rlogged_late hC hkt w
 rw [if_neg hkt];have HE:=Lib.hid (fun (W:World) (hW:Below w.heap.size w W)=>entry_any f hok dv cv ev salt hsalt W B (Nat.le_trans hBw hW.size) (hf.keep (fun p hp=>hW.cell (Nat.lt_of_lt_of_le hp hBw)) (Nat.le_refl _)))
 have HPS:=Lib.hid (fun (W:World) (hW:Below w.heap.size w W)=>hps.keep hW)
 have X0:=Blk.new w 44 C;have P0:=below_new w (.cells C 44);have hcc:=hC.size;have hk:decide (h.tick<f.known)=false:=decide_eq_false hkt;have hclt:commitN (encA f) salt<18446744073709551616:=lab_lt _ _;have hvs:(f.vals dv cv ev).size=19:=rfl;have HC:=Lib.hid hC;have HRG:=Lib.hid (fun (W:World) (hb:Blk W w.heap.size 44 C)=>hC.range hb)
 have hc:=hC.cells X0;have HR:=Lib.hid (fun (W:World) (hW:Below w.heap.size w W)=>refcheck_all h.log (commitN (encA f) salt) i h.size hclt ps hp hpw A cp hpc W (HPS.out W hW))
 generalize logC h.log i h.size (commitN (encA f) salt) ps=le at *;generalize commitN (encA f) salt=en at *;generalize f.vals dv cv ev=V at *;clear hok hf hps hkt hC;go_enter Tryz.func60,Tryz.ntmps60
 go_upto_region 3 with fail;clear hc;refine wp_region_held_drew (S:=(fun W=>Blk W w.heap.size 44 C∧Below w.heap.size w W)) (by kernel_rfl) ?_ (fun hHeld=>?_)
 ·first | done | ((try dsimp only);exact ⟨X0,P0.drew⟩)
 clear X0 P0;generalize (w.alloc (.cells C 44)).drew=wb at *;refine tq 0 10 rfl ?_
 refine tq 1 11 rfl ?_
 refine th 2 12 rfl (fun _ hSw=>HC.out.cells hSw.1) ?_
 refine tq 3 13 rfl ?_
 refine th 4 14 rfl (fun _ hSw=>HC.out.cells hSw.1) ?_
 refine tq 5 15 rfl ?_
 refine tq 6 16 rfl ?_
 refine th 7 17 rfl (fun _ hSw=>HC.out.cells hSw.1) ?_
 refine tq 8 18 rfl ?_
 refine ty 9 19 rfl (yieldsAt hvs _ rfl rfl (fun W hW=>HRG.out W hW.1) rfl) ?_
 refine tq 10 20 rfl ?_
 refine th 11 21 rfl (fun _ hSw=>HC.out.cells hSw.1) ?_
 refine tq 13 23 rfl ?_
 refine th 14 24 rfl (fun _ hSw=>HC.out.cells hSw.1) ?_
 refine rd 12 (some 22) rfl fun K hK=>?_
 go_simp
 (refine (HE.out _ hHeld.2).mono ?_;rintro e w2 ⟨rfl,hb2⟩)
 refine hK.out _ _ (⟨hHeld.1.keep hb2,below_up hHeld.2 hb2 hHeld.2.size⟩) fun hHeld=>?_
 clear hK K;(try simp only [pS,pB,pZ,pC]);refine rd 15 (some 25) rfl fun K hK=>?_
 go_simp
 (refine (HR.out _ hHeld.2).mono ?_;rintro e w2 ⟨rfl,hb2⟩)
 refine hK.out _ _ (⟨hHeld.1.keep hb2,below_up hHeld.2 hb2 hHeld.2.size⟩) fun hHeld=>?_
 clear hK K;(try simp only [pS,pB,pZ,pC]);refine tq 16 2 rfl ?_
 refine dn ?_
 have HB:=Lib.hid hHeld.2;clear hHeld;go_wp2_with fail;go_ret;exact ⟨rfl,HB.out⟩
theorem rfiling_all (V:Array Value) {a:Option Fil} (h:Hd) (w:World) (hA:ActS w V a) :
  Calls Tryz.prog 59 #[.agg V,.int .i64 h.office] w fun e w'=>e=.returned (.int .i64 (actE h a))∧Below w.heap.size w w':=by
 cases a with
 | some f =>
  obtain ⟨dv,cv,ev,rfl,hok,hf⟩:=hA;exact rfiling_good f hok dv cv ev h.office w _ (Nat.le_refl _) hf
 | none=>exact rfiling_bad V hA.1 h.office w (Lib.hid hA.2.2)
theorem rlogY {C:Array Value} {h:Hd} {i:Int} {V:Array Value} {salt:Nat} {A:Option Addr} {cp:Nat} {ps:List Nat} (hC:CopV C h i V salt (.slice A ps.length cp)) {a:Option Fil} (w:World) (hA:ActS w V a) (hp:ps.length≤100) (hpc:ps.length≤cp) (hpw:Words ps) (hsalt:salt<18446744073709551616) (hps:RowU w A ps) (hz:actE h a=0) :
  Calls Tryz.prog 60 #[.agg C] w fun e w'=>e=.returned (.int .i64 (logY h salt i ps a))∧Below w.heap.size w w':=by
 cases a with
 | some f =>
  obtain ⟨dv,cv,ev,rfl,hok,hf⟩:=hA;exact rlogged_all hC.cop hok hp hpc hpw hsalt w _ (Nat.le_refl _) hf hps
 | none=>exact absurd (show (1:Int)=0 from hz) (by decide)
theorem rmake_core {C:Array Value} {h:Hd} {i:Int} {V:Array Value} {salt:Nat} {p:Value} (hC:CopV C h i V salt p) (e1 e3:Int) (w:World)
  (H1:Hid (∀ W,Below w.heap.size w W→Calls Tryz.prog 59 #[.agg V,.int .i64 h.office] W fun e w'=>e=.returned (.int .i64 e1)∧Below W.heap.size W w'))
  (H3:Hid (e1=0→∀ W,Below w.heap.size w W→Calls Tryz.prog 60 #[.agg C] W fun e w'=>e=.returned (.int .i64 e3)∧Below W.heap.size W w')) :
  Calls Tryz.prog 19 #[.agg C] w fun e w'=>e=.returned (.int .i64 (first2 e1 e3))∧Below w.heap.size w w':=by
 have X0:=Blk.new w 44 C;have P0:=below_new w (.cells C 44);have hcs:=hC.size;have hc0:=X0.cellAt 0 _ (hC.hd 0 _ rfl);go_enter Tryz.func19,Tryz.ntmps19
 go_wp2_with (refine wpList_loadCV hC X0 _ rfl rfl rfl ?_)
 refine (H1.out _ P0).mono ?_
 rintro e w1 ⟨rfl,hb1⟩;have X1:=X0.keep hb1;have P1:=below_up P0 hb1 P0.size;clear X0 P0 hb1 hc0;by_cases h0:e1=0
 ·subst h0
  have h3:=Lib.hid (H3.out rfl);go_wp2_with (refine wpList_loadK X1 hcs _ rfl rfl rfl ?_)
  refine (h3.out _ P1).mono ?_
  rintro e w2 ⟨rfl,hb2⟩;have P2:=below_up P1 hb2 P1.size;clear H3;go_wp2_with fail;go_ret;exact ⟨rfl,P2⟩
 ·have h1:(e1 != 0)=true:=by simpa using h0
  have H0:=Lib.hid h0;clear h0 H3;go_wp2_with fail;go_ret;exact ⟨by unfold first2;rw [if_neg H0.out];rfl,P1⟩
theorem rcheck_core {C:Array Value} {h:Hd} {i:Int} {V:Array Value} {salt:Nat} {p:Value} (hC:CopV C h i V salt p) (key:Nat) (e1 e2 e3:Int) (w:World)
  (H1:Hid (∀ W,Below w.heap.size w W→Calls Tryz.prog 59 #[.agg V,.int .i64 h.office] W fun e w'=>e=.returned (.int .i64 e1)∧Below W.heap.size W w'))
  (H2:Hid (∀ W,Calls Tryz.prog 63 #[.int .u64 (key:Int),.agg h.vals] W fun e w'=>e=.returned (.int .i64 e2)∧Below W.heap.size W w'))
  (H3:Hid (e1=0→∀ W,Below w.heap.size w W→Calls Tryz.prog 60 #[.agg C] W fun e w'=>e=.returned (.int .i64 e3)∧Below W.heap.size W w')) :
  Calls Tryz.prog 22 #[.int .u64 (key:Int),.agg C] w fun e w'=>e=.returned (.int .i64 (first3 e1 e2 e3))∧Below w.heap.size w w':=by
 have X0:=Blk.new w 44 C;have P0:=below_new w (.cells C 44);have hcs:=hC.size;have hc0:=X0.cellAt 0 _ (hC.hd 0 _ rfl);go_enter Tryz.func22,Tryz.ntmps22
 go_wp2_with (refine wpList_loadCV hC X0 _ rfl rfl rfl ?_)
 refine (H1.out _ P0).mono ?_
 rintro e w1 ⟨rfl,hb1⟩;have X1:=X0.keep hb1;have P1:=below_up P0 hb1 P0.size;have hr:=hC.hrange X1;clear X0 P0 hb1 hc0;by_cases h0:e1=0
 ·subst h0
  have h3:=Lib.hid (H3.out rfl);clear H3;go_wp2_with (refine wpList_loadRV hr _ rfl rfl rfl ?_)
  refine (H2.out _).mono ?_
  rintro e w2 ⟨rfl,hb2⟩;have X2:=X1.keep hb2;have P2:=below_up P1 hb2 P1.size;clear X1 P1 hb2 hr;by_cases h0:e2=0
  ·subst h0
   go_wp2_with (refine wpList_loadK X2 hcs _ rfl rfl rfl ?_)
   refine (h3.out _ P2).mono ?_
   rintro e w3 ⟨rfl,hb3⟩;have P3:=below_up P2 hb3 P2.size;go_wp2_with fail;go_ret;exact ⟨rfl,P3⟩
  ·have h1:(e2 != 0)=true:=by simpa using h0
   have H0:=Lib.hid h0;clear h0;go_wp2_with fail;go_ret;exact ⟨by unfold first3;rw [if_pos rfl,if_neg H0.out];rfl,P2⟩
 ·have h1:(e1 != 0)=true:=by simpa using h0
  have H0:=Lib.hid h0;clear h0 H3;go_wp2_with fail;go_ret;exact ⟨by unfold first3;rw [if_neg H0.out];rfl,P1⟩
theorem rmake_all {C:Array Value} {h:Hd} {i:Int} {V:Array Value} {salt:Nat} {A:Option Addr} {cp:Nat} {ps:List Nat} (hC:CopV C h i V salt (.slice A ps.length cp)) {a:Option Fil} (w:World) (hA:ActS w V a) (hp:ps.length≤100) (hpc:ps.length≤cp) (hpw:Words ps) (hsalt:salt<18446744073709551616) (hps:RowU w A ps) :
  Calls Tryz.prog 19 #[.agg C] w fun e w'=>e=.returned (.int .i64 (mkE h salt i ps a))∧Below w.heap.size w w' :=
 rmake_core hC _ _ w (Lib.hid fun W hW=>rfiling_all V h W (hA.keep hW)) (Lib.hid fun hz W hW=>rlogY hC W (hA.keep hW) hp hpc hpw hsalt (hps.keep hW) hz)
theorem rcheck_all {C:Array Value} {h:Hd} {i:Int} {V:Array Value} {salt:Nat} {A:Option Addr} {cp:Nat} {ps:List Nat} (hC:CopV C h i V salt (.slice A ps.length cp)) {a:Option Fil} (w:World) (hA:ActS w V a) (key:Nat) (hk:key<18446744073709551616) (hlog:h.log<18446744073709551616) (hm:h.map<18446744073709551616) (hp:ps.length≤100) (hpc:ps.length≤cp) (hpw:Words ps) (hsalt:salt<18446744073709551616) (hps:RowU w A ps) :
  Calls Tryz.prog 22 #[.int .u64 (key:Int),.agg C] w fun e w'=>e=.returned (.int .i64 (chE key h salt i ps a))∧Below w.heap.size w w' :=
 rcheck_core hC key _ _ _ w (Lib.hid fun W hW=>rfiling_all V h W (hA.keep hW)) (Lib.hid fun W=>refhdcheck_gen key hk h hlog hm W) (Lib.hid fun hz W hW=>rlogY hC W (hA.keep hW) hp hpc hpw hsalt (hps.keep hW) hz)
theorem blk_range {T:TypeId} {W:World} {g:Nat} {cs:Array Value} (h:Blk W g T cs):W.rangeAt g 0 cs.toList:=fun j v hv=>by
 rw [Nat.zero_add];exact (h.cell j).trans (by rw [← Array.getElem?_toList];exact hv)
theorem results_R {fn:Func} {p:Tmp} (h:fn.results=#[.cell p 29]) (tmps:Array Value) {w:World} {g:Nat} {cs:Array Value} (hp:tmps.getD p undef=.pointer (some ⟨g,0,none⟩)) (hb:Blk w g 29 cs) (hs:cs.size=8) :
  (results fn tmps).run Tryz.prog w=.ok (.agg cs) w :=
 results_cell_row h tmps w g 29 cs _ _ hp hb Tryz.underlying29 rfl (by rw [hs];kernel_rfl)
theorem hdbent_any (h:Hd) (hl:h.log<18446744073709551616) (hm:h.map<18446744073709551616) (how by_:Int) (hhow:-9223372036854775808≤how∧how≤9223372036854775807) (w:World) :
  Calls Tryz.prog 56 #[.agg h.vals,.int .i64 how,.int .i64 by_] w fun r w'=>(∃ h':Hd,r=.returned (.agg h'.vals)∧h'.log<18446744073709551616∧h'.map<18446744073709551616)∧Below w.heap.size w w':=by
 obtain ⟨o,t,d,s,l,m,sl,sg⟩:=h;unfold Hd.vals;dsimp only at hl hm ⊢;have hwb:=wrap_u64' by_;have hnb:=u64_lt by_;generalize u64 by_=nb at *;have HL:=Lib.hid hl;have HM:=Lib.hid hm;have HNB:=Lib.hid hnb;clear hl hm hnb;have X0:=(Blk.new w 29 #[iI o,iI t,iI d,iI s,uI (l:Int),uI (m:Int),iI sl,uI (sg:Int)]).alloc (.cells #[iI 0,iI 0,iI 0,iI 0,uI 0,uI 0,iI 0,uI 0] 29);have Y0:=Blk.new (w.alloc (.cells #[iI o,iI t,iI d,iI s,uI (l:Int),uI (m:Int),iI sl,uI (sg:Int)] 29)) 29 #[iI 0,iI 0,iI 0,iI 0,uI 0,uI 0,iI 0,uI 0];rw [World.size_alloc] at Y0;have P0:=(below_new w (.cells #[iI o,iI t,iI d,iI s,uI (l:Int),uI (m:Int),iI sl,uI (sg:Int)] 29)).alloc (by simp) (.cells #[iI 0,iI 0,iI 0,iI 0,uI 0,uI 0,iI 0,uI 0] 29)
 go_enter Tryz.func56,Tryz.ntmps56
 go_upto_region 1 with fail;generalize (w.alloc (.cells #[iI o,iI t,iI d,iI s,uI (l:Int),uI (m:Int),iI sl,uI (sg:Int)] 29)).alloc (.cells #[iI 0,iI 0,iI 0,iI 0,uI 0,uI 0,iI 0,uI 0] 29)=w2 at *;go_wp2_with fail;refine (around_any how 8 _ hhow.1 hhow.2 (by omega) (by omega)).mono ?_
 rintro r w' ⟨rfl,rfl⟩;have k0:=arN_nonneg how 8 (by omega)
 have k1:=arN_lt how 8 (by omega)
 generalize arN how 8=k at *;clear hhow;obtain rfl | rfl | rfl | rfl | rfl | rfl | rfl | rfl:k=0∨k=1∨k=2∨k=3∨k=4∨k=5∨k=6∨k=7:=by omega
 ·clear k0 k1
  have c0:=X0.cell 0;have f0:=X0.frozen 0;go_upto_region 17 with fail;have X1:=X0.set 0 (.int .i64 by_);have Y1:=Y0.far (p:=⟨w.heap.size,0,none⟩) (Nat.succ_ne_self _) (.int .i64 by_);have P1:=P0.setCell (p:=⟨w.heap.size,0,none⟩) (Nat.le_refl _) (.int .i64 by_);simp only [pB,pZ] at X1;clear c0 f0 X0 Y0 P0 hwb;generalize w2.setCell ⟨w.heap.size,0,none⟩ (.int .i64 by_)=w3 at *;have hr:w3.rangeAt w.heap.size 0 (Hd.vals ⟨by_,t,d,s,l,m,sl,sg⟩).toList:=blk_range X1;go_wp2_with (first | (refine wpList_loadRV hr _ rfl rfl rfl ?_) | (refine wpList_storeW (T:=29) (n:=8) (by kernel_rfl) Y1 rfl _ _ rfl rfl rfl _ rfl rfl (by kernel_rfl) ?_;intro wz Yz gz))
  exact bodyPost_ret (results_R rfl _ rfl Yz rfl) rfl ⟨⟨⟨by_,t,d,s,l,m,sl,sg⟩,rfl,HL.out,HM.out⟩,P1.grown gz P1.size (fun k e=>by injection e with e;omega)⟩
 ·clear k0 k1
  have c1:=X0.cell 1;have f1:=X0.frozen 1;go_upto_region 17 with fail;have X1:=X0.set 1 (.int .i64 by_);have Y1:=Y0.far (p:=⟨w.heap.size,1,none⟩) (Nat.succ_ne_self _) (.int .i64 by_);have P1:=P0.setCell (p:=⟨w.heap.size,1,none⟩) (Nat.le_refl _) (.int .i64 by_);simp only [pB,pZ,pC] at X1;clear c1 f1 X0 Y0 P0 hwb;generalize w2.setCell ⟨w.heap.size,1,none⟩ (.int .i64 by_)=w3 at *;have hr:w3.rangeAt w.heap.size 0 (Hd.vals ⟨o,by_,d,s,l,m,sl,sg⟩).toList:=blk_range X1;go_wp2_with (first | (refine wpList_loadRV hr _ rfl rfl rfl ?_) | (refine wpList_storeW (T:=29) (n:=8) (by kernel_rfl) Y1 rfl _ _ rfl rfl rfl _ rfl rfl (by kernel_rfl) ?_;intro wz Yz gz))
  exact bodyPost_ret (results_R rfl _ rfl Yz rfl) rfl ⟨⟨⟨o,by_,d,s,l,m,sl,sg⟩,rfl,HL.out,HM.out⟩,P1.grown gz P1.size (fun k e=>by injection e with e;omega)⟩
 ·clear k0 k1
  have c2:=X0.cell 2;have f2:=X0.frozen 2;go_upto_region 17 with fail;have X1:=X0.set 2 (.int .i64 by_);have Y1:=Y0.far (p:=⟨w.heap.size,2,none⟩) (Nat.succ_ne_self _) (.int .i64 by_);have P1:=P0.setCell (p:=⟨w.heap.size,2,none⟩) (Nat.le_refl _) (.int .i64 by_);simp only [pB,pZ,pC] at X1;clear c2 f2 X0 Y0 P0 hwb;generalize w2.setCell ⟨w.heap.size,2,none⟩ (.int .i64 by_)=w3 at *;have hr:w3.rangeAt w.heap.size 0 (Hd.vals ⟨o,t,by_,s,l,m,sl,sg⟩).toList:=blk_range X1;go_wp2_with (first | (refine wpList_loadRV hr _ rfl rfl rfl ?_) | (refine wpList_storeW (T:=29) (n:=8) (by kernel_rfl) Y1 rfl _ _ rfl rfl rfl _ rfl rfl (by kernel_rfl) ?_;intro wz Yz gz))
  exact bodyPost_ret (results_R rfl _ rfl Yz rfl) rfl ⟨⟨⟨o,t,by_,s,l,m,sl,sg⟩,rfl,HL.out,HM.out⟩,P1.grown gz P1.size (fun k e=>by injection e with e;omega)⟩
 ·clear k0 k1
  have c3:=X0.cell 3;have f3:=X0.frozen 3;go_upto_region 17 with fail;have X1:=X0.set 3 (.int .i64 by_);have Y1:=Y0.far (p:=⟨w.heap.size,3,none⟩) (Nat.succ_ne_self _) (.int .i64 by_);have P1:=P0.setCell (p:=⟨w.heap.size,3,none⟩) (Nat.le_refl _) (.int .i64 by_);simp only [pB,pZ,pC] at X1;clear c3 f3 X0 Y0 P0 hwb;generalize w2.setCell ⟨w.heap.size,3,none⟩ (.int .i64 by_)=w3 at *;have hr:w3.rangeAt w.heap.size 0 (Hd.vals ⟨o,t,d,by_,l,m,sl,sg⟩).toList:=blk_range X1;go_wp2_with (first | (refine wpList_loadRV hr _ rfl rfl rfl ?_) | (refine wpList_storeW (T:=29) (n:=8) (by kernel_rfl) Y1 rfl _ _ rfl rfl rfl _ rfl rfl (by kernel_rfl) ?_;intro wz Yz gz))
  exact bodyPost_ret (results_R rfl _ rfl Yz rfl) rfl ⟨⟨⟨o,t,d,by_,l,m,sl,sg⟩,rfl,HL.out,HM.out⟩,P1.grown gz P1.size (fun k e=>by injection e with e;omega)⟩
 ·clear k0 k1
  have c4:=X0.cell 4;have f4:=X0.frozen 4;go_upto_region 17 with fail;have X1:=X0.set 4 (.int .u64 (nb:Int));have Y1:=Y0.far (p:=⟨w.heap.size,4,none⟩) (Nat.succ_ne_self _) (.int .u64 (nb:Int));have P1:=P0.setCell (p:=⟨w.heap.size,4,none⟩) (Nat.le_refl _) (.int .u64 (nb:Int));simp only [pB,pZ,pC] at X1;clear c4 f4 X0 Y0 P0 hwb;generalize w2.setCell ⟨w.heap.size,4,none⟩ (.int .u64 (nb:Int))=w3 at *;have hr:w3.rangeAt w.heap.size 0 (Hd.vals ⟨o,t,d,s,nb,m,sl,sg⟩).toList:=blk_range X1;go_wp2_with (first | (refine wpList_loadRV hr _ rfl rfl rfl ?_) | (refine wpList_storeW (T:=29) (n:=8) (by kernel_rfl) Y1 rfl _ _ rfl rfl rfl _ rfl rfl (by kernel_rfl) ?_;intro wz Yz gz))
  exact bodyPost_ret (results_R rfl _ rfl Yz rfl) rfl ⟨⟨⟨o,t,d,s,nb,m,sl,sg⟩,rfl,HNB.out,HM.out⟩,P1.grown gz P1.size (fun k e=>by injection e with e;omega)⟩
 ·clear k0 k1
  have c5:=X0.cell 5;have f5:=X0.frozen 5;go_upto_region 17 with fail;have X1:=X0.set 5 (.int .u64 (nb:Int));have Y1:=Y0.far (p:=⟨w.heap.size,5,none⟩) (Nat.succ_ne_self _) (.int .u64 (nb:Int));have P1:=P0.setCell (p:=⟨w.heap.size,5,none⟩) (Nat.le_refl _) (.int .u64 (nb:Int));simp only [pB,pZ,pC] at X1;clear c5 f5 X0 Y0 P0 hwb;generalize w2.setCell ⟨w.heap.size,5,none⟩ (.int .u64 (nb:Int))=w3 at *;have hr:w3.rangeAt w.heap.size 0 (Hd.vals ⟨o,t,d,s,l,nb,sl,sg⟩).toList:=blk_range X1;go_wp2_with (first | (refine wpList_loadRV hr _ rfl rfl rfl ?_) | (refine wpList_storeW (T:=29) (n:=8) (by kernel_rfl) Y1 rfl _ _ rfl rfl rfl _ rfl rfl (by kernel_rfl) ?_;intro wz Yz gz))
  exact bodyPost_ret (results_R rfl _ rfl Yz rfl) rfl ⟨⟨⟨o,t,d,s,l,nb,sl,sg⟩,rfl,HL.out,HNB.out⟩,P1.grown gz P1.size (fun k e=>by injection e with e;omega)⟩
 ·clear k0 k1
  have c6:=X0.cell 6;have f6:=X0.frozen 6;go_upto_region 17 with fail;have X1:=X0.set 6 (.int .i64 by_);have Y1:=Y0.far (p:=⟨w.heap.size,6,none⟩) (Nat.succ_ne_self _) (.int .i64 by_);have P1:=P0.setCell (p:=⟨w.heap.size,6,none⟩) (Nat.le_refl _) (.int .i64 by_);simp only [pB,pZ,pC] at X1;clear c6 f6 X0 Y0 P0 hwb;generalize w2.setCell ⟨w.heap.size,6,none⟩ (.int .i64 by_)=w3 at *;have hr:w3.rangeAt w.heap.size 0 (Hd.vals ⟨o,t,d,s,l,m,by_,sg⟩).toList:=blk_range X1;go_wp2_with (first | (refine wpList_loadRV hr _ rfl rfl rfl ?_) | (refine wpList_storeW (T:=29) (n:=8) (by kernel_rfl) Y1 rfl _ _ rfl rfl rfl _ rfl rfl (by kernel_rfl) ?_;intro wz Yz gz))
  exact bodyPost_ret (results_R rfl _ rfl Yz rfl) rfl ⟨⟨⟨o,t,d,s,l,m,by_,sg⟩,rfl,HL.out,HM.out⟩,P1.grown gz P1.size (fun k e=>by injection e with e;omega)⟩
 ·clear k0 k1
  have c7:=X0.cell 7;have f7:=X0.frozen 7;go_upto_region 17 with fail;have X1:=X0.set 7 (.int .u64 (nb:Int));have Y1:=Y0.far (p:=⟨w.heap.size,7,none⟩) (Nat.succ_ne_self _) (.int .u64 (nb:Int));have P1:=P0.setCell (p:=⟨w.heap.size,7,none⟩) (Nat.le_refl _) (.int .u64 (nb:Int));simp only [pB,pZ,pC] at X1;clear c7 f7 X0 Y0 P0 hwb;generalize w2.setCell ⟨w.heap.size,7,none⟩ (.int .u64 (nb:Int))=w3 at *;have hr:w3.rangeAt w.heap.size 0 (Hd.vals ⟨o,t,d,s,l,m,sl,nb⟩).toList:=blk_range X1;go_wp2_with (first | (refine wpList_loadRV hr _ rfl rfl rfl ?_) | (refine wpList_storeW (T:=29) (n:=8) (by kernel_rfl) Y1 rfl _ _ rfl rfl rfl _ rfl rfl (by kernel_rfl) ?_;intro wz Yz gz))
  exact bodyPost_ret (results_R rfl _ rfl Yz rfl) rfl ⟨⟨⟨o,t,d,s,l,m,sl,nb⟩,rfl,HL.out,HM.out⟩,P1.grown gz P1.size (fun k e=>by injection e with e;omega)⟩
theorem anyH_bag1 {P:Program} {md:Region.Mode} {ops:Array Oper} {Q:Exit→Act→World→Prop} {S:World→Prop} (J:List Nat) (hnd:J.Nodup) (I:Nat→(Nat→Bool)→World→Prop) (a:Act) (L0 L1:Array Bool) (f0:Nat)
  (hJ0:∀ j∈J,L0[j]?=some false)
  (hA:∀ j∈J,∃ o,ops[j]?=some o∧o.after.all (fun e=>!Region.binds md e || L0.getD e.on false)=true)
  (hB:∀ i,L0.getD i true=false→i ∉ J→∀ j∈J,∃ o,ops[i]?=some o∧∃ e∈o.after,Region.binds md e=true∧(e.on=j∨(L0.getD e.on false=false∧e.on ∉ J)))
  (h1:∀ i∈J,L1[i]?=some true) (h2:∀ i,i ∉ J→L1[i]?=L0[i]?)
  (hJ:∀ j∈J,∀ (m:Nat) (done:Nat→Bool) (w:World) (K:Act→World→Prop),done j=false→I (m+1) done w→S w→(∀ w',I m (fun i=>i == j || done i) w'→S w'→K a w')→wpOp P ops Q j K a w)
  (hend:∀ (done:Nat→Bool) w,(∀ j∈J,done j=true)→I 0 done w→S w→wpAnyH P md ops Q S f0 L1 a w) :
  ∀ (m:Nat) (L:Array Bool),(J.filter (fun j=>!L.getD j true)).length=m→(∀ i,i ∉ J→L[i]?=L0[i]?)→(∀ j∈J,j<L.size)→∀ w,I m (fun i=>L.getD i true) w→S w→wpAnyH P md ops Q S (f0+m) L a w:=by
 intro m
 induction m with
 | zero =>
  intro L hm hL hsz w hI hS
  have hall:∀ i∈J,L.getD i true=true:=fun i hi=>by
   cases h:L.getD i true with
   | true=>rfl
   | false =>
    have h5:i∈J.filter (fun j=>!L.getD j true):=List.mem_filter.2 ⟨hi,by rw [h];rfl⟩
    have:=List.length_pos_of_mem h5;omega
  have e:L=L1:=by
   refine Array.ext_getElem? fun i=>?_
   by_cases hi:i∈J
   ·rw [h1 i hi]
    have h3:=hall i hi;have hlt:=hsz i hi;rw [Array.getElem?_eq_getElem hlt]
    rw [Array.getD_eq_getD_getElem?,Array.getElem?_eq_getElem hlt] at h3
    simpa using h3
   ·rw [hL i hi,h2 i hi]
  have:=hend (fun i=>L.getD i true) w hall hI hS
  rw [← e] at this;exact this
 | succ m ih =>
  intro L hm hL hsz w hI hS
  obtain ⟨j0,hj0⟩:∃ j,j∈J.filter (fun j=>!L.getD j true):=by
   cases hf:J.filter (fun j=>!L.getD j true) with
   | nil=>rw [hf] at hm;simp at hm
   | cons x l=>exact ⟨x,by simp⟩
  obtain ⟨hj0J,hj0u⟩:=List.mem_filter.1 hj0;simp only [Bool.not_eq_true'] at hj0u;have hget:∀ i,i ∉ J→∀ d,L.getD i d=L0.getD i d:=fun i hi d=>by rw [Array.getD_eq_getD_getElem?,Array.getD_eq_getD_getElem?,hL i hi]
  show (Region.ready md ops L=[]→Q .normal a w)∧∀ i∈Region.ready md ops L,wpOp P ops Q i (fun a' w'=>S w'∧wpAnyH P md ops Q S (f0+m) (L.setIfInBounds i true) a' w') a w
  refine ⟨fun hr=>?_,fun i hi=>?_⟩
  ·exfalso
   obtain ⟨o,ho,hall⟩:=hA j0 hj0J
   have:j0∈Region.ready md ops L:=mem_ready.2 ⟨(Array.getElem?_eq_some_iff.1 ho).1,hj0u,by
    rw [ho];simp only [Option.map_some,Option.getD_some,Array.all_eq_true_iff_forall_mem] at hall ⊢;intro e he;have h3:=hall e he;simp only [Bool.or_eq_true] at h3 ⊢;rcases h3 with h3 | h3
    ·exact .inl h3
    ·refine .inr ?_
     by_cases heJ:e.on∈J
     ·rw [Array.getD_eq_getD_getElem?,hJ0 _ heJ] at h3
      simp at h3
     ·rw [hget _ heJ]
      exact h3⟩
   rw [hr] at this;simp at this
  ·obtain ⟨hi1,hi2,hi3⟩:=mem_ready.1 hi
   have hiJ:i∈J:=by
    refine Classical.byContradiction fun hiJ=>?_
    obtain ⟨o,ho,e,he,hb,hor⟩:=hB i (by rw [← hget i hiJ];exact hi2) hiJ j0 hj0J
    rw [ho] at hi3;simp only [Option.map_some,Option.getD_some,Array.all_eq_true_iff_forall_mem] at hi3;have h3:=hi3 e he;rw [hb] at h3;simp only [Bool.not_true,Bool.false_or] at h3;rcases hor with rfl | ⟨h4,h5⟩
    ·have hlt:=hsz _ hj0J
     rw [Array.getD_eq_getD_getElem?,Array.getElem?_eq_getElem hlt] at h3 hj0u
     simp at h3 hj0u;rw [h3] at hj0u;cases hj0u
    ·rw [hget _ h5,h4] at h3
     cases h3
   have hlt:=hsz i hiJ
   have hdn:(fun k=>(L.setIfInBounds i true).getD k true)=fun k=>k == i || L.getD k true:=funext fun k=>by
    by_cases hki:k=i
    ·subst hki
     simp [Array.getD_eq_getD_getElem?,hlt]
    ·have:(k == i)=false:=by simpa using hki
     rw [this,Bool.false_or,Array.getD_eq_getD_getElem?,Array.getD_eq_getD_getElem?,Array.getElem?_setIfInBounds_ne (Ne.symm hki)]
   refine hJ i hiJ m (fun k=>L.getD k true) w _ hi2 hI hS (fun w' hI' hS'=>⟨hS',ih (L.setIfInBounds i true) ?_ (fun k hk=>?_) (fun k hk=>by rw [Array.size_setIfInBounds];exact hsz k hk) w' (by rw [hdn];exact hI') hS'⟩)
   ·have e:J.filter (fun j=>!(L.setIfInBounds i true).getD j true)=(J.filter (fun j=>!L.getD j true)).erase i:=by
     rw [List.Nodup.erase_eq_filter (List.Pairwise.filter _ hnd:List.Nodup _),List.filter_filter];refine List.filter_congr fun k hk=>?_
     by_cases hki:k=i
     ·subst hki
      simp [Array.getD_eq_getD_getElem?,hlt]
     ·have:(k != i)=true:=by simpa using hki
      rw [this,Bool.true_and,Array.getD_eq_getD_getElem?,Array.getD_eq_getD_getElem?,Array.getElem?_setIfInBounds_ne (Ne.symm hki)]
    rw [e,List.length_erase_of_mem (List.mem_filter.2 ⟨hiJ,by simpa using hi2⟩),hm]
    rfl
   ·rw [Array.getElem?_setIfInBounds_ne (fun e:i=k=>hk (e ▸ hiJ))]
    exact hL k hk
theorem anyH_bagd {P:Program} {md:Region.Mode} {ops:Array Oper} {Q:Exit→Act→World→Prop} {S:World→Prop} {L0:Array Bool} (J:List Nat) (hnd:J.Nodup) (hok:bagOk md ops L0 J=true) (I:Nat→(Nat→Bool)→World→Prop) (a:Act) (f0:Nat)
  (hJ:∀ j∈J,∀ (m:Nat) (done:Nat→Bool) (w:World) (K:Act→World→Prop),done j=false→I (m+1) done w→S w→(∀ w',I m (fun i=>i == j || done i) w'→S w'→K a w')→wpOp P ops Q j K a w)
  (hend:∀ (done:Nat→Bool) w,(∀ j∈J,done j=true)→I 0 done w→S w→wpAnyH P md ops Q S f0 (J.foldl (fun L j=>L.setIfInBounds j true) L0) a w) (w:World) (hI:I J.length (fun i=>L0.getD i true) w) (hS:S w):wpAnyH P md ops Q S (f0+J.length) L0 a w:=by
 unfold bagOk at hok;simp only [Bool.and_eq_true,List.all_eq_true,beq_iff_eq,List.mem_range,Bool.or_eq_true] at hok;have hlt:∀ j∈J,j<L0.size:=fun j hj=>(Array.getElem?_eq_some_iff.1 (hok.1 j hj).1).1
 refine anyH_bag1 J hnd I a L0 _ f0 (fun j hj=>(hok.1 j hj).1) (fun j hj=>?_) (fun i hi hn j hj=>?_) (fun i hi=>foldl_in J L0 i hi (hlt i hi)) (fun i hi=>foldl_out J L0 i hi) hJ hend J.length L0 ?_ (fun _ _=>rfl) hlt w hI hS
 ·have h:=(hok.1 j hj).2
  cases ho:ops[j]? with
  | none=>rw [ho] at h;cases h
  | some o=>rw [ho] at h;exact ⟨o,rfl,h⟩
 ·have hil:i<L0.size:=by
   refine Classical.byContradiction fun h=>?_
   rw [Array.getD_eq_getD_getElem?,Array.getElem?_eq_none (by omega)] at hi
   cases hi
  rcases hok.2 i hil with (h | h) | h
  ·rw [h] at hi;cases hi
  ·exact absurd (by simpa using h) hn
  ·have h:=h j hj
   cases ho:ops[i]? with
   | none=>rw [ho] at h;cases h
   | some o =>
    rw [ho] at h;dsimp only at h;rw [← Array.any_toList,List.any_eq_true] at h;obtain ⟨e,he,h⟩:=h;simp only [Bool.and_eq_true,Bool.or_eq_true,beq_iff_eq,Bool.not_eq_true'] at h;refine ⟨o,rfl,e,by simpa using he,h.1,?_⟩
    rcases h.2 with h | ⟨h1,h2⟩
    ·exact .inl h
    ·exact .inr ⟨h1,by simpa using h2⟩
 ·congr 1
  refine List.filter_eq_self.2 fun j hj=>?_
  have h:=(hok.1 j hj).1;rw [Array.getD_eq_getD_getElem?,h];rfl
def maskB (tb:List (Int × Bool)):BitVec 64:=tb.foldr (fun p m=>(if p.2 then BitVec.ofInt 64 p.1 else 0#64) ||| m) 0#64
theorem or_and_zero {a b x:BitVec 64}:((a ||| b) &&& x=0#64)↔(a &&& x=0#64∧b &&& x=0#64):=by
 constructor
 ·intro h
  refine ⟨?_,?_⟩
  ·apply BitVec.eq_of_getLsbD_eq
   intro i hi;have:=congrArg (fun v=>v.getLsbD i) h
   simp only [BitVec.getLsbD_and,BitVec.getLsbD_or,BitVec.getLsbD_zero] at this ⊢;cases h1:a.getLsbD i <;> cases h2:x.getLsbD i <;> simp_all
  ·apply BitVec.eq_of_getLsbD_eq
   intro i hi;have:=congrArg (fun v=>v.getLsbD i) h
   simp only [BitVec.getLsbD_and,BitVec.getLsbD_or,BitVec.getLsbD_zero] at this ⊢;cases h1:b.getLsbD i <;> cases h2:x.getLsbD i <;> simp_all
 ·rintro ⟨h1,h2⟩
  apply BitVec.eq_of_getLsbD_eq;intro i hi;have e1:=congrArg (fun v=>v.getLsbD i) h1
  have e2:=congrArg (fun v=>v.getLsbD i) h2
  simp only [BitVec.getLsbD_and,BitVec.getLsbD_or,BitVec.getLsbD_zero] at e1 e2 ⊢;cases h3:x.getLsbD i <;> simp_all
theorem mask_and (x:BitVec 64):∀ tb:List (Int × Bool),(maskB tb &&& x=0#64)↔∀ p∈tb,p.2=true→BitVec.ofInt 64 p.1 &&& x=0#64
 | []=>by simp [maskB]
 | p::tb=>by
  have e:maskB (p::tb)=(if p.2 then BitVec.ofInt 64 p.1 else 0#64) ||| maskB tb:=rfl
  rw [e,or_and_zero,mask_and x tb]
  cases hp:p.2 with
  | true=>simp [hp]
  | false=>simp [hp]
def GotM (tb:List (Int × Bool)) (left:Lit→Bool) (v:Int):Prop :=
 ∃ b:BitVec 64,v=(b.toNat:Int)∧(∀ x,maskB tb &&& x=0#64→b &&& x=0#64)∧∀ p∈tb,p.2=true→left (.int .i64 p.1)=false→∀ x,b &&& x=0#64→BitVec.ofInt 64 p.1 &&& x=0#64
theorem GotM.zero (tb:List (Int × Bool)) (left:Lit→Bool) (h:∀ p∈tb,left (.int .i64 p.1)=true):GotM tb left 0 :=
 ⟨0#64,rfl,fun x _=>by simp,fun p hp _ h2=>by rw [h p hp] at h2;cases h2⟩
theorem GotM.bound {tb:List (Int × Bool)} {left:Lit→Bool} {v:Int} (h:GotM tb left v) (hx:maskB tb &&& ~~~2047#64=0#64):0≤v∧v≤2047:=by
 obtain ⟨b,rfl,h1,_⟩:=h;have h2:=h1 _ hx;refine ⟨by omega,?_⟩
 have h3:b=b &&& 2047#64:=by
  apply BitVec.eq_of_getLsbD_eq;intro i hi;have:=congrArg (fun v=>v.getLsbD i) h2
  simp only [BitVec.getLsbD_and,BitVec.getLsbD_not,BitVec.getLsbD_zero] at this ⊢;cases h4:b.getLsbD i <;> cases h5:(2047#64).getLsbD i <;> simp_all
 rw [h3,BitVec.toNat_and];have:b.toNat &&& (2047#64).toNat≤(2047#64).toNat:=Nat.and_le_right;have e:(2047#64).toNat=2047:=rfl;omega
theorem GotM.or {tb:List (Int × Bool)} {left:Lit→Bool} {v:Int} (h:GotM tb left v) {p:Int × Bool} (hp:p∈tb) (ht:p.2=true) (hb:maskB tb &&& ~~~2047#64=0#64) :
  GotM tb (fun z=>left z && !z.sameKey (.int .i64 p.1)) (IntKind.i64.wrap (((BitVec.ofInt 64 v ||| BitVec.ofInt 64 p.1).toNat:Nat):Int)):=by
 obtain ⟨b,rfl,h1,h2⟩:=h;rw [ofInt_toNat];have hsub:∀ x,maskB tb &&& x=0#64→(b ||| BitVec.ofInt 64 p.1) &&& x=0#64:=fun x hx=>or_and_zero.2 ⟨h1 x hx,(mask_and x tb).1 hx p hp ht⟩
 have hbd:=GotM.bound (tb:=tb) (left:=fun _=>true) (v:=((b ||| BitVec.ofInt 64 p.1).toNat:Int)) ⟨_,rfl,hsub,fun _ _ _ h=>by cases h⟩ hb
 refine ⟨b ||| BitVec.ofInt 64 p.1,by rw [IntKind.wrap_i64];omega,hsub,fun q hq hqt hl x hx=>?_⟩
 obtain ⟨x1,x2⟩:=or_and_zero.1 hx
 cases hlq:left (.int .i64 q.1) with
 | false=>exact h2 q hq hqt hlq x x1
 | true =>
  dsimp only at hl;rw [hlq] at hl;simp only [Bool.true_and,Bool.not_eq_false'] at hl
  have e:q.1=p.1:=by
   simp [Lit.sameKey] at hl;exact hl
  rw [e];exact x2
theorem GotM.skip {tb:List (Int × Bool)} {left:Lit→Bool} {v:Int} (h:GotM tb left v) (hf:∀ p q:Int × Bool,p∈tb→q∈tb→p.1=q.1→p=q) {p:Int × Bool} (hp:p∈tb) (ht:p.2=false) :
  GotM tb (fun z=>left z && !z.sameKey (.int .i64 p.1)) v:=by
 obtain ⟨b,rfl,h1,h2⟩:=h;refine ⟨b,rfl,h1,fun q hq hqt hl x hx=>?_⟩
 cases hlq:left (.int .i64 q.1) with
 | false=>exact h2 q hq hqt hlq x hx
 | true =>
  dsimp only at hl;rw [hlq] at hl;simp only [Bool.true_and,Bool.not_eq_false'] at hl
  have e:q.1=p.1:=by
   simp [Lit.sameKey] at hl;exact hl
  have:=hf q p hq hp e;rw [this,ht] at hqt;cases hqt
theorem GotM.done {tb:List (Int × Bool)} {left:Lit→Bool} {v:Int} (h:GotM tb left v) (hl:∀ kl,left kl=false) (F:Int) :
  (IntKind.i64.wrap (((BitVec.ofInt 64 v &&& ~~~(BitVec.ofInt 64 F)).toNat:Nat):Int) == 0)=tb.all fun p=>!p.2 || (BitVec.ofInt 64 p.1 &&& ~~~(BitVec.ofInt 64 F) == 0#64):=by
 obtain ⟨b,rfl,h1,h2⟩:=h;rw [ofInt_toNat]
 have hiff:(b &&& ~~~(BitVec.ofInt 64 F)=0#64)↔∀ p∈tb,p.2=true→BitVec.ofInt 64 p.1 &&& ~~~(BitVec.ofInt 64 F)=0#64 :=
  ⟨fun hx p hp hpt=>h2 p hp hpt (hl _) _ hx,fun hx=>h1 _ ((mask_and _ tb).2 hx)⟩
 have hw:(IntKind.i64.wrap (((b &&& ~~~(BitVec.ofInt 64 F)).toNat:Nat):Int) == 0)=(b &&& ~~~(BitVec.ofInt 64 F) == 0#64):=by
  generalize b &&& ~~~(BitVec.ofInt 64 F)=y;rw [Bool.eq_iff_iff,beq_iff_eq,beq_iff_eq,IntKind.wrap_i64];constructor
  ·intro h0
   have hy:y.toNat=0:=by
    have h3:y.toNat<18446744073709551616:=y.isLt;generalize y.toNat=n at *;omega
   exact BitVec.eq_of_toNat_eq (by rw [hy];rfl)
  ·rintro rfl
   decide
 rw [hw,Bool.eq_iff_iff,beq_iff_eq,hiff,List.all_eq_true];constructor
 ·intro hx p hp
  cases hpt:p.2 with
  | true=>simp [hx p hp hpt]
  | false=>rfl
 ·intro hx p hp hpt
  have:=hx p hp;rw [hpt] at this
  simpa using this
end Go.Proofs.YtbeaijjaecaidaaGreatDoor
