/- acts.bare of any act: it has no field that its kind does not have. Written by mkbarg.py. Acts in general: a number between two others; the earlier filings that an act names. The table of the fields of kinds, whole; what acts.bare says by it. acts.filing of any act. ref18.within and ref18.filing of any act. ref18.clean of any act. Written by mkrcg.py. ref18.bare of a filing. Written by mkrbg2.py. -/
import Derived.Test.YtbeaijjaecaidaaGreatDoorM20
import Derived.Test.YtbeaijjaecaidaaGreatDoorM11
import Derived.Test.YtbeaijjaecaidaaGreatDoorM10
import Derived.Test.YtbeaijjaecaidaaGreatDoorM12
import Derived.Test.YtbeaijjaecaidaaGreatDoorM01
set_option maxRecDepth 100000
set_option maxHeartbeats 16000000
namespace Go.Proofs.YtbeaijjaecaidaaGreatDoor
open Go.RowKit Go.Shelf
attribute [local go_sem] Oper.semAt_some
theorem bits_has:∀ (l:List (Int × Bool)) (p:Int × Bool),p∈l→Maps.has (bitsD l) (.int .i64 p.1)=true
 | q::l,p,h=>by
  by_cases e:q.1=p.1
  ·rw [bitsD,e]
   exact Maps.has_put_same (bitsD_map l) (by trivial) _
  ·rw [bitsD,Maps.has_put_other (fun e2=>e (by injection e2 with _ e2;exact e2.symm))]
   rcases List.mem_cons.1 h with rfl | h
   ·exact absurd rfl e
   ·exact bits_has l p h
theorem bits_val (x:Int) (c:Bool):∀ (l:List (Int × Bool)),(∀ zd:DataW Unit,(bitsD l).atKey (.int .i64 x) zd=.lit (.bool c))→(x,c)∈l
 | [],h=>by
  have:=h .nil;unfold bitsD at this;simp [DataW.atKey] at this
 | p::l,h=>by
  by_cases hx:p.1=x
  ·have:=h .nil
   rw [bitsD,hx,Maps.atKey_put_same (bitsD_map l) (by trivial)] at this
   injection this with this
   injection this with this
   obtain ⟨k,b⟩:=p;dsimp only at hx this;subst hx this;exact List.mem_cons_self
  ·refine List.mem_cons_of_mem _ (bits_val x c l (fun zd=>?_))
   have:=h zd;rw [bitsD,Maps.atKey_put_other (fun e=>hx (by injection e with _ e;exact e.symm))] at this
   exact this
theorem exec_neqR (d:Option Tmp) (ty:TypeId) (pos:String) (after:Array Edge) (gd:Option (Nat × Bool)) (r:Operand→Value) (x y:Operand) (a b:Int) (hx:r x=.agg #[.int .i64 a,.int .i64 b]) (hy:r y=.agg #[.int .i64 0,.int .i64 0]) (w:World) :
  (execOp r ⟨d,.binOp .neq 31 x y 31,ty,pos,after,gd⟩).run Tryz.prog w=.ok (.value (.bool (!(a == 0 && b == 0)))) w:=by
 simp only [execOp];by_cases ha:a=0
 ·subst ha
  by_cases hb:b=0
  ·subst hb
   go_simp
  ·have e1:(b == 0)=false:=by simpa using hb
   rw [e1];go_simp
 ·have e1:(a == 0)=false:=by simpa using ha
  rw [e1];go_simp
def BagD (tb:List (Int × Bool)) (J:List Nat) (mb m:Nat) (done:Nat→Bool) (w:World):Prop :=
 ∃ l:List (Int × Bool),l.length+m=11∧w.ownsMap Tryz.prog 3 boolR mb l.length (bitsD l)∧(∀ p∈l,p∈tb)∧∀ (i j:Nat) (p:Int × Bool),J[i]?=some j→tb[i]?=some p→done j=true→p∈l
theorem BagD.step {tb:List (Int × Bool)} {J:List Nat} {mb m:Nat} {done:Nat→Bool} {w':World} {i0 j0:Nat} {p0:Int × Bool} (hnd:J.Nodup) (h0:J[i0]?=some j0) (hp0:tb[i0]?=some p0) (l:List (Int × Bool)) (hl:l.length+(m+1)=11) (h1:∀ p∈l,p∈tb)
  (h2:∀ (i j:Nat) (p:Int × Bool),J[i]?=some j→tb[i]?=some p→done j=true→p∈l) (ho:w'.ownsMap Tryz.prog 3 boolR mb (l.length+1) (bitsD (p0::l))):BagD tb J mb m (fun i=>i == j0 || done i) w':=by
 refine ⟨p0::l,by rw [List.length_cons];omega,by rw [List.length_cons];exact ho,fun p hp=>?_,fun i j p hj hp hd=>?_⟩
 ·rcases List.mem_cons.1 hp with rfl | hp
  ·exact List.mem_of_getElem? hp0
  ·exact h1 p hp
 ·by_cases e:j=j0
  ·subst e
   have hi:i=i0:=by
    obtain ⟨a1,a2⟩:=List.getElem?_eq_some_iff.1 hj
    obtain ⟨a3,a4⟩:=List.getElem?_eq_some_iff.1 h0
    exact (List.getElem_inj hnd).1 (a2.trans a4.symm)
   subst hi;rw [hp0] at hp;injection hp with hp
   rw [hp];exact List.mem_cons_self
  ·have e2:(j == j0)=false:=by simpa using e
   dsimp only at hd;rw [e2,Bool.false_or] at hd;exact List.mem_cons_of_mem _ (h2 i j p hj hp hd)
theorem wpList_next_bitsG {w:World} {ops:Array Oper} {rest:List Oper} {o:Oper} {a:Act} {Q:Exit→Act→World→Prop} (hg:o.guard=none) (it:Operand) (hop:o.op=Op.next it false) (l tb:List (Int × Bool)) (hk:∀ p∈l,p∈tb)
  (b r n:Nat) (left:Lit→Bool) (cnt:Nat) (hit:a.eval it=.pointer (some ⟨r,0,none⟩)) (h:w.ranges Tryz.prog 3 boolR b r n (bitsD l) left cnt)
  (hDone:(∀ kl,left kl=false)→wpList Tryz.prog ops Q rest (a.put o.dst (.tuple #[.bool false])) w)
  (hF:∀ (x:Int) (w':World) (cnt':Nat),Hid ((x,false)∈tb)→Hid (w'.ranges Tryz.prog 3 boolR b r n (bitsD l) (fun z=>left z && !z.sameKey (.int .i64 x)) cnt')→cnt'<cnt→w.grownBy w' (some r)→(Instr.entry (.pointer (some ⟨r,0,none⟩))).run Tryz.prog w'=.ok (.tuple #[.int .i64 x,.bool false]) w' →
   wpList Tryz.prog ops Q rest (a.put o.dst (.tuple #[.bool true,.int .i64 x,.bool false])) w')
  (hT:∀ (x:Int) (w':World) (cnt':Nat),Hid ((x,true)∈tb)→Hid (w'.ranges Tryz.prog 3 boolR b r n (bitsD l) (fun z=>left z && !z.sameKey (.int .i64 x)) cnt')→cnt'<cnt→w.grownBy w' (some r)→(Instr.entry (.pointer (some ⟨r,0,none⟩))).run Tryz.prog w'=.ok (.tuple #[.int .i64 x,.bool true]) w' →
   wpList Tryz.prog ops Q rest (a.put o.dst (.tuple #[.bool true,.int .i64 x,.bool true])) w') :
  wpList Tryz.prog ops Q (o::rest) a w:=by
 refine wpList_next_ranges w hg it hop 3 (Maps.int_keyed Tryz.underlying3) boolR (Value.int .i64) Value.bool (fun key kl hkey=>by obtain ⟨x,rfl,_⟩:=Maps.keyOf_int_inv Tryz.underlying3 hkey;exact ⟨x,rfl⟩) (fun u y hu=>by cases u <;> simp [boolR] at hu;exact ⟨_,rfl⟩) b r n _ left cnt hit h (fun _ hl=>hDone hl) ?_
 intro x c kl y w' cnt' hkey hlk hv hat hrg hlt hgr hsz hen;obtain ⟨x',ex,rfl,_⟩:=Maps.keyOf_int_inv Tryz.underlying3 hkey;cases ex
 cases hv
 cases c with
 | false=>exact hF x w' cnt' (Lib.hid (hk _ (bits_val x false l hat))) (Lib.hid hrg) hlt hgr hen
 | true=>exact hT x w' cnt' (Lib.hid (hk _ (bits_val x true l hat))) (Lib.hid hrg) hlt hgr hen
def fieldB (b1 b2 b3 b4 b5 b6 b7 b8 b9 b10 b11:Bool):List (Int × Bool):=[(1,b1),(2,b2),(4,b3),(8,b4),(16,b5),(32,b6),(64,b7),(128,b8),(256,b9),(512,b10),(1024,b11)]
theorem field_small (b1 b2 b3 b4 b5 b6 b7 b8 b9 b10 b11:Bool):maskB (fieldB b1 b2 b3 b4 b5 b6 b7 b8 b9 b10 b11) &&& ~~~2047#64=0#64:=by
 refine (mask_and _ _).2 (fun p hp _=>?_)
 unfold fieldB at hp;simp only [List.mem_cons,List.not_mem_nil,or_false] at hp;rcases hp with rfl | rfl | rfl | rfl | rfl | rfl | rfl | rfl | rfl | rfl | rfl <;> (dsimp only;decide)
theorem field_one (b1 b2 b3 b4 b5 b6 b7 b8 b9 b10 b11:Bool) (p q:Int × Bool) (hp:p∈fieldB b1 b2 b3 b4 b5 b6 b7 b8 b9 b10 b11) (hq:q∈fieldB b1 b2 b3 b4 b5 b6 b7 b8 b9 b10 b11) (h:p.1=q.1):p=q:=by
 unfold fieldB at hp hq;simp only [List.mem_cons,List.not_mem_nil,or_false] at hp hq;rcases hp with rfl | rfl | rfl | rfl | rfl | rfl | rfl | rfl | rfl | rfl | rfl <;> rcases hq with rfl | rfl | rfl | rfl | rfl | rfl | rfl | rfl | rfl | rfl | rfl <;> first | rfl | (dsimp only at h;exact absurd h (by decide))
theorem facts_cases (fo fn:Int) (b:Bool) (h:(fo != 0 || fn != 0)=b):((fo != 0)=true∧b=true)∨((fo != 0)=false∧(fn != 0)=true∧b=true)∨((fo != 0)=false∧(fn != 0)=false∧b=false):=by
 revert h
 cases (fo != 0) <;> cases (fn != 0) <;> cases b <;> decide
theorem bareG {w W W':World} {mb:Nat} {cA cF:Array Value} (h:Blk W w.heap.size 41 cA∧Blk W (w.heap.size+1) 39 cF∧Below w.heap.size w W) {row:Option Nat} (hg:W.grownBy W' row) (hr:∀ q,row=some q→q=mb) (hmb:w.heap.size+1<mb) :
  Blk W' w.heap.size 41 cA∧Blk W' (w.heap.size+1) 39 cF∧Below w.heap.size w W':=bareS h hg hr hmb
theorem bare_G (w:World) (kn:Nat) (F:Int) (hkn:kn<22) (hG:w.cell? ⟨0,kn,none⟩=some (.int .i64 F)) (h0:0<w.heap.size) (day known file office party other number amount sn sd fo fn:Int) (Ad Ac Al Ae:Option Addr) (nd cd nc cc nl cl ne ce:Nat) (hnd:nd≤1000000) (hnc:nc≤1000000)
  (b1 b2 b3 b4 b5 b6 b7 b8 b9 b10 b11:Bool) (h1:(file != 0)=b1) (h2:(office != 0)=b2) (h3:(party != 0)=b3) (h4:(other != 0)=b4) (h5:(number != 0)=b5) (h6:(amount != 0)=b6) (h7:(!(sn == 0 && sd == 0))=b7) (h8:decide (0<nd+nc)=b8) (h9:decide (0<nl)=b9) (h10:decide (0<ne)=b10) (h11:(fo != 0 || fn != 0)=b11) :
  Calls Tryz.prog 100 #[.agg #[iI (kn:Int),iI day,iI known,iI file,iI office,iI party,iI other,iI number,iI amount,iI sn,iI sd,.slice Ad nd cd,.slice Ac nc cc,.slice Al nl cl,.slice Ae ne ce,iI fo,iI fn,nN,nN]] w
   fun e w'=>e=.returned (.bool ((fieldB b1 b2 b3 b4 b5 b6 b7 b8 b9 b10 b11).all fun p=>!p.2 || (BitVec.ofInt 64 p.1 &&& ~~~(BitVec.ofInt 64 F) == 0#64)))∧Below w.heap.size w w':=by
 have X0:=(Blk.new w 41 #[iI (kn:Int),iI day,iI known,iI file,iI office,iI party,iI other,iI number,iI amount,iI sn,iI sd,.slice Ad nd cd,.slice Ac nc cc,.slice Al nl cl,.slice Ae ne ce,iI fo,iI fn,nN,nN]);have P0:=below_new w (.cells #[iI (kn:Int),iI day,iI known,iI file,iI office,iI party,iI other,iI number,iI amount,iI sn,iI sd,.slice Ad nd cd,.slice Ac nc cc,.slice Al nl cl,.slice Ae ne ce,iI fo,iI fn,nN,nN] 41);have H7:=Lib.hid h7;clear h7;obtain ⟨nn,hnn⟩:∃ z:Nat,nd+nc=z:=⟨_,rfl⟩;rw [hnn] at h8;have hwr:IntKind.i64.wrap ((nd:Int)+(nc:Int))=(nn:Int):=by rw [IntKind.wrap_i64];omega
 have hc:=X0.c19;go_enter Tryz.func100,Tryz.ntmps100
 have X1:=X0.alloc (.cells #[.int .i64 fo,.int .i64 fn,.slice none 0 0,.slice none 0 0] 39);have Y1:=Blk.new (w.alloc (.cells #[iI (kn:Int),iI day,iI known,iI file,iI office,iI party,iI other,iI number,iI amount,iI sn,iI sd,.slice Ad nd cd,.slice Ac nc cc,.slice Al nl cl,.slice Ae ne ce,iI fo,iI fn,nN,nN] 41)) 39 #[.int .i64 fo,.int .i64 fn,.slice none 0 0,.slice none 0 0];rw [World.size_alloc] at Y1;have P1:=P0.alloc P0.size (.cells #[.int .i64 fo,.int .i64 fn,.slice none 0 0,.slice none 0 0] 39);go_upto_region 3 with fail;clear hc X0 P0;generalize ((w.alloc (.cells #[iI (kn:Int),iI day,iI known,iI file,iI office,iI party,iI other,iI number,iI amount,iI sn,iI sd,.slice Ad nd cd,.slice Ac nc cc,.slice Al nl cl,.slice Ae ne ce,iI fo,iI fn,nN,nN] 41)).alloc (.cells #[.int .i64 fo,.int .i64 fn,.slice none 0 0,.slice none 0 0] 39))=w2 at *;refine wp_region_held_drew (S:=(fun w'=>Blk w' w.heap.size 41 #[iI (kn:Int),iI day,iI known,iI file,iI office,iI party,iI other,iI number,iI amount,iI sn,iI sd,.slice Ad nd cd,.slice Ac nc cc,.slice Al nl cl,.slice Ae ne ce,iI fo,iI fn,nN,nN]∧Blk w' (w.heap.size+1) 39 #[.int .i64 fo,.int .i64 fn,.slice none 0 0,.slice none 0 0]∧Below w.heap.size w w')) (by kernel_rfl) ?_ (fun hHeld=>?_)
 ·first | done | ((try dsimp only);exact ⟨X1.drew,Y1.drew,P1.drew⟩)
 clear X1 Y1 P1;refine tq 1 10 rfl ?_
 refine th 2 11 rfl (fun _ hSw=>hSw.1.cell 3) ?_
 refine tq 3 12 rfl ?_
 refine tq 5 13 rfl ?_
 refine th 6 14 rfl (fun _ hSw=>hSw.1.cell 4) ?_
 refine tq 7 15 rfl ?_
 refine tq 9 16 rfl ?_
 refine th 10 17 rfl (fun _ hSw=>hSw.1.cell 5) ?_
 refine tq 11 18 rfl ?_
 refine tq 13 19 rfl ?_
 refine th 14 20 rfl (fun _ hSw=>hSw.1.cell 6) ?_
 refine tq 15 21 rfl ?_
 refine tq 17 22 rfl ?_
 refine th 18 23 rfl (fun _ hSw=>hSw.1.cell 7) ?_
 refine tq 19 24 rfl ?_
 refine tq 21 25 rfl ?_
 refine th 22 26 rfl (fun _ hSw=>hSw.1.cell 8) ?_
 refine tq 23 27 rfl ?_
 refine tq 25 28 rfl ?_
 refine tq 26 29 rfl ?_ (hy:=by intro w' hSw;(try dsimp only at hSw);have hc:=hSw.1.cell 9;have hc2:=hSw.1.cell 10;go_simp;try (with_reducible rfl))
 refine tq 27 30 rfl ?_
 refine tq 28 31 rfl ?_ (hy:=by intro w' hSw;(try dsimp only at hSw);refine (exec_neqR _ _ _ _ _ _ (.tmp 29) (.tmp 30) sn sd rfl rfl _).trans ?_;rw [H7.out];try (with_reducible rfl))
 refine tq 30 32 rfl ?_
 refine tq 31 33 rfl ?_
 refine th 32 34 rfl (fun _ hSw=>hSw.1.cell 11) ?_
 refine tq 33 35 rfl ?_
 refine tq 34 36 rfl ?_
 refine tq 35 37 rfl ?_
 refine th 36 38 rfl (fun _ hSw=>hSw.1.cell 12) ?_
 refine tq 37 39 rfl ?_
 refine tq 38 40 rfl ?_
 refine tq 39 41 rfl ?_
 refine tq 41 42 rfl ?_
 refine th 42 43 rfl (fun _ hSw=>hSw.1.cell 13) ?_
 refine tq 43 44 rfl ?_
 refine tq 44 45 rfl ?_
 refine tq 46 46 rfl ?_
 refine th 47 47 rfl (fun _ hSw=>hSw.1.cell 14) ?_
 refine tq 48 48 rfl ?_
 refine tq 49 49 rfl ?_
 refine tq 51 50 rfl ?_
 refine th 52 51 rfl (fun _ hSw=>hSw.2.1.cell 0) ?_
 rcases facts_cases fo fn b11 h11 with ⟨hfo,hb11⟩ | ⟨hfo,hfn,hb11⟩ | ⟨hfo,hfn,hb11⟩
 all_goals
  have HB11:=Lib.hid hb11;clear h11 hb11;refine tq 53 52 rfl ?_
  refine tq 54 53 rfl ?_
  first
   |skip
    refine tz 55 54 rfl ?_
    refine tz 56 55 rfl ?_
    refine tz 57 56 rfl ?_
   |skip
    refine tq 55 54 rfl ?_
    refine th 56 55 rfl (fun _ hSw=>hSw.2.1.cell 1) ?_
    refine tq 57 56 rfl ?_
  refine tq 58 57 rfl ?_
  refine tq 59 58 rfl ?_
  first
   |skip
    refine tz 60 59 rfl ?_
    refine tz 61 60 rfl ?_
    refine tz 62 61 rfl ?_
    refine tz 63 62 rfl ?_
    refine tz 64 63 rfl ?_
    refine tz 65 64 rfl ?_
    refine tz 66 65 rfl ?_
    refine tz 67 66 rfl ?_
   |skip
    refine tq 60 59 rfl ?_
    refine th 61 60 rfl (fun _ hSw=>hSw.2.1.cell 2) ?_
    refine tq 62 61 rfl ?_
    refine tq 63 62 rfl ?_
    refine th 64 63 rfl (fun _ hSw=>hSw.2.1.cell 3) ?_
    refine tq 65 64 rfl ?_
    refine tq 66 65 rfl ?_
    refine tq 67 66 rfl ?_
  refine tq 68 67 rfl ?_
  have hmk:=run_makeMap (P:=Tryz.prog) 197 w2.drew;have hlt1:w.heap.size+1<w2.drew.heap.size:=hHeld.2.1.lt;have M0:(w2.drew.alloc (.map #[] 0)).ownsMap Tryz.prog 3 boolR w2.drew.heap.size 0 (bitsD []):=World.ownsMap_made w2.drew Tryz.prog 3 boolR;refine rd 0 (some 9) rfl fun K hK=>?_
  go_simp;skip;refine hK.out _ _ (⟨hHeld.1.alloc _,hHeld.2.1.alloc _,hHeld.2.2.alloc hHeld.2.2.size _⟩) fun hHeld=>?_
  clear hK K;(try simp only [pS,pB,pZ,pC]);clear hmk;have hndJ:([4,8,12,16,20,24,29,40,45,50,69]:List Nat).Nodup:=by decide
  refine anyH_bagd [4,8,12,16,20,24,29,40,45,50,69] hndJ (by kernel_rfl) (BagD (fieldB b1 b2 b3 b4 b5 b6 b7 b8 b9 b10 b11) [4,8,12,16,20,24,29,40,45,50,69] w2.drew.heap.size) _ 2 ?_ ?_ _ ⟨[],rfl,M0,(fun _ h=>by cases h),fun i j p hj _ hd=>?_⟩ hHeld
  ·intro j hj m done wj K hdn ⟨l,hl,hown,hk1,hk2⟩ hS hK
   simp only [List.mem_cons,List.not_mem_nil,or_false] at hj;rcases hj with rfl | rfl | rfl | rfl | rfl | rfl | rfl | rfl | rfl | rfl | rfl
   ·exact wpOp_ins (o:=⟨none,_,_,_,_,_⟩) rfl rfl rfl _ _ _ rfl w2.drew.heap.size _ _ rfl hown (by omega) 1 _ rfl (by omega) (by omega) rfl (fun w' hown' hgr=>hK w' (BagD.step hndJ (i0:=0) rfl rfl l hl hk1 hk2 hown') (bareG hS hgr (fun q e=>by cases e;rfl) hlt1))
   ·exact wpOp_ins (o:=⟨none,_,_,_,_,_⟩) rfl rfl rfl _ _ _ rfl w2.drew.heap.size _ _ rfl hown (by omega) 2 _ rfl (by omega) (by omega) rfl (fun w' hown' hgr=>hK w' (BagD.step hndJ (i0:=1) rfl rfl l hl hk1 hk2 hown') (bareG hS hgr (fun q e=>by cases e;rfl) hlt1))
   ·exact wpOp_ins (o:=⟨none,_,_,_,_,_⟩) rfl rfl rfl _ _ _ rfl w2.drew.heap.size _ _ rfl hown (by omega) 4 _ rfl (by omega) (by omega) rfl (fun w' hown' hgr=>hK w' (BagD.step hndJ (i0:=2) rfl rfl l hl hk1 hk2 hown') (bareG hS hgr (fun q e=>by cases e;rfl) hlt1))
   ·exact wpOp_ins (o:=⟨none,_,_,_,_,_⟩) rfl rfl rfl _ _ _ rfl w2.drew.heap.size _ _ rfl hown (by omega) 8 _ rfl (by omega) (by omega) rfl (fun w' hown' hgr=>hK w' (BagD.step hndJ (i0:=3) rfl rfl l hl hk1 hk2 hown') (bareG hS hgr (fun q e=>by cases e;rfl) hlt1))
   ·exact wpOp_ins (o:=⟨none,_,_,_,_,_⟩) rfl rfl rfl _ _ _ rfl w2.drew.heap.size _ _ rfl hown (by omega) 16 _ rfl (by omega) (by omega) rfl (fun w' hown' hgr=>hK w' (BagD.step hndJ (i0:=4) rfl rfl l hl hk1 hk2 hown') (bareG hS hgr (fun q e=>by cases e;rfl) hlt1))
   ·exact wpOp_ins (o:=⟨none,_,_,_,_,_⟩) rfl rfl rfl _ _ _ rfl w2.drew.heap.size _ _ rfl hown (by omega) 32 _ rfl (by omega) (by omega) rfl (fun w' hown' hgr=>hK w' (BagD.step hndJ (i0:=5) rfl rfl l hl hk1 hk2 hown') (bareG hS hgr (fun q e=>by cases e;rfl) hlt1))
   ·exact wpOp_ins (o:=⟨none,_,_,_,_,_⟩) rfl rfl rfl _ _ _ rfl w2.drew.heap.size _ _ rfl hown (by omega) 64 _ rfl (by omega) (by omega) rfl (fun w' hown' hgr=>hK w' (BagD.step hndJ (i0:=6) rfl rfl l hl hk1 hk2 hown') (bareG hS hgr (fun q e=>by cases e;rfl) hlt1))
   ·exact wpOp_ins (o:=⟨none,_,_,_,_,_⟩) rfl rfl rfl _ _ _ rfl w2.drew.heap.size _ _ rfl hown (by omega) 128 _ rfl (by omega) (by omega) rfl (fun w' hown' hgr=>hK w' (BagD.step hndJ (i0:=7) rfl rfl l hl hk1 hk2 hown') (bareG hS hgr (fun q e=>by cases e;rfl) hlt1))
   ·exact wpOp_ins (o:=⟨none,_,_,_,_,_⟩) rfl rfl rfl _ _ _ rfl w2.drew.heap.size _ _ rfl hown (by omega) 256 _ rfl (by omega) (by omega) rfl (fun w' hown' hgr=>hK w' (BagD.step hndJ (i0:=8) rfl rfl l hl hk1 hk2 hown') (bareG hS hgr (fun q e=>by cases e;rfl) hlt1))
   ·exact wpOp_ins (o:=⟨none,_,_,_,_,_⟩) rfl rfl rfl _ _ _ rfl w2.drew.heap.size _ _ rfl hown (by omega) 512 _ rfl (by omega) (by omega) rfl (fun w' hown' hgr=>hK w' (BagD.step hndJ (i0:=9) rfl rfl l hl hk1 hk2 hown') (bareG hS hgr (fun q e=>by cases e;rfl) hlt1))
   ·exact wpOp_ins (o:=⟨none,_,_,_,_,_⟩) rfl rfl rfl _ _ _ rfl w2.drew.heap.size _ _ rfl hown (by omega) 1024 _ rfl (by omega) (by omega) rfl (fun w' hown' hgr=>hK w' (BagD.step hndJ (i0:=10) rfl (by rw [HB11.out];rfl) l hl hk1 hk2 hown') (bareG hS hgr (fun q e=>by cases e;rfl) hlt1))
  ·intro done w4 hall ⟨l,hl,hown,hk1,hk2⟩ hS
   obtain ⟨w5,hrun,r1,r2,r3⟩:=hown.range (Maps.int_keyed Tryz.underlying3) Tryz.underlying197;have hrun:(Instr.range 197 (.map (some w2.heap.size))).run Tryz.prog w4=.ok (.pointer (some ⟨w4.heap.size,0,none⟩)) w5:=hrun;refine tq 70 68 rfl ?_
   have hS5:=bareG hS r2 (fun q e=>by cases e) hlt1
   refine rd 71 (some 69) rfl fun K hK=>?_
   go_simp;skip;refine hK.out _ _ (hS5) fun hHeld=>?_
   clear hK K;(try simp only [pS,pB,pZ,pC]);refine dn ?_
   obtain ⟨X2,Y2,P2⟩:=hS5;have hlt4:w.heap.size<w4.heap.size:=hS.1.lt;have HKK:=Lib.hid hk1;have r1:w5.ranges Tryz.prog 3 boolR w2.heap.size w4.heap.size l.length (bitsD l) _ _:=r1;have HR1:=Lib.hid r1
   have HGM:=Lib.hid (GotM.zero (fieldB b1 b2 b3 b4 b5 b6 b7 b8 b9 b10 b11) (Maps.has (bitsD l)) (fun p hp=>bits_has l p (by
    obtain ⟨i,hi,rfl⟩:=List.getElem_of_mem hp;have hi:i<11:=hi;exact hk2 i (([4,8,12,16,20,24,29,40,45,50,69]:List Nat)[i]'hi) _ (List.getElem?_eq_getElem hi) (List.getElem?_eq_getElem _) (hall _ (List.getElem_mem hi)))))
   have HSM:=Lib.hid (field_small b1 b2 b3 b4 b5 b6 b7 b8 b9 b10 b11);have HON:=Lib.hid (field_one b1 b2 b3 b4 b5 b6 b7 b8 b9 b10 b11);clear hrun hk1 hk2 hall hHeld hS Y2 M0 hlt1 r1 hown r2 r3 hndJ;generalize htb:fieldB b1 b2 b3 b4 b5 b6 b7 b8 b9 b10 b11=tb at *;have HTB:=Lib.hid htb;clear htb;generalize w2.heap.size=mb at *;clear h1 h2 h3 h4 h5 h6 h8 h9 h10 hwr hnn;go_wp2_with fail;go_loopw [4] (fun m wr=>∃ (v:Int) (left:Lit→Bool) (cnt:Nat),m=.int .i64 v∧GotM tb left v∧wr.ranges Tryz.prog 3 boolR mb w4.heap.size l.length (bitsD l) left cnt∧Below w.heap.size w wr∧Blk wr w.heap.size 41 #[iI (kn:Int),iI day,iI known,iI file,iI office,iI party,iI other,iI number,iI amount,iI sn,iI sd,.slice Ad nd cd,.slice Ac nc cc,.slice Al nl cl,.slice Ae ne ce,iI fo,iI fn,nN,nN]) (fun _ wr=>wr.rangeLeft mb w4.heap.size)
   case atStart=>exact ⟨0,_,_,rfl,HGM.out,HR1.out,P2,X2⟩
   case round =>
    obtain ⟨v,left,cnt,rfl,hv,hrg,hB,hX⟩:=hrel;have HV:=Lib.hid hv;have HRG:=Lib.hid hrg;clear hv hrg;have hc:wr.cell? ⟨w.heap.size,0,none⟩=some (.int .i64 (kn:Int)):=hX.cell 0;have hG2:=(hB.cell (p:=⟨0,kn,none⟩) h0).trans hG;go_wp2_with (at_next;refine wpList_next_bitsG rfl _ rfl l tb HKK.out mb w4.heap.size _ _ _ rfl HRG.out (fun hdl=>?_) (fun x w6 cnt6 hx6 hr6 hlt6 hg6 he6=>?_) (fun x w6 cnt6 hx6 hr6 hlt6 hg6 he6=>?_))
    ·go_ret
     refine ⟨?_,hB⟩
     refine congrArg (fun b=>Ending.returned (Value.bool b)) ?_
     rw [HTB.out];exact GotM.done HV.out hdl F
    ·have X6:=hX.grown hg6 (fun e=>by injection e with e;omega)
     have P6:=hB.grown hg6 hB.size (fun q e=>by injection e with e;omega)
     have hm6:w6.rangeLeft mb w4.heap.size<wr.rangeLeft mb w4.heap.size:=by rw [hr6.out.left_eq,HRG.out.left_eq];omega
     go_roundw
     case rel=>first | exact ⟨v,_,cnt6,rfl,GotM.skip HV.out HON.out hx6.out rfl,hr6.out,P6,X6⟩ | exact ⟨_,_,_,_,_,_,_,_,_,_,_,_,⟨v,_,cnt6,rfl,GotM.skip HV.out HON.out hx6.out rfl,hr6.out,P6,X6⟩,rfl⟩
     case measure=>exact hm6
    ·have X6:=hX.grown hg6 (fun e=>by injection e with e;omega)
     have P6:=hB.grown hg6 hB.size (fun q e=>by injection e with e;omega)
     have hm6:w6.rangeLeft mb w4.heap.size<wr.rangeLeft mb w4.heap.size:=by rw [hr6.out.left_eq,HRG.out.left_eq];omega
     go_roundw
     case rel=>first | exact ⟨_,_,cnt6,rfl,GotM.or HV.out hx6.out rfl HSM.out,hr6.out,P6,X6⟩ | exact ⟨_,_,_,_,_,_,_,_,_,_,_,_,⟨_,_,cnt6,rfl,GotM.or HV.out hx6.out rfl HSM.out,hr6.out,P6,X6⟩,rfl⟩
     case measure=>exact hm6
  ·have hm:=List.mem_of_getElem? hj
   simp only [List.mem_cons,List.not_mem_nil,or_false] at hm;rcases hm with rfl | rfl | rfl | rfl | rfl | rfl | rfl | rfl | rfl | rfl | rfl <;> exact absurd hd (by decide)
def inR (x lo hi:Int):Bool:=decide (lo≤x) && decide (x≤hi)
theorem within_gen (x lo hi:Int) (w:World):Calls Tryz.prog 99 #[.int .i64 x,.int .i64 lo,.int .i64 hi] w fun e w'=>e=.returned (.bool (inR x lo hi))∧w'=w:=by
 unfold inR;by_cases h0:lo≤x
 ·by_cases h1:x≤hi
  ·have d0:decide (lo≤x)=true:=decide_eq_true h0
   have d1:decide (x≤hi)=true:=decide_eq_true h1;rw [d0,d1];exact actwithin_any x lo hi h0 h1 w
  ·have d0:decide (lo≤x)=true:=decide_eq_true h0
   have d1:decide (x≤hi)=false:=decide_eq_false h1;rw [d0,d1];go_enter Tryz.func99,Tryz.ntmps99
   go_wp2_with fail;go_ret;exact ⟨rfl,rfl⟩
 ·have d0:decide (lo≤x)=false:=decide_eq_false h0
  rw [d0];go_enter Tryz.func99,Tryz.ntmps99
  go_wp2_with fail;go_ret;exact ⟨rfl,rfl⟩
theorem bitsD_seen (x:Int) (zd:DataW Unit):∀ (l:List Int),x∈l→(bitsD (seen l)).atKey (.int .i64 x) zd=.lit (.bool true)
 | y::l,h=>by
  by_cases e:y=x
  ·subst e
   exact Maps.atKey_put_same (bitsD_map _) (by trivial) _ _
  ·show ((bitsD (seen l)).put (.int .i64 y) (.lit (.bool true))).atKey (.int .i64 x) zd=_
   rw [Maps.atKey_put_other (fun e2=>e (by injection e2 with _ e2;exact e2.symm))]
   rcases List.mem_cons.1 h with h | h
   ·exact absurd h.symm e
   ·exact bitsD_seen x zd l h
def badEa (l:List Int) (x day:Int):Bool:=decide (x∈l) || !inR x 0 4095 || !inR day 0 131072
theorem afil1_gen (x day:Int) (hx:-9223372036854775808≤x∧x≤9223372036854775807) (kb mb:Nat) (l:List Int) (hl:l.length≤100) (W:World) (hk:Blk W kb 197 #[.map (some mb)]) (hm:Seen W mb l) :
  Calls Tryz.prog 173 #[.agg #[.int .i64 x,.int .i64 day],.pointer (some ⟨kb,0,none⟩)] W fun e w'=>e=.returned (.bool (badEa l x day))∧Seen w' mb (x::l)∧W.grownBy w' (some mb):=by
 unfold badEa;have HA:=Lib.hid (fun W=>within_gen x 0 4095 W)
 have HB:=Lib.hid (fun W=>within_gen day 0 131072 W)
 have hc:=(hk.alloc (.cells #[.int .i64 x,.int .i64 day] 106)).c1;have X0:=Blk.new W 106 #[.int .i64 x,.int .i64 day];have hmW:Seen (W.alloc (.cells #[.int .i64 x,.int .i64 day] 106)) mb l:=hm.kept (World.grownBy_alloc W _ none) (by simp)
 have hmb:mb<W.heap.size:=hm.lt;have hkey:keyOf Tryz.prog 3 (.int .i64 x)=some (.int .i64 x):=Maps.keyOf_int_mk Tryz.underlying3 (WalkArith.wf_i64 hx);obtain ⟨v,ps,hrun,hv⟩:=hmW.lookup (Maps.int_keyed Tryz.underlying3) Tryz.underlying197 (zero_bool _) (zd:=.lit (.bool false)) (zp:=[]) rfl hkey
 obtain rfl:v=.bool (decide (x∈l)):=by
  by_cases hin:x∈l
  ·rw [bitsD_seen x _ l hin] at hv
   rw [decide_eq_true hin]
   cases v with
   | bool b=>simp [boolR] at hv;rw [hv.1]
   | _=>simp [boolR] at hv
  ·rw [bitsD_none x _ (seen l) (fun p hp=>by
    obtain ⟨y,hy,rfl⟩:=List.mem_map.1 hp;exact fun e=>hin (e ▸ hy))] at hv
   rw [decide_eq_false hin]
   cases v with
   | bool b=>simp [boolR] at hv;rw [hv.1]
   | _=>simp [boolR] at hv
 have HM:=Lib.hid hmW;clear hv hm hmW hk hx;have hc2:=X0.c2;generalize decide (x∈l)=tw at *;generalize inR x 0 4095=b1 at *;generalize inR day 0 131072=b2 at *
 cases tw with
 | true =>
  go_enter Tryz.func173,Tryz.ntmps173
  go_wp2_with (at_mapUpdate;refine wpList_mapUpdate_own _ rfl _ _ _ 197 rfl 3 4 (Maps.int_keyed Tryz.underlying3) Tryz.underlying197 boolR mb l.length (bitsD (seen l)) rfl HM.out (by unfold maxLen;omega) (.int .i64 x) (.bool true) (.int .i64 x) rfl rfl hkey (.lit (.bool true)) [] rfl ?_;intro w4 ho4 hg4;have X4:=(X0.grown hg4 (fun e=>by injection e with e;omega)).c2)
  go_ret;exact ⟨rfl,ho4,grown_up (World.grownBy_alloc W _ (some mb)) hg4 (fun k e _=>e)⟩
 | false =>
  go_enter Tryz.func173,Tryz.ntmps173
  go_wp2_with (at_mapUpdate;refine wpList_mapUpdate_own _ rfl _ _ _ 197 rfl 3 4 (Maps.int_keyed Tryz.underlying3) Tryz.underlying197 boolR mb l.length (bitsD (seen l)) rfl HM.out (by unfold maxLen;omega) (.int .i64 x) (.bool true) (.int .i64 x) rfl rfl hkey (.lit (.bool true)) [] rfl ?_;intro w4 ho4 hg4;have X4:=(X0.grown hg4 (fun e=>by injection e with e;omega)).c2)
  refine (HA.out _).mono ?_
  rintro e w5 ⟨rfl,rfl⟩
  cases b1 with
  | false =>
   go_wp2_with fail;go_ret;exact ⟨rfl,ho4,grown_up (World.grownBy_alloc W _ (some mb)) hg4 (fun k e _=>e)⟩
  | true =>
   go_wp2_with fail;refine (HB.out _).mono ?_
   rintro e w5 ⟨rfl,rfl⟩
   cases b2 with
   | false =>
    go_wp2_with fail;go_ret;exact ⟨rfl,ho4,grown_up (World.grownBy_alloc W _ (some mb)) hg4 (fun k e _=>e)⟩
   | true =>
    go_wp2_with fail;go_ret;exact ⟨rfl,ho4,grown_up (World.grownBy_alloc W _ (some mb)) hg4 (fun k e _=>e)⟩
def seenAt (file:Int) (e:List (Int × Int)) (k:Nat):List Int:=(file::(e.take k).map Prod.fst).reverse
theorem seenAt_step {file:Int} {e:List (Int × Int)} {k:Nat} (h:k<e.length):e[k].1::seenAt file e k=seenAt file e (k+1):=by
 unfold seenAt;rw [List.take_add_one,List.getElem?_eq_getElem h,Option.toList_some,List.map_append,List.map_cons,List.map_nil,← List.cons_append,List.reverse_append]
 rfl
theorem seenAt_len (file:Int) (e:List (Int × Int)) (k:Nat):(seenAt file e k).length≤e.length+1:=by
 unfold seenAt;rw [List.length_reverse,List.length_cons,List.length_map,List.length_take];omega
def BadEs (file:Int) (e:List (Int × Int)):Prop:=∃ (k:Nat) (h:k<e.length),badEa (seenAt file e k) e[k].1 e[k].2=true
theorem eindex_gen (w:World) (e:List (Int × Int)) (v:Value) (B:Nat) (hr:Rep w B v (.s 2 (prD e))) (he:e.length≤8) (hok:∀ p∈e,-9223372036854775808≤p.1∧p.1≤9223372036854775807) (file:Int)
  (kb mb:Nat) (hkb:B≤kb) (hmb:B≤mb) (hlt:kb≠mb) (hk:Blk w kb 197 #[.map (some mb)]) (hm:Seen w mb [file]) :
  Calls Tryz.prog 191 #[v,.func (.func 173) #[] #[.pointer (some ⟨kb,0,none⟩)]] w fun x w'=>(∃ i:Int,x=.returned (.int .i64 i)∧((i=-1∧¬ BadEs file e)∨(0≤i∧BadEs file e)))∧w.grownBy w' (some mb):=by
 obtain ⟨A,c,rfl,hc,hcell⟩:=hr.pairs;clear hr;have HCELL:=Lib.hid hcell;have HOK:=Lib.hid hok;clear hcell hok;go_enter Tryz.func191,Tryz.ntmps191
 go_wp2;go_loopw [8] (fun i wr=>∃ k:Nat,i=.int .i64 (k:Int)∧k≤e.length∧(∀ (q:Nat) (h:q<e.length),q<k→badEa (seenAt file e q) e[q].1 e[q].2=false)∧Seen wr mb (seenAt file e k)∧w.grownBy wr (some mb)) (fun i _=>e.length - (intOf i).toNat)
 case atStart=>exact ⟨0,rfl,Nat.zero_le _,fun _ _ h=>by omega,hm,World.grownBy.refl w _⟩
 case round =>
  obtain ⟨k,rfl,hk2,hgood,hS,hG⟩:=hrel;have HGD:=Lib.hid hgood;clear hgood;by_cases hlt2:k<e.length
  ·obtain ⟨b,o,rfl,hb,c0,c1⟩:=HCELL.out k hlt2
   have p0:=HOK.out e[k] (List.getElem_mem hlt2);have d0:=(World.cell?_of_block (a:=⟨b,o+k * 2,none⟩) (hG.block b (Nat.lt_trans (Nat.lt_of_lt_of_le hb hkb) hk.lt) (fun e=>by injection e with e;omega))).trans c0
   have d1:=(World.cell?_of_block (a:=⟨b,o+k * 2+1,none⟩) (hG.block b (Nat.lt_trans (Nat.lt_of_lt_of_le hb hkb) hk.lt) (fun e=>by injection e with e;omega))).trans c1
   have hkk:=hk.grown hG (fun e=>by injection e with e;omega)
   have hsl:=seenAt_len file e k;have HC:=Lib.hid (afil1_gen e[k].1 e[k].2 p0 kb mb _ (by omega) wr hkk hS)
   rw [seenAt_step hlt2] at HC;have HBK:=Lib.hid (fun (hb:badEa (seenAt file e k) e[k].1 e[k].2=true)=>(⟨k,hlt2,hb⟩:BadEs file e))
   have HGK:=Lib.hid (fun (hb:badEa (seenAt file e k) e[k].1 e[k].2=false) (q:Nat) (h:q<e.length) (hq:q<k+1)=>(by
    by_cases hqk:q=k
    ·subst hqk
     exact hb
    ·exact HGD.out q h (by omega):badEa (seenAt file e q) e[q].1 e[q].2=false))
   clear c0 c1 hkk hS p0 hsl;generalize badEa (seenAt file e k) e[k].1 e[k].2=bb at *;generalize e[k].1=x at *;generalize e[k].2=y at *
   cases bb with
   | true =>
    go_wp2_with (refine HC.out.mono ?_;rintro x2 w2 ⟨rfl,hJ2,hk2⟩)
    go_ret;exact ⟨⟨(k:Int),rfl,.inr ⟨by omega,HBK.out (by first | rfl | trivial)⟩⟩,grown_up hG hk2 (fun _ e _=>e)⟩
   | false =>
    go_wp2_with (refine HC.out.mono ?_;rintro x2 w2 ⟨rfl,hJ2,hk2⟩)
    go_roundw
    case rel=>exact ⟨k+1,by go_num,by omega,HGK.out (by first | rfl | trivial),hJ2,grown_up hG hk2 (fun _ e _=>e)⟩
    case measure=>simp [intOf];omega
  ·obtain rfl:k=e.length:=by omega
   go_wp2_with fail;go_ret;exact ⟨⟨-1,rfl,.inl ⟨rfl,fun ⟨q,h,hb⟩=>by rw [HGD.out q h h] at hb;cases hb⟩⟩,hG⟩
theorem econtains_gen (w:World) (e:List (Int × Int)) (v:Value) (B:Nat) (hr:Rep w B v (.s 2 (prD e))) (he:e.length≤8) (hok:∀ p∈e,-9223372036854775808≤p.1∧p.1≤9223372036854775807) (file:Int)
  (kb mb:Nat) (hkb:B≤kb) (hmb:B≤mb) (hlt:kb≠mb) (hk:Blk w kb 197 #[.map (some mb)]) (hm:Seen w mb [file]) :
  Calls Tryz.prog 172 #[v,.func (.func 173) #[] #[.pointer (some ⟨kb,0,none⟩)]] w fun x w'=>(∃ b:Bool,x=.returned (.bool b)∧(b=true↔BadEs file e))∧w.grownBy w' (some mb):=by
 have HI:=Lib.hid (eindex_gen w e v B hr he hok file kb mb hkb hmb hlt hk hm);obtain ⟨A,c,rfl,hc,hcell⟩:=hr.pairs;clear hr hcell hok hk hm;go_enter Tryz.func172,Tryz.ntmps172
 go_wp2_with (go_at_call 191;refine HI.out.mono ?_;rintro x w2 ⟨⟨i,rfl,hi⟩,hJ2⟩;have HII:=Lib.hid hi;clear hi;have hdi:decide (0≤i)=decide (0≤i):=rfl)
 go_ret;refine ⟨⟨_,rfl,?_⟩,hJ2⟩
 rcases HII.out with ⟨rfl,hn⟩ | ⟨h0,hb⟩
 ·simp [hn]
 ·simp [h0,hb]
open Go.ChangeShapes Go.WideShapes Go.ChangeAt Go.RowKit Go.Shelf
def TabAt (W:World):Prop:=(∀ k:Nat,k<22→W.cell? ⟨0,k,none⟩=some (.int .i64 (fieldsTab.getD k 0)))∧0<W.heap.size
theorem TabAt.keep {W W':World} {B:Nat} (h:TabAt W) (hb:Below B W W') (h0:0<B):TabAt W' :=
 ⟨fun k hk=>(hb.cell (p:=⟨0,k,none⟩) h0).trans (h.1 k hk),Nat.lt_of_lt_of_le h.2 hb.size⟩
theorem TabAt.zero {W:World} (h:TabAt W):W.cell? ⟨0,0,none⟩=some (.int .i64 655):=h.1 0 (by decide)
theorem tab_laid {W:World} (hlaid:laidMetH Tryz.prog laid7 W):TabAt W:=by
 have h0:=(fields_cell hlaid).2;rw [MakeChecks.laidMetH_plain _ _ _ (by kernel_rfl)] at hlaid
 have hL : laidMet Tryz.prog [("priorart/acts.fields", Rows.laid_priorart_acts_fields)] W := hlaid;rw [fields_data] at hL;have hT := Lib.tabIs_of_head (g := 0) (t := 156) (e := 3) (n := 22) (by kernel_rfl) (by kernel_rfl) Tryz.underlying156 Tryz.underlying3 (by kernel_rfl) (by kernel_rfl) hL
 exact ⟨fun k hk=>hT.cell (g:=0) (by kernel_rfl) k hk,h0⟩
def bareT (b1 b2 b3 b4 b5 b6 b7 b8 b9 b10 b11:Bool) (F:Int):Bool:=(fieldB b1 b2 b3 b4 b5 b6 b7 b8 b9 b10 b11).all fun p=>!p.2 || (BitVec.ofInt 64 p.1 &&& ~~~(BitVec.ofInt 64 F) == 0#64)
theorem bareT_filing (b1 b2 b3 b4 b5 b6 b7 b8 b9 b10 b11:Bool):bareT b1 b2 b3 b4 b5 b6 b7 b8 b9 b10 b11 655=(!b5 && !b6 && !b7 && !b9 && !b11):=by
 unfold bareT fieldB;simp only [List.all_cons,List.all_nil,show (BitVec.ofInt 64 1 &&& ~~~(BitVec.ofInt 64 655) == 0#64)=true by decide,show (BitVec.ofInt 64 2 &&& ~~~(BitVec.ofInt 64 655) == 0#64)=true by decide,show (BitVec.ofInt 64 4 &&& ~~~(BitVec.ofInt 64 655) == 0#64)=true by decide,show (BitVec.ofInt 64 8 &&& ~~~(BitVec.ofInt 64 655) == 0#64)=true by decide,show (BitVec.ofInt 64 16 &&& ~~~(BitVec.ofInt 64 655) == 0#64)=false by decide,show (BitVec.ofInt 64 32 &&& ~~~(BitVec.ofInt 64 655) == 0#64)=false by decide,show (BitVec.ofInt 64 64 &&& ~~~(BitVec.ofInt 64 655) == 0#64)=false by decide,show (BitVec.ofInt 64 128 &&& ~~~(BitVec.ofInt 64 655) == 0#64)=true by decide,show (BitVec.ofInt 64 256 &&& ~~~(BitVec.ofInt 64 655) == 0#64)=false by decide,show (BitVec.ofInt 64 512 &&& ~~~(BitVec.ofInt 64 655) == 0#64)=true by decide,show (BitVec.ofInt 64 1024 &&& ~~~(BitVec.ofInt 64 655) == 0#64)=false by decide]
 cases b5 <;> cases b6 <;> cases b7 <;> cases b9 <;> cases b11 <;> simp
theorem bareT_text (b1 b2 b3 b4 b5 b6 b7 b9 b10 b11:Bool) (k:Nat) (hk:k<22) (h1:1≤k):bareT b1 b2 b3 b4 b5 b6 b7 true b9 b10 b11 (fieldsTab.getD k 0)=false:=by
 unfold bareT;rw [List.all_eq_false];refine ⟨(128,true),by simp [fieldB],?_⟩
 have e:k=1∨k=2∨k=3∨k=4∨k=5∨k=6∨k=7∨k=8∨k=9∨k=10∨k=11∨k=12∨k=13∨k=14∨k=15∨k=16∨k=17∨k=18∨k=19∨k=20∨k=21:=by omega
 rcases e with rfl | rfl | rfl | rfl | rfl | rfl | rfl | rfl | rfl | rfl | rfl | rfl | rfl | rfl | rfl | rfl | rfl | rfl | rfl | rfl | rfl <;> (clear hk h1;decide)
def actV (kn day known file office party other number amount sn sd:Int) (dv cv lv ev:Value) (fo fn:Int):Array Value :=
 #[iI kn,iI day,iI known,iI file,iI office,iI party,iI other,iI number,iI amount,iI sn,iI sd,dv,cv,lv,ev,iI fo,iI fn,nN,nN]
def FilGood (file other tv:Int) (e:List (Int × Int)):Prop:=inR other (-1) 4095=true∧other≠file∧tv=0∧¬ BadEs file e
theorem afiling_gen (kn day known file office party other number amount sn sd fo fn:Int) (Ad Ac Al:Option Addr) (nd cd nc cc nl cl:Nat) (el:List (Int × Int)) (ev:Value) (hel:el.length≤8) (hfi:-9223372036854775808≤file∧file≤9223372036854775807) (hep:∀ p∈el,-9223372036854775808≤p.1∧p.1≤9223372036854775807) (tv:Int) (w:World) (B:Nat) (hBw:B≤w.heap.size) (he:Rep w B ev (.s 2 (prD el)))
  (HV:Hid (∀ W,Below w.heap.size w W→Calls Tryz.prog 104 #[.agg #[.slice Ad nd cd,.slice Ac nc cc]] W fun e w'=>e=.returned (.int .i64 tv)∧Below W.heap.size W w')) :
  Calls Tryz.prog 147 #[.agg (actV kn day known file office party other number amount sn sd (.slice Ad nd cd) (.slice Ac nc cc) (.slice Al nl cl) ev fo fn)] w fun e w'=>(∃ b:Bool,e=.returned (.bool b)∧(b=true↔FilGood file other tv el))∧Below w.heap.size w w':=by
 unfold actV;obtain ⟨fg,hfg⟩:∃ p:Prop,p=FilGood file other tv el:=⟨_,rfl⟩;rw [← hfg];have HFG:=Lib.hid hfg;clear hfg;have HC:=Lib.hid (fun (W:World) (hW:Below w.heap.size w W)=>econtains_gen W el ev B (he.keep (fun p hp=>hW.cell (Nat.lt_of_lt_of_le hp hBw)) (Nat.le_refl _)) hel hep file)
 have HO:=Lib.hid (fun W=>within_gen other (-1) 4095 W)
 obtain ⟨Ae,ce,rfl,x5,x6⟩:=he.pairs;clear he hep x5 x6;obtain ⟨ne,hne⟩:∃ n,el.length=n:=⟨_,rfl⟩;rw [hne] at hel HC;rw [hne];clear hne;have hlen:decide (8<(ne:Int))=false:=by simp;omega
 have hkey:keyOf Tryz.prog 3 (.int .i64 file)=some (.int .i64 file):=Maps.keyOf_int_mk Tryz.underlying3 (WalkArith.wf_i64 hfi);have X0:=Blk.new w 41 #[iI kn,iI day,iI known,iI file,iI office,iI party,iI other,iI number,iI amount,iI sn,iI sd,.slice Ad nd cd,.slice Ac nc cc,.slice Al nl cl,.slice Ae ne ce,iI fo,iI fn,nN,nN];have P0:=below_new w (.cells #[iI kn,iI day,iI known,iI file,iI office,iI party,iI other,iI number,iI amount,iI sn,iI sd,.slice Ad nd cd,.slice Ac nc cc,.slice Al nl cl,.slice Ae ne ce,iI fo,iI fn,nN,nN] 41);have hcell:=X0.c19;obtain ⟨bo,hbo⟩:∃ b,inR other (-1) 4095=b:=⟨_,rfl⟩;rw [hbo] at HO;have HBO:=Lib.hid hbo;clear hbo;go_enter Tryz.func147,Tryz.ntmps147
 go_wp2_with fail;refine (HO.out _).mono ?_
 rintro e w1 ⟨rfl,rfl⟩
 cases bo with
 | false =>
  go_wp2_with fail;go_ret;exact ⟨⟨false,rfl,iff_of_false (by decide) (by rw [HFG.out];intro h;have:=h.1;rw [HBO.out] at this;cases this)⟩,P0⟩
 | true =>
  by_cases hof:other=file
  ·subst hof
   have hof2:(other == other)=true:=by simp
   go_wp2_with fail;go_ret;exact ⟨⟨false,rfl,iff_of_false (by decide) (by rw [HFG.out];intro h;exact h.2.1 rfl)⟩,P0⟩
  ·have hof2:(other == file)=false:=by simpa using hof
   go_wp2_with fail;refine (HV.out _ P0).mono ?_
   rintro e w1 ⟨rfl,hb1⟩;have X1:=X0.keep hb1;have P1:=below_up P0 hb1 P0.size;clear hcell X0 P0 hb1 HV;by_cases ht:tv=0
   ·subst ht
    have hcell:=(X1.alloc (.map #[] 0)).c19;have hmk:=run_makeMap (P:=Tryz.prog) 197 w1;have M0:(w1.alloc (.map #[] 0)).ownsMap Tryz.prog 3 boolR w1.heap.size 0 (bitsD []):=World.ownsMap_made w1 Tryz.prog 3 boolR;obtain ⟨w4,hrun,ho4,hg4'⟩:=M0.store (Maps.int_keyed Tryz.underlying3) Tryz.underlying197 (by unfold maxLen;omega) (key:=.int .i64 file) (val:=.bool true) hkey (d:=.lit (.bool true)) (ps:=[]) rfl
    have hg4:=hg4'.grown;have hlt1:=X1.lt;have X4:=(X1.alloc (.map #[] 0)).grown hg4 (fun e=>by injection e with e;omega)
    have P4:=(P1.alloc P1.size (.map #[] 0)).grown hg4 (Nat.le_trans P1.size (by simp)) (fun q e=>by injection e with e;omega)
    have hs4:w1.heap.size<w4.heap.size:=Nat.lt_of_lt_of_le (by simp) hg4.size
    have K5:=Blk.new w4 197 #[.map (some w1.heap.size)];have g5:w4.grownBy (w4.alloc (.cells #[.map (some w1.heap.size)] 197)) none:=World.grownBy_alloc w4 _ none;have X5:=(X4.grown g5 (by simp)).c19
    have P5:=P4.grown g5 P4.size (fun _ e=>by cases e)
    have S5:Seen (w4.alloc (.cells #[.map (some w1.heap.size)] 197)) w1.heap.size [file]:=ho4.kept g5 (by simp)
    have HM:=Lib.hid M0;have HS:=Lib.hid S5;clear M0 ho4 hg4' S5;go_wp2_with fail;refine (HC.out _ P5 w4.heap.size w1.heap.size ?_ ?_ ?_ K5 HS.out).mono ?_
    ·omega
    ·omega
    ·omega
    rintro e w6 ⟨⟨bb,rfl,hbb⟩,hg6⟩;have HBB:=Lib.hid hbb;have P6:=P5.grown hg6 P5.size (fun q e=>by injection e with e;omega)
    have HOF:=Lib.hid hof;clear hrun hmk X5 hcell hbb hof;go_wp2_with fail;go_ret;refine ⟨⟨!bb,rfl,?_⟩,P6⟩
    rw [HFG.out]
    cases bb with
    | true=>exact iff_of_false (by decide) (fun h=>h.2.2.2 (HBB.out.1 rfl))
    | false=>exact iff_of_true (by decide) ⟨HBO.out,HOF.out,rfl,fun h=>by have:=HBB.out.2 h;cases this⟩
   ·have ht2:(tv != 0)=true:=by simpa using ht
    go_wp2_with fail;go_ret;exact ⟨⟨false,rfl,iff_of_false (by decide) (by rw [HFG.out];intro h;exact ht h.2.2.1)⟩,P1⟩
theorem refwithin_gen (x lo hi:Int) (w:World) :
  Calls Tryz.prog 126 #[.int .i64 x,.int .i64 lo,.int .i64 hi] w fun e w'=>e=.returned (.bool (inR x lo hi))∧w'=w:=refwithinB x lo hi w
theorem mem_seenAt {file x:Int} {e:List (Int × Int)} {k:Nat} (hk:k≤e.length):x∈seenAt file e k↔x=file∨∃ (j:Nat) (h:j<k),(e[j]'(by omega)).1=x:=by
 unfold seenAt;rw [List.mem_reverse,List.mem_cons,List.mem_map];constructor
 ·rintro (h | ⟨p,hp,rfl⟩)
  ·exact .inl h
  ·obtain ⟨j,hj,rfl⟩:=List.mem_iff_getElem.1 hp
   rw [List.length_take] at hj;exact .inr ⟨j,by omega,by rw [List.getElem_take]⟩
 ·rintro (h | ⟨j,hj,rfl⟩)
  ·exact .inl h
  ·refine .inr ⟨e[j]'(by omega),?_,rfl⟩
   refine List.mem_iff_getElem.2 ⟨j,by rw [List.length_take];omega,by rw [List.getElem_take]⟩
theorem badEa_file {file y:Int} {e:List (Int × Int)} {k:Nat} (hk:k≤e.length):badEa (seenAt file e k) file y=true:=by
 unfold badEa;rw [decide_eq_true ((mem_seenAt hk).2 (.inl rfl))];rfl
theorem badEa_twice {file x y:Int} {e:List (Int × Int)} {k j:Nat} (hk:k≤e.length) (hj:j<k) (h:(e[j]'(by omega)).1=x):badEa (seenAt file e k) x y=true:=by
 unfold badEa;rw [decide_eq_true ((mem_seenAt hk).2 (.inr ⟨j,hj,h⟩))];rfl
theorem badEa_in {l:List Int} {x y:Int} (h:inR x 0 4095=false):badEa l x y=true:=by
 unfold badEa;rw [h];simp
theorem badEa_day {l:List Int} {x y:Int} (h:inR y 0 131072=false):badEa l x y=true:=by
 unfold badEa;rw [h];simp
theorem badEa_not {file x y:Int} {e:List (Int × Int)} {k:Nat} (hk:k≤e.length) (h0:x≠file) (h1:inR x 0 4095=true) (h2:inR y 0 131072=true) (h3:∀ (j:Nat) (hj:j<k),(e[j]'(by omega)).1≠x):badEa (seenAt file e k) x y=false:=by
 unfold badEa
 rw [h1,h2,decide_eq_false (fun h=>by
  rcases (mem_seenAt hk).1 h with h | ⟨j,hj,h⟩
  ·exact h0 h
  ·exact h3 j hj h)]
 rfl
def RGood (file office party other tv:Int) (e:List (Int × Int)):Prop:=inR office 0 11=true∧inR party 1 4095=true∧FilGood file other tv e
theorem reffiling_gen (kn day known file office party other number amount sn sd fo fn:Int) (Ad Ac Al:Option Addr) (nd cd nc cc nl cl:Nat) (el:List (Int × Int)) (ev:Value) (hel:el.length≤8) (tv:Int) (w:World) (B:Nat) (hBw:B≤w.heap.size) (he:Rep w B ev (.s 2 (prD el)))
  (HV:Hid (∀ W,Below w.heap.size w W→Calls Tryz.prog 160 #[.agg #[.slice Ad nd cd,.slice Ac nc cc]] W fun e w'=>e=.returned (.int .i64 tv)∧Below W.heap.size W w')) :
  Calls Tryz.prog 165 #[.agg (actV kn day known file office party other number amount sn sd (.slice Ad nd cd) (.slice Ac nc cc) (.slice Al nl cl) ev fo fn)] w fun e w'=>(∃ b:Bool,e=.returned (.bool b)∧(b=true↔RGood file office party other tv el))∧Below w.heap.size w w':=by
 unfold actV;obtain ⟨fg,hfg⟩:∃ p:Prop,p=RGood file office party other tv el:=⟨_,rfl⟩;rw [← hfg];have HFG:=Lib.hid hfg;clear hfg;have HO:=Lib.hid (fun W=>refwithin_gen office 0 11 W)
 have HPa:=Lib.hid (fun W=>refwithin_gen party 1 4095 W)
 have HOt:=Lib.hid (fun W=>refwithin_gen other (-1) 4095 W)
 obtain ⟨b1,h1⟩:∃ b,inR office 0 11=b:=⟨_,rfl⟩;obtain ⟨b2,h2⟩:∃ b,inR party 1 4095=b:=⟨_,rfl⟩;obtain ⟨b3,h3⟩:∃ b,inR other (-1) 4095=b:=⟨_,rfl⟩;rw [h1] at HO;rw [h2] at HPa;rw [h3] at HOt;have H1:=Lib.hid h1;have H2:=Lib.hid h2;have H3:=Lib.hid h3;clear h1 h2 h3;obtain ⟨Ae,ce,rfl,x5,hev⟩:=he.pairs;have HEV:=Lib.hid hev;clear he x5 hev;have hlen:decide (8<(el.length:Int))=false:=by simp;omega
 have X0:=Blk.new w 41 #[iI kn,iI day,iI known,iI file,iI office,iI party,iI other,iI number,iI amount,iI sn,iI sd,.slice Ad nd cd,.slice Ac nc cc,.slice Al nl cl,.slice Ae el.length ce,iI fo,iI fn,nN,nN];have P0:=below_new w (.cells #[iI kn,iI day,iI known,iI file,iI office,iI party,iI other,iI number,iI amount,iI sn,iI sd,.slice Ad nd cd,.slice Ac nc cc,.slice Al nl cl,.slice Ae el.length ce,iI fo,iI fn,nN,nN] 41);have hcell:=X0.c19;have bad:∀ (wx:World),Below w.heap.size w wx→¬ RGood file office party other tv el→(∃ b:Bool,(Ending.returned (.bool false))=.returned (.bool b)∧(b=true↔fg))∧Below w.heap.size w wx:=fun _ P h=>⟨⟨false,rfl,iff_of_false (by decide) (by rw [HFG.out];exact h)⟩,P⟩
 have BAD:=Lib.hid bad;clear bad;go_enter Tryz.func165,Tryz.ntmps165
 go_wp2_with fail;refine (HO.out _).mono ?_
 rintro e w1 ⟨rfl,rfl⟩
 cases b1 with
 | false =>
  go_wp2_with fail;go_ret;exact BAD.out _ P0 (fun h=>by have:=h.1;rw [H1.out] at this;cases this)
 | true =>
  go_wp2_with fail;refine (HPa.out _).mono ?_
  rintro e w1 ⟨rfl,rfl⟩
  cases b2 with
  | false =>
   go_wp2_with fail;go_ret;exact BAD.out _ P0 (fun h=>by have:=h.2.1;rw [H2.out] at this;cases this)
  | true =>
   go_wp2_with fail;refine (HOt.out _).mono ?_
   rintro e w1 ⟨rfl,rfl⟩
   cases b3 with
   | false =>
    go_wp2_with fail;go_ret;exact BAD.out _ P0 (fun h=>by have:=h.2.2.1;rw [H3.out] at this;cases this)
   | true =>
    by_cases hof:other=file
    ·subst hof
     have hof2:(other == other)=true:=by simp
     go_wp2_with fail;go_ret;exact BAD.out _ P0 (fun h=>h.2.2.2.1 rfl)
    ·have hof2:(other == file)=false:=by simpa using hof
     have HOF:=Lib.hid hof;clear hof;go_wp2_with fail;refine (HV.out _ P0).mono ?_
     rintro e w1 ⟨rfl,hb1⟩;have X1:=X0.keep hb1;have P1:=below_up P0 hb1 P0.size;clear hcell X0 P0 hb1 HV;by_cases ht:tv=0
     ·subst ht
      go_wp2_with fail;clear hlen hof2;go_loopw [3] (fun j wr=>∃ k:Nat,j=.int .i64 (k:Int)∧k≤el.length∧(∀ (q:Nat) (h:q<el.length),q<k→badEa (seenAt file el q) el[q].1 el[q].2=false)∧Below w.heap.size w wr∧Blk wr w.heap.size 41 #[iI kn,iI day,iI known,iI file,iI office,iI party,iI other,iI number,iI amount,iI sn,iI sd,.slice Ad nd cd,.slice Ac nc cc,.slice Al nl cl,.slice Ae el.length ce,iI fo,iI fn,nN,nN]) (fun j _=>el.length - (intOf j).toNat)
      case atStart=>exact ⟨0,rfl,Nat.zero_le _,fun _ _ h=>by omega,P1,X1⟩
      case round =>
       obtain ⟨k,rfl,hk,hgood,hB,hX⟩:=hrel;have HGD:=Lib.hid hgood;clear hgood;have hc14:wr.cell? ⟨w.heap.size,14,none⟩=some (.slice Ae el.length ce):=hX.cell 14;have hc3:wr.cell? ⟨w.heap.size,3,none⟩=some (.int .i64 file):=hX.cell 3;by_cases hlt:k<el.length
       ·obtain ⟨b,o,rfl,hb,c0,c1⟩:=HEV.out k hlt
        have hb':b<w.heap.size:=Nat.lt_of_lt_of_le hb hBw;have e0:=(hB.cell (p:=⟨b,o+k * 2,none⟩) hb').trans c0;have e1:=(hB.cell (p:=⟨b,o+k * 2+1,none⟩) hb').trans c1;have HBK:=Lib.hid (fun (hb:badEa (seenAt file el k) el[k].1 el[k].2=true) (h:RGood file office party other 0 el)=>h.2.2.2.2.2 (⟨k,hlt,hb⟩:BadEs file el))
        have HBF:=Lib.hid (fun (h:el[k].1=file)=>(by rw [h];exact badEa_file hk:badEa (seenAt file el k) el[k].1 el[k].2=true))
        have HBI:=Lib.hid (fun (hi:inR el[k].1 0 4095=false)=>badEa_in (l:=seenAt file el k) (x:=el[k].1) (y:=el[k].2) hi)
        have HBD:=Lib.hid (fun (hi:inR el[k].2 0 131072=false)=>badEa_day (l:=seenAt file el k) (x:=el[k].1) (y:=el[k].2) hi)
        have HBT:=Lib.hid (fun (j:Nat) (hj:j<k) (h:(el[j]'(by omega)).1=el[k].1)=>badEa_twice (file:=file) (y:=el[k].2) hk hj h)
        have HBN:=Lib.hid (fun (h0:el[k].1≠file) (h1:inR el[k].1 0 4095=true) (h2:inR el[k].2 0 131072=true) (h3:∀ (j:Nat) (hj:j<k),(el[j]'(by omega)).1≠el[k].1)=>badEa_not (file:=file) (x:=el[k].1) (y:=el[k].2) hk h0 h1 h2 h3)
        have HGK:=Lib.hid (fun (hb:badEa (seenAt file el k) el[k].1 el[k].2=false) (q:Nat) (h:q<el.length) (hq:q<k+1)=>(by
         by_cases hqk:q=k
         ·subst hqk
          exact hb
         ·exact HGD.out q h (by omega):badEa (seenAt file el q) el[q].1 el[q].2=false))
        have HW1:=Lib.hid (fun W=>refwithin_gen el[k].1 0 4095 W)
        have HW2:=Lib.hid (fun W=>refwithin_gen el[k].2 0 131072 W)
        clear c0 c1;generalize badEa (seenAt file el k) el[k].1 el[k].2=bq at *;generalize el[k].1=x at *;generalize el[k].2=y at *;obtain ⟨d1,h1⟩:∃ b,inR x 0 4095=b:=⟨_,rfl⟩;obtain ⟨d2,h2⟩:∃ b,inR y 0 131072=b:=⟨_,rfl⟩;rw [h1] at HW1;rw [h2] at HW2;have D1:=Lib.hid h1;have D2:=Lib.hid h2;clear h1 h2;have Q0:=hB.alloc hB.size (.cells #[.int .i64 x,.int .i64 y] 106);have X0:=hX.alloc (.cells #[.int .i64 x,.int .i64 y] 106);have Y0:=Blk.new wr 106 #[.int .i64 x,.int .i64 y];have hcy:=Y0.c2;have hc3y:(wr.alloc (.cells #[.int .i64 x,.int .i64 y] 106)).cell? ⟨w.heap.size,3,none⟩=some (.int .i64 file):=X0.cell 3;clear X1 P1;go_wp2_with fail;refine (HW1.out _).mono ?_
        rintro e w2 ⟨rfl,rfl⟩
        cases d1 with
        | false =>
         go_wp2_with fail;go_ret;exact BAD.out _ Q0 (HBK.out (HBI.out D1.out))
        | true =>
         by_cases hxf:x=file
         ·have HXF:=Lib.hid hxf
          have h5:(x == file)=true:=by simp [hxf]
          clear hxf;go_wp2_with fail;go_ret;exact BAD.out _ Q0 (HBK.out (HBF.out HXF.out))
         ·have HXF:=Lib.hid hxf
          have h5:(x == file)=false:=by simpa using hxf
          clear hxf;go_wp2_with fail;refine (HW2.out _).mono ?_
          rintro e w2 ⟨rfl,rfl⟩
          cases d2 with
          | false =>
           go_wp2_with fail;go_ret;exact BAD.out _ Q0 (HBK.out (HBD.out D2.out))
          | true =>
           clear hc14 hc3;go_wp2_with fail;clear h5 e0 e1 hc3y;generalize hwy:wr.alloc (.cells #[.int .i64 x,.int .i64 y] 106)=wy at *;generalize hyb:wr.heap.size=yb at *;go_loopw [5] (fun j wq=>∃ i:Nat,j=.int .i64 (i:Int)∧i≤k∧(∀ (q:Nat) (hq:q<i) (hq2:q<el.length),(el[q]'hq2).1≠x)∧∃ n,wq=wy.drewN n) (fun j _=>k - (intOf j).toNat)
           case atStart=>exact ⟨0,rfl,Nat.zero_le _,fun _ h=>by omega,0,rfl⟩
           case round =>
            obtain ⟨i,rfl,hi,hno,n,rfl⟩:=hrel;have HNO:=Lib.hid hno;clear hno;by_cases hik:i<k
            ·obtain ⟨b2,o2,hAe,_,d0,_⟩:=HEV.out i (by omega)
             cases hAe
             have f0:wy.cell? ⟨b,o+i * 2,none⟩=some (.int .i64 (el[i]'(by omega)).1):=(Q0.cell (p:=⟨b,o+i * 2,none⟩) hb').trans d0
             have hc14:wy.cell? ⟨w.heap.size,14,none⟩=some (.slice (some ⟨b,o,none⟩) el.length ce):=X0.cell 14;have HXI:=Lib.hid (fun (h:(el[i]'(by omega)).1=x)=>HBK.out (HBT.out i hik h))
             have HXN:=Lib.hid (fun (h:(el[i]'(by omega)).1≠x) (q:Nat) (hq:q<i+1) (hq2:q<el.length)=>(by
              by_cases hqi:q=i
              ·subst hqi
               exact h
              ·exact HNO.out q (by omega) hq2:(el[q]'hq2).1≠x))
             clear d0;generalize (el[i]'(by omega)).1=xi at *
             by_cases hxi:xi=x
             ·have HXE:=Lib.hid hxi
              have hne2:(xi == x)=true:=by simp [hxi]
              clear hxi;go_wp2_with fail;go_quiet (fail);go_wp2;go_ret;exact BAD.out _ (below_drewN (below_drewN Q0 _) _) (HXI.out HXE.out)
             ·have HXE:=Lib.hid hxi
              have hne2:(xi == x)=false:=by simpa using hxi
              clear hxi;go_wp2_with fail;go_quiet (fail);go_wp2;go_roundw
              case rel=>exact ⟨i+1,by go_num,by omega,HXN.out HXE.out,_,rfl⟩
              case measure=>simp [intOf];omega
            ·obtain rfl:i=k:=by omega
             go_wp2_with fail;go_roundw
             case rel=>exact ⟨i+1,by go_num,by omega,HGK.out (HBN.out HXF.out D1.out D2.out (fun j hj=>HNO.out j hj (by omega))),below_drewN Q0 n,X0.drewN n⟩
             case measure=>simp [intOf];omega
       ·obtain rfl:k=el.length:=by omega
        go_wp2_with fail;go_ret;exact ⟨⟨true,rfl,iff_of_true rfl (by rw [HFG.out];exact ⟨H1.out,H2.out,H3.out,HOF.out,rfl,fun ⟨q,h,hb⟩=>by rw [HGD.out q h h] at hb;cases hb⟩)⟩,hB⟩
     ·have ht2:(tv != 0)=true:=by simpa using ht
      have HT:=Lib.hid ht;clear ht;go_wp2_with fail;go_ret;exact BAD.out _ P1 (fun h=>HT.out h.2.2.2.2.1)
def numB (b_file b_office b_party b_other b_number b_amount b_sn b_sd:Bool):Bool:=(b_file && b_office && b_party && b_other && b_number && b_amount && (b_sn && b_sd))
theorem refclean_gen (kn day known file office party other number amount sn sd fo fn:Int) (Ad Ac Al Ae:Option Addr) (nd cd nc cc nl cl ne ce:Nat) (b_file b_office b_party b_other b_number b_amount b_sn b_sd b_fo b_fn b_nd b_nc b_nl b_ne:Bool) (h_file:(file == 0)=b_file) (h_office:(office == 0)=b_office) (h_party:(party == 0)=b_party) (h_other:(other == 0)=b_other) (h_number:(number == 0)=b_number) (h_amount:(amount == 0)=b_amount) (h_sn:(sn == 0)=b_sn) (h_sd:(sd == 0)=b_sd) (h_fo:(fo == 0)=b_fo) (h_fn:(fn == 0)=b_fn) (h_nd:((nd:Int) == 0)=b_nd) (h_nc:((nc:Int) == 0)=b_nc) (h_nl:((nl:Int) == 0)=b_nl) (h_ne:((ne:Int) == 0)=b_ne) (w:World) :
  Calls Tryz.prog 124 #[.agg #[iI kn,iI day,iI known,iI file,iI office,iI party,iI other,iI number,iI amount,iI sn,iI sd,.slice Ad nd cd,.slice Ac nc cc,.slice Al nl cl,.slice Ae ne ce,iI fo,iI fn,nN,nN]] w
   fun e w'=>e=.returned (.bool (numB b_file b_office b_party b_other b_number b_amount b_sn b_sd && (b_fo && b_fn) && b_nd && b_nc && b_nl && b_ne))∧Below w.heap.size w w':=by
 have X0:=Blk.new w 41 #[iI kn,iI day,iI known,iI file,iI office,iI party,iI other,iI number,iI amount,iI sn,iI sd,.slice Ad nd cd,.slice Ac nc cc,.slice Al nl cl,.slice Ae ne ce,iI fo,iI fn,nN,nN];have P0:=below_new w (.cells #[iI kn,iI day,iI known,iI file,iI office,iI party,iI other,iI number,iI amount,iI sn,iI sd,.slice Ad nd cd,.slice Ac nc cc,.slice Al nl cl,.slice Ae ne ce,iI fo,iI fn,nN,nN] 41);go_enter Tryz.func124,Tryz.ntmps124
 go_upto_region 1 with fail;generalize w.alloc (.cells #[iI kn,iI day,iI known,iI file,iI office,iI party,iI other,iI number,iI amount,iI sn,iI sd,.slice Ad nd cd,.slice Ac nc cc,.slice Al nl cl,.slice Ae ne ce,iI fo,iI fn,nN,nN] 41)=w1 at *;have c3:w1.cell? ⟨w.heap.size,3,none⟩=some (.int .i64 file):=X0.cell 3;have c4:w1.cell? ⟨w.heap.size,4,none⟩=some (.int .i64 office):=X0.cell 4;have c5:w1.cell? ⟨w.heap.size,5,none⟩=some (.int .i64 party):=X0.cell 5;have c6:w1.cell? ⟨w.heap.size,6,none⟩=some (.int .i64 other):=X0.cell 6;have c7:w1.cell? ⟨w.heap.size,7,none⟩=some (.int .i64 number):=X0.cell 7;have c8:w1.cell? ⟨w.heap.size,8,none⟩=some (.int .i64 amount):=X0.cell 8;have c9:w1.cell? ⟨w.heap.size,9,none⟩=some (.int .i64 sn):=X0.cell 9;have c10:w1.cell? ⟨w.heap.size,10,none⟩=some (.int .i64 sd):=X0.cell 10;go_cut [3] (fun v wx=>v=.bool (numB b_file b_office b_party b_other b_number b_amount b_sn b_sd)∧wx=w1)
 case first=>as_aux_lemma =>
  clear X0 P0 h_fo h_fn h_nd h_nc h_nl h_ne
  cases b_file with
  | false =>
   go_wp2_with fail;go_meet;exact ⟨rfl,rfl⟩
  | true =>
   cases b_office with
   | false =>
    go_wp2_with fail;go_meet;exact ⟨rfl,rfl⟩
   | true =>
    cases b_party with
    | false =>
     go_wp2_with fail;go_meet;exact ⟨rfl,rfl⟩
    | true =>
     cases b_other with
     | false =>
      go_wp2_with fail;go_meet;exact ⟨rfl,rfl⟩
     | true =>
      cases b_number with
      | false =>
       go_wp2_with fail;go_meet;exact ⟨rfl,rfl⟩
      | true =>
       cases b_amount with
       | false =>
        go_wp2_with fail;go_meet;exact ⟨rfl,rfl⟩
       | true =>
        cases b_sn with
        | false =>
         go_wp2_with fail;go_meet;exact ⟨rfl,rfl⟩
        | true =>
         cases b_sd with
         | false =>
          go_wp2_with fail;go_meet;exact ⟨rfl,rfl⟩
         | true =>
          go_wp2_with fail;go_meet;exact ⟨rfl,rfl⟩
 case rest=>as_aux_lemma =>
  obtain ⟨rfl,e1⟩:=hcut;have e1:=e1.symm;subst e1;clear c3 c4 c5 c6 c7 c8 c9 c10 h_file h_office h_party h_other h_number h_amount h_sn h_sd;generalize hbn:numB b_file b_office b_party b_other b_number b_amount b_sn b_sd=bn at *;have HBN:=Lib.hid hbn;clear hbn;have c15:w1.cell? ⟨w.heap.size,15,none⟩=some (.int .i64 fo):=X0.cell 15;have c16:w1.cell? ⟨w.heap.size,16,none⟩=some (.int .i64 fn):=X0.cell 16;have c17:w1.cell? ⟨w.heap.size,17,none⟩=some (.slice none 0 0):=X0.cell 17;have c18:w1.cell? ⟨w.heap.size,18,none⟩=some (.slice none 0 0):=X0.cell 18;go_upto_region 2 with fail;go_cut [4] (fun v wx=>v=.bool (b_fo && b_fn)∧wx=w1)
  case first=>as_aux_lemma =>
   clear X0 P0 h_nd h_nc h_nl h_ne
   cases b_fo with
   | false =>
    go_wp2_with fail;go_meet;exact ⟨rfl,rfl⟩
   | true =>
    cases b_fn with
    | false =>
     go_wp2_with fail;go_meet;exact ⟨rfl,rfl⟩
    | true =>
     go_wp2_with fail;go_meet;exact ⟨rfl,rfl⟩
  case rest=>as_aux_lemma =>
   obtain ⟨rfl,e1⟩:=hcut;have e1:=e1.symm;subst e1;clear c15 c16 c17 c18 h_fo h_fn;generalize hbf:(b_fo && b_fn)=bf at *;have HBF:=Lib.hid hbf;clear hbf;have c11:w1.cell? ⟨w.heap.size,11,none⟩=some (.slice Ad nd cd):=X0.cell 11;have c12:w1.cell? ⟨w.heap.size,12,none⟩=some (.slice Ac nc cc):=X0.cell 12;have c13:w1.cell? ⟨w.heap.size,13,none⟩=some (.slice Al nl cl):=X0.cell 13;have c14:w1.cell? ⟨w.heap.size,14,none⟩=some (.slice Ae ne ce):=X0.cell 14;clear X0
   cases bn with
   | false =>
    go_wp2_with fail;go_ret;exact ⟨by first | rfl | (rw [HBN.out,HBF.out];rfl) | (rw [HBN.out];rfl) | (rw [HBF.out];rfl),P0⟩
   | true =>
    cases bf with
    | false =>
     go_wp2_with fail;go_ret;exact ⟨by first | rfl | (rw [HBN.out,HBF.out];rfl) | (rw [HBN.out];rfl) | (rw [HBF.out];rfl),P0⟩
    | true =>
     cases b_nd with
     | false =>
      go_wp2_with fail;go_ret;exact ⟨by first | rfl | (rw [HBN.out,HBF.out];rfl) | (rw [HBN.out];rfl) | (rw [HBF.out];rfl),P0⟩
     | true =>
      cases b_nc with
      | false =>
       go_wp2_with fail;go_ret;exact ⟨by first | rfl | (rw [HBN.out,HBF.out];rfl) | (rw [HBN.out];rfl) | (rw [HBF.out];rfl),P0⟩
      | true =>
       cases b_nl with
       | false =>
        go_wp2_with fail;go_ret;exact ⟨by first | rfl | (rw [HBN.out,HBF.out];rfl) | (rw [HBN.out];rfl) | (rw [HBF.out];rfl),P0⟩
       | true =>
        cases b_ne with
        | false =>
         go_wp2_with fail;go_ret;exact ⟨by first | rfl | (rw [HBN.out,HBF.out];rfl) | (rw [HBN.out];rfl) | (rw [HBF.out];rfl),P0⟩
        | true =>
         go_wp2_with fail;go_ret;exact ⟨by first | rfl | (rw [HBN.out,HBF.out];rfl) | (rw [HBN.out];rfl) | (rw [HBF.out];rfl),P0⟩
def BareV (kn day known:Int) (dv cv:Value) (V:Array Value):Prop:=∃ (file office party other number amount sn sd fo fn:Int) (Al Ae:Option Addr) (nl cl ne ce:Nat),V=#[iI kn,iI day,iI known,iI file,iI office,iI party,iI other,iI number,iI amount,iI sn,iI sd,dv,cv,.slice Al nl cl,.slice Ae ne ce,iI fo,iI fn,nN,nN]
def BareR (kn day known:Int) (dv cv:Value) (e:Ending):Prop:=∃ V,e=.returned (.agg V)∧BareV kn day known dv cv V
theorem ofFile_t (kn:Int) (n5:(kn != 5)=true) (n19:(kn != 19)=true) (n20:(kn != 20)=true) (n21:(kn != 21)=true) (w:World):Calls Tryz.prog 140 #[.int .i64 kn] w fun e w'=>e=.returned (.bool true)∧w=w':=by
 go_enter Tryz.func140,Tryz.ntmps140
 go_wp2_with fail;go_ret;exact ⟨rfl,rfl⟩
theorem ofFile_f (kn:Int) (h:kn=5∨kn=19∨kn=20∨kn=21) (w:World):Calls Tryz.prog 140 #[.int .i64 kn] w fun e w'=>e=.returned (.bool false)∧w=w':=by
 rcases h with rfl | rfl | rfl | rfl
 all_goals
  go_enter Tryz.func140,Tryz.ntmps140
  go_wp2_with fail;go_ret;exact ⟨rfl,rfl⟩
theorem refbare_0 (day known file office party other number amount sn sd fo fn:Int) (Ad Ac Al Ae:Option Addr) (nd cd nc cc nl cl ne ce:Nat) (w:World) :
  Calls Tryz.prog 125 #[.agg #[iI 0,iI day,iI known,iI file,iI office,iI party,iI other,iI number,iI amount,iI sn,iI sd,.slice Ad nd cd,.slice Ac nc cc,.slice Al nl cl,.slice Ae ne ce,iI fo,iI fn,nN,nN]] w
   fun e w'=>e=.returned (.agg #[iI 0,iI day,iI known,iI 0,iI 0,iI 0,iI 0,iI number,iI amount,iI sn,iI sd,nN,nN,.slice Al nl cl,nN,iI fo,iI fn,nN,nN])∧Below w.heap.size w w':=by
 have X0:=Blk.new w 41 #[iI 0,iI day,iI known,iI file,iI office,iI party,iI other,iI number,iI amount,iI sn,iI sd,.slice Ad nd cd,.slice Ac nc cc,.slice Al nl cl,.slice Ae ne ce,iI fo,iI fn,nN,nN];have P0:=below_new w (.cells #[iI 0,iI day,iI known,iI file,iI office,iI party,iI other,iI number,iI amount,iI sn,iI sd,.slice Ad nd cd,.slice Ac nc cc,.slice Al nl cl,.slice Ae ne ce,iI fo,iI fn,nN,nN] 41);generalize hw1:w.alloc (.cells #[iI 0,iI day,iI known,iI file,iI office,iI party,iI other,iI number,iI amount,iI sn,iI sd,.slice Ad nd cd,.slice Ac nc cc,.slice Al nl cl,.slice Ae ne ce,iI fo,iI fn,nN,nN] 41)=w1 at *;have hs1:w1.heap.size=w.heap.size+1:=by rw [← hw1,World.size_alloc]
 go_enter Tryz.func125,Tryz.ntmps125
 go_upto_region 1 with fail;have X1:=X0.alloc (.cells #[iI 0,iI 0,iI 0,iI 0,iI 0,iI 0,iI 0,iI 0,iI 0,iI 0,iI 0,nN,nN,nN,nN,iI 0,iI 0,nN,nN] 41);have Y1:=Blk.new w1 41 #[iI 0,iI 0,iI 0,iI 0,iI 0,iI 0,iI 0,iI 0,iI 0,iI 0,iI 0,nN,nN,nN,nN,iI 0,iI 0,nN,nN];have P1:=P0.alloc P0.size (.cells #[iI 0,iI 0,iI 0,iI 0,iI 0,iI 0,iI 0,iI 0,iI 0,iI 0,iI 0,nN,nN,nN,nN,iI 0,iI 0,nN,nN] 41);rw [hs1] at Y1;clear X0 P0 hw1 hs1;generalize w1.alloc (.cells #[iI 0,iI 0,iI 0,iI 0,iI 0,iI 0,iI 0,iI 0,iI 0,iI 0,iI 0,nN,nN,nN,nN,iI 0,iI 0,nN,nN] 41)=w2 at *;have hz:=X1.cell 0;have c3:=X1.cell 3;have f3:=X1.frozen 3;have c4:=X1.cell 4;have f4:=X1.frozen 4;have c5:=X1.cell 5;have f5:=X1.frozen 5;have c6:=X1.cell 6;have f6:=X1.frozen 6;have c11:=X1.cell 11;have f11:=X1.frozen 11;have c12:=X1.cell 12;have f12:=X1.frozen 12;have c14:=X1.cell 14;have f14:=X1.frozen 14;go_upto_region 54 with (go_at_call 140;refine (ofFile_t 0 rfl rfl rfl rfl _).mono ?_;rintro e w' ⟨rfl,rfl⟩)
 have X2:=(((((((X1.set 3 (.int .i64 0)).set 4 (.int .i64 0)).set 5 (.int .i64 0)).set 6 (.int .i64 0)).set 11 (.slice none 0 0)).set 12 (.slice none 0 0)).set 14 (.slice none 0 0));have Y2:=(((((((Y1.far (p:=⟨w.heap.size,3,none⟩) (Nat.succ_ne_self _) (.int .i64 0)).far (p:=⟨w.heap.size,4,none⟩) (Nat.succ_ne_self _) (.int .i64 0)).far (p:=⟨w.heap.size,5,none⟩) (Nat.succ_ne_self _) (.int .i64 0)).far (p:=⟨w.heap.size,6,none⟩) (Nat.succ_ne_self _) (.int .i64 0)).far (p:=⟨w.heap.size,11,none⟩) (Nat.succ_ne_self _) (.slice none 0 0)).far (p:=⟨w.heap.size,12,none⟩) (Nat.succ_ne_self _) (.slice none 0 0)).far (p:=⟨w.heap.size,14,none⟩) (Nat.succ_ne_self _) (.slice none 0 0));have P2:=(((((((P1.setCell (p:=⟨w.heap.size,3,none⟩) (Nat.le_refl _) (.int .i64 0)).setCell (p:=⟨w.heap.size,4,none⟩) (Nat.le_refl _) (.int .i64 0)).setCell (p:=⟨w.heap.size,5,none⟩) (Nat.le_refl _) (.int .i64 0)).setCell (p:=⟨w.heap.size,6,none⟩) (Nat.le_refl _) (.int .i64 0)).setCell (p:=⟨w.heap.size,11,none⟩) (Nat.le_refl _) (.slice none 0 0)).setCell (p:=⟨w.heap.size,12,none⟩) (Nat.le_refl _) (.slice none 0 0)).setCell (p:=⟨w.heap.size,14,none⟩) (Nat.le_refl _) (.slice none 0 0));simp only [pB,pZ,pC] at X2;clear X1 Y1 P1 hz c3 f3 c4 f4 c5 f5 c6 f6 c11 f11 c12 f12 c14 f14;generalize (((((((w2.setCell ⟨w.heap.size,3,none⟩ (.int .i64 0)).setCell ⟨w.heap.size,4,none⟩ (.int .i64 0)).setCell ⟨w.heap.size,5,none⟩ (.int .i64 0)).setCell ⟨w.heap.size,6,none⟩ (.int .i64 0)).setCell ⟨w.heap.size,11,none⟩ (.slice none 0 0)).setCell ⟨w.heap.size,12,none⟩ (.slice none 0 0)).setCell ⟨w.heap.size,14,none⟩ (.slice none 0 0))=w3 at *;go_wp2_with (first | (refine wpList_loadA X2 rfl _ rfl rfl rfl ?_) | (refine wpList_storeA Y2 rfl _ _ rfl rfl rfl _ rfl rfl (by kernel_rfl) ?_;intro wz Yz gz))
 exact bodyPost_ret (results_A rfl _ rfl Yz rfl) rfl ⟨rfl,P2.grown gz P2.size (fun k e=>by injection e with e;omega)⟩
end Go.Proofs.YtbeaijjaecaidaaGreatDoor
