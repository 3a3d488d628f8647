/- ref37.Salt and ref37.Log of filings. ref37.Of: the copy of a filing of a log. What generated filings are: as they should be. What Check answers to copies that are as they should be, or changed: the plain law. Trees of logs: roots, paths, what follows from an entry and its path: the plain law. Trees of logs in the reference: Half, Root, Path. logtree.Check of any log: what follows from an entry and its path. logtree.Check of any log, with a path of the right length; copies of any log. head.formed and head.Check of any head. copies.Check of copies of any log. Bytes of which exactly one is changed have another sum. -/
import Derived.Test.YtbeaijjaecaidaaGreatDoorM13
import Derived.Test.YtbeaijjaecaidaaGreatDoorM15
import Derived.Test.YtbeaijjaecaidaaGreatDoorM14
import Derived.Test.YtbeaijjaecaidaaGreatDoorM01
set_option maxRecDepth 100000
set_option maxHeartbeats 16000000
namespace Go.Proofs.YtbeaijjaecaidaaGreatDoor
open Go.RowKit Go.Shelf
attribute [local go_sem] Oper.semAt_some
def sSalt:ByteArray:={ data:=#[115,97,108,116] }
def saltN (i:Nat):Nat:=labN sSalt [i]
def entN (i:Nat) (f:Fil):Nat:=commitN (encA f) (saltN i)
def logN (fl:List Fil):List Nat:=fl.mapIdx entN
theorem logN_step {fl:List Fil} {k:Nat} (hk:k<fl.length):logN (fl.take (k+1))=logN (fl.take k)++[entN k fl[k]]:=by
 unfold logN;rw [List.take_add_one,List.getElem?_eq_getElem hk]
 simp only [Option.toList,List.mapIdx_append,List.mapIdx_cons,List.mapIdx_nil,List.length_take];rw [Nat.min_eq_left (by omega),Nat.zero_add]
theorem logN_length (fl:List Fil):(logN fl).length=fl.length:=List.length_mapIdx
def us (l:List Nat):List Value:=l.map fun (n:Nat)=>.int .u64 (n:Int)
theorem us_length (l:List Nat):(us l).length=l.length:=List.length_map ..
def OwnU (w:World) (base:Nat) (v:Value) (l:List Nat):Prop:=OwnM [] [] w base 27 1 v (valD (us l))
theorem OwnU.nil (w:World) (base:Nat):OwnU w base (.slice none 0 0) []:=OwnM.nil _ _ _ _ _ _
theorem OwnU.rep {w:World} {base:Nat} {v:Value} {l:List Nat} (h:OwnU w base v l):Rep w w.heap.size v (.s 1 (valD (us l))):=RepM.out (ts:=[]) (H:=[]) (OwnM.rep h (fun _ h=>h) (by simp) (fun _ h=>by cases h))
theorem OwnU.below {w w':World} {base:Nat} {v:Value} {l:List Nat} (h:OwnU w base v l) (hb:Below w.heap.size w w'):OwnU w' base v l :=
 OwnM.step h (grown_of_below (row:=none) hb) (fun _ e=>by cases e) (fun _ hi=>.inl hi)
theorem salt_any (i:Nat) (hi:i≤1000) (w:World) :
  Calls Tryz.prog 41 #[.int .i64 (i:Int)] w fun e w'=>e=.returned (.int .u64 (saltN i:Int))∧Below w.heap.size w w':=by
 have hu:u64 (i:Int)=i:=by unfold u64;omega
 go_enter Tryz.func41,Tryz.ntmps41
 go_wp2_with (go_at_call 67;refine (refsum_fresh sSalt (by decide) [(i:Int)] [i] 1 _ w _ rfl rfl rfl (by unfold u64L;rw [List.map_cons,List.map_nil,hu]) (Nat.le_of_ble_eq_true rfl)).mono ?_;rintro e w' ⟨rfl,hb⟩)
 go_ret;exact ⟨rfl,hb⟩
def FilRow (W:World) (B:Nat) (A:Option Addr) (fl:List Fil):Prop :=
 ∀ (k:Nat) (hk:k<fl.length),∃ b o dv cv ev,A=some ⟨b,o,none⟩∧b<B∧W.rangeAt b (o+k * 19) (fl[k].vals dv cv ev).toList∧FilAt W B fl[k] dv cv ev
theorem FilRow.keep {W W':World} {B B':Nat} {A:Option Addr} {fl:List Fil} (h:FilRow W B A fl) (hk:∀ p:Addr,p.block<B→W'.cell? p=W.cell? p) (hB:B≤B'):FilRow W' B' A fl:=fun k hlt=>by
 obtain ⟨b,o,dv,cv,ev,rfl,hb,hr,hf⟩:=h k hlt;exact ⟨b,o,dv,cv,ev,rfl,by omega,fun j u hu=>(hk _ hb).trans (hr j u hu),hf.keep hk hB⟩
theorem FilRow.take {W:World} {B:Nat} {A:Option Addr} {fl:List Fil} (h:FilRow W B A fl) (m:Nat):FilRow W B A (fl.take m):=fun k hlt=>by
 have hlt2:k<fl.length:=by rw [List.length_take] at hlt;omega
 obtain ⟨b,o,dv,cv,ev,e,hb,hr,hf⟩:=h k hlt2;refine ⟨b,o,dv,cv,ev,e,hb,?_,?_⟩
 ·rw [List.getElem_take];exact hr
 ·rw [List.getElem_take];exact hf
theorem Rep.filRow {W:World} {B:Nat} {v:Value} {fl:List Fil} (h:Rep W B v (.s 19 (fl.flatMap Fil.cells))):∃ (A:Option Addr) (c:Nat),v=.slice A fl.length c∧fl.length≤c∧FilRow W B A fl:=by
 obtain ⟨A,n,c,rfl,hn,hl,hc⟩:=h.slice;have hfl:=flat_length (l:=fl) (f:=Fil.cells) (k:=19) (fun x _=>x.cells_length)
 have hnl:n=fl.length:=by omega
 subst hnl;refine ⟨A,c,rfl,hn,fun k hk=>?_⟩
 obtain ⟨b,o,cs,rfl,hb,hr,hcell⟩:=hc (by omega)
 have hp:=flat_part (l:=fl) (f:=Fil.cells) (k:=19) (i:=k) (a:=fl[k]) (fun x _=>x.cells_length) (List.getElem?_eq_getElem hk)
 have hr2:=(hr.drop (k * 19)).take 19;rw [hp] at hr2;obtain ⟨dv,cv,ev,e,r1,r2,r3⟩:=FilM.inv hr2;refine ⟨b,o,dv,cv,ev,rfl,hb,fun j u hu=>?_,r1,r2,r3⟩
 rw [← e,List.getElem?_take] at hu
 by_cases hj:j<19
 ·rw [if_pos hj,List.getElem?_drop] at hu
  rw [Nat.add_assoc];exact hcell _ _ hu
 ·rw [if_neg hj] at hu
  cases hu
theorem yieldsAt {S:World→Prop} {ops:Array Oper} {b off:Nat} {cs:Array Value} (hs:cs.size=19) {o:Oper} {a:Act} (x:Operand) (ho:o.op=.load 41 x) (hx:a.eval x=.pointer (some ⟨b,off,none⟩)) (hS:∀ W,S W→W.rangeAt b off cs.toList) (hw:Region.wanted o (yielded ops a.tmps)=true):YieldsIf Tryz.prog ops S o (.agg cs) a:=by
 have h:=yieldsIf_load_mid (P:=Tryz.prog) (ops:=ops) (S:=S) hw 41 x ho b off hx cs.toList _ hS Tryz.underlying41 rfl (by rw [Array.length_toList,hs];kernel_rfl)
 rwa [Array.toArray_toList] at h
theorem reflog_any (fl:List Fil) (hl:fl.length≤100) (hok:∀ f∈fl,OkFil f) (A:Option Addr) (c:Nat) (w:World) (B:Nat) (hBw:B≤w.heap.size) (hrow:FilRow w B A fl) :
  Calls Tryz.prog 39 #[.slice A fl.length c] w fun e w'=>∃ u,e=.returned u∧OwnU w' w.heap.size u (logN fl)∧Below w.heap.size w w':=by
 have HR:=Lib.hid (fun (W:World) (hW:Below w.heap.size w W)=>hrow.keep (W':=W) (fun p hp=>hW.cell (Nat.lt_of_lt_of_le hp hBw)) (Nat.le_refl _))
 clear hrow;go_enter Tryz.func39,Tryz.ntmps39
 go_wp2_with fail;go_loopw [3,4] (fun u j W=>∃ k:Nat,j=.int .i64 (k:Int)∧k≤fl.length∧OwnU W w.heap.size u (logN (fl.take k))∧Below w.heap.size w W) (fun _ j _=>fl.length - (intOf j).toNat)
 case atStart=>exact ⟨0,rfl,Nat.zero_le _,OwnU.nil _ _,Below.refl _ _⟩
 case round =>
  obtain ⟨k,rfl,hk,hO,hB⟩:=hrel;obtain ⟨W,rfl⟩:∃ z:World,z=wr:=⟨_,rfl⟩;by_cases hlt:k<fl.length
  ·obtain ⟨b,o,dv,cv,ev,rfl,hb,hr,hf⟩:=HR.out w (Below.refl _ _) k hlt
   have hd:decide ((k:Int)<(fl.length:Int))=true:=decide_eq_true (by omega)
   have hok1:=hok _ (List.getElem_mem hlt);have HE:=Lib.hid (fun (V:World) (hV:Below w.heap.size w V)=>entry_any fl[k] hok1 dv cv ev (saltN k) (lab_lt _ _) V B (Nat.le_trans hBw hV.size) (hf.keep (fun p hp=>hV.cell (Nat.lt_of_lt_of_le hp hBw)) (Nat.le_refl _)))
   have HRr:=Lib.hid (fun (V:World) (hV:Below w.heap.size w V)=>(fun j u hu=>(hV.cell (p:=⟨b,o+k * 19+j,none⟩) (Nat.lt_of_lt_of_le hb hBw)).trans (hr j u hu):V.rangeAt b (o+k * 19) (fl[k].vals dv cv ev).toList))
   have HS:=Lib.hid (fun V=>salt_any k (by omega) V)
   obtain ⟨Au,nu,cu,rfl,hnu,_⟩:=OwnM.slice hO;have hlg:(logN (fl.take k)).length≤100:=by rw [logN_length,List.length_take];omega
   have hus:=us_length (logN (fl.take k));have hvd:=valD_length (us (logN (fl.take k)));have HO:=Lib.hid hO;have HSt:=Lib.hid (logN_step hlt);have HB:=Lib.hid hB;have hBs:=hB.size;clear hnu hO hB hf hok1 hr;have hen:(entN k fl[k]:Int)=(commitN (encA fl[k]) (saltN k):Int):=rfl;go_upto_region 5 with fail;refine wp_region_held_drew (S:=(fun V=>Below w.heap.size w V)) (by kernel_rfl) ?_ (fun hHeld=>?_)
   ·first | done | ((try dsimp only);exact HB.out.drew)
   have PW:=(Below.refl W.heap.size W).drew;generalize W.drew=Wb at *;refine tq 0 11 rfl ?_
   refine tq 1 12 rfl ?_
   refine tq 2 13 rfl ?_
   refine tq 3 14 rfl ?_
   refine ty 4 15 rfl (yieldsAt (cs:=fl[k].vals dv cv ev) rfl _ rfl rfl HRr.out rfl) ?_
   refine tq 5 16 rfl ?_
   refine rd 6 (some 17) rfl fun K hK=>?_
   go_simp
   (refine (HS.out _).mono ?_;rintro e w6 ⟨rfl,hb6⟩)
   refine hK.out _ _ (hHeld.trans (hb6.mono hHeld.size)) fun hHeld=>?_
   clear hK K;(try simp only [pS,pB,pZ,pC]);have P6:=PW.trans (hb6.mono PW.size);refine rd 7 (some 18) rfl fun K hK=>?_
   go_simp
   (refine (HE.out _ hHeld).mono ?_;rintro e w7 ⟨rfl,hb7⟩;rw [← hen])
   refine hK.out _ _ (hHeld.trans (hb7.mono hHeld.size)) fun hHeld=>?_
   clear hK K;(try simp only [pS,pB,pZ,pC]);have P7:=P6.trans (hb7.mono P6.size);clear PW P6 hb6 hb7 hen;generalize entN k fl[k]=en at *;refine rd 8 (some 19) rfl fun K hK=>?_
   go_simp;skip;refine hK.out _ _ (hHeld.alloc hHeld.size _) fun hHeld=>?_
   clear hK K;(try simp only [pS,pB,pZ,pC]);have P8:=P7.alloc P7.size (.cells #[.int .u64 (en:Int)] 27);have RA:=Blk.new w7 27 #[.int .u64 (en:Int)];have OA:=OwnM.step HO.out (grown_of_below (row:=none) P8) (fun _ e=>by cases e) (H':=[]) (fun _ hi=>.inl hi)
   have NA:RepML [] ((Value.slice Au nu cu).ownBlock.toList++[]) (w7.alloc (.cells #[.int .u64 (en:Int)] 27)) #[Value.int .u64 (en:Int)].toList (valD [Value.int .u64 (en:Int)]):=RepL.of_plain _ _ _;have hsz:=hHeld.size;refine rd 9 (some 20) rfl fun K hK=>?_
   rw [if_pos (by rfl)]
   refine wp_appM Tryz.underlying42 Tryz.info27 rfl (by omega) (by omega) OA RA rfl (by kernel_rfl) NA (by omega) (by omega) hsz _ _ rfl rfl rfl (fun v9 w9 o9 g9 l9=>?_)
   have B9:=hHeld.grown g9 hHeld.size (fun k e=>(OA.lt k e).1)
   refine hK.out _ _ ?_ (fun hHeld=>?_)
   ·exact B9
   clear hK K;(try simp only [pS,pB,pZ,pC]);refine tq 10 3 rfl ?_
   refine dn ?_
   have O9:OwnU w9 w.heap.size v9 (logN (fl.take (k+1))):=by
    rw [HSt.out];unfold OwnU us valD;rw [List.map_append,List.map_append];exact o9
   clear o9 OA NA RA P8 P7 g9 l9 hHeld;have HO9:=Lib.hid O9;clear O9;go_wp2_with fail;go_roundw
   case rel=>exact ⟨k+1,by go_num,by omega,HO9.out,B9⟩
   case measure=>simp [intOf];omega
  ·have hd:decide ((k:Int)<(fl.length:Int))=false:=decide_eq_false (by omega)
   obtain rfl:k=fl.length:=by omega
   rw [List.take_length] at hO;have HO:=Lib.hid hO;clear hO;go_wp2_with fail;go_ret;exact ⟨_,rfl,HO.out,hB⟩
def tickN (fl:List Fil):Int:=fl.foldl (fun t f=>if t<f.known then f.known else t) 0
theorem tickN_step {fl:List Fil} {k:Nat} (hk:k<fl.length):tickN (fl.take (k+1))=if tickN (fl.take k)<fl[k].known then fl[k].known else tickN (fl.take k):=by
 unfold tickN;rw [List.take_add_one,List.getElem?_eq_getElem hk,List.foldl_append]
 rfl
def hdOf (sec:Nat) (fl:List Fil) (o:Int) (size:Nat) (R:Nat):Hd:=⟨o,tickN (fl.take size),9,(size:Int),R,5,0,sigN (keyN sec) ⟨o,tickN (fl.take size),9,(size:Int),R,5,0,0⟩⟩
def KeptBut (w:World) (g:Nat) (V:World):Prop:=∀ p:Addr,p.block<w.heap.size→p.block≠g→V.cell? p=w.cell? p
theorem KeptBut.below {w V V':World} {g:Nat} (h:KeptBut w g V) (hs:w.heap.size≤V.heap.size) (hb:Below V.heap.size V V'):KeptBut w g V':=fun p h1 h2=>(hb.cell (Nat.lt_of_lt_of_le h1 hs)).trans (h p h1 h2)
theorem KeptBut.grown {w V V':World} {g:Nat} (h:KeptBut w g V) (hs:w.heap.size≤V.heap.size) (hb:V.grownBy V' (some g)):KeptBut w g V':=fun p h1 h2=>(World.cell?_of_block (hb.block _ (Nat.lt_of_lt_of_le h1 hs) (fun e=>h2 (by injection e)))).trans (h p h1 h2)
theorem KeptBut.range {w V:World} {g b o:Nat} {cs:List Value} (h:KeptBut w g V) (hr:w.rangeAt b o cs) (hb:b<w.heap.size) (hne:b≠g):V.rangeAt b o cs:=fun j u hu=>(h _ hb hne).trans (hr j u hu)
theorem KeptBut.of_below {w V:World} {g:Nat} (h:Below w.heap.size w V):KeptBut w g V:=fun _ h1 _=>h.cell h1
theorem yieldsRH {S:World→Prop} {ops:Array Oper} {b off:Nat} {h:Hd} {o:Oper} {a:Act} (x:Operand) (ho:o.op=.load 29 x) (hx:a.eval x=.pointer (some ⟨b,off,none⟩)) (hS:∀ W,S W→W.rangeAt b off h.vals.toList) (hw:Region.wanted o (yielded ops a.tmps)=true):YieldsIf Tryz.prog ops S o (.agg h.vals) a:=by
 have h:=yieldsIf_load_mid (P:=Tryz.prog) (ops:=ops) (S:=S) hw 29 x ho b off hx h.vals.toList _ hS Tryz.underlying29 rfl (by kernel_rfl)
 rwa [Array.toArray_toList] at h
def zeroK:Array Value:=#[iI 0,iI 0,iI 0,iI 0,uI 0,uI 0,iI 0,uI 0,iI 0,iI 0,iI 0,iI 0,iI 0,iI 0,iI 0,iI 0,iI 0,iI 0,iI 0,iI 0,nN,nN,nN,nN,iI 0,iI 0,nN,nN,uI 0,nN]
theorem exec_buildRH (d:Option Tmp) (ty:TypeId) (pos:String) (after:Array Edge) (gd:Option (Nat × Bool)) (r:Operand→Value) (o t s:Int) (R:Nat)
  (h0:r (.tmp 33)=.int .i64 o) (h1:r (.tmp 34)=.int .i64 t) (h2:r (.tmp 35)=.int .i64 s) (h3:r (.tmp 37)=.int .u64 (R:Int)) (h4:∀ v,r (.const v)=v) (w:World) :
  (execOp r ⟨d,.build 29 #[(0,.tmp 33),(1,.tmp 34),(2,.const (iI 9)),(3,.tmp 35),(4,.tmp 37),(5,.const (uI 5)),(6,.const (iI 0))],ty,pos,after,gd⟩).run Tryz.prog w=.ok (.value (.agg (Hd.vals ⟨o,t,9,s,R,5,0,0⟩))) w:=by
 unfold Hd.vals;simp only [execOp];go_simp
theorem exec_prefix {t e:TypeId} (ht:Tryz.prog.underlying t=some (.slice e)) {sz:Nat} (hs:∀ w,(sizeOf e).run Tryz.prog w=.ok sz w) (d:Option Tmp) (ty:TypeId) (pos:String) (after:Array Edge) (gd:Option (Nat × Bool)) (r:Operand→Value) (x y:Operand) (b o n c m:Nat)
  (h0:r x=.slice (some ⟨b,o,none⟩) n c) (h1:r y=.int .i64 (m:Int)) (hm:m≤c) (w:World) :
  (execOp r ⟨d,.slice t x none (some y) none,ty,pos,after,gd⟩).run Tryz.prog w=.ok (.value (.slice (some ⟨b,o,none⟩) m c)) w:=by
 simp only [execOp];go_simp
theorem sizeAct (w:World):(sizeOf 41).run Tryz.prog w=.ok 19 w:=by kernel_rfl
theorem wpList_prefix {t e:TypeId} (ht:Tryz.prog.underlying t=some (.slice e)) {sz:Nat} (hs:∀ w,(sizeOf e).run Tryz.prog w=.ok sz w) {ops:Array Oper} {rest:List Oper} {d:Option Tmp} {ty:TypeId} {pos:String} {after:Array Edge} {x y:Operand} {a:Act} {w:World} {Q:Exit→Act→World→Prop} (b o n c m:Nat)
  (h0:a.eval x=.slice (some ⟨b,o,none⟩) n c) (h1:a.eval y=.int .i64 (m:Int)) (hm:m≤c) (hK:wpList Tryz.prog ops Q rest (a.put d (.slice (some ⟨b,o,none⟩) m c)) w):wpList Tryz.prog ops Q (⟨d,.slice t x none (some y) none,ty,pos,after,none⟩::rest) a w :=
 wpList_plain rfl fun _ h2=>by
  unfold Oper.wp;rw [exec_prefix ht hs d ty pos after none a.eval x y b o n c m h0 h1 hm w,Oper.upon_value];exact h2 _ _ hK
theorem of_any (sec:Nat) (hsec:sec<18446744073709551616) (fl:List Fil) (hl:fl.length≤100) (hok:∀ f∈fl,OkFil f) (A:Option Addr) (c:Nat) (hc:fl.length≤c) (w:World) (B:Nat) (hBw:B≤w.heap.size) (hrow:FilRow w B A fl) (i size:Nat) (hi:i<size) (hsz:size≤fl.length) (R:Nat) (hR:R<18446744073709551616) (PP:World→Value→Prop)
  (HR:∀ (W:World) (v:Value),Rep W W.heap.size v (.s 1 (valD (us (logN (fl.take size)))))→Calls Tryz.prog 28 #[v] W fun e w'=>e=.returned (.int .u64 (R:Int))∧Below W.heap.size W w')
  (HP:∀ (W:World) (v:Value),w.heap.size<W.heap.size→Rep W W.heap.size v (.s 1 (valD (us (logN (fl.take size)))))→Calls Tryz.prog 42 #[v,.int .i64 (i:Int)] W fun e w'=>∃ Ap np cp,e=.returned (.slice Ap np cp)∧PP w' (.slice Ap np cp)∧Below W.heap.size W w')
  (HPP:∀ (W W':World) (v:Value),PP W v→W.grownBy W' (some w.heap.size)→PP W' v) :
  Calls Tryz.prog 11 #[.int .u64 (sec:Int),.slice A fl.length c,.int .i64 (i:Int),.int .i64 (size:Int)] w fun e w'=>∃ dv cv ev Ap np cp,e=.returned (.agg (cop (hdOf sec fl fl[i].office size R) (i:Int) fl[i] dv cv ev (saltN i) (.slice Ap np cp)))∧FilAt w B fl[i] dv cv ev∧PP w' (.slice Ap np cp)∧Below w.heap.size w w':=by
 obtain ⟨b,o,dv,cv,ev,rfl,hb,hr,hf⟩:=hrow i (by omega)
 have hone:=hf.one;have HF:=Lib.hid hf;have HL:=Lib.hid (fun (W:World) (hW:Below w.heap.size w W)=>reflog_any (fl.take size) (by rw [List.length_take];omega) (fun f hf=>hok f (List.mem_of_mem_take hf)) (some ⟨b,o,none⟩) c W B (Nat.le_trans hBw hW.size) ((hrow.take size).keep (fun p hp=>hW.cell (Nat.lt_of_lt_of_le hp hBw)) (Nat.le_refl _)))
 rw [List.length_take,Nat.min_eq_left hsz] at HL
 have hkn:∀ (k:Nat) (hk:k<fl.length) (W:World),Below w.heap.size w W→W.cell? ⟨b,o+k * 19+2,none⟩=some (.int .i64 fl[k].known):=fun k hk W hW=>by
  obtain ⟨b',o',dv',cv',ev',e,hb',hr',hf'⟩:=hrow k hk;injection e with e
  injection e with e1 e2
  subst e1 e2;exact (hW.cell (p:=⟨b,o+k * 19+2,none⟩) (Nat.lt_of_lt_of_le hb hBw)).trans (hr' 2 _ rfl)
 have HKN:=Lib.hid hkn;have HHR:=Lib.hid HR;have HHP:=Lib.hid HP;have HHPP:=Lib.hid HPP;have X0:=Blk.new w 44 zeroK;have P0:=below_new w (.cells zeroK 44);unfold zeroK at X0 P0;clear hf hrow hok hkn HR HP HPP;go_enter Tryz.func11,Tryz.ntmps11
 go_upto_region 1 with fail;generalize w.alloc (.cells #[iI 0,iI 0,iI 0,iI 0,uI 0,uI 0,iI 0,uI 0,iI 0,iI 0,iI 0,iI 0,iI 0,iI 0,iI 0,iI 0,iI 0,iI 0,iI 0,iI 0,nN,nN,nN,nN,iI 0,iI 0,nN,nN,uI 0,nN] 44)=w0 at *;go_upto_region 2 with (first | (refine wpList_prefix Tryz.underlying23 sizeAct b o fl.length c size rfl rfl (by omega) ?_) | (go_at_call 39;refine (HL.out _ P0).mono ?_;rintro e w1 ⟨u,rfl,O1,hb1⟩))
 have X1:=X0.keep hb1;have P1:=below_up P0 hb1 P0.size;have HO1:=Lib.hid O1;have hslu:=O1.rep.one;obtain ⟨Au,nu,cu,rfl⟩:=hslu;clear O1 X0 P0 hb1;go_wp2_with fail;go_loopw [10,11] (fun t j W=>∃ k:Nat,t=.int .i64 (tickN (fl.take k))∧j=.int .i64 (k:Int)∧k≤size∧W=w1) (fun _ j _=>size - (intOf j).toNat)
 case atStart=>exact ⟨0,rfl,rfl,Nat.zero_le _,rfl⟩
 case round =>
  obtain ⟨k,rfl,rfl,hk,rfl⟩:=hrel;by_cases hlt:k<size
  ·have hd:decide ((k:Int)<(size:Int))=true:=decide_eq_true (by omega)
   have hc2:=HKN.out k (by omega) _ P1
   have hst:=Lib.hid (tickN_step (fl:=fl) (k:=k) (by omega))
   generalize fl[k].known=kn at *;generalize tickN (fl.take k)=tk at *;go_wp2_with fail;go_roundw
   case rel=>exact ⟨k+1,by rw [hst.out],by go_num,by omega,by first | rfl | trivial⟩
   case measure=>simp [intOf];omega
  ·have hd:decide ((k:Int)<(size:Int))=false:=decide_eq_false (by omega)
   obtain rfl:k=size:=by omega
   have hof:∀ V,Below wr.heap.size wr V→V.cell? ⟨b,o+i * 19+4,none⟩=some (.int .i64 fl[i].office):=fun V hV=>((hV.cell (p:=⟨b,o+i * 19+4,none⟩) (Nat.lt_of_lt_of_le hb (Nat.le_trans hBw P1.size))).trans (P1.cell (p:=⟨b,o+i * 19+4,none⟩) (Nat.lt_of_lt_of_le hb hBw))).trans (hr 4 _ rfl)
   have HOF:=Lib.hid hof;have hil:i<fl.length:=by omega
   have HRW:=Lib.hid (fun (V:World) (hV:Below wr.heap.size wr V)=>(HO1.out.rep.keep (W':=V) (fun p hp=>hV.cell hp) hV.size))
   have HRr:=Lib.hid hr;clear hof hr hd hlt hk;go_upto_region 7 with fail;go_cut [12] (fun p wx=>∃ g,p=.pointer (some ⟨g,0,none⟩)∧wr.heap.size≤g∧Blk wx g 29 (Hd.vals ⟨fl[i].office,tickN (fl.take k),9,(k:Int),R,5,0,0⟩)∧Below wr.heap.size wr wx)
   case first =>
    refine wp_region_held_drew (S:=(fun V=>Below wr.heap.size wr V)) (by kernel_rfl) ?_ (fun hHeld=>?_)
    ·first | done | ((try dsimp only);exact (Below.refl _ _).drew)
    have PW:=(Below.refl wr.heap.size wr).drew;generalize wr.drew=wb at *;refine tq 0 29 rfl ?_
    refine tq 1 30 rfl ?_
    refine tq 2 31 rfl ?_
    refine tq 3 32 rfl ?_
    refine th 4 33 rfl (fun _ hSw=>HOF.out _ hSw) ?_
    refine tq 5 34 rfl ?_
    refine tq 6 35 rfl ?_
    refine tq 7 36 rfl ?_
    refine rd2 8 (some 37) 10 (some 12) (by kernel_rfl) rfl rfl (fun K hK=>?_) fun K hK=>?_
    ·skip
     go_simp
     (refine (HHR.out _ _ (HRW.out _ PW)).mono ?_;rintro e w6 ⟨rfl,hb6⟩)
     refine hK.out _ _ (PW.trans (hb6.mono PW.size)) fun hHeld=>?_
     clear hK K;(try simp only [pS,pB,pZ,pC]);have P6:=PW.trans (hb6.mono PW.size);refine tq 9 38 rfl ?_ (hy:=by intro w' hSw;(try dsimp only at hSw);refine exec_buildRH _ _ _ _ _ _ fl[i].office (tickN (fl.take k)) (k:Int) R ?_ ?_ ?_ ?_ ?_ _ <;> (try intro) <;> rfl;try (with_reducible rfl))
     refine rd 10 (some 12) rfl fun K hK=>?_
     go_simp;skip;refine hK.out _ _ (P6.alloc P6.size _) fun hHeld=>?_
     clear hK K;(try simp only [pS,pB,pZ,pC]);have hge:wr.heap.size≤w6.heap.size:=P6.size;have PZ:=P6.alloc P6.size (.cells #[iI 0,iI 0,iI 0,iI 0,uI 0,uI 0,iI 0,uI 0] 29);have YZ:=Blk.new w6 29 #[iI 0,iI 0,iI 0,iI 0,uI 0,uI 0,iI 0,uI 0];refine rd 11 none rfl fun K hK=>?_
     rw [if_pos (by rfl)]
     refine wp_storeW (T:=29) (n:=8) (by kernel_rfl) YZ rfl _ _ rfl rfl _ rfl rfl (by kernel_rfl) (fun w9 Y9 g9=>?_)
     have B9:=PZ.grown g9 PZ.size (fun k e=>by injection e with e;omega)
     refine hK.out _ _ ?_ (fun hHeld=>?_)
     ·exact B9
     clear hK K;refine dn ?_
     go_wp2_with fail;go_meet;exact ⟨_,rfl,hge,Y9,B9⟩
    ·skip
     go_simp;skip;refine hK.out _ _ (PW.alloc PW.size _) fun hHeld=>?_
     clear hK K;(try simp only [pS,pB,pZ,pC]);have hge:wr.heap.size≤wb.heap.size:=PW.size;have PY:=PW.alloc PW.size (.cells #[iI 0,iI 0,iI 0,iI 0,uI 0,uI 0,iI 0,uI 0] 29);have YY:=Blk.new wb 29 #[iI 0,iI 0,iI 0,iI 0,uI 0,uI 0,iI 0,uI 0];refine rd 8 (some 37) rfl fun K hK=>?_
     go_simp
     (refine (HHR.out _ _ (HRW.out _ PY)).mono ?_;rintro e w6 ⟨rfl,hb6⟩)
     refine hK.out _ _ (PY.trans (hb6.mono PY.size)) fun hHeld=>?_
     clear hK K;(try simp only [pS,pB,pZ,pC]);have PZ:=PY.trans (hb6.mono PY.size);have YZ:=YY.keep hb6;refine tq 9 38 rfl ?_ (hy:=by intro w' hSw;(try dsimp only at hSw);refine exec_buildRH _ _ _ _ _ _ fl[i].office (tickN (fl.take k)) (k:Int) R ?_ ?_ ?_ ?_ ?_ _ <;> (try intro) <;> rfl;try (with_reducible rfl))
     refine rd 11 none rfl fun K hK=>?_
     rw [if_pos (by rfl)]
     refine wp_storeW (T:=29) (n:=8) (by kernel_rfl) YZ rfl _ _ rfl rfl _ rfl rfl (by kernel_rfl) (fun w9 Y9 g9=>?_)
     have B9:=PZ.grown g9 PZ.size (fun k e=>by injection e with e;omega)
     refine hK.out _ _ ?_ (fun hHeld=>?_)
     ·exact B9
     clear hK K;refine dn ?_
     go_wp2_with fail;go_meet;exact ⟨_,rfl,hge,Y9,B9⟩
   case rest =>
    obtain ⟨g,rfl,hg,YH,PC⟩:=hcut;obtain ⟨wq,rfl⟩:∃ z:World,z=wc:=⟨_,rfl⟩;have HSG:=Lib.hid (fun (V:World)=>refsign_any sec hsec fl[i].office (tickN (fl.take k)) 9 (k:Int) R 5 hR (by omega) 0 0 V)
    have HSA:=Lib.hid (fun (V:World)=>salt_any i (by omega) V)
    have P4:=below_up P1 PC P1.size;have X4:=X1.keep PC;have HRr2:=Lib.hid (fun (V:World) (hV:KeptBut wq w.heap.size V)=>(KeptBut.range hV (fun j u hu=>(P4.cell (p:=⟨b,o+i * 19+j,none⟩) (Nat.lt_of_lt_of_le hb hBw)).trans (HRr.out j u hu)) (Nat.lt_of_lt_of_le (Nat.lt_of_lt_of_le hb hBw) P4.size) (by omega):V.rangeAt b (o+i * 19) (fl[i].vals dv cv ev).toList))
    have hgw:w.heap.size<g:=Nat.lt_of_lt_of_le X1.lt hg;have hgq:g<wq.heap.size:=YH.lt;have HYr:=Lib.hid (fun (V:World) (hV:KeptBut wq w.heap.size V)=>(KeptBut.range (o:=0) hV (fun j u hu=>by rw [Nat.zero_add,YH.cell j,← Array.getElem?_toList];exact hu) YH.lt (by omega):V.rangeAt g 0 (Hd.vals ⟨fl[i].office,tickN (fl.take k),9,(k:Int),R,5,0,0⟩).toList))
    have HRW2:=Lib.hid (fun (V:World) (hV:Below wq.heap.size wq V)=>HRW.out V (PC.trans (hV.mono PC.size)))
    clear HRW HOF X1 P1 PC YH HRr hg;go_upto_region 8 with fail;refine wp_region_held_drew (S:=(fun V=>KeptBut wq w.heap.size V)) (by kernel_rfl) ?_ (fun hHeld=>?_)
    ·first | done | ((try dsimp only);exact fun p _ _=>World.cell?_drew wq p)
    have PD:=(Below.refl wq.heap.size wq).drew;generalize wq.drew=wd at *;refine tq 0 39 rfl ?_
    refine ty 1 40 rfl (yieldsRH _ rfl rfl HYr.out rfl) ?_
    refine tq 3 42 rfl ?_
    refine tq 4 43 rfl ?_
    refine tq 5 44 rfl ?_
    refine tq 6 45 rfl ?_
    refine ty 7 46 rfl (yieldsAt (cs:=fl[i].vals dv cv ev) rfl _ rfl rfl HRr2.out rfl) ?_
    refine tq 8 47 rfl ?_
    refine tq 10 49 rfl ?_
    refine tq 11 50 rfl ?_
    refine rd 2 (some 41) rfl fun K hK=>?_
    go_simp
    (refine (HSG.out _).mono ?_;rintro e w6 ⟨rfl,hb6⟩)
    refine hK.out _ _ (KeptBut.of_below (PD.trans (hb6.mono PD.size))) fun hHeld=>?_
    clear hK K;(try simp only [pS,pB,pZ,pC]);have P6:=PD.trans (hb6.mono PD.size);refine rd 9 (some 48) rfl fun K hK=>?_
    go_simp
    (refine (HSA.out _).mono ?_;rintro e w7 ⟨rfl,hb7⟩)
    refine hK.out _ _ (KeptBut.of_below (P6.trans (hb7.mono P6.size))) fun hHeld=>?_
    clear hK K;(try simp only [pS,pB,pZ,pC]);have P7:=P6.trans (hb7.mono P6.size);refine rd 12 (some 51) rfl fun K hK=>?_
    go_simp
    (refine (HHP.out _ _ (Nat.lt_of_lt_of_le (Nat.lt_trans hgw hgq) P7.size) (HRW2.out _ P7)).mono ?_;rintro e w8 ⟨Ap,np,cp,rfl,hpp,hb8⟩)
    refine hK.out _ _ (KeptBut.of_below (P7.trans (hb8.mono P7.size))) fun hHeld=>?_
    clear hK K;(try simp only [pS,pB,pZ,pC]);have P8:=P7.trans (hb8.mono P7.size);refine tq 13 52 rfl ?_ (hy:=by intro w' hSw;(try dsimp only at hSw);refine exec_buildK _ _ _ _ _ _ (.tmp 41) (.tmp 42) (.tmp 46) (.tmp 48) (.tmp 51) (hdOf sec fl fl[i].office k R) (i:Int) fl[i] dv cv ev (saltN i) Ap np cp ?_ ?_ ?_ ?_ ?_ _ <;> rfl;try (with_reducible rfl))
    have X8:=X4.keep P8;have P9:=P4.trans (P8.mono P4.size);refine rd 14 none rfl fun K hK=>?_
    rw [if_pos (by rfl)]
    refine wp_storeW (T:=44) (n:=30) (by kernel_rfl) X8 rfl _ _ rfl rfl _ rfl rfl (cop_one _ _ _ _ _ _ _ hone) (fun w9 Y9 g9=>?_)
    refine hK.out _ _ ?_ (fun hHeld=>?_)
    ·exact (KeptBut.of_below P8).grown P8.size g9
    clear hK K;refine dn ?_
    go_wp2_with fail;exact bodyPost_ret (results_K rfl _ rfl Y9 rfl) rfl ⟨dv,cv,ev,Ap,np,cp,rfl,HF.out,HHPP.out _ _ _ hpp g9,P9.grown g9 P9.size (fun j e=>by injection e with e;omega)⟩
theorem genTx_ok {d:List F} {c:List Cl} (h:GenTx d c):OkTx d c:=by
 obtain ⟨h1,h2,h3⟩:=h;have ha:∀ k,k<c.length→((altsL c (k+1)).getD k []).length≤mostAlts k:=fun k hk=>(h3.alts (k+1) hk k (Nat.lt_succ_self k)).1
 have hs:sumA c c.length≤22:=by
  have hl:=h3.1;have e:c.length=0∨c.length=1∨c.length=2∨c.length=3:=by omega
  rcases e with e | e | e | e
  ·rw [e]
   show 0≤22
   omega
  ·have a0:=ha 0 (by omega)
   rw [e];simp only [sumA,mostAlts] at *;omega
  ·have a0:=ha 0 (by omega)
   have a1:=ha 1 (by omega)
   rw [e];simp only [sumA,mostAlts] at *;omega
  ·have a0:=ha 0 (by omega)
   have a1:=ha 1 (by omega)
   have a2:=ha 2 (by omega)
   rw [e];simp only [sumA,mostAlts] at *;omega
 have ht:=flat_len_le (f:=F.tops) (M:=2) (l:=d) (fun f hf=>(h2 f hf).2)
 exact ⟨by omega,fun f hf=>(h2 f hf).1.ok (by omega) (by omega),h3.ok,h3.altsOk,by omega⟩
theorem genA_ok {i:Nat} {f:Fil} (h:GenA i f) (hi:i≤13) (hd:0≤f.day∧f.day≤100000) (hn:0≤f.known∧f.known≤100) (o:Int) (ho:0≤o∧o≤11):OkFil { f with office:=o }:=by
 obtain ⟨h1,h2,h3,h4,h5,h6,h7,h8⟩:=h;refine ⟨⟨hd.1,by show f.day≤131072;omega⟩,⟨hn.1,by show f.known≤1099511627776;omega⟩,⟨by show 0≤f.file;omega,by show f.file≤4095;omega⟩,ho,⟨h3.1,by show f.party≤4095;omega⟩,?_,genTx_ok h5,by show f.e.length≤8;omega,fun p hp=>?_,h8⟩
 ·show -1≤f.other∧f.other≤4095∧f.other≠f.file
  rcases h4 with h4 | ⟨j,hj,h4⟩ <;> omega
 ·obtain ⟨⟨j,hj,hp1⟩,hp2,hp3⟩:=h7 p hp
  show (0≤p.1∧p.1≤4095)∧(0≤p.2∧p.2≤131072)∧p.1≠f.file
  omega
theorem wds_cons {a:Nat} {l:List Nat} (h:a<18446744073709551616) (hl:Words l):Words (a::l):=fun x hx=>by
 rcases List.mem_cons.1 hx with rfl | hx
 ·exact h
 ·exact hl x hx
theorem wds_nil:Words []:=fun x hx=>by cases hx
theorem lab_one {s:ByteArray} {p q:List Nat} {x y:Nat} (hx:x<18446744073709551616) (hy:y<18446744073709551616) (hq:Words q) (h:labN s (p++x::q)=labN s (p++y::q)):x=y:=sum_one hx hy hq h
theorem leaf_inj {a b:Nat} (ha:a<18446744073709551616) (hb:b<18446744073709551616) (h:leafN a=leafN b):a=b:=lab_one (p:=[]) (q:=[]) ha hb wds_nil h
theorem commit_lt (bs:List Nat) (s:Nat):commitN bs s<18446744073709551616:=lab_lt _ _
theorem commit_inj {bs:List Nat} {s t:Nat} (ha:s<18446744073709551616) (hb:t<18446744073709551616) (h:commitN bs s=commitN bs t):s=t:=lab_one (p:=[]) (q:=[bytesN sSealed bs]) ha hb (wds_cons (bytesN_lt _ _) wds_nil) h
theorem sig_inj {a b:Nat} {h:Hd} (ha:a<18446744073709551616) (hb:b<18446744073709551616) (hl:h.log<18446744073709551616) (hm:h.map<18446744073709551616) (e:sigN a h=sigN b h):a=b :=
 lab_one (p:=[]) (q:=[u64 h.office,u64 h.tick,u64 h.day,u64 h.size,h.log,h.map,u64 h.sld]) ha hb (wds_cons (u64_lt _) (wds_cons (u64_lt _) (wds_cons (u64_lt _) (wds_cons (u64_lt _) (wds_cons hl (wds_cons hm (wds_cons (u64_lt _) wds_nil))))))) e
theorem fil_good (f:Fil) {o:Int} (h:f.office=o):filE f o=0:=if_pos h
theorem fil_bad (f:Fil) {o:Int} (h:f.office≠o):filE f o=22:=if_neg h
theorem hd_sign (sec:Nat) (fl:List Fil) (o:Int) (size R:Nat):(hdOf sec fl o size R).sign=sigN (keyN sec) (hdOf sec fl o size R):=rfl
theorem hd_good {key:Nat} {h:Hd} (e:h.sign=sigN key h):hdE key h=0:=if_pos e
theorem hd_bad {key key':Nat} {h:Hd} (e:h.sign=sigN key h) (ha:key<18446744073709551616) (hb:key'<18446744073709551616) (hl:h.log<18446744073709551616) (hm:h.map<18446744073709551616) (hne:key≠key'):hdE key' h=23:=if_neg (fun e2=>hne (sig_inj ha hb hl hm (e.symm.trans e2)))
theorem log_good {h:Hd} {f:Fil} {s:Nat} (e:h.log=leafN (commitN (encA f) s)):logE h f s=0:=if_pos e
theorem log_bad {h:Hd} {f:Fil} {s s':Nat} (e:h.log=leafN (commitN (encA f) s)) (ha:s<18446744073709551616) (hb:s'<18446744073709551616) (hne:s≠s'):logE h f s'=10 :=
 if_neg (fun e2=>hne (commit_inj ha hb (leaf_inj (commit_lt _ _) (commit_lt _ _) (e.symm.trans e2))))
theorem next_ne {s:Nat}:s≠(s+1) % 18446744073709551616:=by omega
theorem IsCop.setSalt {C:Array Value} {h:Hd} {i:Int} {f:Fil} {dv cv ev:Value} {salt:Nat} {p:Value} (hC:IsCop C h i f dv cv ev salt p) (s:Nat):IsCop (C.setIfInBounds 28 (.int .u64 (s:Int))) h i f dv cv ev s p:=by
 obtain ⟨h1,h2,h3,h4,h5,h6⟩:=hC;refine ⟨by simp [h1],fun j v hj=>?_,fun j v hj=>?_,?_,?_,?_⟩
 ·have hlt:j<19:=lt_of_some hj
  rw [Array.getElem?_setIfInBounds_ne (by omega)]
  exact h2 j v hj
 ·have hlt:j<8:=lt_of_some hj
  rw [Array.getElem?_setIfInBounds_ne (by omega)]
  exact h3 j v hj
 ·rw [Array.getElem?_setIfInBounds_ne (by omega)];exact h4
 ·rw [Array.getElem?_setIfInBounds_self_of_lt (by omega)]
 ·rw [Array.getElem?_setIfInBounds_ne (by omega)];exact h6
theorem IsCop.setOffice {C:Array Value} {h:Hd} {i:Int} {f:Fil} {dv cv ev:Value} {salt:Nat} {p:Value} (hC:IsCop C h i f dv cv ev salt p) (o:Int):IsCop (C.setIfInBounds 13 (.int .i64 o)) h i { f with office:=o } dv cv ev salt p:=by
 obtain ⟨h1,h2,h3,h4,h5,h6⟩:=hC;refine ⟨by simp [h1],fun j v hj=>?_,fun j v hj=>?_,?_,?_,?_⟩
 ·have hlt:j<19:=lt_of_some hj
  by_cases h4:j=4
  ·subst h4
   rw [Array.getElem?_setIfInBounds_self_of_lt (by omega)]
   exact hj
  ·rw [Array.getElem?_setIfInBounds_ne (by omega)]
   refine h2 j v ?_
   have e:j=0∨j=1∨j=2∨j=3∨j=5∨j=6∨j=7∨j=8∨j=9∨j=10∨j=11∨j=12∨j=13∨j=14∨j=15∨j=16∨j=17∨j=18:=by omega
   rcases e with rfl | rfl | rfl | rfl | rfl | rfl | rfl | rfl | rfl | rfl | rfl | rfl | rfl | rfl | rfl | rfl | rfl | rfl <;> exact hj
 ·have hlt:j<8:=lt_of_some hj
  rw [Array.getElem?_setIfInBounds_ne (by omega)]
  exact h3 j v hj
 ·rw [Array.getElem?_setIfInBounds_ne (by omega)];exact h4
 ·rw [Array.getElem?_setIfInBounds_ne (by omega)];exact h5
 ·rw [Array.getElem?_setIfInBounds_ne (by omega)];exact h6
def liveF:Fil:=⟨7,2,3,1,4,-1,[.mk 0 0 [] []],[],[]⟩
theorem liveF_ok:OkFil liveF:=by
 have hF:Feat (.mk 0 0 [] []):=by
  refine ⟨⟨by decide,by decide,?_⟩,by decide⟩
  intro y hy;have hy:y∈[F.mk 0 0 [] []]:=hy;simp only [List.mem_cons,List.not_mem_nil,or_false] at hy;rcases hy with rfl
  exact .inl ⟨rfl,rfl,rfl,rfl⟩
 have hT:OkTx [.mk 0 0 [] []] []:=genTx_ok ⟨by decide,fun f hf=>by rw [List.mem_singleton.1 hf];exact hF,by decide,fun i hi=>absurd hi (by simp)⟩
 refine ⟨by decide,by decide,by decide,by decide,by decide,by decide,hT,by decide,fun p hp=>(by cases hp),List.nodup_nil⟩
def halfN (n:Nat):Nat:=if n≤2 then 1 else if n≤4 then 2 else if n≤8 then 4 else 8
theorem halfN_bd {n:Nat} (h:2≤n):1≤halfN n∧halfN n<n:=by
 unfold halfN;split
 ·omega
 ·split
  ·omega
  ·split <;> omega
def rootF:Nat→List Nat→Nat
 | 0,_=>0
 | f+1,l=>if l.length=0 then noneN else if l.length=1 then leafN (l.getD 0 0) else nodeN (rootF f (l.take (halfN l.length))) (rootF f (l.drop (halfN l.length)))
def pathF:Nat→List Nat→Nat→List Nat
 | 0,_,_=>[]
 | f+1,l,i=>if l.length=1 then [] else if i<halfN l.length then pathF f (l.take (halfN l.length)) i++[rootF f (l.drop (halfN l.length))] else pathF f (l.drop (halfN l.length)) (i - halfN l.length)++[rootF f (l.take (halfN l.length))]
def climbF:Nat→Nat→Nat→Nat→List Nat→Nat
 | 0,_,_,_,_=>0
 | f+1,i,n,h,ps=>if n=1∨ps.length=0 then leafN h else if i<halfN n then nodeN (climbF f i (halfN n) h ps.dropLast) (ps.getD (ps.length - 1) 0) else nodeN (ps.getD (ps.length - 1) 0) (climbF f (i - halfN n) (n - halfN n) h ps.dropLast)
def fitF:Nat→Nat→Nat→Nat→Bool
 | 0,_,_,_=>false
 | f+1,i,n,m=>if n=1∨m=0 then decide (n=1∧m=0) else if i<halfN n then fitF f i (halfN n) (m - 1) else fitF f (i - halfN n) (n - halfN n) (m - 1)
theorem root_lt (f:Nat) (l:List Nat):rootF f l<18446744073709551616:=by
 cases f with
 | zero=>simp [rootF]
 | succ f =>
  unfold rootF;split
  ·exact lab_lt _ _
  ·split <;> exact lab_lt _ _
theorem path_words (f:Nat):∀ (l:List Nat) (i:Nat),Words (pathF f l i):=by
 induction f with
 | zero=>intro l i x hx;cases hx
 | succ f ih =>
  intro l i x hx;unfold pathF at hx;split at hx
  ·cases hx
  ·split at hx
   ·rcases List.mem_append.1 hx with h | h
    ·exact ih _ _ x h
    ·rw [List.mem_singleton.1 h];exact root_lt _ _
   ·rcases List.mem_append.1 hx with h | h
    ·exact ih _ _ x h
    ·rw [List.mem_singleton.1 h];exact root_lt _ _
theorem path_len (f:Nat):∀ (l:List Nat) (i:Nat),(pathF f l i).length≤f:=by
 induction f with
 | zero=>intro l i;exact Nat.le_refl _
 | succ f ih =>
  intro l i;unfold pathF;split
  ·simp
  ·split
   ·have:=ih (l.take (halfN l.length)) i
    simp;omega
   ·have:=ih (l.drop (halfN l.length)) (i - halfN l.length)
    simp;omega
theorem words_drop {l:List Nat} (h:Words l):Words l.dropLast:=fun x hx=>h x (List.dropLast_subset l hx)
theorem half_step {n k:Nat} (hn:n≤16) (hk:k=1∨((k=2∨k=4∨k=8∨k=16)∧k<n)) (h:2 * k<n):(2 * k=2∨2 * k=4∨2 * k=8∨2 * k=16)∧2 * k<n:=by omega
theorem half_done {n k:Nat} (hn:n≤16) (h2:2≤n) (hk:k=1∨((k=2∨k=4∨k=8∨k=16)∧k<n)) (h:¬ 2 * k<n):k=halfN n:=by
 unfold halfN;split
 ·omega
 ·split
  ·omega
  ·split <;> omega
theorem refhalf_any (n:Nat) (h2:2≤n) (hn:n≤16) (w:World) :
  Calls Tryz.prog 69 #[.int .i64 (n:Int)] w fun e w'=>e=.returned (.int .i64 (halfN n:Int))∧w'=w:=by
 go_enter Tryz.func69,Tryz.ntmps69
 go_wp2_with fail;go_loopw [3] (fun j W=>∃ k:Nat,j=.int .i64 (k:Int)∧(k=1∨((k=2∨k=4∨k=8∨k=16)∧k<n))∧w=W) (fun j _=>n - (intOf j).toNat)
 case atStart=>exact ⟨1,rfl,.inl rfl,rfl⟩
 case round =>
  obtain ⟨k,rfl,hk,rfl⟩:=hrel;have hw2:IntKind.i64.wrap (2 * (k:Int))=((2 * k:Nat):Int):=by rw [IntKind.wrap_i64];omega
  by_cases hlt:2 * k<n
  ·have hs:=half_step hn hk hlt
   have hd:decide (((2 * k:Nat):Int)<(n:Int))=true:=decide_eq_true (by omega)
   generalize h2k:2 * k=k2 at *;go_wp2_with fail;go_roundw
   case rel=>exact ⟨k2,by go_num,.inr hs,trivial⟩
   case measure=>simp [intOf];omega
  ·have hd:decide (((2 * k:Nat):Int)<(n:Int))=false:=decide_eq_false (by omega)
   have hf:=half_done hn h2 hk hlt;generalize h2k:2 * k=k2 at *;go_wp2_with fail;go_ret;exact ⟨by rw [hf];rfl,rfl⟩
theorem exec_suffix {t e:TypeId} (ht:Tryz.prog.underlying t=some (.slice e)) (hs:∀ w,(sizeOf e).run Tryz.prog w=.ok 1 w) (d:Option Tmp) (ty:TypeId) (pos:String) (after:Array Edge) (gd:Option (Nat × Bool)) (r:Operand→Value) (x y:Operand) (b o n c m:Nat)
  (h0:r x=.slice (some ⟨b,o,none⟩) n c) (h1:r y=.int .i64 (m:Int)) (hm:m≤n) (hmc:m<c) (w:World) :
  (execOp r ⟨d,.slice t x (some y) none none,ty,pos,after,gd⟩).run Tryz.prog w=.ok (.value (.slice (some ⟨b,o+m,none⟩) (n - m) (c - m))) w:=by
 simp only [execOp];go_simp;intro h;omega
theorem sizeU64 (w:World):(sizeOf 27).run Tryz.prog w=.ok 1 w:=by kernel_rfl
theorem refroot_any (f:Nat):∀ (l:List Nat) (b o c:Nat) (w:World),l.length≤f→l.length≤16→1≤l.length→l.length≤c→Words l→(∀ (k:Nat) (hk:k<l.length),w.cell? ⟨b,o+k,none⟩=some (.int .u64 (l[k]:Int))) →
  Calls Tryz.prog 28 #[.slice (some ⟨b,o,none⟩) l.length c] w fun e w'=>e=.returned (.int .u64 (rootF f l:Int))∧Below w.heap.size w w':=by
 induction f with
 | zero=>intro l b o c w h0 _ h1;omega
 | succ f ih =>
  intro l b o c w hf h16 h1 hc hw hcell;by_cases e1:l.length=1
  ·have hh:rootF (f+1) l=leafN l[0]:=by
    rw [rootF,if_neg (by omega),if_pos e1]
    simp [List.getD,e1]
   rw [hh,e1];exact refroot_one l[0] (hw _ (List.getElem_mem _)) b o c w (hcell 0 (by omega))
  ·have hb:=halfN_bd (n:=l.length) (by omega)
   have e2:rootF (f+1) l=nodeN (rootF f (l.take (halfN l.length))) (rootF f (l.drop (halfN l.length))):=by
    rw [rootF];rw [if_neg (by omega),if_neg e1]
   have hlt:(l.take (halfN l.length)).length=halfN l.length:=by rw [List.length_take];omega
   have hld:(l.drop (halfN l.length)).length=l.length - halfN l.length:=List.length_drop
   have HA:=Lib.hid (fun (W:World) (hW:Below w.heap.size w W)=>ih (l.take (halfN l.length)) b o c W (by omega) (by omega) (by omega) (by omega) (fun x hx=>hw x (List.mem_of_mem_take hx)) (fun k hk=>by
    rw [List.getElem_take];have h9:=hcell k (by omega)
    exact (hW.cell (World.block_lt_of_cell? _ _ h9)).trans h9))
   have HB:=Lib.hid (fun (W:World) (hW:Below w.heap.size w W)=>ih (l.drop (halfN l.length)) b (o+halfN l.length) (c - halfN l.length) W (by omega) (by omega) (by omega) (by omega) (fun x hx=>hw x (List.mem_of_mem_drop hx)) (fun k hk=>by
    rw [List.getElem_drop,Nat.add_assoc];have h9:=hcell (halfN l.length+k) (by omega)
    exact (hW.cell (World.block_lt_of_cell? _ _ h9)).trans h9))
   rw [hlt] at HA;rw [hld] at HB;have HN:=Lib.hid (fun (W:World)=>refnode_any (rootF f (l.take (halfN l.length))) (rootF f (l.drop (halfN l.length))) (root_lt _ _) (root_lt _ _) W)
   rw [← e2] at HN;have HH:=Lib.hid (fun (W:World)=>refhalf_any l.length (by omega) h16 W)
   have ez:((l.length:Int) == 0)=false:=by rw [beq_eq_false_iff_ne];omega
   have eo:((l.length:Int) == 1)=false:=by rw [beq_eq_false_iff_ne];omega
   clear e2 hlt hld hcell hw ih;generalize rootF (f+1) l=R at *;generalize rootF f (l.take (halfN l.length))=RA at *;generalize rootF f (l.drop (halfN l.length))=RB at *;generalize halfN l.length=k at *;generalize l.length=n at *;go_enter Tryz.func28,Tryz.ntmps28
   go_wp2_with fail;refine (HH.out _).mono ?_
   rintro e w1 ⟨rfl,rfl⟩;go_upto_region 6 with fail;refine wp_region_held_drew (S:=(fun V=>Below w1.heap.size w1 V)) (by kernel_rfl) ?_ (fun hHeld=>?_)
   ·first | done | ((try dsimp only);exact (Below.refl _ _).drew)
   have PW:=(Below.refl w1.heap.size w1).drew;generalize w1.drew=wd at *;refine tq 0 18 rfl ?_
   refine tq 1 19 rfl ?_
   refine tq 2 20 rfl ?_ (hy:=by intro w' hSw;(try dsimp only at hSw);refine exec_prefix Tryz.underlying42 sizeU64 _ _ _ _ _ _ (.tmp 18) (.tmp 19) b o n c k ?_ ?_ ?_ _;rfl;rfl;omega;try (with_reducible rfl))
   refine tq 4 22 rfl ?_
   refine tq 5 23 rfl ?_
   refine tq 6 24 rfl ?_ (hy:=by intro w' hSw;(try dsimp only at hSw);refine exec_suffix Tryz.underlying42 sizeU64 _ _ _ _ _ _ (.tmp 22) (.tmp 23) b o n c k ?_ ?_ ?_ ?_ _;rfl;rfl;omega;omega;try (with_reducible rfl))
   refine rd 3 (some 21) rfl fun K hK=>?_
   go_simp
   (refine (HA.out _ PW).mono ?_;rintro e w2 ⟨rfl,hb2⟩)
   refine hK.out _ _ (PW.trans (hb2.mono PW.size)) fun hHeld=>?_
   clear hK K;(try simp only [pS,pB,pZ,pC]);have P2:=PW.trans (hb2.mono PW.size);refine rd 7 (some 25) rfl fun K hK=>?_
   go_simp
   (refine (HB.out _ P2).mono ?_;rintro e w3 ⟨rfl,hb3⟩)
   refine hK.out _ _ (P2.trans (hb3.mono P2.size)) fun hHeld=>?_
   clear hK K;(try simp only [pS,pB,pZ,pC]);have P3:=P2.trans (hb3.mono P2.size);refine rd 8 (some 26) rfl fun K hK=>?_
   go_simp
   (refine (HN.out _).mono ?_;rintro e w4 ⟨rfl,hb4⟩)
   refine hK.out _ _ (P3.trans (hb4.mono P3.size)) fun hHeld=>?_
   clear hK K;(try simp only [pS,pB,pZ,pC]);have P4:=P3.trans (hb4.mono P3.size);refine tq 9 2 rfl ?_
   refine dn ?_
   go_wp2_with fail;go_ret;exact ⟨rfl,P4⟩
theorem OwnM.mono {ts:List TypeId} {H:List Nat} {w:World} {base base':Nat} {e:TypeId} {size:Nat} {v:Value} {ds:List D} (h:OwnM ts H w base e size v ds) (hb:base'≤base):OwnM ts H w base' e size v ds:=by
 obtain ⟨n,xs,h1,h2⟩:=h;refine ⟨n,xs,⟨h1.1,?_⟩,h2⟩
 rcases h1.2 with h | ⟨g,cap,cur,q1,q2,q3⟩
 ·exact .inl h
 ·exact .inr ⟨g,cap,cur,q1,Nat.le_trans hb q2,q3⟩
theorem refpath_any (f:Nat):∀ (l:List Nat) (i b o c:Nat) (w:World),f≤100→l.length≤f→l.length≤16→i<l.length→l.length≤c→Words l→(∀ (k:Nat) (hk:k<l.length),w.cell? ⟨b,o+k,none⟩=some (.int .u64 (l[k]:Int))) →
  Calls Tryz.prog 42 #[.slice (some ⟨b,o,none⟩) l.length c,.int .i64 (i:Int)] w fun e w'=>∃ u,e=.returned u∧OwnU w' w.heap.size u (pathF f l i)∧Below w.heap.size w w':=by
 induction f with
 | zero=>intro l i b o c w _ h0 _ h1;omega
 | succ f ih =>
  intro l i b o c w hf100 hf h16 hi hc hw hcell;by_cases e1:l.length=1
  ·have hh:pathF (f+1) l i=[]:=by rw [pathF,if_pos e1]
   rw [hh,e1];refine (refpath_one (some ⟨b,o,none⟩) c (i:Int) w).mono ?_
   rintro e w' ⟨rfl,rfl⟩;exact ⟨_,rfl,OwnU.nil _ _,Below.refl _ _⟩
  ·have hb:=halfN_bd (n:=l.length) (by omega)
   have e2:pathF (f+1) l i=if i<halfN l.length then pathF f (l.take (halfN l.length)) i++[rootF f (l.drop (halfN l.length))] else pathF f (l.drop (halfN l.length)) (i - halfN l.length)++[rootF f (l.take (halfN l.length))]:=by
    rw [pathF];rw [if_neg e1]
   have hlt:(l.take (halfN l.length)).length=halfN l.length:=by rw [List.length_take];omega
   have hld:(l.drop (halfN l.length)).length=l.length - halfN l.length:=List.length_drop
   have hcA:∀ (W:World),Below w.heap.size w W→∀ (k:Nat) (hk:k<(l.take (halfN l.length)).length),W.cell? ⟨b,o+k,none⟩=some (.int .u64 ((l.take (halfN l.length))[k]:Int)):=fun W hW k hk=>by
    rw [List.getElem_take];have h9:=hcell k (by omega)
    exact (hW.cell (World.block_lt_of_cell? _ _ h9)).trans h9
   have hcB:∀ (W:World),Below w.heap.size w W→∀ (k:Nat) (hk:k<(l.drop (halfN l.length)).length),W.cell? ⟨b,o+halfN l.length+k,none⟩=some (.int .u64 ((l.drop (halfN l.length))[k]:Int)):=fun W hW k hk=>by
    rw [List.getElem_drop,Nat.add_assoc];have h9:=hcell (halfN l.length+k) (by omega)
    exact (hW.cell (World.block_lt_of_cell? _ _ h9)).trans h9
   have hwA:Words (l.take (halfN l.length)):=fun x hx=>hw x (List.mem_of_mem_take hx)
   have hwB:Words (l.drop (halfN l.length)):=fun x hx=>hw x (List.mem_of_mem_drop hx)
   have HH:=Lib.hid (fun (W:World)=>refhalf_any l.length (by omega) h16 W)
   have eo:((l.length:Int) == 1)=false:=by rw [beq_eq_false_iff_ne];omega
   have HPL:=path_len f;by_cases hk:i<halfN l.length
   ·have HA:=Lib.hid (fun (W:World) (hW:Below w.heap.size w W)=>ih (l.take (halfN l.length)) i b o c W (by omega) (by omega) (by omega) (by omega) (by omega) hwA (hcA W hW))
    have HB:=Lib.hid (fun (W:World) (hW:Below w.heap.size w W)=>refroot_any f (l.drop (halfN l.length)) b (o+halfN l.length) (c - halfN l.length) W (by omega) (by omega) (by omega) (by omega) hwB (hcB W hW))
    rw [hlt] at HA;rw [hld] at HB;rw [if_pos hk] at e2;have HE:=Lib.hid e2;have hpl:=HPL (l.take (halfN l.length)) i;have hdk:decide ((i:Int)<(halfN l.length:Int))=true:=decide_eq_true (by omega)
    clear e2 hlt hld hcell hw ih hcA hcB hwA hwB HPL;generalize pathF (f+1) l i=PP at *;generalize pathF f (l.take (halfN l.length)) i=PA at *;generalize rootF f (l.drop (halfN l.length))=RB at *;generalize halfN l.length=k at *;generalize l.length=n at *;go_enter Tryz.func42,Tryz.ntmps42
    go_wp2_with fail;refine (HH.out _).mono ?_
    rintro e w1 ⟨rfl,rfl⟩;go_upto_region 5 with fail;refine wp_region_held_drew (S:=(fun V=>Below w1.heap.size w1 V)) (by kernel_rfl) ?_ (fun hHeld=>?_)
    ·first | done | ((try dsimp only);exact (Below.refl _ _).drew)
    have PW:=(Below.refl w1.heap.size w1).drew;generalize w1.drew=wd at *;refine tq 0 15 rfl ?_
    refine tq 1 16 rfl ?_
    refine tq 2 17 rfl ?_ (hy:=by intro w' hSw;(try dsimp only at hSw);refine exec_prefix Tryz.underlying42 sizeU64 _ _ _ _ _ _ (.tmp 15) (.tmp 16) b o n c k ?_ ?_ ?_ _;rfl;rfl;omega;try (with_reducible rfl))
    refine tq 3 18 rfl ?_
    refine tq 5 20 rfl ?_
    refine tq 6 21 rfl ?_
    refine tq 7 22 rfl ?_ (hy:=by intro w' hSw;(try dsimp only at hSw);refine exec_suffix Tryz.underlying42 sizeU64 _ _ _ _ _ _ (.tmp 20) (.tmp 21) b o n c k ?_ ?_ ?_ ?_ _;rfl;rfl;omega;omega;try (with_reducible rfl))
    refine rd 4 (some 19) rfl fun K hK=>?_
    go_simp
    (refine (HA.out _ PW).mono ?_;rintro e w2 ⟨u2,rfl,o2,hb2⟩)
    refine hK.out _ _ (PW.trans (hb2.mono PW.size)) fun hHeld=>?_
    clear hK K;(try simp only [pS,pB,pZ,pC]);have P2:=PW.trans (hb2.mono PW.size);refine rd 8 (some 23) rfl fun K hK=>?_
    go_simp
    (refine (HB.out _ P2).mono ?_;rintro e w3 ⟨rfl,hb3⟩)
    refine hK.out _ _ (P2.trans (hb3.mono P2.size)) fun hHeld=>?_
    clear hK K;(try simp only [pS,pB,pZ,pC]);have P3:=P2.trans (hb3.mono P2.size);obtain ⟨Au,nu,cu,rfl,hnu,_⟩:=OwnM.slice o2;refine rd 9 (some 24) rfl fun K hK=>?_
    go_simp;skip;refine hK.out _ _ (P3.alloc P3.size _) fun hHeld=>?_
    clear hK K;(try simp only [pS,pB,pZ,pC]);have P4:=P3.alloc P3.size (.cells #[.int .u64 (RB:Int)] 27);have RA:=Blk.new w3 27 #[.int .u64 (RB:Int)];have Q4:=hb3.alloc hb3.size (.cells #[.int .u64 (RB:Int)] 27);have OA:=OwnM.mono (OwnM.step o2 (grown_of_below (row:=none) Q4) (fun _ e=>by cases e) (H':=[]) (fun _ hi=>.inl hi)) PW.size
    have NA:RepML [] ((Value.slice Au nu cu).ownBlock.toList++[]) (w3.alloc (.cells #[.int .u64 (RB:Int)] 27)) #[Value.int .u64 (RB:Int)].toList (valD [Value.int .u64 (RB:Int)]):=RepL.of_plain _ _ _;have hvd:=valD_length (us PA);have hus:=us_length PA;clear o2 hnu;refine rd 10 (some 25) rfl fun K hK=>?_
    rw [if_pos (by rfl)]
    refine wp_appM Tryz.underlying42 Tryz.info27 rfl (by omega) (by omega) OA RA rfl (by kernel_rfl) NA (by omega) (by omega) P4.size _ _ rfl rfl rfl (fun v9 w9 o9 g9 l9=>?_)
    have P9:=P4.grown g9 P4.size (fun k e=>(OA.lt k e).1)
    refine hK.out _ _ ?_ (fun hHeld=>?_)
    ·exact P9
    clear hK K;(try simp only [pS,pB,pZ,pC]);refine tq 11 4 rfl ?_
    refine dn ?_
    have O9:OwnU w9 w1.heap.size v9 (PA++[RB]):=by
     unfold OwnU us valD;rw [List.map_append,List.map_append];exact o9
    rw [← HE.out] at O9;have HO9:=Lib.hid O9;clear O9 o9 OA NA RA P4 g9 l9 hHeld;go_wp2_with fail;go_ret;exact ⟨_,rfl,HO9.out,P9⟩
   ·have HA:=Lib.hid (fun (W:World) (hW:Below w.heap.size w W)=>ih (l.drop (halfN l.length)) (i - halfN l.length) b (o+halfN l.length) (c - halfN l.length) W (by omega) (by omega) (by omega) (by omega) (by omega) hwB (hcB W hW))
    have HB:=Lib.hid (fun (W:World) (hW:Below w.heap.size w W)=>refroot_any f (l.take (halfN l.length)) b o c W (by omega) (by omega) (by omega) (by omega) hwA (hcA W hW))
    rw [hld] at HA;rw [hlt] at HB;rw [if_neg hk] at e2;have HE:=Lib.hid e2;have hpl:=HPL (l.drop (halfN l.length)) (i - halfN l.length);have hdk:decide ((i:Int)<(halfN l.length:Int))=false:=decide_eq_false (by omega)
    have hsub:IntKind.i64.wrap ((i:Int) - (halfN l.length:Int))=((i - halfN l.length:Nat):Int):=by rw [IntKind.wrap_i64];omega
    clear e2 hlt hld hcell hw ih hcA hcB hwA hwB HPL;generalize pathF (f+1) l i=PP at *;generalize i - halfN l.length=j at *;generalize pathF f (l.drop (halfN l.length)) j=PA at *;generalize rootF f (l.take (halfN l.length))=RB at *;generalize halfN l.length=k at *;generalize l.length=n at *;go_enter Tryz.func42,Tryz.ntmps42
    go_wp2_with fail;refine (HH.out _).mono ?_
    rintro e w1 ⟨rfl,rfl⟩;go_upto_region 6 with fail;refine wp_region_held_drew (S:=(fun V=>Below w1.heap.size w1 V)) (by kernel_rfl) ?_ (fun hHeld=>?_)
    ·first | done | ((try dsimp only);exact (Below.refl _ _).drew)
    have PW:=(Below.refl w1.heap.size w1).drew;generalize w1.drew=wd at *;refine tq 0 26 rfl ?_
    refine tq 1 27 rfl ?_
    refine tq 2 28 rfl ?_ (hy:=by intro w' hSw;(try dsimp only at hSw);refine exec_suffix Tryz.underlying42 sizeU64 _ _ _ _ _ _ (.tmp 26) (.tmp 27) b o n c k ?_ ?_ ?_ ?_ _;rfl;rfl;omega;omega;try (with_reducible rfl))
    refine tq 3 29 rfl ?_
    refine tq 4 30 rfl ?_
    refine tq 5 31 rfl ?_
    refine tq 7 33 rfl ?_
    refine tq 8 34 rfl ?_
    refine tq 9 35 rfl ?_ (hy:=by intro w' hSw;(try dsimp only at hSw);refine exec_prefix Tryz.underlying42 sizeU64 _ _ _ _ _ _ (.tmp 33) (.tmp 34) b o n c k ?_ ?_ ?_ _;rfl;rfl;omega;try (with_reducible rfl))
    refine rd 6 (some 32) rfl fun K hK=>?_
    go_simp
    (refine (HA.out _ PW).mono ?_;rintro e w2 ⟨u2,rfl,o2,hb2⟩)
    refine hK.out _ _ (PW.trans (hb2.mono PW.size)) fun hHeld=>?_
    clear hK K;(try simp only [pS,pB,pZ,pC]);have P2:=PW.trans (hb2.mono PW.size);refine rd 10 (some 36) rfl fun K hK=>?_
    go_simp
    (refine (HB.out _ P2).mono ?_;rintro e w3 ⟨rfl,hb3⟩)
    refine hK.out _ _ (P2.trans (hb3.mono P2.size)) fun hHeld=>?_
    clear hK K;(try simp only [pS,pB,pZ,pC]);have P3:=P2.trans (hb3.mono P2.size);obtain ⟨Au,nu,cu,rfl,hnu,_⟩:=OwnM.slice o2;refine rd 11 (some 37) rfl fun K hK=>?_
    go_simp;skip;refine hK.out _ _ (P3.alloc P3.size _) fun hHeld=>?_
    clear hK K;(try simp only [pS,pB,pZ,pC]);have P4:=P3.alloc P3.size (.cells #[.int .u64 (RB:Int)] 27);have RA:=Blk.new w3 27 #[.int .u64 (RB:Int)];have Q4:=hb3.alloc hb3.size (.cells #[.int .u64 (RB:Int)] 27);have OA:=OwnM.mono (OwnM.step o2 (grown_of_below (row:=none) Q4) (fun _ e=>by cases e) (H':=[]) (fun _ hi=>.inl hi)) PW.size
    have NA:RepML [] ((Value.slice Au nu cu).ownBlock.toList++[]) (w3.alloc (.cells #[.int .u64 (RB:Int)] 27)) #[Value.int .u64 (RB:Int)].toList (valD [Value.int .u64 (RB:Int)]):=RepL.of_plain _ _ _;have hvd:=valD_length (us PA);have hus:=us_length PA;clear o2 hnu;refine rd 12 (some 38) rfl fun K hK=>?_
    rw [if_pos (by rfl)]
    refine wp_appM Tryz.underlying42 Tryz.info27 rfl (by omega) (by omega) OA RA rfl (by kernel_rfl) NA (by omega) (by omega) P4.size _ _ rfl rfl rfl (fun v9 w9 o9 g9 l9=>?_)
    have P9:=P4.grown g9 P4.size (fun k e=>(OA.lt k e).1)
    refine hK.out _ _ ?_ (fun hHeld=>?_)
    ·exact P9
    clear hK K;(try simp only [pS,pB,pZ,pC]);refine tq 13 4 rfl ?_
    refine dn ?_
    have O9:OwnU w9 w1.heap.size v9 (PA++[RB]):=by
     unfold OwnU us valD;rw [List.map_append,List.map_append];exact o9
    rw [← HE.out] at O9;have HO9:=Lib.hid O9;clear O9 o9 OA NA RA P4 g9 l9 hHeld;go_wp2_with fail;go_ret;exact ⟨_,rfl,HO9.out,P9⟩
def Climb (W:World) (bg bh bf h:Nat):Prop :=
 Blk W bg 4 #[.bool true]∧Blk W bh 27 #[.int .u64 (h:Int)]∧Blk W bf 196 #[.func (.func 143) #[] #[.pointer (some ⟨bg,0,none⟩),.pointer (some ⟨bh,0,none⟩),.pointer (some ⟨bf,0,none⟩)]]
theorem Climb.keep {W W':World} {bg bh bf h:Nat} (hc:Climb W bg bh bf h) (hb:Below W.heap.size W W'):Climb W' bg bh bf h:=⟨hc.1.keep hb,hc.2.1.keep hb,hc.2.2.keep hb⟩
def RowU (W:World) (A:Option Addr) (ps:List Nat):Prop:=∀ (k:Nat) (hk:k<ps.length),∃ b o,A=some ⟨b,o,none⟩∧W.cell? ⟨b,o+k,none⟩=some (.int .u64 (ps[k]:Int))
theorem RowU.keep {W W':World} {A:Option Addr} {ps:List Nat} (h:RowU W A ps) (hb:Below W.heap.size W W'):RowU W' A ps:=fun k hk=>by
 obtain ⟨b,o,e,hc⟩:=h k hk;exact ⟨b,o,e,(hb.cell (World.block_lt_of_cell? _ _ hc)).trans hc⟩
theorem RowU.drop {W:World} {A:Option Addr} {ps:List Nat} (h:RowU W A ps):RowU W A ps.dropLast:=fun k hk=>by
 rw [List.length_dropLast] at hk;obtain ⟨b,o,e,hc⟩:=h k (by omega)
 exact ⟨b,o,e,by rw [List.getElem_dropLast];exact hc⟩
def inB (n hi:Int):Bool:=decide (0≤n) && decide (n≤hi)
theorem hdin_gen (n hi:Int) (w:World) :
  Calls Tryz.prog 142 #[.int .i64 n,.int .i64 hi] w fun e w'=>e=.returned (.bool (inB n hi))∧w'=w:=by
 by_cases h0:0≤n
 ·have d0:decide (0≤n)=true:=decide_eq_true h0
  by_cases h1:n≤hi
  ·have d1:decide (n≤hi)=true:=decide_eq_true h1
   have e:inB n hi=true:=by unfold inB;rw [d0,d1];rfl
   rw [e];exact hdin_any n hi h0 h1 w
  ·have d1:decide (n≤hi)=false:=decide_eq_false h1
   have e:inB n hi=false:=by unfold inB;rw [d0,d1];rfl
   rw [e];go_enter Tryz.func142,Tryz.ntmps142
   go_wp2_with fail;go_ret;exact ⟨rfl,rfl⟩
 ·have d0:decide (0≤n)=false:=decide_eq_false h0
  have e:inB n hi=false:=by unfold inB;rw [d0];rfl
  rw [e];go_enter Tryz.func142,Tryz.ntmps142
  go_wp2_with fail;go_ret;exact ⟨rfl,rfl⟩
def hdB (o t d s sl:Int):Bool:=inB o 11 && (inB t 1099511627776 && (inB d 131072 && (inB s 4096 && inB sl s)))
theorem hdformed_gen (o t d s:Int) (l m:Nat) (sl:Int) (sg:Nat) (g:Nat) (w:World) (hg:Blk w g 49 #[iI o,iI t,iI d,iI s,uI (l:Int),uI (m:Int),iI sl,uI (sg:Int)]) :
  Calls Tryz.prog 97 #[.slice (some ⟨g,0,none⟩) 1 1] w fun e w'=>e=.returned (.bool (hdB o t d s sl))∧Below w.heap.size w w':=by
 have H1:=Lib.hid (fun W=>hdin_gen o 11 W)
 have H2:=Lib.hid (fun W=>hdin_gen t 1099511627776 W)
 have H3:=Lib.hid (fun W=>hdin_gen d 131072 W)
 have H4:=Lib.hid (fun W=>hdin_gen s 4096 W)
 have H5:=Lib.hid (fun W=>hdin_gen sl s W)
 unfold hdB;generalize inB o 11=b1 at *;generalize inB t 1099511627776=b2 at *;generalize inB d 131072=b3 at *;generalize inB s 4096=b4 at *;generalize inB sl s=b5 at *;go_enter Tryz.func97,Tryz.ntmps97
 go_wp2_with fail;go_loopw [8] (fun i wr=>(i=.int .i64 0∧w=wr)∨(i=.int .i64 1∧(b1 && (b2 && (b3 && (b4 && b5))))=true∧Below w.heap.size w wr)) (fun i _=>1 - (intOf i).toNat)
 case atStart=>exact .inl ⟨rfl,rfl⟩
 case round =>
  rcases hrel with ⟨rfl,rfl⟩ | ⟨rfl,hT,hB⟩
  ·have hc:=hg.c8
   have P0:=below_new w (.cells #[iI o,iI t,iI d,iI s,uI (l:Int),uI (m:Int),iI sl,uI (sg:Int)] 49);go_wp2_with fail;refine (H1.out _).mono ?_
   rintro e w' ⟨rfl,rfl⟩
   cases b1 with
   | false =>
    go_wp2_with fail;go_ret;exact ⟨by simp,P0⟩
   | true =>
    go_wp2_with fail;refine (H2.out _).mono ?_
    rintro e w' ⟨rfl,rfl⟩
    cases b2 with
    | false =>
     go_wp2_with fail;go_ret;exact ⟨by simp,P0⟩
    | true =>
     go_wp2_with fail;refine (H3.out _).mono ?_
     rintro e w' ⟨rfl,rfl⟩
     cases b3 with
     | false =>
      go_wp2_with fail;go_ret;exact ⟨by simp,P0⟩
     | true =>
      go_wp2_with fail;refine (H4.out _).mono ?_
      rintro e w' ⟨rfl,rfl⟩
      cases b4 with
      | false =>
       go_wp2_with fail;go_ret;exact ⟨by simp,P0⟩
      | true =>
       go_wp2_with fail;refine (H5.out _).mono ?_
       rintro e w' ⟨rfl,rfl⟩
       cases b5 with
       | false =>
        go_wp2_with fail;go_ret;exact ⟨by simp,P0⟩
       | true =>
        go_wp2_with fail;go_roundw
        case rel=>exact .inr ⟨rfl,rfl,P0⟩
        case measure=>simp [intOf]
  ·have HT:=Lib.hid hT
   clear hT;go_wp2_with fail;go_ret;exact ⟨by rw [HT.out];rfl,hB⟩
def hdC (key:Nat) (h:Hd):Int:=if hdB h.office h.tick h.day h.size h.sld=true then (if h.sign=sigN key h then 0 else 23) else 1
theorem okHd_of {o t d s sl:Int} (h:hdB o t d s sl=true):OkHd o t d s sl:=by
 simp only [hdB,inB,Bool.and_eq_true,decide_eq_true_eq] at h;unfold OkHd;omega
theorem hdcheck_gen (key:Nat) (hk:key<18446744073709551616) (h:Hd) (hl:h.log<18446744073709551616) (hm:h.map<18446744073709551616) (w:World) :
  Calls Tryz.prog 47 #[.int .u64 (key:Int),.agg h.vals] w fun e w'=>e=.returned (.int .i64 (hdC key h))∧Below w.heap.size w w':=by
 unfold hdC;by_cases hb:hdB h.office h.tick h.day h.size h.sld=true
 ·rw [if_pos hb]
  exact hdcheck_any key hk h hl hm (okHd_of hb) w
 ·rw [if_neg hb]
  obtain ⟨o,t,d,s,l,m,sl,sg⟩:=h;unfold Hd.vals;dsimp only at hb ⊢;have hb2:hdB o t d s sl=false:=by simpa using hb
  have Y0:=Blk.new (w.alloc (.cells #[iI o,iI t,iI d,iI s,uI (l:Int),uI (m:Int),iI sl,uI (sg:Int)] 49)) 49 #[iI o,iI t,iI d,iI s,uI (l:Int),uI (m:Int),iI sl,uI (sg:Int)];rw [World.size_alloc] at Y0;have P1:=(below_new w (.cells #[iI o,iI t,iI d,iI s,uI (l:Int),uI (m:Int),iI sl,uI (sg:Int)] 49)).alloc (by simp) (.cells #[iI o,iI t,iI d,iI s,uI (l:Int),uI (m:Int),iI sl,uI (sg:Int)] 49)
  have HF:=Lib.hid (hdformed_gen o t d s l m sl sg (w.heap.size+1) _ Y0);rw [hb2] at HF;clear hb hb2 hk hl hm Y0;go_enter Tryz.func47,Tryz.ntmps47
  go_wp2_with fail;refine HF.out.mono ?_
  rintro e w1 ⟨rfl,hb1⟩;have P2:=below_up P1 hb1 P1.size;clear P1 hb1 HF;go_wp2_with fail;go_ret;exact ⟨rfl,P2⟩
def logG (h:Hd) (f:Fil) (salt:Nat) (ps:List Nat) (i n:Nat):Int:=if h.log=climbF 16 i n (commitN (encA f) salt) ps then 0 else 10
end Go.Proofs.YtbeaijjaecaidaaGreatDoor
