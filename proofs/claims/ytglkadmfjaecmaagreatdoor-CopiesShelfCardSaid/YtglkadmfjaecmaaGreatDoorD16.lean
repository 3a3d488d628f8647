import Derived.Test.YtglkadmfjaecmaaGreatDoorD15
set_option maxRecDepth 100000
set_option maxHeartbeats 16000000
namespace Go.Proofs.YtglkadmfjaecmaaGreatDoor
open Go.RowKit Go.Shelf _root_.Go.Proofs.Tryz
open Go.Value renaming int->I, slice->Z, pointer->Y
open Go.IntKind renaming u64->G, i64->U
open Go.Ending renaming returned->O
open Go.Obj renaming cells->X
attribute [local go_sem] Oper.semAt_some
variable {A:Option Addr} {B g off sz:Nat} {C:Array Value} {S:World->Prop} {V V' W W' w:World} {fl:List Fil} {i o:Int} {l:List Nat} {ops:Array Oper} {p:Value}
def Yil:ByteArray:={ data:=#[115,97,108,116] }
def Zfe (i:Nat):Nat:=Zw6 Yil [i]
def Zna (i:Nat) (f:Fil):Nat:=Zbo (Zdh f) (Zfe i)
def Zd3 (fl:List Fil):List Nat:=fl.mapIdx Zna
theorem Yas {k:Nat} (a:k<fl.length):Zd3 (fl.take (k+1))=Zd3 (fl.take k)++[Zna k fl[k]]:=by
 unfold Zd3;rw [dq,ak a];simp only [Option.toList,List.mapIdx_append,List.mapIdx_cons,List.mapIdx_nil,cw];rw [ik (by omega),cz]
theorem Zc6 (fl:List Fil):(Zd3 fl).length=fl.length:=List.length_mapIdx
def us (l:List Nat):List Value:=l.map fun (n:Nat)=>I G (n:Int)
theorem Zc7 (l:List Nat):(us l).length=l.length:=ba ..
def Zi8 (w:World) (base:Nat) (v:Value) (l:List Nat):Prop:=Zbv [] [] w base 26 1 v (Zdv (us l))
theorem Zi8.nil (w:World) (base:Nat):Zi8 w base (Z none 0 0) []:=Zbv.nil _ _ _ _ _ _
theorem Zi8.rep {base:Nat} {v:Value} (h:Zi8 w base v l):Rep w w.heap.size v (.s 1 (Zdv (us l))):=Zdf.out (ts:=[]) (H:=[]) (Zbv.rep h (fun _ h=>h) (by simp) (fun _ h=>by cases h))
theorem Zi8.below {a:World} {base:Nat} {v:Value} (h:Zi8 w base v l) (b:Bl w a):Zi8 a base v l :=
 Zbv.step h (Zaf (row:=none) b) (fun _ e=>by cases e) (fun _ hi=>.inl hi)
theorem Zv6 (i:Nat) (hi:i<=1000) (w:World) :
  Calls prog 31 #[I U (i:Int)] w fun e a=>e=O (I G (Zfe i:Int))/\Bl w a:=by
 have c:u64 (i:Int)=i:=by unfold u64;omega
 go_enter func31,ntmps31;go_wp2_with (go_at_call 65;refine (Zdu Yil (by decide) [(i:Int)] [i] 1 _ w _ rfl rfl rfl (by unfold Zfn;rw [du,fq,c]) (fw rfl)).mono ?_;rintro e a ⟨rfl,b⟩);go_ret;exact ⟨rfl,b⟩
def Zes (W:World) (B:Nat) (A:Option Addr) (fl:List Fil):Prop :=
 ∀ (k:Nat) (hk:k<fl.length),∃ b o dv cv ev,A=some ⟨b,o,none⟩/\b<B/\W.rangeAt b (o+k * 19) (fl[k].vals dv cv ev).toList/\Zbs W B fl[k] dv cv ev
theorem Zes.keep {B':Nat} (h:Zes W B A fl) (c:∀ p:Addr,p.block<B->W'.cell? p=W.cell? p) (e:B<=B'):Zes W' B' A fl:=fun k a=>by
 obtain ⟨b,o,dv,cv,ev,rfl,m,hr,f⟩:=h k a;exact ⟨b,o,dv,cv,ev,rfl,by omega,fun j u d=>(c _ m).trans (hr j u d),f.keep c e⟩
theorem Zes.take (h:Zes W B A fl) (m:Nat):Zes W B A (fl.take m):=fun k c=>by
 have a:k<fl.length:=by rw [cw] at c;omega
 obtain ⟨b,o,dv,cv,ev,e,f,hr,d⟩:=h k a;refine ⟨b,o,dv,cv,ev,e,f,?_,?_⟩
 ·rw [i4];exact hr
 ·rw [i4];exact d
theorem Rep.filRow {v:Value} (h:Rep W B v (.s 19 (fl.flatMap Fil.cells))):∃ (A:Option Addr) (c:Nat),v=Z A fl.length c/\fl.length<=c/\Zes W B A fl:=by
 obtain ⟨A,n,c,rfl,hn,hl,hc⟩:=h.slice;have z:=Zai (l:=fl) (f:=Fil.cells) (k:=19) (fun x _=>x.cells_length);have r:n=fl.length:=by omega
 subst r;refine ⟨A,c,rfl,hn,fun k J=>?_⟩;obtain ⟨b,o,cs,rfl,H,hr,d⟩:=hc (by omega);have y:=Zcd (l:=fl) (f:=Fil.cells) (k:=19) (i:=k) (a:=fl[k]) (fun x _=>x.cells_length) (ak J);have q:=(hr.drop (k * 19)).take 19;rw [y] at q;obtain ⟨dv,cv,ev,e,E,L,K⟩:=Zg3.inv q;refine ⟨b,o,dv,cv,ev,rfl,H,fun j u m=>?_,E,L,K⟩;rw [<- e,gi] at m;by_cases t:j<19
 ·rw [if_pos t,fz] at m;rw [i7];exact d _ _ m
 ·rw [if_neg t] at m;cases m
theorem Zpi {b:Nat} {cs:Array Value} (hs:cs.size=19) {o:Oper} {a:Act} (x:Operand) (ho:o.op=.load 48 x) (d:a.eval x=Y (some ⟨b,off,none⟩)) (c:∀ W,S W->W.rangeAt b off cs.toList) (e:Region.wanted o (yielded ops a.tmps)=true):YieldsIf prog ops S o (.agg cs) a:=by
 have h:=yieldsIf_load_mid (P:=prog) (ops:=ops) (S:=S) e 48 x ho b off d cs.toList _ c underlying48 rfl (by rw [br,hs];kernel_rfl)
 rwa [bt] at h
theorem Zx4 (fl:List Fil) (hl:fl.length<=100) (M:∀ f∈fl,Zby f) (A:Option Addr) (c:Nat) (w:World) (B:Nat) (h:B<=w.heap.size) (q:Zes w B A fl) :
  Calls prog 28 #[Z A fl.length c] w fun e w'=>∃ u,e=O u/\Zi8 w' w.heap.size u (Zd3 fl)/\Bl w w':=by
 have HR:=ae (fun (W:World) (hW:Bl w W)=>q.keep (W':=W) (fun p J=>hW.cell (ah J h)) (ag _));clear q;go_enter func28,ntmps28;go_wp2_with fail;go_loopw [3,4] (fun u j W=>∃ k:Nat,j=I U (k:Int)/\k<=fl.length/\Zi8 W w.heap.size u (Zd3 (fl.take k))/\Bl w W) (fun _ j _=>fl.length - (intOf j).toNat)
 case atStart=>exact ⟨0,rfl,bi _,Zi8.nil _ _,ap _ _⟩
 case round =>
  obtain ⟨k,rfl,hk,v,E⟩:=hrel;obtain ⟨W,rfl⟩:∃ z:World,z=wr:=⟨_,rfl⟩;by_cases s:k<fl.length
  ·obtain ⟨b,o,dv,cv,ev,rfl,hb,hr,hf⟩:=HR.out w (ap _ _) k s;have hd:decide ((k:Int)<(fl.length:Int))=true:=decide_eq_true (by omega);have m:=M _ (aw s);have HE:=ae (fun (V:World) (H:Bl w V)=>Zrm fl[k] m dv cv ev (Zfe k) (Zcn _ _) V B (aj h H.size) (hf.keep (fun p J=>H.cell (ah J h)) (ag _)));have P:=ae (fun (V:World) (H:Bl w V)=>(fun j u hu=>(H.cell (p:=⟨b,o+k * 19+j,none⟩) (ah hb h)).trans (hr j u hu):V.rangeAt b (o+k * 19) (fl[k].vals dv cv ev).toList));have HS:=ae (fun V=>Zv6 k (by omega) V);obtain ⟨Au,nu,cu,rfl,aa,_⟩:=Zbv.slice v;have ad:(Zd3 (fl.take k)).length<=100:=by rw [Zc6,cw];omega
   have ab:=Zc7 (Zd3 (fl.take k));have al:=Zdo (us (Zd3 (fl.take k)));have Q:=ae v;have T:=ae (Yas s);have HB:=ae E;have af:=E.size;clear aa v E hf m hr;have x:(Zna k fl[k]:Int)=(Zbo (Zdh fl[k]) (Zfe k):Int):=rfl;go_upto_region 5 with fail;refine wp_region_held_drew (S:=(fun V=>Bl w V)) (by kernel_rfl) ?_ (fun a=>?_)
   ·first | done | ((try dsimp only);exact HB.out.drew)
   have PW:=(ap W.heap.size W).drew;generalize W.drew=Wb at *;refine tq 0 11 rfl ?_;refine tq 1 12 rfl ?_;refine tq 2 13 rfl ?_;refine tq 3 14 rfl ?_;refine ty 4 15 rfl (Zpi (cs:=fl[k].vals dv cv ev) rfl _ rfl rfl P.out rfl) ?_;refine tq 5 16 rfl ?_;refine rd 6 (some 17) rfl fun K d=>?_;go_simp;(refine (HS.out _).mono ?_;rintro e w6 ⟨rfl,t⟩);refine d.out _ _ (a.trans (t.mono a.size)) fun a=>?_;clear d K;(try simp only [pS,pB,pZ,pC]);have R:=PW.trans (t.mono PW.size);refine rd 7 (some 18) rfl fun K d=>?_;go_simp;(refine (HE.out _ a).mono ?_;rintro e w7 ⟨rfl,r⟩;rw [<- x]);refine d.out _ _ (a.trans (r.mono a.size)) fun a=>?_;clear d K;(try simp only [pS,pB,pZ,pC]);have P7:=R.trans (r.mono R.size);clear PW R t r x;generalize Zna k fl[k]=y at *;refine rd 8 (some 19) rfl fun K d=>?_;go_simp;skip;refine d.out _ _ (a.alloc a.size _) fun a=>?_;clear d K;(try simp only [pS,pB,pZ,pC]);have P8:=P7.alloc P7.size (X #[I G (y:Int)] 26);have RA:=Blk.new w7 26 #[I G (y:Int)];have OA:=Zbv.step Q.out (Zaf (row:=none) P8) (fun _ e=>by cases e) (H':=[]) (fun _ hi=>.inl hi);have NA:Zb0 [] ((Value.slice Au nu cu).ownBlock.toList++[]) (w7.alloc (X #[I G (y:Int)] 26)) #[Value.int G (y:Int)].toList (Zdv [Value.int G (y:Int)]):=Zax.of_plain _ _ _;have L:=a.size;refine rd 9 (some 20) rfl fun K d=>?_;rw [if_pos (by rfl)];refine Zg4 underlying27 info26 rfl (by omega) (by omega) OA RA rfl (by kernel_rfl) NA (by omega) (by omega) L _ _ rfl rfl rfl (fun v9 w9 o9 g9 l9=>?_);have B9:=a.grown g9 a.size (fun k e=>(OA.lt k e).1);refine d.out _ _ ?_ (fun a=>?_)
   ·exact B9
   clear d K;(try simp only [pS,pB,pZ,pC]);refine tq 10 3 rfl ?_;refine dn ?_;have O9:Zi8 w9 w.heap.size v9 (Zd3 (fl.take (k+1))):=by
    rw [T.out];unfold Zi8 us Zdv;rw [cj,cj];exact o9
   clear o9 OA NA RA P8 P7 g9 l9 a;have N:=ae O9;clear O9;go_wp2_with fail;go_roundw
   case rel=>exact ⟨k+1,by go_num,by omega,N.out,B9⟩
   case measure=>simp [intOf];omega
  ·have hd:decide ((k:Int)<(fl.length:Int))=false:=decide_eq_false (by omega);obtain rfl:k=fl.length:=by omega
   rw [df] at v;have Q:=ae v;clear v;go_wp2_with fail;go_ret;exact ⟨_,rfl,Q.out,E⟩
def Zgn (fl:List Fil):Int:=fl.foldl (fun t f=>if t<f.known then f.known else t) 0
theorem Zx5 {k:Nat} (a:k<fl.length):Zgn (fl.take (k+1))=if Zgn (fl.take k)<fl[k].known then fl[k].known else Zgn (fl.take k):=by
 unfold Zgn;rw [dq,ak a,List.foldl_append];rfl
def Zqe (sec:Nat) (fl:List Fil) (o:Int) (size:Nat) (R:Nat):Hd:=⟨o,Zgn (fl.take size),9,(size:Int),R,5,0,Zk4 (Zie sec) ⟨o,Zgn (fl.take size),9,(size:Int),R,5,0,0⟩⟩
def Zck (w:World) (g:Nat) (V:World):Prop:=∀ p:Addr,p.block<w.heap.size->p.block≠g->V.cell? p=w.cell? p
theorem Zck.below (h:Zck w g V) (hs:w.heap.size<=V.heap.size) (b:Bl V V'):Zck w g V':=fun p h1 a=>(b.cell (ah h1 hs)).trans (h p h1 a)
theorem Zck.grown (h:Zck w g V) (hs:w.heap.size<=V.heap.size) (b:V.grownBy V' (some g)):Zck w g V':=fun p h1 a=>(dc (b.block _ (ah h1 hs) (fun e=>a (by injection e)))).trans (h p h1 a)
theorem Zck.range {b o:Nat} {cs:List Value} (h:Zck w g V) (hr:w.rangeAt b o cs) (c:b<w.heap.size) (a:b≠g):V.rangeAt b o cs:=fun j u d=>(h _ c a).trans (hr j u d)
theorem Zck.of_below (h:Bl w V):Zck w g V:=fun _ h1 _=>h.cell h1
theorem Yej {b:Nat} {h:Hd} {o:Oper} {a:Act} (x:Operand) (ho:o.op=.load 36 x) (d:a.eval x=Y (some ⟨b,off,none⟩)) (c:∀ W,S W->W.rangeAt b off h.vals.toList) (e:Region.wanted o (yielded ops a.tmps)=true):YieldsIf prog ops S o (.agg h.vals) a:=by
 have h:=yieldsIf_load_mid (P:=prog) (ops:=ops) (S:=S) e 36 x ho b off d h.vals.toList _ c underlying36 rfl (by kernel_rfl)
 rwa [bt] at h
def Yg4:Array Value:=#[iI 0,iI 0,iI 0,iI 0,uI 0,uI 0,iI 0,uI 0,iI 0,iI 0,iI 0,iI 0,iI 0,iI 0,iI 0,iI 0,iI 0,iI 0,iI 0,iI 0,nN,nN,nN,nN,iI 0,iI 0,nN,nN,uI 0,nN]
theorem Zkh (d:Option Tmp) (ty:TypeId) (a:String) (after:Array Edge) (b:Option (Nat × Bool)) (r:Operand->Value) (o t s:Int) (R:Nat)
  (h:r (.tmp 33)=I U o) (h1:r (.tmp 34)=I U t) (c:r (.tmp 35)=I U s) (f:r (.tmp 37)=I G (R:Int)) (e:∀ v,r (.const v)=v) (w:World) :
  (execOp r ⟨d,.build 36 #[(0,.tmp 33),(1,.tmp 34),(2,.const (iI 9)),(3,.tmp 35),(4,.tmp 37),(5,.const (uI 5)),(6,.const (iI 0))],ty,a,after,b⟩).run prog w=.ok (.value (.agg (Hd.vals ⟨o,t,9,s,R,5,0,0⟩))) w:=by
 unfold Hd.vals;simp only [execOp];go_simp
theorem Zd9 {t e:TypeId} (h:prog.underlying t=some (.slice e)) (hs:∀ w,(sizeOf e).run prog w=.ok sz w) (d:Option Tmp) (ty:TypeId) (a:String) (after:Array Edge) (f:Option (Nat × Bool)) (r:Operand->Value) (x y:Operand) (b o n c m:Nat)
  (j:r x=Z (some ⟨b,o,none⟩) n c) (h1:r y=I U (m:Int)) (hm:m<=c) (w:World) :
  (execOp r ⟨d,.slice t x none (some y) none,ty,a,after,f⟩).run prog w=.ok (.value (Z (some ⟨b,o,none⟩) m c)) w:=by
 simp only [execOp];go_simp
theorem Yg5 (w:World):(sizeOf 48).run prog w=.ok 19 w:=by kernel_rfl
theorem Zgg {t e:TypeId} (k:prog.underlying t=some (.slice e)) (hs:∀ w,(sizeOf e).run prog w=.ok sz w) {rest:List Oper} {d:Option Tmp} {ty:TypeId} {f:String} {after:Array Edge} {x y:Operand} {a:Act} {w:World} {Q:Exit->Act->World->Prop} (b o n c m:Nat)
  (q:a.eval x=Z (some ⟨b,o,none⟩) n c) (h1:a.eval y=I U (m:Int)) (hm:m<=c) (j:wpList prog ops Q rest (a.put d (Z (some ⟨b,o,none⟩) m c)) w):wpList prog ops Q (⟨d,.slice t x none (some y) none,ty,f,after,none⟩::rest) a w :=
 wpList_plain rfl fun _ h=>by
  unfold Oper.wp;rw [Zd9 k hs d ty f after none a.eval x y b o n c m q h1 hm w,Oper.upon_value];exact h _ _ j
theorem Zv7 (x:Nat) (am:x<18446744073709551616) (fl:List Fil) (hl:fl.length<=100) (av:∀ f∈fl,Zby f) (A:Option Addr) (c:Nat) (hc:fl.length<=c) (w:World) (B:Nat) (m:B<=w.heap.size) (r:Zes w B A fl) (i size:Nat) (hi:i<size) (be:size<=fl.length) (R:Nat) (hR:R<18446744073709551616) (PP:World->Value->Prop)
  (HR:∀ (W:World) (v:Value),Rep W W.heap.size v (.s 1 (Zdv (us (Zd3 (fl.take size)))))->Calls prog 29 #[v] W fun e H=>e=O (I G (R:Int))/\Bl W H)
  (HP:∀ (W:World) (v:Value),w.heap.size<W.heap.size->Rep W W.heap.size v (.s 1 (Zdv (us (Zd3 (fl.take size)))))->Calls prog 32 #[v,I U (i:Int)] W fun e H=>∃ Q N P,e=O (Z Q N P)/\PP H (Z Q N P)/\Bl W H)
  (a6:∀ (W W':World) (v:Value),PP W v->W.grownBy W' (some w.heap.size)->PP W' v) :
  Calls prog 10 #[I G (x:Int),Z A fl.length c,I U (i:Int),I U (size:Int)] w fun e H=>∃ dv cv ev Q N P,e=O (.agg (cop (Zqe x fl fl[i].office size R) (i:Int) fl[i] dv cv ev (Zfe i) (Z Q N P)))/\Zbs w B fl[i] dv cv ev/\PP H (Z Q N P)/\Bl w H:=by
 obtain ⟨b,o,dv,cv,ev,rfl,hb,hr,hf⟩:=r i (by omega);have a5:=hf.one;have HF:=ae hf;have HL:=ae (fun (W:World) (hW:Bl w W)=>Zx4 (fl.take size) (by rw [cw];omega) (fun f hf=>av f (ed hf)) (some ⟨b,o,none⟩) c W B (aj m hW.size) ((r.take size).keep (fun p hp=>hW.cell (ah hp m)) (ag _)));rw [cw,ik be] at HL;have ad:∀ (k:Nat) (hk:k<fl.length) (W:World),Bl w W->W.cell? ⟨b,o+k * 19+2,none⟩=some (I U fl[k].known):=fun k hk W hW=>by
  obtain ⟨b',o',bz,b0,b2,e,bq,bh,bs⟩:=r k hk;injection e with e;injection e with e1 e2;subst e1 e2;exact (hW.cell (p:=⟨b,o+k * 19+2,none⟩) (ah hb m)).trans (bh 2 _ rfl)
 have a9:=ae ad;have af:=ae HR;have bc:=ae HP;have aq:=ae a6;have X0:=Blk.new w 50 Yg4;have P0:=Zab w (X Yg4 50);unfold Yg4 at X0 P0;clear hf r av ad HR HP a6;go_enter func10,ntmps10;go_upto_region 1 with fail;generalize w.alloc _=w0 at *;go_upto_region 2 with (first | (refine Zgg underlying23 Yg5 b o fl.length c size rfl rfl (by omega) ?_) | (go_at_call 28;refine (HL.out _ P0).mono ?_;rintro e w1 ⟨u,rfl,O1,aa⟩))
 have X1:=X0.keep aa;have P1:=Zaa P0 aa P0.size;have bg:=ae O1;have an:=O1.rep.one;obtain ⟨Au,nu,cu,rfl⟩:=an;clear O1 X0 P0 aa;go_wp2_with fail;go_loopw [10,11] (fun t j W=>∃ k:Nat,t=I U (Zgn (fl.take k))/\j=I U (k:Int)/\k<=size/\W=w1) (fun _ j _=>size - (intOf j).toNat)
 case atStart=>exact ⟨0,rfl,rfl,bi _,rfl⟩
 case round =>
  obtain ⟨k,rfl,rfl,hk,rfl⟩:=hrel;by_cases bk:k<size
  ·have hd:decide ((k:Int)<(size:Int))=true:=decide_eq_true (by omega);have bx:=a9.out k (by omega) _ P1;have a8:=ae (Zx5 (fl:=fl) (k:=k) (by omega));generalize fl[k].known=kn at *;generalize Zgn (fl.take k)=tk at *;go_wp2_with fail;go_roundw
   case rel=>exact ⟨k+1,by rw [a8.out],by go_num,by omega,by first | rfl | trivial⟩
   case measure=>simp [intOf];omega
  ·have hd:decide ((k:Int)<(size:Int))=false:=decide_eq_false (by omega);obtain rfl:k=size:=by omega
   have a4:∀ V,Bl wr V->V.cell? ⟨b,o+i * 19+4,none⟩=some (I U fl[i].office):=fun V E=>((E.cell (p:=⟨b,o+i * 19+4,none⟩) (ah hb (aj m P1.size))).trans (P1.cell (p:=⟨b,o+i * 19+4,none⟩) (ah hb m))).trans (hr 4 _ rfl);have a0:=ae a4;have b1:i<fl.length:=by omega
   have M:=ae (fun (V:World) (E:Bl wr V)=>(bg.out.rep.keep (W':=V) (fun p hp=>E.cell hp) E.size));have a2:=ae hr;clear a4 hr hd bk hk;go_upto_region 7 with fail;go_cut [12] (fun p wx=>∃ g,p=Y (some ⟨g,0,none⟩)/\wr.heap.size<=g/\Blk wx g 36 (Hd.vals ⟨fl[i].office,Zgn (fl.take k),9,(k:Int),R,5,0,0⟩)/\Bl wr wx)
   case first =>
    refine wp_region_held_drew (S:=(fun V=>Bl wr V)) (by kernel_rfl) ?_ (fun a=>?_)
    ·first | done | ((try dsimp only);exact (ap _ _).drew)
    have J:=(ap wr.heap.size wr).drew;generalize wr.drew=wb at *;refine tq 0 29 rfl ?_;refine tq 1 30 rfl ?_;refine tq 2 31 rfl ?_;refine tq 3 32 rfl ?_;refine th 4 33 rfl (fun _ q=>a0.out _ q) ?_;refine tq 5 34 rfl ?_;refine tq 6 35 rfl ?_;refine tq 7 36 rfl ?_;refine rd2 8 (some 37) 10 (some 12) (by kernel_rfl) rfl rfl (fun K d=>?_) fun K d=>?_
    ·skip;go_simp;(refine (af.out _ _ (M.out _ J)).mono ?_;rintro e w6 ⟨rfl,h⟩);refine d.out _ _ (J.trans (h.mono J.size)) fun a=>?_;clear d K;(try simp only [pS,pB,pZ,pC]);have y:=J.trans (h.mono J.size);refine tq 9 38 rfl ?_ (hy:=by intro H q;(try dsimp only at q);refine Zkh _ _ _ _ _ _ fl[i].office (Zgn (fl.take k)) (k:Int) R ?_ ?_ ?_ ?_ ?_ _ <;> (try intro) <;> rfl;try (with_reducible rfl));refine rd 10 (some 12) rfl fun K d=>?_;go_simp;skip;refine d.out _ _ (y.alloc y.size _) fun a=>?_;clear d K;(try simp only [pS,pB,pZ,pC]);have ab:wr.heap.size<=w6.heap.size:=y.size;have PZ:=y.alloc y.size (X #[iI 0,iI 0,iI 0,iI 0,uI 0,uI 0,iI 0,uI 0] 36);have YZ:=Blk.new w6 36 #[iI 0,iI 0,iI 0,iI 0,uI 0,uI 0,iI 0,uI 0];refine rd 11 none rfl fun K d=>?_;rw [if_pos (by rfl)];refine Zdl (T:=36) (n:=8) (by kernel_rfl) YZ rfl _ _ rfl rfl _ rfl rfl (by kernel_rfl) (fun w9 Y9 g9=>?_);have B9:=PZ.grown g9 PZ.size (fun k e=>by injection e with e;omega);refine d.out _ _ ?_ (fun a=>?_)
     ·exact B9
     clear d K;refine dn ?_;go_wp2_with fail;go_meet;exact ⟨_,rfl,ab,Y9,B9⟩
    ·skip;go_simp;skip;refine d.out _ _ (J.alloc J.size _) fun a=>?_;clear d K;(try simp only [pS,pB,pZ,pC]);have ab:wr.heap.size<=wb.heap.size:=J.size;have PY:=J.alloc J.size (X #[iI 0,iI 0,iI 0,iI 0,uI 0,uI 0,iI 0,uI 0] 36);have YY:=Blk.new wb 36 #[iI 0,iI 0,iI 0,iI 0,uI 0,uI 0,iI 0,uI 0];refine rd 8 (some 37) rfl fun K d=>?_;go_simp;(refine (af.out _ _ (M.out _ PY)).mono ?_;rintro e w6 ⟨rfl,h⟩);refine d.out _ _ (PY.trans (h.mono PY.size)) fun a=>?_;clear d K;(try simp only [pS,pB,pZ,pC]);have PZ:=PY.trans (h.mono PY.size);have YZ:=YY.keep h;refine tq 9 38 rfl ?_ (hy:=by intro H q;(try dsimp only at q);refine Zkh _ _ _ _ _ _ fl[i].office (Zgn (fl.take k)) (k:Int) R ?_ ?_ ?_ ?_ ?_ _ <;> (try intro) <;> rfl;try (with_reducible rfl));refine rd 11 none rfl fun K d=>?_;rw [if_pos (by rfl)];refine Zdl (T:=36) (n:=8) (by kernel_rfl) YZ rfl _ _ rfl rfl _ rfl rfl (by kernel_rfl) (fun w9 Y9 g9=>?_);have B9:=PZ.grown g9 PZ.size (fun k e=>by injection e with e;omega);refine d.out _ _ ?_ (fun a=>?_)
     ·exact B9
     clear d K;refine dn ?_;go_wp2_with fail;go_meet;exact ⟨_,rfl,ab,Y9,B9⟩
   case rest =>
    obtain ⟨g,rfl,hg,YH,PC⟩:=hcut;obtain ⟨L,rfl⟩:∃ z:World,z=wc:=⟨_,rfl⟩;have bp:=ae (fun (V:World)=>Ztk x am fl[i].office (Zgn (fl.take k)) 9 (k:Int) R 5 hR (by omega) 0 0 V);have bf:=ae (fun (V:World)=>Zv6 i (by omega) V);have P4:=Zaa P1 PC P1.size;have X4:=X1.keep PC;have a7:=ae (fun (V:World) (E:Zck L w.heap.size V)=>(Zck.range E (fun j u hu=>(P4.cell (p:=⟨b,o+i * 19+j,none⟩) (ah hb m)).trans (a2.out j u hu)) (ah (ah hb m) P4.size) (by omega):V.rangeAt b (o+i * 19) (fl[i].vals dv cv ev).toList));have bl:w.heap.size<g:=ah X1.lt hg;have bo:g<L.heap.size:=YH.lt;have bn:=ae (fun (V:World) (E:Zck L w.heap.size V)=>(Zck.range (o:=0) E (fun j u hu=>by rw [cz,YH.cell j,<- dj];exact hu) YH.lt (by omega):V.rangeAt g 0 (Hd.vals ⟨fl[i].office,Zgn (fl.take k),9,(k:Int),R,5,0,0⟩).toList));have al:=ae (fun (V:World) (E:Bl L V)=>M.out V (PC.trans (E.mono PC.size)));clear M a0 X1 P1 PC YH a2 hg;go_upto_region 8 with fail;refine wp_region_held_drew (S:=(fun V=>Zck L w.heap.size V)) (by kernel_rfl) ?_ (fun a=>?_)
    ·first | done | ((try dsimp only);exact fun p _ _=>World.cell?_drew L p)
    have PD:=(ap L.heap.size L).drew;generalize L.drew=wd at *;refine tq 0 39 rfl ?_;refine ty 1 40 rfl (Yej _ rfl rfl bn.out rfl) ?_;refine tq 3 42 rfl ?_;refine tq 4 43 rfl ?_;refine tq 5 44 rfl ?_;refine tq 6 45 rfl ?_;refine ty 7 46 rfl (Zpi (cs:=fl[i].vals dv cv ev) rfl _ rfl rfl a7.out rfl) ?_;refine tq 8 47 rfl ?_;refine tq 10 49 rfl ?_;refine tq 11 50 rfl ?_;refine rd 2 (some 41) rfl fun K d=>?_;go_simp;(refine (bp.out _).mono ?_;rintro e w6 ⟨rfl,h⟩);refine d.out _ _ (Zck.of_below (PD.trans (h.mono PD.size))) fun a=>?_;clear d K;(try simp only [pS,pB,pZ,pC]);have y:=PD.trans (h.mono PD.size);refine rd 9 (some 48) rfl fun K d=>?_;go_simp;(refine (bf.out _).mono ?_;rintro e w7 ⟨rfl,a3⟩);refine d.out _ _ (Zck.of_below (y.trans (a3.mono y.size))) fun a=>?_;clear d K;(try simp only [pS,pB,pZ,pC]);have P7:=y.trans (a3.mono y.size);refine rd 12 (some 51) rfl fun K d=>?_;go_simp;(refine (bc.out _ _ (ah (Nat.lt_trans bl bo) P7.size) (al.out _ P7)).mono ?_;rintro e w8 ⟨Q,N,P,rfl,hpp,a1⟩);refine d.out _ _ (Zck.of_below (P7.trans (a1.mono P7.size))) fun a=>?_;clear d K;(try simp only [pS,pB,pZ,pC]);have P8:=P7.trans (a1.mono P7.size);refine tq 13 52 rfl ?_ (hy:=by intro H q;(try dsimp only at q);refine Zt0 _ _ _ _ _ _ (.tmp 41) (.tmp 42) (.tmp 46) (.tmp 48) (.tmp 51) (Zqe x fl fl[i].office k R) (i:Int) fl[i] dv cv ev (Zfe i) Q N P ?_ ?_ ?_ ?_ ?_ _ <;> rfl;try (with_reducible rfl));have X8:=X4.keep P8;have P9:=P4.trans (P8.mono P4.size);refine rd 14 none rfl fun K d=>?_;rw [if_pos (by rfl)];refine Zdl (T:=50) (n:=30) (by kernel_rfl) X8 rfl _ _ rfl rfl _ rfl rfl (Zt1 _ _ _ _ _ _ _ a5) (fun w9 Y9 g9=>?_);refine d.out _ _ ?_ (fun a=>?_)
    ·exact (Zck.of_below P8).grown P8.size g9
    clear d K;refine dn ?_;go_wp2_with fail;exact bodyPost_ret (Zc5 rfl _ rfl Y9 rfl) rfl ⟨dv,cv,ev,Q,N,P,rfl,HF.out,aq.out _ _ _ hpp g9,P9.grown g9 P9.size (fun j e=>by injection e with e;omega)⟩
theorem Zv8 {d:List F} {c:List Cl} (h:Yik d c):Ztg d c:=by
 obtain ⟨h1,m,b⟩:=h;have a:∀ k,k<c.length->((Zdg c (k+1)).getD k []).length<=Zga k:=fun k r=>(b.alts (k+1) r k (im k)).1;have hs:Zm3 c c.length<=22:=by
  have hl:=b.1;have e:c.length=0∨c.length=1∨c.length=2∨c.length=3:=by omega
  rcases e with e | e | e | e
  ·rw [e];show 0<=22;omega
  ·have q:=a 0 (by omega);rw [e];simp only [Zm3,Zga] at *;omega
  ·have q:=a 0 (by omega);have s:=a 1 (by omega);rw [e];simp only [Zm3,Zga] at *;omega
  ·have q:=a 0 (by omega);have s:=a 1 (by omega);have t:=a 2 (by omega);rw [e];simp only [Zm3,Zga] at *;omega
 have u:=Zhz (f:=F.tops) (M:=2) (l:=d) (fun f j=>(m f j).2);exact ⟨by omega,fun f j=>(m f j).1.ok (by omega) (by omega),b.ok,b.altsOk,by omega⟩
theorem Yg6 {i:Nat} {f:Fil} (h:Zv3 i f) (hi:i<=13) (hd:0<=f.day/\f.day<=100000) (hn:0<=f.known/\f.known<=100) (o:Int) (ho:0<=o/\o<=11):Zby { f with office:=o }:=by
 obtain ⟨h1,u,r,a,m,v,c,t⟩:=h;refine ⟨⟨hd.1,by show f.day<=131072;omega⟩,⟨hn.1,by show f.known<=1099511627776;omega⟩,⟨by show 0<=f.file;omega,by show f.file<=4095;omega⟩,ho,⟨r.1,by show f.party<=4095;omega⟩,?_,Zv8 m,by show f.e.length<=8;omega,fun p b=>?_,t⟩
 ·show -1<=f.other/\f.other<=4095/\f.other≠f.file;rcases a with a | ⟨j,q,a⟩ <;> omega
 ·obtain ⟨⟨j,q,k⟩,s,d⟩:=c p b;show (0<=p.1/\p.1<=4095)/\(0<=p.2/\p.2<=131072)/\p.1≠f.file;omega
theorem Zfc {a:Nat} (h:a<18446744073709551616) (hl:Zbw l):Zbw (a::l):=fun x b=>by
 rcases List.mem_cons.1 b with rfl | b
 ·exact h
 ·exact hl x b
theorem Zt2:Zbw []:=fun x a=>by cases a
theorem Zt3 {s:ByteArray} {p q:List Nat} {x y:Nat} (b:x<18446744073709551616) (hy:y<18446744073709551616) (a:Zbw q) (h:Zw6 s (p++x::q)=Zw6 s (p++y::q)):x=y:=Yf9 b hy a h
theorem Yek {a b:Nat} (d:a<18446744073709551616) (c:b<18446744073709551616) (h:Zce a=Zce b):a=b:=Zt3 (p:=[]) (q:=[]) d c Zt2 h
theorem Zrv (bs:List Nat) (s:Nat):Zbo bs s<18446744073709551616:=Zcn _ _
theorem Zx6 {bs:List Nat} {s t:Nat} (b:s<18446744073709551616) (a:t<18446744073709551616) (h:Zbo bs s=Zbo bs t):s=t:=Zt3 (p:=[]) (q:=[Ze3 Zdx bs]) b a (Zfc (Zlf _ _) Zt2) h
theorem Yg7 {a b:Nat} {h:Hd} (d:a<18446744073709551616) (c:b<18446744073709551616) (hl:h.log<18446744073709551616) (hm:h.map<18446744073709551616) (e:Zk4 a h=Zk4 b h):a=b :=
 Zt3 (p:=[]) (q:=[u64 h.office,u64 h.tick,u64 h.day,u64 h.size,h.log,h.map,u64 h.sld]) d c (Zfc (Zij _) (Zfc (Zij _) (Zfc (Zij _) (Zfc (Zij _) (Zfc hl (Zfc hm (Zfc (Zij _) Zt2))))))) e
theorem Zk6 (f:Fil) (h:f.office=o):Zza f o=0:=if_pos h
theorem Yg8 (f:Fil) (h:f.office≠o):Zza f o=22:=if_neg h
theorem Yat (a:Nat) (fl:List Fil) (o:Int) (size R:Nat):(Zqe a fl o size R).sign=Zk4 (Zie a) (Zqe a fl o size R):=rfl
theorem Yau {key:Nat} {h:Hd} (e:h.sign=Zk4 key h):hdE key h=0:=if_pos e
theorem Yim {key a:Nat} {h:Hd} (e:h.sign=Zk4 key h) (f:key<18446744073709551616) (c:a<18446744073709551616) (hl:h.log<18446744073709551616) (hm:h.map<18446744073709551616) (b:key≠a):hdE a h=23:=if_neg (fun d=>b (Yg7 f c hl hm (e.symm.trans d)))
theorem Yel {h:Hd} {f:Fil} {s:Nat} (e:h.log=Zce (Zbo (Zdh f) s)):Yg3 h f s=0:=if_pos e
theorem Yg9 {h:Hd} {f:Fil} {s a:Nat} (e:h.log=Zce (Zbo (Zdh f) s)) (j:s<18446744073709551616) (c:a<18446744073709551616) (b:s≠a):Yg3 h f a=10 :=
 if_neg (fun d=>b (Zx6 j c (Yek (Zrv _ _) (Zrv _ _) (e.symm.trans d))))
theorem Yav {s:Nat}:s≠(s+1) % 18446744073709551616:=by omega
theorem Zdk.setSalt {h:Hd} {f:Fil} {dv cv ev:Value} {salt:Nat} (m:Zdk C h i f dv cv ev salt p) (s:Nat):Zdk (C.setIfInBounds 28 (I G (s:Int))) h i f dv cv ev s p:=by
 obtain ⟨h1,c,e,k,q,d⟩:=m;refine ⟨by simp [h1],fun j v a=>?_,fun j v a=>?_,?_,?_,?_⟩
 ·have b:j<19:=Zap a;rw [bw (by omega)];exact c j v a
 ·have b:j<8:=Zap a;rw [bw (by omega)];exact e j v a
 ·rw [bw (by omega)];exact k
 ·rw [eu (by omega)]
 ·rw [bw (by omega)];exact d
theorem Zdk.setOffice {h:Hd} {f:Fil} {dv cv ev:Value} {salt:Nat} (r:Zdk C h i f dv cv ev salt p) (o:Int):Zdk (C.setIfInBounds 13 (I U o)) h i { f with office:=o } dv cv ev salt p:=by
 obtain ⟨h1,d,q,c,m,k⟩:=r;refine ⟨by simp [h1],fun j v a=>?_,fun j v a=>?_,?_,?_,?_⟩
 ·have b:j<19:=Zap a;by_cases c:j=4
  ·subst c;rw [eu (by omega)];exact a
  ·rw [bw (by omega)];refine d j v ?_;have e:j=0∨j=1∨j=2∨j=3∨j=5∨j=6∨j=7∨j=8∨j=9∨j=10∨j=11∨j=12∨j=13∨j=14∨j=15∨j=16∨j=17∨j=18:=by omega
   rcases e with rfl | rfl | rfl | rfl | rfl | rfl | rfl | rfl | rfl | rfl | rfl | rfl | rfl | rfl | rfl | rfl | rfl | rfl <;> exact a
 ·have b:j<8:=Zap a;rw [bw (by omega)];exact q j v a
 ·rw [bw (by omega)];exact c
 ·rw [bw (by omega)];exact m
 ·rw [bw (by omega)];exact k
def Zbi:Fil:=⟨7,2,3,1,4,-1,[.mk 0 0 [] []],[],[]⟩
theorem Ziy:Zby Zbi:=by
 have hF:Zkp (.mk 0 0 [] []):=by
  refine ⟨⟨by decide,by decide,?_⟩,by decide⟩;intro y hy;have hy:y∈[F.mk 0 0 [] []]:=hy;simp only [dt,dl,or_false] at hy;rcases hy with rfl;exact .inl ⟨rfl,rfl,rfl,rfl⟩
 have c:Ztg [.mk 0 0 [] []] []:=Zv8 ⟨by decide,fun f b=>by rw [List.mem_singleton.1 b];exact hF,by decide,fun i hi=>absurd hi (by simp)⟩;refine ⟨by decide,by decide,by decide,by decide,by decide,by decide,c,by decide,fun p a=>(by cases a),List.nodup_nil⟩
def Zar (n:Nat):Nat:=if n<=2 then 1 else if n<=4 then 2 else if n<=8 then 4 else 8
theorem Zk7 {n:Nat} (h:2<=n):1<=Zar n/\Zar n<n:=by
 unfold Zar;split
 ·omega
 ·split
  ·omega
  ·split <;> omega
def Zci:Nat->List Nat->Nat
 | 0,_=>0
 | f+1,l=>if l.length=0 then Yjg else if l.length=1 then Zce (l.getD 0 0) else Zjg (Zci f (l.take (Zar l.length))) (Zci f (l.drop (Zar l.length)))
def Zdq:Nat->List Nat->Nat->List Nat
 | 0,_,_=>[]
 | f+1,l,i=>if l.length=1 then [] else if i<Zar l.length then Zdq f (l.take (Zar l.length)) i++[Zci f (l.drop (Zar l.length))] else Zdq f (l.drop (Zar l.length)) (i - Zar l.length)++[Zci f (l.take (Zar l.length))]
def Zg5:Nat->Nat->Nat->Nat->List Nat->Nat
 | 0,_,_,_,_=>0
 | f+1,i,n,h,ps=>if n=1∨ps.length=0 then Zce h else if i<Zar n then Zjg (Zg5 f i (Zar n) h ps.dropLast) (ps.getD (ps.length - 1) 0) else Zjg (ps.getD (ps.length - 1) 0) (Zg5 f (i - Zar n) (n - Zar n) h ps.dropLast)
def Yaw:Nat->Nat->Nat->Nat->Bool
 | 0,_,_,_=>false
 | f+1,i,n,m=>if n=1∨m=0 then decide (n=1/\m=0) else if i<Zar n then Yaw f i (Zar n) (m - 1) else Yaw f (i - Zar n) (n - Zar n) (m - 1)
theorem Zff (f:Nat) (l:List Nat):Zci f l<18446744073709551616:=by
 cases f with
 | zero=>simp [Zci]
 | succ f =>
  unfold Zci;split
  ·exact Zcn _ _
  ·split <;> exact Zcn _ _
theorem Zjy (f:Nat):∀ (l:List Nat) (i:Nat),Zbw (Zdq f l i):=by
 induction f with
 | zero=>intro l i x a;cases a
 | succ f ih =>
  intro l i x a;unfold Zdq at a;split at a
  ·cases a
  ·split at a
   ·rcases List.mem_append.1 a with h | h
    ·exact ih _ _ x h
    ·rw [List.mem_singleton.1 h];exact Zff _ _
   ·rcases List.mem_append.1 a with h | h
    ·exact ih _ _ x h
    ·rw [List.mem_singleton.1 h];exact Zff _ _
theorem Zk8 (f:Nat):∀ (l:List Nat) (i:Nat),(Zdq f l i).length<=f:=by
 induction f with
 | zero=>intro l i;exact ag _
 | succ f ih =>
  intro l i;unfold Zdq;split
  ·simp
  ·split
   ·have:=ih (l.take (Zar l.length)) i;simp;omega
   ·have:=ih (l.drop (Zar l.length)) (i - Zar l.length);simp;omega
theorem Zny (h:Zbw l):Zbw l.dropLast:=fun x a=>h x (List.dropLast_subset l a)
theorem Yax {n k:Nat} (hn:n<=16) (a:k=1∨((k=2∨k=4∨k=8∨k=16)/\k<n)) (h:2 * k<n):(2 * k=2∨2 * k=4∨2 * k=8∨2 * k=16)/\2 * k<n:=by omega
theorem Yay {n k:Nat} (hn:n<=16) (a:2<=n) (b:k=1∨((k=2∨k=4∨k=8∨k=16)/\k<n)) (h:¬ 2 * k<n):k=Zar n:=by
 unfold Zar;split
 ·omega
 ·split
  ·omega
  ·split <;> omega
theorem Zmh (n:Nat) (c:2<=n) (hn:n<=16) (w:World) :
  Calls prog 67 #[I U (n:Int)] w fun e d=>e=O (I U (Zar n:Int))/\d=w:=by
 go_enter func67,ntmps67;go_wp2_with fail;go_loopw [3] (fun j W=>∃ k:Nat,j=I U (k:Int)/\(k=1∨((k=2∨k=4∨k=8∨k=16)/\k<n))/\w=W) (fun j _=>n - (intOf j).toNat)
 case atStart=>exact ⟨1,rfl,.inl rfl,rfl⟩
 case round =>
  obtain ⟨k,rfl,b,rfl⟩:=hrel;have f:IntKind.i64.wrap (2 * (k:Int))=((2 * k:Nat):Int):=by rw [az];omega
  by_cases a:2 * k<n
  ·have hs:=Yax hn b a;have hd:decide (((2 * k:Nat):Int)<(n:Int))=true:=decide_eq_true (by omega);generalize h2k:2 * k=k2 at *;go_wp2_with fail;go_roundw
   case rel=>exact ⟨k2,by go_num,.inr hs,trivial⟩
   case measure=>simp [intOf];omega
  ·have hd:decide (((2 * k:Nat):Int)<(n:Int))=false:=decide_eq_false (by omega);have h:=Yay hn c b a;generalize h2k:2 * k=k2 at *;go_wp2_with fail;go_ret;exact ⟨by rw [h];rfl,rfl⟩
theorem Zh5 {t e:TypeId} (k:prog.underlying t=some (.slice e)) (hs:∀ w,(sizeOf e).run prog w=.ok 1 w) (d:Option Tmp) (ty:TypeId) (a:String) (after:Array Edge) (j:Option (Nat × Bool)) (r:Operand->Value) (x y:Operand) (b o n c m:Nat)
  (q:r x=Z (some ⟨b,o,none⟩) n c) (h1:r y=I U (m:Int)) (hm:m<=n) (f:m<c) (w:World) :
  (execOp r ⟨d,.slice t x (some y) none none,ty,a,after,j⟩).run prog w=.ok (.value (Z (some ⟨b,o+m,none⟩) (n - m) (c - m))) w:=by
 simp only [execOp];go_simp;intro h;omega
theorem Zfg (w:World):(sizeOf 26).run prog w=.ok 1 w:=by kernel_rfl
theorem Ze7 (f:Nat):∀ (l:List Nat) (b o c:Nat) (w:World),l.length<=f->l.length<=16->1<=l.length->l.length<=c->Zbw l->(∀ (k:Nat) (hk:k<l.length),w.cell? ⟨b,o+k,none⟩=some (I G (l[k]:Int))) ->
  Calls prog 29 #[Z (some ⟨b,o,none⟩) l.length c] w fun e P=>e=O (I G (Zci f l:Int))/\Bl w P:=by
 induction f with
 | zero=>intro l b o c w h0 _ h1;omega
 | succ f ih =>
  intro l b o c w hf M h1 hc z a;by_cases E:l.length=1
  ·have hh:Zci (f+1) l=Zce l[0]:=by
    rw [Zci,if_neg (by omega),if_pos E];simp [List.getD,E]
   rw [hh,E];exact Zl6 l[0] (z _ (aw _)) b o c w (a 0 (by omega))
  ·have hb:=Zk7 (n:=l.length) (by omega);have T:Zci (f+1) l=Zjg (Zci f (l.take (Zar l.length))) (Zci f (l.drop (Zar l.length))):=by
    rw [Zci];rw [if_neg (by omega),if_neg E]
   have t:(l.take (Zar l.length)).length=Zar l.length:=by rw [cw];omega
   have r:(l.drop (Zar l.length)).length=l.length - Zar l.length:=dw;have HA:=ae (fun (W:World) (N:Bl w W)=>ih (l.take (Zar l.length)) b o c W (by omega) (by omega) (by omega) (by omega) (fun x L=>z x (ed L)) (fun k hk=>by
    rw [i4];have q:=a k (by omega);exact (N.cell (bu _ _ q)).trans q))
   have HB:=ae (fun (W:World) (N:Bl w W)=>ih (l.drop (Zar l.length)) b (o+Zar l.length) (c - Zar l.length) W (by omega) (by omega) (by omega) (by omega) (fun x L=>z x (gg L)) (fun k hk=>by
    rw [List.getElem_drop,i7];have q:=a (Zar l.length+k) (by omega);exact (N.cell (bu _ _ q)).trans q))
   rw [t] at HA;rw [r] at HB;have Q:=ae (fun (W:World)=>Zh2 (Zci f (l.take (Zar l.length))) (Zci f (l.drop (Zar l.length))) (Zff _ _) (Zff _ _) W);rw [<- T] at Q;have HH:=ae (fun (W:World)=>Zmh l.length (by omega) M W);have ez:((l.length:Int) == 0)=false:=by rw [beq_eq_false_iff_ne];omega
   have eo:((l.length:Int) == 1)=false:=by rw [beq_eq_false_iff_ne];omega
   clear T t r a z ih;generalize Zci (f+1) l=R at *;generalize Zci f (l.take (Zar l.length))=RA at *;generalize Zci f (l.drop (Zar l.length))=RB at *;generalize Zar l.length=k at *;generalize l.length=n at *;go_enter func29,ntmps29;go_wp2_with fail;refine (HH.out _).mono ?_;rintro e H ⟨rfl,rfl⟩;go_upto_region 6 with fail;refine wp_region_held_drew (S:=(fun V=>Bl H V)) (by kernel_rfl) ?_ (fun d=>?_)
   ·first | done | ((try dsimp only);exact (ap _ _).drew)
   have u:=(ap H.heap.size H).drew;generalize H.drew=wd at *;refine tq 0 18 rfl ?_;refine tq 1 19 rfl ?_;refine tq 2 20 rfl ?_ (hy:=by intro P j;(try dsimp only at j);refine Zd9 underlying27 Zfg _ _ _ _ _ _ (.tmp 18) (.tmp 19) b o n c k ?_ ?_ ?_ _;rfl;rfl;omega;try (with_reducible rfl));refine tq 4 22 rfl ?_;refine tq 5 23 rfl ?_;refine tq 6 24 rfl ?_ (hy:=by intro P j;(try dsimp only at j);refine Zh5 underlying27 Zfg _ _ _ _ _ _ (.tmp 22) (.tmp 23) b o n c k ?_ ?_ ?_ ?_ _;rfl;rfl;omega;omega;try (with_reducible rfl));refine rd 3 (some 21) rfl fun K h=>?_;go_simp;(refine (HA.out _ u).mono ?_;rintro e w2 ⟨rfl,v⟩);refine h.out _ _ (u.trans (v.mono u.size)) fun d=>?_;clear h K;(try simp only [pS,pB,pZ,pC]);have y:=u.trans (v.mono u.size);refine rd 7 (some 25) rfl fun K h=>?_;go_simp;(refine (HB.out _ y).mono ?_;rintro e w3 ⟨rfl,s⟩);refine h.out _ _ (y.trans (s.mono y.size)) fun d=>?_;clear h K;(try simp only [pS,pB,pZ,pC]);have J:=y.trans (s.mono y.size);refine rd 8 (some 26) rfl fun K h=>?_;go_simp;(refine (Q.out _).mono ?_;rintro e w4 ⟨rfl,m⟩);refine h.out _ _ (J.trans (m.mono J.size)) fun d=>?_;clear h K;(try simp only [pS,pB,pZ,pC]);have P4:=J.trans (m.mono J.size);refine tq 9 2 rfl ?_;refine dn ?_;go_wp2_with fail;go_ret;exact ⟨rfl,P4⟩
theorem Zbv.mono {ts:List TypeId} {H:List Nat} {base base':Nat} {e:TypeId} {size:Nat} {v:Value} {ds:List D} (h:Zbv ts H w base e size v ds) (f:base'<=base):Zbv ts H w base' e size v ds:=by
 obtain ⟨n,c,h1,b⟩:=h;refine ⟨n,c,⟨h1.1,?_⟩,b⟩;rcases h1.2 with h | ⟨g,cap,a,k,j,d⟩
 ·exact .inl h
 ·exact .inr ⟨g,cap,a,k,aj f j,d⟩
theorem Zh6 (f:Nat):∀ (l:List Nat) (i b o c:Nat) (w:World),f<=100->l.length<=f->l.length<=16->i<l.length->l.length<=c->Zbw l->(∀ (k:Nat) (hk:k<l.length),w.cell? ⟨b,o+k,none⟩=some (I G (l[k]:Int))) ->
  Calls prog 32 #[Z (some ⟨b,o,none⟩) l.length c,I U (i:Int)] w fun e w'=>∃ u,e=O u/\Zi8 w' w.heap.size u (Zdq f l i)/\Bl w w':=by
 induction f with
 | zero=>intro l i b o c w _ h0 _ h1;omega
 | succ f ih =>
  intro l i b o c w al hf an hi hc hw m;by_cases e1:l.length=1
  ·have hh:Zdq (f+1) l i=[]:=by rw [Zdq,if_pos e1]
   rw [hh,e1];refine (Zl7 (some ⟨b,o,none⟩) c (i:Int) w).mono ?_;rintro e w' ⟨rfl,rfl⟩;exact ⟨_,rfl,Zi8.nil _ _,ap _ _⟩
  ·have hb:=Zk7 (n:=l.length) (by omega);have e2:Zdq (f+1) l i=if i<Zar l.length then Zdq f (l.take (Zar l.length)) i++[Zci f (l.drop (Zar l.length))] else Zdq f (l.drop (Zar l.length)) (i - Zar l.length)++[Zci f (l.take (Zar l.length))]:=by
    rw [Zdq];rw [if_neg e1]
   have L:(l.take (Zar l.length)).length=Zar l.length:=by rw [cw];omega
   have P:(l.drop (Zar l.length)).length=l.length - Zar l.length:=dw;have R:∀ (W:World),Bl w W->∀ (k:Nat) (hk:k<(l.take (Zar l.length)).length),W.cell? ⟨b,o+k,none⟩=some (I G ((l.take (Zar l.length))[k]:Int)):=fun W t k hk=>by
    rw [i4];have h9:=m k (by omega);exact (t.cell (bu _ _ h9)).trans h9
   have M:∀ (W:World),Bl w W->∀ (k:Nat) (hk:k<(l.drop (Zar l.length)).length),W.cell? ⟨b,o+Zar l.length+k,none⟩=some (I G ((l.drop (Zar l.length))[k]:Int)):=fun W t k hk=>by
    rw [List.getElem_drop,i7];have h9:=m (Zar l.length+k) (by omega);exact (t.cell (bu _ _ h9)).trans h9
   have H:Zbw (l.take (Zar l.length)):=fun x hx=>hw x (ed hx);have J:Zbw (l.drop (Zar l.length)):=fun x hx=>hw x (gg hx);have HH:=ae (fun (W:World)=>Zmh l.length (by omega) an W);have eo:((l.length:Int) == 1)=false:=by rw [beq_eq_false_iff_ne];omega
   have E:=Zk8 f;by_cases hk:i<Zar l.length
   ·have HA:=ae (fun (W:World) (t:Bl w W)=>ih (l.take (Zar l.length)) i b o c W (by omega) (by omega) (by omega) (by omega) (by omega) H (R W t));have HB:=ae (fun (W:World) (t:Bl w W)=>Ze7 f (l.drop (Zar l.length)) b (o+Zar l.length) (c - Zar l.length) W (by omega) (by omega) (by omega) (by omega) J (M W t));rw [L] at HA;rw [P] at HB;rw [if_pos hk] at e2;have HE:=ae e2;have am:=E (l.take (Zar l.length)) i;have af:decide ((i:Int)<(Zar l.length:Int))=true:=decide_eq_true (by omega);clear e2 L P m hw ih R M H J E;generalize Zdq (f+1) l i=PP at *;generalize Zdq f (l.take (Zar l.length)) i=T at *;generalize Zci f (l.drop (Zar l.length))=q at *;generalize Zar l.length=k at *;generalize l.length=n at *;go_enter func32,ntmps32;go_wp2_with fail;refine (HH.out _).mono ?_;rintro e y ⟨rfl,rfl⟩;go_upto_region 5 with fail;refine wp_region_held_drew (S:=(fun V=>Bl y V)) (by kernel_rfl) ?_ (fun a=>?_)
    ·first | done | ((try dsimp only);exact (ap _ _).drew)
    have s:=(ap y.heap.size y).drew;generalize y.drew=wd at *;refine tq 0 15 rfl ?_;refine tq 1 16 rfl ?_;refine tq 2 17 rfl ?_ (hy:=by intro w' r;(try dsimp only at r);refine Zd9 underlying27 Zfg _ _ _ _ _ _ (.tmp 15) (.tmp 16) b o n c k ?_ ?_ ?_ _;rfl;rfl;omega;try (with_reducible rfl));refine tq 3 18 rfl ?_;refine tq 5 20 rfl ?_;refine tq 6 21 rfl ?_;refine tq 7 22 rfl ?_ (hy:=by intro w' r;(try dsimp only at r);refine Zh5 underlying27 Zfg _ _ _ _ _ _ (.tmp 20) (.tmp 21) b o n c k ?_ ?_ ?_ ?_ _;rfl;rfl;omega;omega;try (with_reducible rfl));refine rd 4 (some 19) rfl fun K d=>?_;go_simp;(refine (HA.out _ s).mono ?_;rintro e w2 ⟨u2,rfl,o2,v⟩);refine d.out _ _ (s.trans (v.mono s.size)) fun a=>?_;clear d K;(try simp only [pS,pB,pZ,pC]);have z:=s.trans (v.mono s.size);refine rd 8 (some 23) rfl fun K d=>?_;go_simp;(refine (HB.out _ z).mono ?_;rintro e w3 ⟨rfl,h⟩);refine d.out _ _ (z.trans (h.mono z.size)) fun a=>?_;clear d K;(try simp only [pS,pB,pZ,pC]);have N:=z.trans (h.mono z.size);obtain ⟨Au,nu,cu,rfl,ab,_⟩:=Zbv.slice o2;refine rd 9 (some 24) rfl fun K d=>?_;go_simp;skip;refine d.out _ _ (N.alloc N.size _) fun a=>?_;clear d K;(try simp only [pS,pB,pZ,pC]);have Q:=N.alloc N.size (X #[I G (q:Int)] 26);have RA:=Blk.new w3 26 #[I G (q:Int)];have Q4:=h.alloc h.size (X #[I G (q:Int)] 26);have OA:=Zbv.mono (Zbv.step o2 (Zaf (row:=none) Q4) (fun _ e=>by cases e) (H':=[]) (fun _ hi=>.inl hi)) s.size;have NA:Zb0 [] ((Value.slice Au nu cu).ownBlock.toList++[]) (w3.alloc (X #[I G (q:Int)] 26)) #[Value.int G (q:Int)].toList (Zdv [Value.int G (q:Int)]):=Zax.of_plain _ _ _;have aq:=Zdo (us T);have ad:=Zc7 T;clear o2 ab;refine rd 10 (some 25) rfl fun K d=>?_;rw [if_pos (by rfl)];refine Zg4 underlying27 info26 rfl (by omega) (by omega) OA RA rfl (by kernel_rfl) NA (by omega) (by omega) Q.size _ _ rfl rfl rfl (fun v9 w9 o9 g9 l9=>?_);have P9:=Q.grown g9 Q.size (fun k e=>(OA.lt k e).1);refine d.out _ _ ?_ (fun a=>?_)
    ·exact P9
    clear d K;(try simp only [pS,pB,pZ,pC]);refine tq 11 4 rfl ?_;refine dn ?_;have O9:Zi8 w9 y.heap.size v9 (T++[q]):=by
     unfold Zi8 us Zdv;rw [cj,cj];exact o9
    rw [<- HE.out] at O9;have aa:=ae O9;clear O9 o9 OA NA RA Q g9 l9 a;go_wp2_with fail;go_ret;exact ⟨_,rfl,aa.out,P9⟩
   ·have HA:=ae (fun (W:World) (t:Bl w W)=>ih (l.drop (Zar l.length)) (i - Zar l.length) b (o+Zar l.length) (c - Zar l.length) W (by omega) (by omega) (by omega) (by omega) (by omega) J (M W t));have HB:=ae (fun (W:World) (t:Bl w W)=>Ze7 f (l.take (Zar l.length)) b o c W (by omega) (by omega) (by omega) (by omega) H (R W t));rw [P] at HA;rw [L] at HB;rw [if_neg hk] at e2;have HE:=ae e2;have am:=E (l.drop (Zar l.length)) (i - Zar l.length);have af:decide ((i:Int)<(Zar l.length:Int))=false:=decide_eq_false (by omega);have av:IntKind.i64.wrap ((i:Int) - (Zar l.length:Int))=((i - Zar l.length:Nat):Int):=by rw [az];omega
    clear e2 L P m hw ih R M H J E;generalize Zdq (f+1) l i=PP at *;generalize i - Zar l.length=j at *;generalize Zdq f (l.drop (Zar l.length)) j=T at *;generalize Zci f (l.take (Zar l.length))=q at *;generalize Zar l.length=k at *;generalize l.length=n at *;go_enter func32,ntmps32;go_wp2_with fail;refine (HH.out _).mono ?_;rintro e y ⟨rfl,rfl⟩;go_upto_region 6 with fail;refine wp_region_held_drew (S:=(fun V=>Bl y V)) (by kernel_rfl) ?_ (fun a=>?_)
    ·first | done | ((try dsimp only);exact (ap _ _).drew)
    have s:=(ap y.heap.size y).drew;generalize y.drew=wd at *;refine tq 0 26 rfl ?_;refine tq 1 27 rfl ?_;refine tq 2 28 rfl ?_ (hy:=by intro w' r;(try dsimp only at r);refine Zh5 underlying27 Zfg _ _ _ _ _ _ (.tmp 26) (.tmp 27) b o n c k ?_ ?_ ?_ ?_ _;rfl;rfl;omega;omega;try (with_reducible rfl));refine tq 3 29 rfl ?_;refine tq 4 30 rfl ?_;refine tq 5 31 rfl ?_;refine tq 7 33 rfl ?_;refine tq 8 34 rfl ?_;refine tq 9 35 rfl ?_ (hy:=by intro w' r;(try dsimp only at r);refine Zd9 underlying27 Zfg _ _ _ _ _ _ (.tmp 33) (.tmp 34) b o n c k ?_ ?_ ?_ _;rfl;rfl;omega;try (with_reducible rfl));refine rd 6 (some 32) rfl fun K d=>?_;go_simp;(refine (HA.out _ s).mono ?_;rintro e w2 ⟨u2,rfl,o2,v⟩);refine d.out _ _ (s.trans (v.mono s.size)) fun a=>?_;clear d K;(try simp only [pS,pB,pZ,pC]);have z:=s.trans (v.mono s.size);refine rd 10 (some 36) rfl fun K d=>?_;go_simp;(refine (HB.out _ z).mono ?_;rintro e w3 ⟨rfl,h⟩);refine d.out _ _ (z.trans (h.mono z.size)) fun a=>?_;clear d K;(try simp only [pS,pB,pZ,pC]);have N:=z.trans (h.mono z.size);obtain ⟨Au,nu,cu,rfl,ab,_⟩:=Zbv.slice o2;refine rd 11 (some 37) rfl fun K d=>?_;go_simp;skip;refine d.out _ _ (N.alloc N.size _) fun a=>?_;clear d K;(try simp only [pS,pB,pZ,pC]);have Q:=N.alloc N.size (X #[I G (q:Int)] 26);have RA:=Blk.new w3 26 #[I G (q:Int)];have Q4:=h.alloc h.size (X #[I G (q:Int)] 26);have OA:=Zbv.mono (Zbv.step o2 (Zaf (row:=none) Q4) (fun _ e=>by cases e) (H':=[]) (fun _ hi=>.inl hi)) s.size;have NA:Zb0 [] ((Value.slice Au nu cu).ownBlock.toList++[]) (w3.alloc (X #[I G (q:Int)] 26)) #[Value.int G (q:Int)].toList (Zdv [Value.int G (q:Int)]):=Zax.of_plain _ _ _;have aq:=Zdo (us T);have ad:=Zc7 T;clear o2 ab;refine rd 12 (some 38) rfl fun K d=>?_;rw [if_pos (by rfl)];refine Zg4 underlying27 info26 rfl (by omega) (by omega) OA RA rfl (by kernel_rfl) NA (by omega) (by omega) Q.size _ _ rfl rfl rfl (fun v9 w9 o9 g9 l9=>?_);have P9:=Q.grown g9 Q.size (fun k e=>(OA.lt k e).1);refine d.out _ _ ?_ (fun a=>?_)
    ·exact P9
    clear d K;(try simp only [pS,pB,pZ,pC]);refine tq 13 4 rfl ?_;refine dn ?_;have O9:Zi8 w9 y.heap.size v9 (T++[q]):=by
     unfold Zi8 us Zdv;rw [cj,cj];exact o9
    rw [<- HE.out] at O9;have aa:=ae O9;clear O9 o9 OA NA RA Q g9 l9 a;go_wp2_with fail;go_ret;exact ⟨_,rfl,aa.out,P9⟩
def Yem (W:World) (bg bh bf h:Nat):Prop :=
 Blk W bg 4 #[.bool true]/\Blk W bh 26 #[I G (h:Int)]/\Blk W bf 194 #[.func (.func 156) #[] #[Y (some ⟨bg,0,none⟩),Y (some ⟨bh,0,none⟩),Y (some ⟨bf,0,none⟩)]]
theorem Yem.keep {d b c h:Nat} (hc:Yem W d b c h) (a:Bl W W'):Yem W' d b c h:=⟨hc.1.keep a,hc.2.1.keep a,hc.2.2.keep a⟩
def Zgq (W:World) (A:Option Addr) (ps:List Nat):Prop:=∀ (k:Nat) (hk:k<ps.length),∃ b o,A=some ⟨b,o,none⟩/\W.cell? ⟨b,o+k,none⟩=some (I G (ps[k]:Int))
theorem Zgq.keep {ps:List Nat} (h:Zgq W A ps) (a:Bl W W'):Zgq W' A ps:=fun k c=>by
 obtain ⟨b,o,e,hc⟩:=h k c;exact ⟨b,o,e,(a.cell (bu _ _ hc)).trans hc⟩
theorem Zgq.drop {ps:List Nat} (h:Zgq W A ps):Zgq W A ps.dropLast:=fun k a=>by
 rw [List.length_dropLast] at a;obtain ⟨b,o,e,hc⟩:=h k (by omega);exact ⟨b,o,e,by rw [List.getElem_dropLast];exact hc⟩
def inB (n hi:Int):Bool:=decide (0<=n) && decide (n<=hi)
theorem Ziz (n hi:Int) (w:World) :
  Calls prog 155 #[I U n,I U hi] w fun e c=>e=O (.bool (inB n hi))/\c=w:=by
 by_cases b:0<=n
 ·have a:=decide_eq_true b;by_cases h1:n<=hi
  ·have d1:=decide_eq_true h1;have e:inB n hi=true:=by unfold inB;rw [a,d1];rfl
   rw [e];exact Zhj n hi b h1 w
  ·have d1:=decide_eq_false h1;have e:inB n hi=false:=by unfold inB;rw [a,d1];rfl
   rw [e];go_enter func155,ntmps155;go_wp2_with fail;go_ret;exact ⟨rfl,rfl⟩
 ·have a:=decide_eq_false b;have e:inB n hi=false:=by unfold inB;rw [a];rfl
  rw [e];go_enter func155,ntmps155;go_wp2_with fail;go_ret;exact ⟨rfl,rfl⟩
def hdB (o t d s sl:Int):Bool:=inB o 11 && (inB t 1099511627776 && (inB d 131072 && (inB s 4096 && inB sl s)))
theorem Zrw (o t d s:Int) (l m:Nat) (sl:Int) (j:Nat) (g:Nat) (w:World) (u:Blk w g 56 #[iI o,iI t,iI d,iI s,uI (l:Int),uI (m:Int),iI sl,uI (j:Int)]) :
  Calls prog 115 #[Z (some ⟨g,0,none⟩) 1 1] w fun e b=>e=O (.bool (hdB o t d s sl))/\Bl w b:=by
 have E:=ae (fun W=>Ziz o 11 W);have J:=ae (fun W=>Ziz t 1099511627776 W);have z:=ae (fun W=>Ziz d 131072 W);have H:=ae (fun W=>Ziz s 4096 W);have y:=ae (fun W=>Ziz sl s W);unfold hdB;generalize inB o 11=c at *;generalize inB t 1099511627776=r at *;generalize inB d 131072=k at *;generalize inB s 4096=f at *;generalize inB sl s=q at *;go_enter func115,ntmps115;go_wp2_with fail;go_loopw [8] (fun i wr=>(i=I U 0/\w=wr)∨(i=I U 1/\(c && (r && (k && (f && q))))=true/\Bl w wr)) (fun i _=>1 - (intOf i).toNat)
 case atStart=>exact .inl ⟨rfl,rfl⟩
 case round =>
  rcases hrel with ⟨rfl,rfl⟩ | ⟨rfl,h,x⟩
  ·have hc:=u.c8;have a:=Zab w (X #[iI o,iI t,iI d,iI s,uI (l:Int),uI (m:Int),iI sl,uI (j:Int)] 56);go_wp2_with fail;refine (E.out _).mono ?_;rintro e b ⟨rfl,rfl⟩;cases c with
   | false =>
    go_wp2_with fail;go_ret;exact ⟨by simp,a⟩
   | true =>
    go_wp2_with fail;refine (J.out _).mono ?_;rintro e b ⟨rfl,rfl⟩;cases r with
    | false =>
     go_wp2_with fail;go_ret;exact ⟨by simp,a⟩
    | true =>
     go_wp2_with fail;refine (z.out _).mono ?_;rintro e b ⟨rfl,rfl⟩;cases k with
     | false =>
      go_wp2_with fail;go_ret;exact ⟨by simp,a⟩
     | true =>
      go_wp2_with fail;refine (H.out _).mono ?_;rintro e b ⟨rfl,rfl⟩;cases f with
      | false =>
       go_wp2_with fail;go_ret;exact ⟨by simp,a⟩
      | true =>
       go_wp2_with fail;refine (y.out _).mono ?_;rintro e b ⟨rfl,rfl⟩;cases q with
       | false =>
        go_wp2_with fail;go_ret;exact ⟨by simp,a⟩
       | true =>
        go_wp2_with fail;go_roundw
        case rel=>exact .inr ⟨rfl,rfl,a⟩
        case measure=>simp [intOf]
  ·have v:=ae h;clear h;go_wp2_with fail;go_ret;exact ⟨by rw [v.out];rfl,x⟩
def hdC (key:Nat) (h:Hd):Int:=if hdB h.office h.tick h.day h.size h.sld=true then (if h.sign=Zk4 key h then 0 else 23) else 1
theorem Yha {t d s sl:Int} (h:hdB o t d s sl=true):Yd3 o t d s sl:=by
 simp only [hdB,inB,gv,decide_eq_true_eq] at h;unfold Yd3;omega
theorem Zt4 (key:Nat) (r:key<18446744073709551616) (h:Hd) (hl:h.log<18446744073709551616) (hm:h.map<18446744073709551616) (w:World) :
  Calls prog 77 #[I G (key:Int),.agg h.vals] w fun e v=>e=O (I U (hdC key h))/\Bl w v:=by
 unfold hdC;by_cases a:hdB h.office h.tick h.day h.size h.sld=true
 ·rw [if_pos a];exact Zmf key r h hl hm (Yha a) w
 ·rw [if_neg a];obtain ⟨o,t,d,s,l,m,sl,f⟩:=h;unfold Hd.vals;dsimp only at a ⊢;have c:hdB o t d s sl=false:=by simpa using a
  have j:=Blk.new (w.alloc (X #[iI o,iI t,iI d,iI s,uI (l:Int),uI (m:Int),iI sl,uI (f:Int)] 56)) 56 #[iI o,iI t,iI d,iI s,uI (l:Int),uI (m:Int),iI sl,uI (f:Int)];rw [ax] at j;have q:=(Zab w (X #[iI o,iI t,iI d,iI s,uI (l:Int),uI (m:Int),iI sl,uI (f:Int)] 56)).alloc (by simp) (X #[iI o,iI t,iI d,iI s,uI (l:Int),uI (m:Int),iI sl,uI (f:Int)] 56);have k:=ae (Zrw o t d s l m sl f (w.heap.size+1) _ j);rw [c] at k;clear a c r hl hm j;go_enter func77,ntmps77;go_wp2_with fail;refine k.out.mono ?_;rintro e x ⟨rfl,b⟩;have u:=Zaa q b q.size;clear q b k;go_wp2_with fail;go_ret;exact ⟨rfl,u⟩
def Yj3 (h:Hd) (f:Fil) (salt:Nat) (ps:List Nat) (i n:Nat):Int:=if h.log=Zg5 16 i n (Zbo (Zdh f) salt) ps then 0 else 10
end Go.Proofs.YtglkadmfjaecmaaGreatDoor
