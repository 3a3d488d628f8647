import Derived.Test.YtglkadmfjaecmaaGreatDoorD18
set_option maxRecDepth 100000
set_option maxHeartbeats 16000000
namespace Go.Proofs.YtglkadmfjaecmaaGreatDoor
open Go.RowKit Go.Shelf _root_.Go.Proofs.Tryz
open Go.Value renaming slice->I, pointer->Z, agg->N
open Go.Obj renaming cells->G
open Go.IntKind renaming i64->O, u64->M
open Go.Ending renaming returned->Y
attribute [local go_sem] Oper.semAt_some
variable {A:Option Addr} {B cp g j:Nat} {C V X:Array Value} {Q:Exit->Act->World->Prop} {W W' w w':World} {i:Int} {o:Oper} {ops:Array Oper} {p:Value}
theorem Yer (W:World) (e c:Nat) (a:Blk W e 46 #[.int O 0,.int O 0,I none 0 0,I none 0 0])
  (b:Blk W c 48 (Zbi.vals (I (some ⟨e,0,none⟩) 1 1) (I none 0 0) (I none 0 0))):Zes W W.heap.size (some ⟨c,0,none⟩) [Zbi]:=fun k f=>by
 have f:k<1:=f;obtain rfl:k=0:=by omega
 refine ⟨c,0,I (some ⟨e,0,none⟩) 1 1,I none 0 0,I none 0 0,rfl,b.lt,fun j u d=>?_,?_,.nil _,.nil _⟩
 ·rw [io,cz,b.cell j,<- dj];exact d
 ·refine Rep.mk (cs:=[.int O 0,.int O 0,I none 0 0,I none 0 0]) rfl (ag _) a.lt ?_ (fun j u d=>?_)
  ·exact Zax.cons (.v _) (Zax.cons (.v _) (Zax.cons (.nil _) (Zax.cons (.nil _) (Zax.nil _ _))))
  ·rw [cz,a.cell j,<- dj];exact d
theorem Yhd (W:World) (q d:Nat) (l:Blk W q 46 #[.int O 0,.int O 0,I none 0 0,I none 0 0])
  (m:Blk W d 48 (Zbi.vals (I (some ⟨q,0,none⟩) 1 1) (I none 0 0) (I none 0 0))) :
  Calls prog 10 #[.int M 6,I (some ⟨d,0,none⟩) 1 1,.int O 0,.int O 1] W fun e w'=>∃ C dv cv ev,e=Y (N C)/\Zdk C (Zqe 6 [Zbi] 1 1 (Zce (Zna 0 Zbi))) 0 Zbi dv cv ev (Zfe 0) (I none 0 0)/\C.all (·.oneCell')=true/\Zbs W W.heap.size Zbi dv cv ev/\Bl W w':=by
 refine (Zv7 6 (by omega) [Zbi] (by decide) (fun f k=>by rw [List.mem_singleton.1 k];exact Ziy) (some ⟨d,0,none⟩) 1 (by decide) W W.heap.size (ag _) (Yer W q d l m) 0 1 (by decide) (by decide) (Zce (Zna 0 Zbi)) (Zcn _ _) (fun _ v=>v=I none 0 0)
  (fun V v hr=>?_) (fun V v _ hr=>?_) (fun _ _ _ h _=>h)).mono ?_
 ·obtain ⟨A,c,rfl,hc,a⟩:=Rep.row hr;obtain ⟨b,o,rfl,_,h1⟩:=a 0 (.int M (Zna 0 Zbi:Int)) rfl;exact Zl6 (Zna 0 Zbi) (Zcn _ _) b o c V h1
 ·obtain ⟨A,c,rfl,hc,a⟩:=Rep.row hr;refine (Zl7 A c 0 V).mono ?_;rintro e w' ⟨rfl,rfl⟩;exact ⟨none,0,0,rfl,rfl,ap _ _⟩
 ·rintro e w' ⟨dv,cv,ev,t,u,cp,rfl,k,r,s⟩;rw [r];exact ⟨_,dv,cv,ev,rfl,Zkg _ _ _ _ _ _ _ _,Zt1 _ _ _ _ _ _ _ k.one,k,s⟩
theorem Ya1:Zby { Zbi with office:=2 }:=by
 obtain ⟨h1,a,c,d,b⟩:=Ziy;exact ⟨h1,a,c,by decide,b⟩
theorem Zt7 {i:Nat} {v:Value} (h:C.all (·.oneCell')=true) (b:v.oneCell'=true):(C.setIfInBounds i v).all (·.oneCell')=true:=by
 rw [ij] at *;intro x a;rcases Array.mem_or_eq_of_mem_setIfInBounds a with a | rfl
 ·exact h x a
 ·exact b
theorem Zml (w:World) (hG:w.cell? ⟨0,0,none⟩=some (.int O 655)) (h0:0<w.heap.size) :
  Calls prog 21 #[] w fun e w'=>e=Y (.bool true)/\Bl w w':=by
 have bc:(w.alloc (G #[.int O 0,.int O 0,I none 0 0,I none 0 0] 46)).heap.size=w.heap.size+1:=ax ..;have b0:=(Blk.new w 46 #[.int O 0,.int O 0,I none 0 0,I none 0 0]).alloc (G #[iI 0,iI 7,iI 2,iI 3,iI 1,iI 4,iI (-1),iI 0,iI 0,iI 0,iI 0,I (some ⟨w.heap.size,0,none⟩) 1 1,nN,nN,nN,iI 0,iI 0,nN,nN] 48);have b1:=Blk.new (w.alloc (G #[.int O 0,.int O 0,I none 0 0,I none 0 0] 46)) 48 #[iI 0,iI 7,iI 2,iI 3,iI 1,iI 4,iI (-1),iI 0,iI 0,iI 0,iI 0,I (some ⟨w.heap.size,0,none⟩) 1 1,nN,nN,nN,iI 0,iI 0,nN,nN];rw [bc] at b1;have P2:=(Zab w (G #[.int O 0,.int O 0,I none 0 0,I none 0 0] 46)).alloc (by simp) (G #[iI 0,iI 7,iI 2,iI 3,iI 1,iI 4,iI (-1),iI 0,iI 0,iI 0,iI 0,I (some ⟨w.heap.size,0,none⟩) 1 1,nN,nN,nN,iI 0,iI 0,nN,nN] 48);clear bc;go_enter func21,ntmps21;go_upto_region 2 with fail;generalize (w.alloc (G #[.int O 0,.int O 0,I none 0 0,I none 0 0] 46)).alloc (G #[iI 0,iI 7,iI 2,iI 3,iI 1,iI 4,iI (-1),iI 0,iI 0,iI 0,iI 0,I (some ⟨w.heap.size,0,none⟩) 1 1,nN,nN,nN,iI 0,iI 0,nN,nN] 48)=w2 at *;have a9:=ae (Yhd w2 _ _ b0 b1);clear b0 b1;have bf:=(P2.cell (p:=⟨0,0,none⟩) h0).trans hG;have am:=ah h0 P2.size;clear hG h0;go_wp2_with fail;refine a9.out.mono ?_;rintro e P ⟨C,dv,cv,ev,rfl,hC,aa,hf,K⟩;have P3:=Zaa P2 K P2.size;have bl:=(K.cell (p:=⟨0,0,none⟩) am).trans bf;have av:=ah am K.size;have be:Zbs P w2.heap.size Zbi dv cv ev:=hf.keep (fun p hp=>K.cell hp) (ag _);have aq:=K.size;have H:=hf.one;have m:=Yat 6 [Zbi] 1 1 (Zce (Zna 0 Zbi));have S:(Zqe 6 [Zbi] 1 1 (Zce (Zna 0 Zbi))).log=Zce (Zbo (Zdh Zbi) (Zfe 0)):=rfl;have u:(Zqe 6 [Zbi] 1 1 (Zce (Zna 0 Zbi))).office=1:=rfl;have y:(Zqe 6 [Zbi] 1 1 (Zce (Zna 0 Zbi))).size=1:=rfl;have U:Zbi.known<=(Zqe 6 [Zbi] 1 1 (Zce (Zna 0 Zbi))).tick:=by decide
 have R:Yd3 (Zqe 6 [Zbi] 1 1 (Zce (Zna 0 Zbi))).office (Zqe 6 [Zbi] 1 1 (Zce (Zna 0 Zbi))).tick (Zqe 6 [Zbi] 1 1 (Zce (Zna 0 Zbi))).day (Zqe 6 [Zbi] 1 1 (Zce (Zna 0 Zbi))).size (Zqe 6 [Zbi] 1 1 (Zce (Zna 0 Zbi))).sld:=⟨by decide,by decide,by decide,by decide,by decide⟩
 have J:(Zqe 6 [Zbi] 1 1 (Zce (Zna 0 Zbi))).log<18446744073709551616:=Zcn _ _;have L:(Zqe 6 [Zbi] 1 1 (Zce (Zna 0 Zbi))).map<18446744073709551616:=by decide
 have t:Zfe 0<18446744073709551616:=Zcn _ _;have x:Zie 6<18446744073709551616:=Zcn _ _;have bg:=ae (fun (W:World)=>Zlg 6 (by omega) W);generalize Zqe 6 [Zbi] 1 1 (Zce (Zna 0 Zbi))=h at *;generalize Zfe 0=s at *;generalize Zie 6=key at *;clear a9 K hf bf am P2;have z:=hC.size;have Z1:=Blk.new P 50 #[iI 0,iI 0,iI 0,iI 0,uI 0,uI 0,iI 0,uI 0,iI 0,iI 0,iI 0,iI 0,iI 0,iI 0,iI 0,iI 0,iI 0,iI 0,iI 0,iI 0,nN,nN,nN,nN,iI 0,iI 0,nN,nN,uI 0,nN];go_upto_region 3 with (refine Zao (T:=50) (n:=30) (by kernel_rfl) Z1 rfl _ _ rfl rfl rfl C rfl z aa ?_;intro w4 Y4 g4)
 have P4:=(P3.alloc P3.size (G #[iI 0,iI 0,iI 0,iI 0,uI 0,uI 0,iI 0,uI 0,iI 0,iI 0,iI 0,iI 0,iI 0,iI 0,iI 0,iI 0,iI 0,iI 0,iI 0,iI 0,nN,nN,nN,nN,iI 0,iI 0,nN,nN,uI 0,nN] 50)).grown g4 (aj P3.size (by simp)) (fun k e=>by injection e with e;have:=P3.size;omega);have Q4:=(Zab P (G #[iI 0,iI 0,iI 0,iI 0,uI 0,uI 0,iI 0,uI 0,iI 0,iI 0,iI 0,iI 0,iI 0,iI 0,iI 0,iI 0,iI 0,iI 0,iI 0,iI 0,nN,nN,nN,nN,iI 0,iI 0,nN,nN,uI 0,nN] 50)).grown g4 (by simp) (fun k e=>by injection e with e;omega);have an:=Y4.lt;clear Z1 g4;have Z2:=Blk.new w4 50 #[iI 0,iI 0,iI 0,iI 0,uI 0,uI 0,iI 0,uI 0,iI 0,iI 0,iI 0,iI 0,iI 0,iI 0,iI 0,iI 0,iI 0,iI 0,iI 0,iI 0,nN,nN,nN,nN,iI 0,iI 0,nN,nN,uI 0,nN];have a3:=Y4.alloc (G #[iI 0,iI 0,iI 0,iI 0,uI 0,uI 0,iI 0,uI 0,iI 0,iI 0,iI 0,iI 0,iI 0,iI 0,iI 0,iI 0,iI 0,iI 0,iI 0,iI 0,nN,nN,nN,nN,iI 0,iI 0,nN,nN,uI 0,nN] 50);go_upto_region 4 with (first | (refine Zaw Y4 z _ rfl rfl rfl ?_) | (refine Zao (T:=50) (n:=30) (by kernel_rfl) Z2 rfl _ _ rfl rfl rfl C rfl z aa ?_;intro w5 Y5 g5))
 have X5:=a3.grown g5 (fun e=>by injection e with e;omega);have P5:=(P4.alloc P4.size (G #[iI 0,iI 0,iI 0,iI 0,uI 0,uI 0,iI 0,uI 0,iI 0,iI 0,iI 0,iI 0,iI 0,iI 0,iI 0,iI 0,iI 0,iI 0,iI 0,iI 0,nN,nN,nN,nN,iI 0,iI 0,nN,nN,uI 0,nN] 50)).grown g5 (aj P4.size (by simp)) (fun k e=>by injection e with e;have:=P4.size;omega);have Q5:=(Q4.alloc Q4.size (G #[iI 0,iI 0,iI 0,iI 0,uI 0,uI 0,iI 0,uI 0,iI 0,iI 0,iI 0,iI 0,iI 0,iI 0,iI 0,iI 0,iI 0,iI 0,iI 0,iI 0,nN,nN,nN,nN,iI 0,iI 0,nN,nN,uI 0,nN] 50)).grown g5 (aj Q4.size (by simp)) (fun k e=>by injection e with e;have:=Q4.size;omega);clear Z2 a3 Y4 g5 P4 Q4;have a7:=Y5.cellAt 28 _ hC.salt;have a1:=Y5.frozen 28;have hw:IntKind.u64.wrap ((s:Int)+1)=(((s+1) % 18446744073709551616:Nat):Int):=by
  rw [fu];omega
 have al:(s+1) % 18446744073709551616<18446744073709551616:=ja _ (by omega);have a8:s≠(s+1) % 18446744073709551616:=Yav;have hD:=hC.setSalt ((s+1) % 18446744073709551616);generalize (s+1) % 18446744073709551616=s1 at *;go_upto_region 5 with fail;have Y6:=Y5.set 28 (.int M (s1:Int));have X6:=X5.far (p:=⟨w4.heap.size,28,none⟩) (ip an) (.int M (s1:Int));have P6:=P5.setCell (p:=⟨w4.heap.size,28,none⟩) (aj (aj P3.size (Nat.le_of_lt an)) (ag _)) (.int M (s1:Int));have Q6:=Q5.setCell (p:=⟨w4.heap.size,28,none⟩) (Nat.le_of_lt an) (.int M (s1:Int));have bo:=Zt7 (i:=28) aa (v:=.int M (s1:Int)) rfl;clear X5 Y5 P5 Q5 hw a7 a1;generalize w5.setCell ⟨w4.heap.size,28,none⟩ (.int M (s1:Int))=w6 at *;generalize C.setIfInBounds 28 (.int M (s1:Int))=D at *;generalize hb4:w4.heap.size=n4 at *;clear hb4 w4 w5;have bp:=Y6.lt;have Z3:=Blk.new w6 50 #[iI 0,iI 0,iI 0,iI 0,uI 0,uI 0,iI 0,uI 0,iI 0,iI 0,iI 0,iI 0,iI 0,iI 0,iI 0,iI 0,iI 0,iI 0,iI 0,iI 0,nN,nN,nN,nN,iI 0,iI 0,nN,nN,uI 0,nN];have a5:=X6.alloc (G #[iI 0,iI 0,iI 0,iI 0,uI 0,uI 0,iI 0,uI 0,iI 0,iI 0,iI 0,iI 0,iI 0,iI 0,iI 0,iI 0,iI 0,iI 0,iI 0,iI 0,nN,nN,nN,nN,iI 0,iI 0,nN,nN,uI 0,nN] 50);have bh:=Y6.alloc (G #[iI 0,iI 0,iI 0,iI 0,uI 0,uI 0,iI 0,uI 0,iI 0,iI 0,iI 0,iI 0,iI 0,iI 0,iI 0,iI 0,iI 0,iI 0,iI 0,iI 0,nN,nN,nN,nN,iI 0,iI 0,nN,nN,uI 0,nN] 50);go_upto_region 6 with (first | (refine Zaw X6 z _ rfl rfl rfl ?_) | (refine Zao (T:=50) (n:=30) (by kernel_rfl) Z3 rfl _ _ rfl rfl rfl C rfl z aa ?_;intro w7 Y7 g7))
 have X7:=a5.grown g7 (fun e=>by injection e with e;omega);have D7:=bh.grown g7 (fun e=>by injection e with e;omega);have P7:=(P6.alloc P6.size (G #[iI 0,iI 0,iI 0,iI 0,uI 0,uI 0,iI 0,uI 0,iI 0,iI 0,iI 0,iI 0,iI 0,iI 0,iI 0,iI 0,iI 0,iI 0,iI 0,iI 0,nN,nN,nN,nN,iI 0,iI 0,nN,nN,uI 0,nN] 50)).grown g7 (aj P6.size (by simp)) (fun k e=>by injection e with e;have:=P6.size;omega);have Q7:=(Q6.alloc Q6.size (G #[iI 0,iI 0,iI 0,iI 0,uI 0,uI 0,iI 0,uI 0,iI 0,iI 0,iI 0,iI 0,iI 0,iI 0,iI 0,iI 0,iI 0,iI 0,iI 0,iI 0,nN,nN,nN,nN,iI 0,iI 0,nN,nN,uI 0,nN] 50)).grown g7 (aj Q6.size (by simp)) (fun k e=>by injection e with e;have:=Q6.size;omega);have bx:=Y7.lt;clear Z3 a5 bh X6 Y6 g7 P6 Q6;have hE:=hC.setOffice 2;have bk:w7.cell? ⟨w6.heap.size,13,none⟩=some (.int O Zbi.office):=Y7.cellAt 13 _ (hC.act 4 _ rfl);have a4:=Y7.frozen 13;go_upto_region 7 with fail;have q:=Y7.set 13 (.int O 2);have l:=X7.far (p:=⟨w6.heap.size,13,none⟩) (by show P.heap.size≠w6.heap.size;omega) (.int O 2);have r:=D7.far (p:=⟨w6.heap.size,13,none⟩) (ip bp) (.int O 2);have d:=P7.setCell (p:=⟨w6.heap.size,13,none⟩) (by have:=P3.size;show w.heap.size<=w6.heap.size;omega) (.int O 2);have c:=Q7.setCell (p:=⟨w6.heap.size,13,none⟩) (by show P.heap.size<=w6.heap.size;omega) (.int O 2);clear X7 Y7 D7 P7 Q7 bk a4;generalize w7.setCell ⟨w6.heap.size,13,none⟩ (.int O 2)=w8 at *;have bq:=hE.size;have bn:=hD.size;generalize C.setIfInBounds 13 (.int O 2)=E at *;have ab:Zbi.office=1:=rfl;have b:∀ W,Bl P W->W.cell? ⟨0,0,none⟩=some (.int O 655)/\0<W.heap.size/\w2.heap.size<=W.heap.size/\Zbs W w2.heap.size Zbi dv cv ev:=fun W f=>⟨(f.cell (p:=⟨0,0,none⟩) av).trans bl,ah av f.size,aj aq f.size,be.keep (fun p hp=>f.cell (ah hp aq)) (ag _)⟩
 have RC:=ae (fun (W:World)=>Zpg hC H W);have RD:=ae (fun (W:World)=>Zpg hD H W);have RE:=ae (fun (W:World)=>Zpg hE H W);have a0:(key+1) % 18446744073709551616<18446744073709551616:=ja _ (by omega);have af:key≠(key+1) % 18446744073709551616:=Yav;have bs:IntKind.u64.wrap ((key:Int)+1)=(((key+1) % 18446744073709551616:Nat):Int):=by
  rw [fu];omega
 generalize (key+1) % 18446744073709551616=a2 at *;have CC:=ae (fun (W:World) (f:Bl P W)=>Zhk (Zkg h 0 Zbi dv cv ev s (I none 0 0)) Ziy key x y U t J L R W (b W f).1 (b W f).2.1 w2.heap.size (b W f).2.2.1 (b W f).2.2.2);have CD:=ae (fun (W:World) (f:Bl P W)=>Zhk (Zkg h 0 Zbi dv cv ev s1 (I none 0 0)) Ziy key x y U al J L R W (b W f).1 (b W f).2.1 w2.heap.size (b W f).2.2.1 (b W f).2.2.2);have CK:=ae (fun (W:World) (f:Bl P W)=>Zhk (Zkg h 0 Zbi dv cv ev s (I none 0 0)) Ziy a2 a0 y U t J L R W (b W f).1 (b W f).2.1 w2.heap.size (b W f).2.2.1 (b W f).2.2.2);have CE:=ae (fun (W:World) (f:Bl P W)=>Zhk (Zkg h 0 { Zbi with office:=2 } dv cv ev s (I none 0 0)) Ya1 key x y U t J L R W (b W f).1 (b W f).2.1 w2.heap.size (b W f).2.2.1 (b W f).2.2.2);rw [Zk6 Zbi (ab.trans u.symm),Yau m,Yel S] at CC;rw [Zk6 Zbi (ab.trans u.symm),Yau m,Yg9 S t al a8] at CD;rw [Zk6 Zbi (ab.trans u.symm),Yim m x a0 J L af] at CK;rw [Yg8 { Zbi with office:=2 } (fun e=>by rw [u] at e;cases e)] at CE;unfold Zcq at CC CD CK CE;simp only [if_true,if_neg (show ¬ ((22:Int)=0) by decide),if_neg (show ¬ ((23:Int)=0) by decide)] at CC CD CK CE;generalize cop h 0 { Zbi with office:=2 } dv cv ev s (I none 0 0)=E1 at *;generalize cop h 0 Zbi dv cv ev s (I none 0 0)=C1 at *;generalize cop h 0 Zbi dv cv ev s1 (I none 0 0)=D1 at *;have a6:=hC.path;clear b hC hD hE aa bo be bl av aq H m S u y U R J L t al a8 x a0 af ab P3;go_upto_region 8 with (go_at_call 6;refine (bg.out _).mono ?_;rintro e wn ⟨rfl,a⟩;replace l:=l.keep a;replace r:=r.keep a;replace q:=q.keep a;replace d:=Zaa d a d.size;replace c:=Zaa c a c.size;clear a)
 have ad:∀ W,Blk W P.heap.size 50 C->W.cell? ⟨P.heap.size,29,none⟩=some (I none 0 0):=fun W f=>f.cellAt 29 _ a6;have hc:=ad _ l;clear ad;go_wp2_with (refine Zaw l z _ rfl rfl rfl ?_);refine (RC.out _).mono ?_;rintro e wn ⟨rfl,a⟩;replace l:=l.keep a;replace r:=r.keep a;replace q:=q.keep a;replace d:=Zaa d a d.size;replace c:=Zaa c a c.size;clear a;go_wp2_with fail;refine (CC.out _ c).mono ?_;rintro e wn ⟨rfl,a⟩;replace l:=l.keep a;replace r:=r.keep a;replace q:=q.keep a;replace d:=Zaa d a d.size;replace c:=Zaa c a c.size;clear a;go_wp2_with (refine Zaw r bn _ rfl rfl rfl ?_);refine (RD.out _).mono ?_;rintro e wn ⟨rfl,a⟩;replace l:=l.keep a;replace r:=r.keep a;replace q:=q.keep a;replace d:=Zaa d a d.size;replace c:=Zaa c a c.size;clear a;go_wp2_with fail;refine (CD.out _ c).mono ?_;rintro e wn ⟨rfl,a⟩;replace l:=l.keep a;replace r:=r.keep a;replace q:=q.keep a;replace d:=Zaa d a d.size;replace c:=Zaa c a c.size;clear a;go_wp2_with (refine Zaw l z _ rfl rfl rfl ?_);refine (RC.out _).mono ?_;rintro e wn ⟨rfl,a⟩;replace l:=l.keep a;replace r:=r.keep a;replace q:=q.keep a;replace d:=Zaa d a d.size;replace c:=Zaa c a c.size;clear a;go_wp2_with fail;refine (CK.out _ c).mono ?_;rintro e wn ⟨rfl,a⟩;replace l:=l.keep a;replace r:=r.keep a;replace q:=q.keep a;replace d:=Zaa d a d.size;replace c:=Zaa c a c.size;clear a;go_wp2_with (refine Zaw q bq _ rfl rfl rfl ?_);refine (RE.out _).mono ?_;rintro e wn ⟨rfl,a⟩;replace l:=l.keep a;replace r:=r.keep a;replace q:=q.keep a;replace d:=Zaa d a d.size;replace c:=Zaa c a c.size;clear a;go_wp2_with fail;refine (CE.out _ c).mono ?_;rintro e wn ⟨rfl,a⟩;replace l:=l.keep a;replace r:=r.keep a;replace q:=q.keep a;replace d:=Zaa d a d.size;replace c:=Zaa c a c.size;clear a;go_wp2_with fail;go_ret;exact ⟨rfl,d⟩
def Zgh (cs:Array Value):Nat->List Value->Array Value
 | _,[]=>cs
 | o,v::r=>Zgh (cs.setIfInBounds o v) (o+1) r
theorem Blk.sets {g:Nat} {t:TypeId}:∀ (vs:List Value) (o:Nat) {W:World} {cs:Array Value},Blk W g t cs->Blk (W.setCells g o vs) g t (Zgh cs o vs)
 | [],_,_,_,h=>h
 | v::r,o,_,_,h=>Blk.sets r (o+1) (h.set o v)
theorem Zcu (g:Nat):∀ (vs:List Value) (o:Nat) (W:World),W.grownBy (W.setCells g o vs) (some g)
 | [],_,_=>⟨rfl,rfl,rfl,ag _,fun _ _ _=>rfl⟩
 | v::r,o,W=>Zac (Zaj W g o v) (Zcu g r (o+1) _) (fun _ e _=>e)
structure Ya2 (X:Array Value) (h:Hd) (n m:Nat):Prop where
 size:X.size=64
 at_:∀ (k j:Nat) (v:Value),k<8->(if k<m then Zn1 h n k else h).vals[j]?=some v->X[8 * k+j]?=some v
def Yip (h:Hd) (n:Nat) (k:Nat):Value:=(Zn1 h n k).vals.getD k undef
theorem Zx9 (h:Hd) (n:Nat) {k:Nat} (c:k<8) (a:j≠k):(Zn1 h n k).vals[j]?=h.vals[j]?:=by
 have e:k=0∨k=1∨k=2∨k=3∨k=4∨k=5∨k=6∨k=7:=by omega
 by_cases d:j<8
 ·have b:j=0∨j=1∨j=2∨j=3∨j=4∨j=5∨j=6∨j=7:=by omega
  rcases e with rfl | rfl | rfl | rfl | rfl | rfl | rfl | rfl <;> rcases b with rfl | rfl | rfl | rfl | rfl | rfl | rfl | rfl <;> first | rfl | exact absurd rfl a
 ·have s1:(Zn1 h n k).vals.size=8:=rfl;have s2:h.vals.size=8:=rfl;rw [gw (by omega),gw (by omega)]
theorem Ya3 (h:Hd) (n:Nat) {k:Nat} (a:k<8):(Zn1 h n k).vals[k]?=some (Yip h n k):=by
 have e:k=0∨k=1∨k=2∨k=3∨k=4∨k=5∨k=6∨k=7:=by omega
 rcases e with rfl | rfl | rfl | rfl | rfl | rfl | rfl | rfl <;> rfl
theorem Yhe {h:Hd} {v:Value} (a:h.vals[j]?=some v):j<8:=by
 have s2:h.vals.size=8:=rfl;rcases ir j 8 with h1 | h1
 ·exact h1
 ·rw [gw (by omega)] at a;cases a
theorem Ya2.step {h:Hd} {n k:Nat} (m:Ya2 X h n k) (l:k<8):Ya2 (X.setIfInBounds (8 * k+k) (Yip h n k)) h n (k+1):=by
 obtain ⟨h1,c⟩:=m;refine ⟨by simp [h1],fun k2 j v b a=>?_⟩;have q:=Yhe a;by_cases e:k2=k
 ·subst e;rw [if_pos (by omega)] at a;by_cases d:j=k2
  ·subst d;rw [Ya3 h n l] at a;rw [eu (by omega)];exact a
  ·rw [Zx9 h n l d] at a;rw [bw (by omega)];refine c k2 j v b ?_;rw [if_neg (by omega)];exact a
 ·rw [bw (by omega)];refine c k2 j v b ?_;by_cases f:k2<k
  ·rw [if_pos (by omega)] at a;rw [if_pos f];exact a
  ·rw [if_neg (by omega)] at a;rw [if_neg f];exact a
theorem Ya2.range {t:TypeId} {h:Hd} {n:Nat} (b:Ya2 X h n 8) (c:Blk W g t X) {k:Nat} (a:k<8):W.rangeAt g (k * 8) (Zn1 h n k).vals.toList:=fun j v d=>by
 rw [Nat.mul_comm];refine c.cellAt _ _ (b.at_ k j v a ?_);rw [if_pos a,<- dj];exact d
theorem Yfw {ps:List Nat} {k:Nat} (a:k<ps.length):(us ps)[k]?=some (.int M (ps[k]:Int)):=by simp [us,a]
theorem Ya4 {base:Nat} {c:Nat} {ps:List Nat} (h:W.ownsRow base 26 1 (I A ps.length c) ps.length (us ps)) (k:0<ps.length):∃ g a,A=some ⟨g,0,none⟩/\base<=g/\W.heap[g]?=some (G a 26)/\ps.length<=c:=by
 rcases h.2 with ⟨_,e⟩ | ⟨g,cap,a,e,d,f,b,_⟩
 ·omega
 ·injection e with e1 _ e3;subst e1 e3;exact ⟨g,a,rfl,d,f,b⟩
theorem Ya5 (w:World):Calls prog 24 #[I none 0 0] w fun e w'=>e=Y (I none 0 0)/\w'=w:=by
 have a:∀ W:World,(binOp .eql 27 (I none 0 0) (I none 0 0)).run prog W=.ok (.bool true) W:=fun W=>jk W _ _ none 0 0 0 0 underlying27;go_enter func24,ntmps24;go_wp2_with fail;go_ret;exact ⟨rfl,rfl⟩
theorem Ya6 (base:Nat) (v:Value) (ps:List Nat) (hl:ps.length<=1000) (w:World) (h:w.ownsRow base 26 1 v ps.length (us ps)) :
  Calls prog 24 #[v] w fun e w'=>∃ z,e=Y z/\w'.ownsRow w.heap.size 26 1 z ps.length (us ps)/\Bl w w':=by
 rcases h.2 with ⟨rfl,H⟩ | ⟨b,c,J,rfl,_⟩
 ·have E:ps=[]:=bj H;subst E;refine (Ya5 w).mono ?_;rintro e w' ⟨rfl,rfl⟩;exact ⟨_,rfl,d8 _ _ _ _,ap _ _⟩
 ·obtain ⟨i0,hi,m,t,q⟩:=info_parts info26;have K:∀ W:World,(binOp .eql 27 (I (some ⟨b,0,none⟩) ps.length c) (I none 0 0)).run prog W=.ok (.bool false) W:=fun W=>jk W _ _ (some ⟨b,0,none⟩) ps.length c 0 0 underlying27;have l:=Zc7 ps;have a:∀ j u,(us ps)[j]?=some u->(w.alloc (G #[] 26)).cell? ((⟨b,0,none⟩:Addr).add j)=some u:=fun j u f=>by
   have R:=Zap f;rw [Addr.add_lit,cz];exact Lib.cell?_alloc_some _ ((h.cellAt j (by omega)).trans f)
  have s:=ae a;have L:=gr w #[] 0 (base:=w.heap.size) (e:=26) (size:=1) (ag _) (bi _) rfl;have y:=Zab w (G #[] 26);clear a h;go_enter func24,ntmps24;go_wp2_with (at_builtin;refine wpList_append_own _ rfl _ _ 27 rfl w.heap.size 26 i0 (.int M 0) 1 8 underlying27 hi m t q rfl (by decide) (I (some ⟨w.heap.size,0,none⟩) 0 0) 0 [] rfl L ⟨b,0,none⟩ ps.length c (us ps) rfl (by rw [l,iu]) s.out (fun u f=>by obtain ⟨x,_,rfl⟩:=List.mem_map.1 f;rfl) (by unfold maxLen;omega) (by omega) (by simp) ?_;intro S P d r _);rw [cz,dm] at d;go_ret;exact ⟨_,rfl,d,y.grown r y.size (fun k e=>by injection e with e;have e:w.heap.size=k:=e;omega)⟩
theorem Zwb {base:Nat} {n c:Nat} {d:List Value} (h:w.ownsRow base 26 1 (I A n c) n d):n<=c:=by
 rcases h.2 with ⟨e,f⟩ | ⟨g,cap,a,e,_,_,b,_⟩
 ·omega
 ·injection e with _ _ e3;omega
theorem Zmm {base:Nat} {c:Nat} {ps:List Nat} (h:w.ownsRow base 26 1 (I A ps.length c) ps.length (us ps)):Zgq w A ps:=fun k b=>by
 obtain ⟨g,a,rfl,_,_,_⟩:=Ya4 h (by omega);exact ⟨g,0,rfl,by rw [cz,h.cellAt k (by omega)];exact Yfw b⟩
def Za4 (n:Nat):Nat:=2 ^ Nat.log2 (n - 1)
theorem Zwc {n:Nat} (d:2<=n) (h1:2 ^ j<n) (c:¬ 2 * 2 ^ j<n):2 ^ j=Za4 n:=by
 have a:j<=Nat.log2 (n - 1):=(Nat.le_log2 (by omega)).2 (by omega);have b:Nat.log2 (n - 1)<j+1:=(Nat.log2_lt (by omega)).2 (by rw [Nat.pow_succ];omega);have e:j=Nat.log2 (n - 1):=by omega
 unfold Za4;rw [<- e]
theorem Zwd {n:Nat} (h:2<=n):1<=Za4 n/\Za4 n<n:=by
 have a:2 ^ Nat.log2 (n - 1)<=n - 1:=Nat.log2_self_le (by omega);have b:0<2 ^ Nat.log2 (n - 1):=Nat.two_pow_pos _;unfold Za4;omega
def Zbj:Nat->Nat->Nat->Nat->List Nat->Nat
 | 0,_,_,_,_=>0
 | f+1,i,n,h,ps=>if n=1∨ps.length=0 then Zce h else if i<Za4 n then Zjg (Zbj f i (Za4 n) h ps.dropLast) (ps.getD (ps.length - 1) 0) else Zjg (ps.getD (ps.length - 1) 0) (Zbj f (i - Za4 n) (n - Za4 n) h ps.dropLast)
def Zig:Nat->Nat->Nat->Nat->Bool
 | 0,_,_,_=>false
 | f+1,i,n,m=>if n=1∨m=0 then decide (n=1/\m=0) else if i<Za4 n then Zig f i (Za4 n) (m - 1) else Zig f (i - Za4 n) (n - Za4 n) (m - 1)
theorem Zrx (f i n h:Nat) (ps:List Nat):Zbj f i n h ps<18446744073709551616:=by
 cases f with
 | zero=>simp [Zbj]
 | succ f =>
  unfold Zbj;split
  ·exact Zcn _ _
  ·split <;> exact Zcn _ _
theorem Yes (n:Nat) (m:2<=n) (hn:n<=65536) (w:World) :
  Calls prog 158 #[.int O (n:Int)] w fun e w'=>e=Y (.int O (Za4 n:Int))/\w'=w:=by
 have u:=ae (fun (j:Nat) h1 s=>Zwc (n:=n) (j:=j) m h1 s);go_enter func158,ntmps158;go_wp2_with fail;go_loopw [3] (fun j W=>∃ k:Nat,j=.int O (k:Int)/\(∃ q,k=2 ^ q)/\1<=k/\k<n/\w=W) (fun j _=>n - (intOf j).toNat)
 case atStart=>exact ⟨1,rfl,⟨0,rfl⟩,by omega,by omega,rfl⟩
 case round =>
  obtain ⟨k,rfl,a,t,b,rfl⟩:=hrel;have f:=ae a;clear a;have x:IntKind.i64.wrap (2 * (k:Int))=((2 * k:Nat):Int):=by rw [az];omega
  have v:IntKind.i64.wrap ((k:Int) * 2)=((2 * k:Nat):Int):=by rw [az];omega
  by_cases d:2 * k<n
  ·have hd:decide (((2 * k:Nat):Int)<(n:Int))=true:=decide_eq_true (by omega);have c:=ae (show ∃ q,2 * k=2 ^ q by
    obtain ⟨q,a⟩:=f.out;exact ⟨q+1,by rw [Nat.pow_succ];omega⟩)
   generalize h2k:2 * k=k2 at *;go_wp2_with fail;go_roundw
   case rel=>exact ⟨k2,by go_num,c.out,by omega,by omega,trivial⟩
   case measure=>simp [intOf];omega
  ·have hd:decide (((2 * k:Nat):Int)<(n:Int))=false:=decide_eq_false (by omega);have l:k=Za4 n:=by
    obtain ⟨q,rfl⟩:=f.out;exact u.out q b d
   have r:=ae l;clear l;generalize h2k:2 * k=k2 at *;go_wp2_with fail;go_ret;exact ⟨by rw [<- r.out];rfl,rfl⟩
theorem Zj0 {a:Nat} {v:Value} (h:Below w.heap.size (w.setCell ⟨a,0,none⟩ v) w'):w.grownBy w' (some a) :=
 ⟨h.os,h.tape,h.output,aj (by simp [World.setCell]) h.size,fun k c b=>(h.block k c).trans (je w ⟨a,0,none⟩ v k (fun e=>b (by rw [e])))⟩
theorem Zya (h:Nat) (x:h<18446744073709551616) (i n m:Nat) (hm:m<=100) (v:n=1∨m=0) (A:Option Addr) (c b z:Nat) (f:Value) (w:World) (d:Blk w b 4 #[.bool true]) (a:Blk w z 26 #[.int M (h:Int)]) :
  Calls prog 156 #[iI (i:Int),iI (n:Int),I A m c,Z (some ⟨b,0,none⟩),Z (some ⟨z,0,none⟩),f] w fun e w'=>e=Y (.int M (Zce h:Int))/\w.grownBy w' (some b)/\Blk w' b 4 #[.bool (decide (n=1/\m=0))]:=by
 have y:=ae (fun W=>Zvl h x W);have hc:=d.c1;have hd:=a.c1;have r:z≠b:=a.ne d (by decide);by_cases q:n=1
 ·subst q;by_cases k:m=0
  ·subst k;have t:=(a.far (p:=⟨b,0,none⟩) r (.bool true)).c1;have s:=ae (fun (W:World) (u:Below w.heap.size (w.setCell ⟨b,0,none⟩ (.bool true)) W)=>(d.set1 (.bool true)).under u (d.lt));clear x d a;go_enter func156,ntmps156;go_wp2_with fail;refine (y.out _).mono ?_;rintro e w' ⟨rfl,a⟩;have a:Below w.heap.size (w.setCell ⟨b,0,none⟩ (.bool true)) w':=by simpa [Bl] using a
   have l:=ae a;clear a;go_wp2_with fail;go_ret;exact ⟨rfl,Zj0 l.out,s.out _ l.out⟩
  ·have t:=(a.far (p:=⟨b,0,none⟩) r (.bool false)).c1;have s:=ae (fun (W:World) (u:Below w.heap.size (w.setCell ⟨b,0,none⟩ (.bool false)) W)=>(d.set1 (.bool false)).under u (d.lt));have H:IntKind.i64.wrap ((m:Int) - 1)=((m - 1:Nat):Int):=by rw [az];omega
   have el:decide (((m - 1:Nat):Int)<0)=false:=decide_eq_false (by omega);have E:=ae (show decide (1=1/\m=0)=false by simp [k]);clear x d a k v;go_enter func156,ntmps156;go_wp2_with fail;refine (y.out _).mono ?_;rintro e w' ⟨rfl,a⟩;have a:Below w.heap.size (w.setCell ⟨b,0,none⟩ (.bool false)) w':=by simpa [Bl] using a
   have l:=ae a;clear a;go_wp2_with fail;go_ret;exact ⟨rfl,Zj0 l.out,by rw [E.out];exact s.out _ l.out⟩
 ·have k:m=0:=by omega
  subst k;have t:=(a.far (p:=⟨b,0,none⟩) r (.bool false)).c1;have s:=ae (fun (W:World) (u:Below w.heap.size (w.setCell ⟨b,0,none⟩ (.bool false)) W)=>(d.set1 (.bool false)).under u (d.lt));have J:((n:Int) == 1)=false:=by rw [beq_eq_false_iff_ne];omega
  have E:=ae (show decide (n=1/\0=0)=false by simp [q]);clear x d a q v;go_enter func156,ntmps156;go_wp2_with fail;refine (y.out _).mono ?_;rintro e w' ⟨rfl,a⟩;have a:Below w.heap.size (w.setCell ⟨b,0,none⟩ (.bool false)) w':=by simpa [Bl] using a
  have l:=ae a;clear a;go_wp2_with fail;go_ret;exact ⟨rfl,Zj0 l.out,by rw [E.out];exact s.out _ l.out⟩
def Yfx (W:World) (g:Nat) (A:Option Addr) (ps:List Nat):Prop:=∀ (k:Nat) (hk:k<ps.length),∃ b o,A=some ⟨b,o,none⟩/\b≠g/\W.cell? ⟨b,o+k,none⟩=some (.int M (ps[k]:Int))
theorem Yfx.keep {ps:List Nat} (h:Yfx W g A ps) (c:Bl W W'):Yfx W' g A ps:=fun k d=>by
 obtain ⟨b,o,e,a,hc⟩:=h k d;exact ⟨b,o,e,a,(c.cell (bu _ _ hc)).trans hc⟩
theorem Yfx.drop {ps:List Nat} (h:Yfx W g A ps):Yfx W g A ps.dropLast:=fun k c=>by
 rw [List.length_dropLast] at c;obtain ⟨b,o,e,a,hc⟩:=h k (by omega);exact ⟨b,o,e,a,by rw [List.getElem_dropLast];exact hc⟩
theorem Ya7 (h:Nat) (hh:h<18446744073709551616) (v bh bf:Nat) (f:Nat):∀ (i n:Nat) (ps:List Nat) (A:Option Addr) (c:Nat) (w:World),i<n->n<=65536->ps.length<f->ps.length<=100->ps.length<=c->Zbw ps->Yfx w v A ps->Yem w v bh bf h ->
  Calls prog 156 #[iI (i:Int),iI (n:Int),I A ps.length c,Z (some ⟨v,0,none⟩),Z (some ⟨bh,0,none⟩),Z (some ⟨bf,0,none⟩)] w fun e w'=>e=Y (.int M (Zbj f i n h ps:Int))/\w.grownBy w' (some v)/\Blk w' v 4 #[.bool (Zig f i n ps.length)]:=by
 induction f with
 | zero=>intro i n ps A c w _ _ hf;omega
 | succ f ih =>
  intro i n ps A c w hi hn ab hp hc hw hr y;by_cases h1:n=1∨ps.length=0
  ·rw [Zbj,if_pos h1,Zig,if_pos h1];exact Zya h hh i n ps.length hp h1 A c v bh _ w y.1 y.2.1
  ·obtain ⟨b,o,rfl,al,r⟩:=hr (ps.length - 1) (by omega);have hb:=Zwd (n:=n) (by omega);have H:ps.dropLast.length=ps.length - 1:=List.length_dropLast;have HH:=ae (fun (W:World)=>Yes n (by omega) hn W);have aa:ps.getD (ps.length - 1) 0=ps[ps.length - 1]'(by omega):=by
    simp [List.getD,show ps.length - 1<ps.length by omega]
   have hx:=hw (ps[ps.length - 1]'(by omega)) (aw _);have e2:Zbj (f+1) i n h ps=if i<Za4 n then Zjg (Zbj f i (Za4 n) h ps.dropLast) (ps[ps.length - 1]'(by omega)) else Zjg (ps[ps.length - 1]'(by omega)) (Zbj f (i - Za4 n) (n - Za4 n) h ps.dropLast):=by
    rw [Zbj];rw [if_neg h1,aa]
   have e3:Zig (f+1) i n ps.length=if i<Za4 n then Zig f i (Za4 n) (ps.length - 1) else Zig f (i - Za4 n) (n - Za4 n) (ps.length - 1):=by
    rw [Zig];rw [if_neg h1]
   have z:=Zny hw;have J:∀ W,w.grownBy W (some v)->W.cell? ⟨b,o+(ps.length - 1),none⟩=some (.int M ((ps[ps.length - 1]'(by omega):Nat):Int)):=fun W E=>(dc (a:=⟨b,o+(ps.length - 1),none⟩) (E.block b (bu _ _ r) (fun e=>al (by injection e)))).trans r;have HL:=ae J;have en:((n:Int) == 1)=false:=by rw [beq_eq_false_iff_ne];omega
   have el:decide (((ps.length - 1:Nat):Int)<0)=false:=decide_eq_false (by omega);have aq:IntKind.i64.wrap ((ps.length:Int) - 1)=((ps.length - 1:Nat):Int):=by rw [az];omega
   have am:bf≠v:=y.2.2.ne y.1 (by decide);have ad:=ae (fun (W:World) (E:w.grownBy W (some v))=>(y.2.2.grown E (fun e=>am (by injection e))).c1);by_cases hk:i<Za4 n
   ·rw [if_pos hk] at e2 e3;have HI:=ae (fun (W:World) (E:Bl w W)=>ih i (Za4 n) ps.dropLast (some ⟨b,o,none⟩) c W hk (by omega) (by omega) (by omega) (by omega) z (hr.drop.keep E) (y.keep E));rw [H] at HI;have HN:=ae (fun (W:World)=>Zvm (Zbj f i (Za4 n) h ps.dropLast) (ps[ps.length - 1]'(by omega)) (Zrx _ _ _ _ _) hx W);rw [<- e2] at HN;rw [<- e3] at HI;have af:decide ((i:Int)<(Za4 n:Int))=true:=decide_eq_true (by omega);have an:ps.length - 1<ps.length:=by omega
    clear e2 e3 H hr y hw z ih J r aa hx ab;generalize Zbj (f+1) i n h ps=R at *;generalize Zbj f i (Za4 n) h ps.dropLast=RA at *;generalize Zig (f+1) i n ps.length=ft at *;generalize ps[ps.length - 1]'(by omega)=x at *;generalize Za4 n=k at *;generalize ps.length - 1=m at *;generalize ps.length=q at *;go_enter func156,ntmps156;go_wp2_with fail;refine (HH.out _).mono ?_;rintro e s ⟨rfl,rfl⟩;go_upto_region 7 with fail;refine wp_region_held_drew (S:=(fun V=>World.grownBy s V (some v))) (by kernel_rfl) ?_ (fun d=>?_)
    ·first | done | ((try dsimp only);exact Zaf (ap s.heap.size s).drew)
    have PW:=(ap s.heap.size s).drew;generalize s.drew=wd at *;refine th 0 37 rfl (fun _ l=>ad.out _ l) ?_;refine tq 1 38 rfl ?_;refine tq 2 39 rfl ?_;refine tq 3 40 rfl ?_;refine tq 4 41 rfl ?_;refine tq 5 42 rfl ?_ (hy:=by intro w' l;(try dsimp only at l);refine Zd9 underlying27 Zfg _ _ _ _ _ _ (.tmp 40) (.tmp 41) b o q c m ?_ ?_ ?_ _;rfl;rfl;omega;try (with_reducible rfl));refine tq 7 44 rfl ?_;refine tq 8 45 rfl ?_;refine tq 9 46 rfl ?_;refine th 10 47 rfl (fun _ l=>HL.out _ l) ?_;refine rd 6 (some 43) rfl fun K u=>?_;go_simp;(refine (HI.out _ PW).mono ?_;rintro e w2 ⟨rfl,P,L⟩);refine u.out _ _ (Zac (Zaf PW) P (fun k e _=>e)) fun d=>?_;clear u K;(try simp only [pS,pB,pZ,pC]);refine rd 11 (some 48) rfl fun K u=>?_;go_simp;(refine (HN.out _).mono ?_;rintro e w3 ⟨rfl,t⟩);refine u.out _ _ ?_ (fun d=>?_)
    ·first | done | ((try dsimp only);exact Zac d (Zaf (row:=none) t) (fun k e _=>by cases e))
    clear u K;(try simp only [pS,pB,pZ,pC]);have U:=L.keep t;refine tq 12 9 rfl ?_;refine dn ?_;go_wp2_with fail;go_ret;exact ⟨rfl,d,U⟩
   ·rw [if_neg hk] at e2 e3;have HI:=ae (fun (W:World) (E:Bl w W)=>ih (i - Za4 n) (n - Za4 n) ps.dropLast (some ⟨b,o,none⟩) c W (by omega) (by omega) (by omega) (by omega) (by omega) z (hr.drop.keep E) (y.keep E));rw [H] at HI;have HN:=ae (fun (W:World)=>Zvm (ps[ps.length - 1]'(by omega)) (Zbj f (i - Za4 n) (n - Za4 n) h ps.dropLast) hx (Zrx _ _ _ _ _) W);rw [<- e2] at HN;rw [<- e3] at HI;have af:decide ((i:Int)<(Za4 n:Int))=false:=decide_eq_false (by omega);have an:ps.length - 1<ps.length:=by omega
    have av:IntKind.i64.wrap ((i:Int) - (Za4 n:Int))=((i - Za4 n:Nat):Int):=by rw [az];omega
    have a0:IntKind.i64.wrap ((n:Int) - (Za4 n:Int))=((n - Za4 n:Nat):Int):=by rw [az];omega
    clear e2 e3 H hr y hw z ih J r aa hx ab;generalize Zbj (f+1) i n h ps=R at *;generalize Zig (f+1) i n ps.length=ft at *;generalize i - Za4 n=i2 at *;generalize n - Za4 n=n2 at *;generalize Zbj f i2 n2 h ps.dropLast=RA at *;generalize ps[ps.length - 1]'(by omega)=x at *;generalize Za4 n=k at *;generalize ps.length - 1=m at *;generalize ps.length=q at *;go_enter func156,ntmps156;go_wp2_with fail;refine (HH.out _).mono ?_;rintro e s ⟨rfl,rfl⟩;go_upto_region 8 with fail;refine wp_region_held_drew (S:=(fun V=>World.grownBy s V (some v))) (by kernel_rfl) ?_ (fun d=>?_)
    ·first | done | ((try dsimp only);exact Zaf (ap s.heap.size s).drew)
    have PW:=(ap s.heap.size s).drew;generalize s.drew=wd at *;refine tq 0 49 rfl ?_;refine tq 1 50 rfl ?_;refine tq 2 51 rfl ?_;refine th 3 52 rfl (fun _ l=>HL.out _ l) ?_;refine th 4 53 rfl (fun _ l=>ad.out _ l) ?_;refine tq 5 54 rfl ?_;refine tq 6 55 rfl ?_;refine tq 7 56 rfl ?_;refine tq 8 57 rfl ?_;refine tq 9 58 rfl ?_;refine tq 10 59 rfl ?_;refine tq 11 60 rfl ?_;refine tq 12 61 rfl ?_;refine tq 13 62 rfl ?_ (hy:=by intro w' l;(try dsimp only at l);refine Zd9 underlying27 Zfg _ _ _ _ _ _ (.tmp 60) (.tmp 61) b o q c m ?_ ?_ ?_ _;rfl;rfl;omega;try (with_reducible rfl));refine rd 14 (some 63) rfl fun K u=>?_;go_simp;(refine (HI.out _ PW).mono ?_;rintro e w2 ⟨rfl,P,L⟩);refine u.out _ _ (Zac (Zaf PW) P (fun k e _=>e)) fun d=>?_;clear u K;(try simp only [pS,pB,pZ,pC]);refine rd 15 (some 64) rfl fun K u=>?_;go_simp;(refine (HN.out _).mono ?_;rintro e w3 ⟨rfl,t⟩);refine u.out _ _ ?_ (fun d=>?_)
    ·first | done | ((try dsimp only);exact Zac d (Zaf (row:=none) t) (fun k e _=>by cases e))
    clear u K;(try simp only [pS,pB,pZ,pC]);have U:=L.keep t;refine tq 16 9 rfl ?_;refine dn ?_;go_wp2_with fail;go_ret;exact ⟨rfl,d,U⟩
def Yfy (root:Nat) (i n:Int) (h:Nat) (ps:List Nat):Int :=
 if n<1∨65536<n∨i<0∨n<=i then 5 else if root=Zbj (ps.length+1) i.toNat n.toNat h ps/\Zig (ps.length+1) i.toNat n.toNat ps.length=true then 0 else 10
theorem Zgq.out {ps:List Nat} (h:Zgq W A ps) (a:Bl W W') (d:W.heap.size<=g):Yfx W' g A ps:=fun k c=>by
 obtain ⟨b,o,e,hc⟩:=h k c;have hl:=bu _ _ hc;exact ⟨b,o,e,by have:b<W.heap.size:=hl;omega,(a.cell hl).trans hc⟩
theorem Zry (a h:Nat) (i n:Int) (hd:n<1∨65536<n∨i<0∨n<=i) (A:Option Addr) (m c:Nat) (w:World) :
  Calls prog 117 #[.int M (a:Int),.int O i,.int O n,.int M (h:Int),I A m c] w fun e w'=>e=Y (.int O 5)/\Bl w w':=by
 have b:=Zab w (G #[.int M (h:Int)] 26);by_cases h1:n<1
 ·have q:=decide_eq_true h1;clear hd;go_enter func117,ntmps117;go_wp2_with fail;go_ret;exact ⟨rfl,b⟩
 have q:=decide_eq_false h1;by_cases d:65536<n
 ·have k:=decide_eq_true d;clear hd;go_enter func117,ntmps117;go_wp2_with fail;go_ret;exact ⟨rfl,b⟩
 have k:=decide_eq_false d;by_cases f:i<0
 ·have l:=decide_eq_true f;clear hd;go_enter func117,ntmps117;go_wp2_with fail;go_ret;exact ⟨rfl,b⟩
 have l:=decide_eq_false f;have r:decide (n<=i)=true:=decide_eq_true (by omega);clear hd h1 d f;go_enter func117,ntmps117;go_wp2_with fail;go_ret;exact ⟨rfl,b⟩
theorem Zt8 (a:Nat) (i n h:Nat) (hi:i<n) (hn:n<=65536) (J:h<18446744073709551616) (ps:List Nat) (H:ps.length<=100) (L:Zbw ps) (A:Option Addr) (c:Nat) (hc:ps.length<=c) (w:World) (hr:Zgq w A ps) :
  Calls prog 117 #[.int M (a:Int),.int O (i:Int),.int O (n:Int),.int M (h:Int),I A ps.length c] w fun e w'=>e=Y (.int O (if a=Zbj (ps.length+1) i n h ps/\Zig (ps.length+1) i n ps.length=true then 0 else 10))/\Bl w w':=by
 obtain ⟨aa,f⟩:∃ z:Int,z=if a=Zbj (ps.length+1) i n h ps/\Zig (ps.length+1) i n ps.length=true then 0 else 10:=⟨_,rfl⟩;rw [<- f];have b:=ae f;clear f;have S:=(Blk.new w 26 #[.int M (h:Int)]).alloc (G #[.bool true] 4);have u:=Blk.new (w.alloc (G #[.int M (h:Int)] 26)) 4 #[.bool true];rw [ax] at u;have K:=(Zab w (G #[.int M (h:Int)] 26)).alloc (by simp) (G #[.bool true] 4)
 have v:=S.alloc (G #[.func (.func 156) #[] #[Z (some ⟨w.heap.size+1,0,none⟩),Z (some ⟨w.heap.size,0,none⟩),Z (some ⟨w.heap.size+1+1,0,none⟩)]] 194);have y:=u.alloc (G #[.func (.func 156) #[] #[Z (some ⟨w.heap.size+1,0,none⟩),Z (some ⟨w.heap.size,0,none⟩),Z (some ⟨w.heap.size+1+1,0,none⟩)]] 194);have k:=K.alloc (by simp;omega) (G #[.func (.func 156) #[] #[Z (some ⟨w.heap.size+1,0,none⟩),Z (some ⟨w.heap.size,0,none⟩),Z (some ⟨w.heap.size+1+1,0,none⟩)]] 194);have t:=Blk.new ((w.alloc (G #[.int M (h:Int)] 26)).alloc (G #[.bool true] 4)) 194 #[.func (.func 156) #[] #[Z (some ⟨w.heap.size+1,0,none⟩),Z (some ⟨w.heap.size,0,none⟩),Z (some ⟨w.heap.size+1+1,0,none⟩)]];rw [ax,ax] at t;have P:=ae (Ya7 h J (w.heap.size+1) w.heap.size (w.heap.size+1+1) (ps.length+1) i n ps A c _ hi hn (by omega) H hc L (hr.out k (by omega)) ⟨y,v,t⟩);generalize Zbj (ps.length+1) i n h ps=R at *;generalize Zig (ps.length+1) i n ps.length=ft at *;have e1:decide ((n:Int)<1)=false:=decide_eq_false (by omega);have e2:decide ((65536:Int)<(n:Int))=false:=decide_eq_false (by omega);have e3:decide ((i:Int)<0)=false:=decide_eq_false (by omega);have e4:decide ((n:Int)<=(i:Int))=false:=decide_eq_false (by omega);clear J S u K t L hr H hc;by_cases l:a=R
 ·have x:((R:Int) != (a:Int))=false:=by rw [l];simp
  have s:=ae l;clear l;go_enter func117,ntmps117;go_wp2_with fail;refine P.out.mono ?_;rintro e w1 ⟨rfl,d,E⟩;have U:=E.c1;have m:=k.grown d k.size (fun q e=>by injection e with e;omega);clear y v k d;cases ft with
  | true =>
   go_wp2_with fail;go_ret;exact ⟨by have e:=b.out;have r:=s.out;simp [r] at e;subst e;rfl,m⟩
  | false =>
   go_wp2_with fail;go_ret;exact ⟨by have e:=b.out;simp at e;subst e;rfl,m⟩
 ·have x:((R:Int) != (a:Int))=true:=by
   simp only [bne_iff_ne,ne_eq];omega
  have s:=ae l;clear l;go_enter func117,ntmps117;go_wp2_with fail;refine P.out.mono ?_;rintro e w1 ⟨rfl,d,E⟩;have m:=k.grown d k.size (fun q e=>by injection e with e;omega);clear y v k d;go_wp2_with fail;go_ret;exact ⟨by have e:=b.out;have r:=s.out;simp [r] at e;subst e;rfl,m⟩
theorem Zrz (b h:Nat) (i n:Int) (f:h<18446744073709551616) (ps:List Nat) (d:ps.length<=100) (m:Zbw ps) (A:Option Addr) (c:Nat) (hc:ps.length<=c) (w:World) (hr:Zgq w A ps) :
  Calls prog 117 #[.int M (b:Int),.int O i,.int O n,.int M (h:Int),I A ps.length c] w fun e w'=>e=Y (.int O (Yfy b i n h ps))/\Bl w w':=by
 unfold Yfy;by_cases hd:n<1∨65536<n∨i<0∨n<=i
 ·rw [if_pos hd];exact Zry b h i n hd A ps.length c w
 ·rw [if_neg hd];obtain ⟨k,rfl⟩:=Int.eq_ofNat_of_zero_le (a:=n) (by omega);obtain ⟨l,rfl⟩:=Int.eq_ofNat_of_zero_le (a:=i) (by omega);exact Zt8 b l k h (by omega) (by omega) f ps d m A c hc w hr
structure Zh7 (C:Array Value) (h:Hd) (i:Int) (V:Array Value) (salt:Nat) (p:Value):Prop where
 size:C.size=30
 vs:V.size=19
 act:∀ (j:Nat) (v:Value),V.toList[j]?=some v->C[9+j]?=some v
 hd:Yjy C h
 idx:C[8]?=some (.int O i)
 salt:C[28]?=some (.int M (salt:Int))
 path:C[29]?=some p
theorem Zh7.cop {h:Hd} {f:Fil} {dv cv ev:Value} {salt:Nat} (hc:Zh7 C h i (f.vals dv cv ev) salt p):Zdk C h i f dv cv ev salt p:=⟨hc.size,hc.act,hc.hd,hc.idx,hc.salt,hc.path⟩
theorem Zdk.copV {h:Hd} {f:Fil} {dv cv ev:Value} {salt:Nat} (hc:Zdk C h i f dv cv ev salt p):Zh7 C h i (f.vals dv cv ev) salt p:=⟨hc.size,rfl,hc.act,hc.hd,hc.idx,hc.salt,hc.path⟩
section
variable {T:TypeId} {C:Array Value} {h:Hd} {i:Int} {V:Array Value} {salt:Nat} {p:Value}
theorem Zh7.range (hc:Zh7 C h i V salt p) (a:Blk W g T C):W.rangeAt g 9 V.toList:=fun j v b=>a.cellAt _ _ (hc.act j v b)
theorem Zh7.hrange (hc:Zh7 C h i V salt p) (a:Blk W g T C):W.rangeAt g 0 h.vals.toList:=fun j v b=>by rw [cz];exact a.cellAt _ _ (hc.hd j v b)
theorem Ya8 (hc:Zh7 C h i V salt p) (c:Blk w g T C) {a:Act} {K:Act->World->Prop} (x:Operand) (ho:o.op=.load 48 x)
  (b:a.eval x=Z (some ⟨g,9,none⟩)) (d:K (a.put o.dst (N V)) w):o.wp prog a w K Q:=by
 refine wp_load_mid 48 x ho g 9 b V.toList _ (hc.range c) underlying48 rfl (by rw [br,hc.vs];kernel_rfl) ?_;rw [bt];exact d
theorem Zbd (hc:Zh7 C h i V salt p) (d:Blk w g T C) {rest:List Oper} {o:Oper} {a:Act} (x:Operand) (ho:o.op=.load 48 x) (f:Region.wanted o (yielded ops a.tmps)=true)
  (c:a.eval x=Z (some ⟨g,9,none⟩)) (e:wpList prog ops Q rest (a.put o.dst (N V)) w):wpList prog ops Q (o::rest) a w :=
 wpList_step fun _ b=>by
  rw [if_pos f];exact Ya8 hc d x ho c (b _ _ e)
theorem Zpj {b:Nat} (hr:w.rangeAt g b h.vals.toList) {rest:List Oper} {o:Oper} {a:Act} (x:Operand) (ho:o.op=.load 56 x) (f:Region.wanted o (yielded ops a.tmps)=true)
  (d:a.eval x=Z (some ⟨g,b,none⟩)) (e:wpList prog ops Q rest (a.put o.dst (N h.vals)) w):wpList prog ops Q (o::rest) a w :=
 wpList_step fun _ c=>by
  rw [if_pos f];refine wp_load_mid 56 x ho g b d h.vals.toList _ hr underlying56 rfl (by kernel_rfl) ?_;rw [bt];exact c _ _ e
end
def Yhf (h:Hd) (f:Fil) (salt:Nat) (i:Int) (ps:List Nat):Int:=if h.tick<f.known then 13 else Yfy h.log i h.size (Zbo (Zdh f) salt) ps
theorem Zr0 {h:Hd} {f:Fil} {dv cv ev:Value} {salt:Nat} (b:Zdk C h i f dv cv ev salt p) (a:h.tick<f.known) (w:World) :
  Calls prog 78 #[N C] w fun e w'=>e=Y (.int O 13)/\Bl w w':=by
 have k:=Blk.new w 58 C;have c:=Zab w (G C 58);have d:=b.size;have l:=decide_eq_true a;have hc:=b.cells k;go_enter func78,ntmps78;go_wp2_with fail;go_ret;exact ⟨rfl,c⟩
theorem Zt9 {h:Hd} {f:Fil} {dv cv ev:Value} {salt:Nat} {ps:List Nat} (d:Zdk C h i f dv cv ev salt (I A ps.length cp)) (q:Zby f) (t:ps.length<=100) (P:ps.length<=cp) (ab:Zbw ps) (l:salt<18446744073709551616) (w:World) (hG:w.cell? ⟨0,0,none⟩=some (.int O 655)) (h0:0<w.heap.size) (B:Nat) (v:B<=w.heap.size) (hf:Zbs w B f dv cv ev) (y:Zgq w A ps) :
  Calls prog 78 #[N C] w fun e w'=>e=Y (.int O (Yhf h f salt i ps))/\Bl w w':=by
 unfold Yhf;by_cases c:h.tick<f.known
 ·rw [if_pos c];exact Zr0 d c w
 rw [if_neg c];have HE:=ae (fun (W:World) (s:Bl w W)=>Zo1 f q dv cv ev W ((s.cell (p:=⟨0,0,none⟩) h0).trans hG) (ah h0 s.size) B (aj v s.size) (hf.keep (fun p t=>s.cell (ah t v)) (ag _)));have aa:=ae (fun (W:World) (s:Bl w W)=>y.keep s);have X0:=Blk.new w 58 C;have J:=Zab w (G C 58);have af:=d.size;have hk:=decide_eq_false c;have ad:=Zex q;have R:=ae (Zfq f);obtain ⟨le,m⟩:∃ z,z=Yfy h.log i h.size (Zbo (Zdh f) salt) ps:=⟨_,rfl⟩;rw [<- m];have U:=ae m;clear m c;clear q hf hG y;generalize Zdh f=bs at *;have hc:=d.cells X0;go_enter func78,ntmps78;go_wp2_with (refine Zge d X0 _ rfl rfl rfl ?_);refine (HE.out _ J).mono ?_;rintro e w1 ⟨u,rfl,o1,k⟩;have E:=X0.keep k;have L:=Zaa J k J.size;have R1:=o1.rep;have H:Zbo bs salt<18446744073709551616:=Zcn _ _;clear hc J k o1;go_upto_region 6 with fail;refine wp_region_held_drew (S:=(fun W=>Bl w1 W)) (by kernel_rfl) ?_ (fun a=>?_)
 ·first | done | ((try dsimp only);exact (ap _ _).drew)
 generalize w1.drew=wb at *;refine tq 0 21 rfl ?_;refine tq 1 22 rfl ?_;refine th 2 23 rfl (fun _ b=>d.cells (E.keep b)) ?_;refine tq 3 24 rfl ?_;refine th 4 25 rfl (fun _ b=>d.cells (E.keep b)) ?_;refine tq 5 26 rfl ?_;refine tq 6 27 rfl ?_;refine th 7 28 rfl (fun _ b=>d.cells (E.keep b)) ?_;refine tq 8 29 rfl ?_;refine tq 9 30 rfl ?_;refine th 10 31 rfl (fun _ b=>d.cells (E.keep b)) ?_;refine tq 12 33 rfl ?_;refine th 13 34 rfl (fun _ b=>d.cells (E.keep b)) ?_;refine rd 11 (some 32) rfl fun K x=>?_;go_simp;(refine (Znk u bs R.out (by omega) salt l _ (R1.keep (fun p t=>a.cell t) a.size)).mono ?_;rintro e w2 ⟨rfl,r⟩);refine x.out _ _ (a.trans (r.mono a.size)) fun a=>?_;clear x K;(try simp only [pS,pB,pZ,pC]);refine rd 14 (some 35) rfl fun K x=>?_;go_simp;(refine (Zrz h.log _ i h.size H ps t ab A cp P _ (aa.out _ (L.trans (a.mono L.size)))).mono ?_;rintro e w2 ⟨rfl,r⟩;rw [<- U.out]);refine x.out _ _ (a.trans (r.mono a.size)) fun a=>?_;clear x K;(try simp only [pS,pB,pZ,pC]);refine tq 15 2 rfl ?_;refine dn ?_;have HB:=ae (Zaa L a L.size);clear a;go_wp2_with fail;go_ret;exact ⟨rfl,HB.out⟩
theorem Zua {h:Hd} {salt:Nat} (c:Zh7 C h i V salt p) (w:World)
  (d:Hid (∀ W,Bl w W->Calls prog 38 #[N V] W fun e w'=>e=Y (.int O 1)/\Bl W w')) :
  Calls prog 75 #[N C] w fun e w'=>e=Y (.int O 1)/\Bl w w':=by
 have f:=Blk.new w 58 C;have a:=Zab w (G C 58);have l:=c.size;go_enter func75,ntmps75;go_wp2_with (refine Zbd c f _ rfl rfl rfl ?_);refine (d.out _ a).mono ?_;rintro e m ⟨rfl,b⟩;have k:=Zaa a b a.size;go_wp2_with fail;go_ret;exact ⟨rfl,k⟩
theorem Zub {h:Hd} {salt:Nat} (m:Zh7 C h i V salt p) (key:Nat) (d:key<18446744073709551616) (hl:h.log<18446744073709551616) (hm:h.map<18446744073709551616) (b f:Nat) (w:World)
  (c:Blk w b 26 #[.int M (key:Int)]) (k:Blk w f 58 C) :
  Calls prog 76 #[Z (some ⟨b,0,none⟩),Z (some ⟨f,0,none⟩)] w fun e w'=>e=Y (.int O (hdC key h))/\Bl w w':=by
 have l:=ae (fun W=>Zt4 key d h hl hm W);have hr:=m.hrange k;have hc:=c.c1;clear d hl hm c;go_enter func76,ntmps76;go_wp2_with (refine Zpj hr _ rfl rfl rfl ?_);refine (l.out _).mono ?_;rintro e q ⟨rfl,a⟩;go_wp2_with fail;go_ret;exact ⟨rfl,a⟩
theorem Zuc (C:Array Value) (l:C.size=30) (key:Nat) (f d m:Int) (w:World)
  (v:Hid (∀ W,Bl w W->Calls prog 75 #[N C] W fun e w'=>e=Y (.int O f)/\Bl W w'))
  (z:Hid (∀ (W:World) (q y:Nat),Blk W q 26 #[.int M (key:Int)]->Blk W y 58 C->Calls prog 76 #[Z (some ⟨q,0,none⟩),Z (some ⟨y,0,none⟩)] W fun e w'=>e=Y (.int O d)/\Bl W w'))
  (s:Hid (f=0->d=0->∀ W,Bl w W->Calls prog 78 #[N C] W fun e w'=>e=Y (.int O m)/\Bl W w')) :
  Calls prog 40 #[.int M (key:Int),N C] w fun e w'=>e=Y (.int O (Zcq f d m))/\Bl w w':=by
 have k:=(Blk.new (w.alloc (G #[.int M (key:Int)] 26)) 58 C);rw [ax] at k;have t:=(Blk.new w 26 #[.int M (key:Int)]).alloc (G C 58);have u:=(Zab w (G #[.int M (key:Int)] 26)).alloc (by simp) (G C 58);go_enter func40,ntmps40;go_wp2_with (refine Zek k l _ rfl rfl rfl ?_);have hF:=Blk.new ((w.alloc (G #[.int M (key:Int)] 26)).alloc (G C 58)) 88 #[.func (.func 75) #[N C] #[],.func (.func 76) #[] #[Z (some ⟨w.heap.size,0,none⟩),Z (some ⟨w.heap.size+1,0,none⟩)],.func (.func 78) #[N C] #[]];have a:=u.alloc (by simp;omega) (G #[.func (.func 75) #[N C] #[],.func (.func 76) #[] #[Z (some ⟨w.heap.size,0,none⟩),Z (some ⟨w.heap.size+1,0,none⟩)],.func (.func 78) #[N C] #[]] 88);have x:=k.alloc (G #[.func (.func 75) #[N C] #[],.func (.func 76) #[] #[Z (some ⟨w.heap.size,0,none⟩),Z (some ⟨w.heap.size+1,0,none⟩)],.func (.func 78) #[N C] #[]] 88);have r:=t.alloc (G #[.func (.func 75) #[N C] #[],.func (.func 76) #[] #[Z (some ⟨w.heap.size,0,none⟩),Z (some ⟨w.heap.size+1,0,none⟩)],.func (.func 78) #[N C] #[]] 88);rw [ax,ax] at hF;refine (Znw C _ _ f d m _ _ hF (fun W b=>v.out W (a.trans (b.mono (a.size)))) (fun _ W b=>z.out W _ _ (r.keep b) (x.keep b)) (fun h1 E W b=>s.out h1 E W (a.trans (b.mono (a.size))))).mono ?_;rintro e w2 ⟨rfl,c⟩;have H:=a.trans (c.mono a.size);clear hF a x r c v z s k t u;go_wp2_with fail;go_ret;exact ⟨rfl,H⟩
def Zud (w:World) (V:Array Value):Option Fil->Prop
 | some f=>∃ dv cv ev,V=f.vals dv cv ev/\Zby f/\Zbs w w.heap.size f dv cv ev
 | none=>V.size=19/\(∀ W,Bl w W->Calls prog 38 #[N V] W fun e w'=>e=Y (.int O 1)/\Bl W w')/\(∀ W,Bl w W->Calls prog 43 #[N V] W fun e w'=>e=Y (.int O 1)/\Bl W w')
theorem Zud.keep {a:Option Fil} (h:Zud w V a) (b:Bl w W):Zud W V a:=by
 cases a with
 | some f =>
  obtain ⟨dv,cv,ev,e,d,l⟩:=h;exact ⟨dv,cv,ev,e,d,l.keep (fun p k=>b.cell k) b.size⟩
 | none=>exact ⟨h.1,fun U c=>h.2.1 U (b.trans (c.mono b.size)),fun U c=>h.2.2 U (b.trans (c.mono b.size))⟩
def Yh7 (h:Hd):Option Fil->Int
 | some f=>Zza f h.office
 | none=>1
def Yi5 (h:Hd) (salt:Nat) (i:Int) (ps:List Nat):Option Fil->Int
 | some f=>Yhf h f salt i ps
 | none=>0
def chE (key:Nat) (h:Hd) (salt:Nat) (i:Int) (ps:List Nat) (a:Option Fil):Int:=Zcq (Yh7 h a) (hdC key h) (Yi5 h salt i ps a)
theorem Zue {h:Hd} {salt:Nat} (d:Zh7 C h i V salt p) {a:Option Fil} (w:World) (c:Zud w V a) (k:w.cell? ⟨0,0,none⟩=some (.int O 655)) (m:0<w.heap.size) :
  Calls prog 75 #[N C] w fun e w'=>e=Y (.int O (Yh7 h a))/\Bl w w':=by
 cases a with
 | some f =>
  obtain ⟨dv,cv,ev,rfl,b,l⟩:=c;exact Zme d.cop b w k m _ (ag _) l
 | none=>exact Zua d w (ae c.2.1)
theorem Yjl {h:Hd} {salt:Nat} {ps:List Nat} (q:Zh7 C h i V salt (I A ps.length cp)) {a:Option Fil} (w:World) (u:Zud w V a) (m:ps.length<=100) (c:ps.length<=cp) (l:Zbw ps) (b:salt<18446744073709551616) (r:w.cell? ⟨0,0,none⟩=some (.int O 655)) (v:0<w.heap.size) (k:Zgq w A ps) (t:Yh7 h a=0) :
  Calls prog 78 #[N C] w fun e w'=>e=Y (.int O (Yi5 h salt i ps a))/\Bl w w':=by
 cases a with
 | some f =>
  obtain ⟨dv,cv,ev,rfl,d,s⟩:=u;exact Zt9 q.cop d m c l b w r v _ (ag _) s k
 | none=>exact absurd (show (1:Int)=0 from t) (by decide)
theorem Zyb {h:Hd} {salt:Nat} {ps:List Nat} (f:Zh7 C h i V salt (I A ps.length cp)) {a:Option Fil} (w:World) (s:Zud w V a) (key:Nat) (z:key<18446744073709551616) (d:h.log<18446744073709551616) (hm:h.map<18446744073709551616) (t:ps.length<=100) (l:ps.length<=cp) (q:Zbw ps) (c:salt<18446744073709551616) (r:w.cell? ⟨0,0,none⟩=some (.int O 655)) (k:0<w.heap.size) (m:Zgq w A ps) :
  Calls prog 40 #[.int M (key:Int),N C] w fun e w'=>e=Y (.int O (chE key h salt i ps a))/\Bl w w' :=
 Zuc C f.size key _ _ _ w (ae fun W b=>Zue f W (s.keep b) ((b.cell (p:=⟨0,0,none⟩) k).trans r) (ah k b.size)) (ae fun W v E x u=>Zub f key z d hm v E W x u)
  (ae fun y _ W b=>Yjl f W (s.keep b) t l q c ((b.cell (p:=⟨0,0,none⟩) k).trans r) (ah k b.size) (m.keep b) y)
theorem Zc8 {T:TypeId} {cs:Array Value} (h:Blk W g T cs):W.rangeAt g 0 cs.toList:=fun j v a=>by
 rw [cz];exact (h.cell j).trans (by rw [<- dj];exact a)
def Zpk (tb:List (Int × Bool)):BitVec 64:=tb.foldr (fun p m=>(if p.2 then BitVec.ofInt 64 p.1 else 0#64) ||| m) 0#64
theorem Zh8 {a b x:BitVec 64}:((a ||| b) &&& x=0#64)↔(a &&& x=0#64/\b &&& x=0#64):=by
 constructor
 ·intro h;refine ⟨?_,?_⟩
  ·apply BitVec.eq_of_getLsbD_eq;intro i hi;have:=congrArg (fun v=>v.getLsbD i) h;simp only [BitVec.getLsbD_and,BitVec.getLsbD_or,BitVec.getLsbD_zero] at this ⊢;cases h1:a.getLsbD i <;> cases c:x.getLsbD i <;> simp_all
  ·apply BitVec.eq_of_getLsbD_eq;intro i hi;have:=congrArg (fun v=>v.getLsbD i) h;simp only [BitVec.getLsbD_and,BitVec.getLsbD_or,BitVec.getLsbD_zero] at this ⊢;cases h1:b.getLsbD i <;> cases c:x.getLsbD i <;> simp_all
 ·rintro ⟨h1,c⟩;apply BitVec.eq_of_getLsbD_eq;intro i hi;have e:=congrArg (fun v=>v.getLsbD i) h1;have d:=congrArg (fun v=>v.getLsbD i) c;simp only [BitVec.getLsbD_and,BitVec.getLsbD_or,BitVec.getLsbD_zero] at e d ⊢;cases f:x.getLsbD i <;> simp_all
theorem Zk9 (x:BitVec 64):∀ tb:List (Int × Bool),(Zpk tb &&& x=0#64)↔∀ p∈tb,p.2=true->BitVec.ofInt 64 p.1 &&& x=0#64
 | []=>by simp [Zpk]
 | p::tb=>by
  have e:Zpk (p::tb)=(if p.2 then BitVec.ofInt 64 p.1 else 0#64) ||| Zpk tb:=rfl
  rw [e,Zh8,Zk9 x tb];cases a:p.2 with
  | true=>simp [a]
  | false=>simp [a]
def Zn2 (tb:List (Int × Bool)) (left:Lit->Bool) (v:Int):Prop :=
 ∃ b:BitVec 64,v=(b.toNat:Int)/\(∀ x,Zpk tb &&& x=0#64->b &&& x=0#64)/\∀ p∈tb,p.2=true->left (.int O p.1)=false->∀ x,b &&& x=0#64->BitVec.ofInt 64 p.1 &&& x=0#64
theorem Zn2.zero (tb:List (Int × Bool)) (left:Lit->Bool) (h:∀ p∈tb,left (.int O p.1)=true):Zn2 tb left 0 :=
 ⟨0#64,rfl,fun x _=>by simp,fun p b _ a=>by rw [h p b] at a;cases a⟩
theorem Zn2.bound {tb:List (Int × Bool)} {left:Lit->Bool} {v:Int} (h:Zn2 tb left v) (c:Zpk tb &&& ~~~2047#64=0#64):0<=v/\v<=2047:=by
 obtain ⟨b,rfl,h1,_⟩:=h;have a:=h1 _ c;refine ⟨by omega,?_⟩;have d:b=b &&& 2047#64:=by
  apply BitVec.eq_of_getLsbD_eq;intro i hi;have:=congrArg (fun v=>v.getLsbD i) a;simp only [BitVec.getLsbD_and,BitVec.getLsbD_not,BitVec.getLsbD_zero] at this ⊢;cases f:b.getLsbD i <;> cases k:(2047#64).getLsbD i <;> simp_all
 rw [d,BitVec.toNat_and];have:b.toNat &&& (2047#64).toNat<=(2047#64).toNat:=Nat.and_le_right;have e:(2047#64).toNat=2047:=rfl;omega
theorem Zn2.or {tb:List (Int × Bool)} {left:Lit->Bool} {v:Int} (h:Zn2 tb left v) {p:Int × Bool} (m:p∈tb) (u:p.2=true) (s:Zpk tb &&& ~~~2047#64=0#64) :
  Zn2 tb (fun z=>left z && !z.sameKey (.int O p.1)) (IntKind.i64.wrap (((BitVec.ofInt 64 v ||| BitVec.ofInt 64 p.1).toNat:Nat):Int)):=by
 obtain ⟨b,rfl,h1,k⟩:=h;rw [Zgc];have a:∀ x,Zpk tb &&& x=0#64->(b ||| BitVec.ofInt 64 p.1) &&& x=0#64:=fun x d=>Zh8.2 ⟨h1 x d,(Zk9 x tb).1 d p m u⟩;have t:=Zn2.bound (tb:=tb) (left:=fun _=>true) (v:=((b ||| BitVec.ofInt 64 p.1).toNat:Int)) ⟨_,rfl,a,fun _ _ _ h=>by cases h⟩ s;refine ⟨b ||| BitVec.ofInt 64 p.1,by rw [az];omega,a,fun q l f hl x d=>?_⟩;obtain ⟨y,r⟩:=Zh8.1 d;cases c:left (.int O q.1) with
 | false=>exact k q l f c x y
 | true =>
  dsimp only at hl;rw [c] at hl;simp only [Bool.true_and,Bool.not_eq_false'] at hl;have e:q.1=p.1:=by
   simp [Lit.sameKey] at hl;exact hl
  rw [e];exact r
theorem Zn2.skip {tb:List (Int × Bool)} {left:Lit->Bool} {v:Int} (h:Zn2 tb left v) (m:∀ p q:Int × Bool,p∈tb->q∈tb->p.1=q.1->p=q) {p:Int × Bool} (k:p∈tb) (r:p.2=false) :
  Zn2 tb (fun z=>left z && !z.sameKey (.int O p.1)) v:=by
 obtain ⟨b,rfl,h1,f⟩:=h;refine ⟨b,rfl,h1,fun q d a hl x l=>?_⟩;cases c:left (.int O q.1) with
 | false=>exact f q d a c x l
 | true =>
  dsimp only at hl;rw [c] at hl;simp only [Bool.true_and,Bool.not_eq_false'] at hl;have e:q.1=p.1:=by
   simp [Lit.sameKey] at hl;exact hl
  have:=m q p d k e;rw [this,r] at a;cases a
theorem Zn2.done {tb:List (Int × Bool)} {left:Lit->Bool} {v:Int} (h:Zn2 tb left v) (hl:∀ k,left k=false) (F:Int) :
  (IntKind.i64.wrap (((BitVec.ofInt 64 v &&& ~~~(BitVec.ofInt 64 F)).toNat:Nat):Int) == 0)=tb.all fun p=>!p.2 || (BitVec.ofInt 64 p.1 &&& ~~~(BitVec.ofInt 64 F) == 0#64):=by
 obtain ⟨b,rfl,h1,f⟩:=h;rw [Zgc];have e:(b &&& ~~~(BitVec.ofInt 64 F)=0#64)↔∀ p∈tb,p.2=true->BitVec.ofInt 64 p.1 &&& ~~~(BitVec.ofInt 64 F)=0#64 :=
  ⟨fun c p d a=>f p d a (hl _) _ c,fun c=>h1 _ ((Zk9 _ tb).2 c)⟩
 have l:(IntKind.i64.wrap (((b &&& ~~~(BitVec.ofInt 64 F)).toNat:Nat):Int) == 0)=(b &&& ~~~(BitVec.ofInt 64 F) == 0#64):=by
  generalize b &&& ~~~(BitVec.ofInt 64 F)=y;rw [Bool.eq_iff_iff,beq_iff_eq,beq_iff_eq,az];constructor
  ·intro q;have hy:y.toNat=0:=by
    have m:y.toNat<18446744073709551616:=y.isLt;generalize y.toNat=n at *;omega
   exact BitVec.eq_of_toNat_eq (by rw [hy];rfl)
  ·rintro rfl
   decide
 rw [l,Bool.eq_iff_iff,beq_iff_eq,e,List.all_eq_true];constructor
 ·intro c p d;cases a:p.2 with
  | true=>simp [c p d a]
  | false=>rfl
 ·intro c p d a;have:=c p d;rw [a] at this;simpa using this
def Zwe (tb:List (Int × Bool)) (J:List Nat) (mb m:Nat) (done:Nat->Bool) (w:World):Prop :=
 ∃ l:List (Int × Bool),l.length+m=11/\w.ownsMap prog 3 Za5 mb l.length (Zca l)/\(∀ p∈l,p∈tb)/\∀ (i j:Nat) (p:Int × Bool),J[i]?=some j->tb[i]?=some p->done j=true->p∈l
theorem Zwe.step {tb:List (Int × Bool)} {J:List Nat} {k m:Nat} {done:Nat->Bool} {i0 c:Nat} {f:Int × Bool} (d:J.Nodup) (v:J[i0]?=some c) (b:tb[i0]?=some f) (l:List (Int × Bool)) (hl:l.length+(m+1)=11) (h1:∀ p∈l,p∈tb)
  (r:∀ (i j:Nat) (p:Int × Bool),J[i]?=some j->tb[i]?=some p->done j=true->p∈l) (ho:w'.ownsMap prog 3 Za5 k (l.length+1) (Zca (f::l))):Zwe tb J k m (fun i=>i == c || done i) w':=by
 refine ⟨f::l,by rw [au];omega,by rw [au];exact ho,fun p a=>?_,fun i j p q a hd=>?_⟩
 ·rcases List.mem_cons.1 a with rfl | a
  ·exact iq b
  ·exact h1 p a
 ·by_cases e:j=c
  ·subst e;have hi:i=i0:=by
    obtain ⟨y,s⟩:=List.getElem?_eq_some_iff.1 q;obtain ⟨x,u⟩:=List.getElem?_eq_some_iff.1 v;exact (List.getElem_inj d).1 (s.trans u.symm)
   subst hi;rw [b] at a;injection a with a;rw [a];exact da
  ·have t:(j == c)=false:=by simpa using e
   dsimp only at hd;rw [t,Bool.false_or] at hd;exact dh _ (r i j p q a hd)
open Go.ChangeShapes Go.WideShapes Go.ChangeAt Go.RowKit Go.Shelf
def Zkw (W:World):Prop:=(∀ k:Nat,k<22->W.cell? ⟨0,k,none⟩=some (.int O (Zgy.getD k 0)))/\0<W.heap.size
theorem Zkw.keep (h:Zkw W) (a:Below B W W') (c:0<B):Zkw W' :=
 ⟨fun k b=>(a.cell (p:=⟨0,k,none⟩) c).trans (h.1 k b),ah h.2 a.size⟩
theorem Zkw.zero (h:Zkw W):W.cell? ⟨0,0,none⟩=some (.int O 655):=h.1 0 (by decide)
theorem Zwf (hlaid:laidMetH prog Zox W):Zkw W:=by
 have h0:=(Zh1 hlaid).2;rw [MakeChecks.laidMetH_plain _ _ _ (by kernel_rfl)] at hlaid;have hL : laidMet prog [("priorart/acts.fields", Rows.laid_priorart_acts_fields)] W := hlaid;rw [Zl4] at hL;have hT := Lib.tabIs_of_head (g := 0) (t := 132) (e := 3) (n := 22) (by kernel_rfl) (by kernel_rfl) underlying132 underlying3 (by kernel_rfl) (by kernel_rfl) hL;exact ⟨fun k hk=>hT.cell (g:=0) (by kernel_rfl) k hk,h0⟩
def Zzb (kn day known file office party other number amount sn sd:Int) (dv cv lv ev:Value) (fo fn:Int):Array Value :=
 #[iI kn,iI day,iI known,iI file,iI office,iI party,iI other,iI number,iI amount,iI sn,iI sd,dv,cv,lv,ev,iI fo,iI fn,nN,nN]
def Zdr (op:Int):F:=.mk op 0 [] []
def Zet (op:Int):Bool:=op == 0 || op == 1 || op == 2 || op == 4 || op == 5
section
variable (A1 A2:Option Addr) (c1 c2:Nat) (w:World)
end
def TxG (d:List F) (c:List Cl) (tv:Int):Prop:=(tv=0/\Ztg d c)∨(tv=1/\∃ op,Zet op=false/\d=[Zdr op]/\c=[])
structure Ac where
 kn:Int
 day:Int
 known:Int
 file:Int
 office:Int
 party:Int
 other:Int
 number:Int
 amount:Int
 sn:Int
 sd:Int
 d:List F
 c:List Cl
 nl:Nat
 e:List (Int × Int)
 fo:Int
 fn:Int
def Ac.vals (x:Ac) (dv cv lv ev:Value):Array Value:=Zzb x.kn x.day x.known x.file x.office x.party x.other x.number x.amount x.sn x.sd dv cv lv ev x.fo x.fn
def Yfz (lv:Value) (nl:Nat):Prop:=(lv=I none 0 0/\nl=0)∨(∃ Al cl,lv=I Al nl cl/\0<nl)
def Yf0 (w:World) (B:Nat) (V:Array Value) (x:Ac):Prop:=∃ dv cv lv ev,V=x.vals dv cv lv ev/\Rep w B dv (.s 4 (x.d.flatMap F.cells))/\Rep w B cv (.s 5 (x.c.flatMap Cl.cells))/\Yfz lv x.nl/\Rep w B ev (.s 2 (prD x.e))
theorem Yf0.keep {B':Nat} {x:Ac} (h:Yf0 w B V x) (a:∀ p:Addr,p.block<B->W.cell? p=w.cell? p) (b:B<=B'):Yf0 W B' V x:=by
 obtain ⟨dv,cv,f,ev,e,h1,c,k,d⟩:=h;exact ⟨dv,cv,f,ev,e,h1.keep a b,c.keep a b,k,d.keep a b⟩
def I64 (x:Int):Prop:=-9223372036854775808<=x/\x<=9223372036854775807
structure Ya9 (x:Ac):Prop where
 some:1<=x.d.length
 dlen:x.d.length<=1000000
 clen:x.c.length<=1000000
 elen:x.e.length<=8
 file:I64 x.file
 earl:∀ p∈x.e,I64 p.1
 text:∃ tv,TxG x.d x.c tv
def Ac.bb (x:Ac):Bool:=x.number == 0 && x.amount == 0 && (x.sn == 0 && x.sd == 0) && (x.nl == 0) && (x.fo == 0 && x.fn == 0)
def Ac.fil (x:Ac):Fil:=⟨x.day,x.known,x.file,x.office,x.party,x.other,x.d,x.c,x.e⟩
theorem Yfz.slice {c:Value} {nl:Nat} (h:Yfz c nl):∃ b a,c=I b nl a:=by
 rcases h with ⟨rfl,rfl⟩ | ⟨b,a,rfl,_⟩
 ·exact ⟨none,0,rfl⟩
 ·exact ⟨b,a,rfl⟩
end Go.Proofs.YtglkadmfjaecmaaGreatDoor
