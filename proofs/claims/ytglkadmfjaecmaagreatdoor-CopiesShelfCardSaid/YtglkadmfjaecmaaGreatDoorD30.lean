import Derived.Test.YtglkadmfjaecmaaGreatDoorD29
import Derived.Test.YtglkadmfjaecmaaGreatDoorD21
set_option maxRecDepth 100000
set_option maxHeartbeats 16000000
namespace Go.Proofs.YtglkadmfjaecmaaGreatDoor
open Go.RowKit Go.Shelf _root_.Go.Proofs.Tryz
open Go.Value renaming slice->I, pointer->G
open Go.IntKind renaming i64->Z
open Go.Obj renaming cells->O
open Go.Ending renaming returned->U
attribute [local go_sem] Oper.semAt_some
variable {A:Option Addr} {C V V':Array Value} {H:List Nat} {W w:World} {g m:Nat} {i:Int} {sp:List Value} {x:Ac}
theorem Zp8 {v:Value} {d:D} (h:Rep w w.heap.size v d) (b:Bl w W) (e:∀ i∈H,w.heap.size<=i):Zdf [] H W v d :=
 (Rep.keep (W':=Zgm [] H W) (fun p c=>by
  have hm:(Zgm [] H W).cell? p=W.cell? p:=by
   cases hc:W.cell? p with
   | some u=>exact Za8.2 ⟨hc,(fun ⟨_,_,_,_,h⟩=>by cases h),(fun h=>absurd (e _ h) (Nat.not_le_of_lt c))⟩
   | none =>
    cases a:(Zgm [] H W).cell? p with
    | none=>rfl
    | some u=>rw [(Za8.1 a).1] at hc;cases hc
  exact hm.trans (b.cell c)) b.size h)
theorem AcM.of (h:Yf0 w w.heap.size V x) (b:Bl w W) (a:∀ i∈H,w.heap.size<=i):AcM H W V x:=by
 obtain ⟨dv,cv,j,ev,e,h1,c,d,f⟩:=h;exact ⟨dv,cv,j,ev,e,Zp8 h1 b a,Zp8 c b a,d,Zp8 f b a⟩
theorem Yfe {op:Int} (h:Blk W g 46 #[.int Z op,.int Z 0,I none 0 0,I none 0 0]) (a:g ∉ H):Zdf [] H W (I (some ⟨g,0,none⟩) 1 1) (.s 4 ([Zdr op].flatMap F.cells)) :=
 Zdf.of_blk h (by simp) a rfl (Zax.cons (.v _) (Zax.cons (.v _) (Zax.cons (.nil 8) (Zax.cons (.nil 4) (Zax.nil _ _)))))
theorem Yh0 {op:Int} (h:Zet op=true):Ztg [Zdr op] []:=by
 refine ⟨by simp,fun f a=>?_,⟨by simp,fun i hi=>absurd hi (jf _)⟩,?_,?_⟩
 ·rw [List.mem_singleton.1 a];exact Yhx h
 ·exact fun k h=>absurd h (jf _)
 ·rw [de,er,bv];unfold Zdr F.tops;split
  ·exact bi _
  ·show 1+0<=128;omega
theorem Yh1 (e:List (Int × Int)):∀ u∈prV e,u.oneCell'=true:=fun u b=>by
 obtain ⟨p,_,a⟩:=List.mem_flatMap.1 b;simp only [dt,dl,or_false] at a;rcases a with rfl | rfl <;> rfl
theorem Zu6 (e:List (Int × Int)):prD e=Zdv (prV e):=by
 unfold prD prV Zdv;rw [List.map_flatMap];rfl
theorem Zy4 (e:List (Int × Int)):(prV e).length=e.length * 2:=by
 have h:=Zfp e;rw [Zu6,Zdo] at h;exact h
theorem Yj5 {c:Nat} {e:List (Int × Int)} (h:Rep W W.heap.size (I A e.length c) (.s 2 (prD e))):Zer W (I A e.length c) e.length 2 (prV e):=by
 refine ⟨Zy4 e,?_⟩;rw [Zu6] at h;generalize hv:(Value.slice A e.length c)=v at *;generalize hn:e.length=n at *;generalize hds:Zdv (prV e)=ds at *;cases h with
 | nil =>
  injection hv with _ h2 _;exact .inl ⟨rfl,h2⟩
 | @s b o n' c' _ _ cs hc hd hnc hb cells sub =>
  injection hv with h1 h2 h3;have a:Zax W W.heap.size cs (Zdv (prV e)):=by rw [hds];exact ⟨hc.trans hd.symm,sub⟩
  rw [Zax.plain a] at cells;exact .inr ⟨b,o,c',by rw [h2],hb,cells⟩
def Yj0 (H:List Nat) (m:Nat) (w':World) (r:Ending):Prop:=∃ V' x',r=U (.agg V')/\Ya9 x'/\x'.e.length<=m+2/\AcM H w' V' x'/\V'.size=19/\V'.all (·.oneCell')=true
theorem Zd1 {b:World} (a:Ac) (h1:Ya9 a) (c:a.e.length<=m+2) (d:AcM H b V' a) (f:V'.size=19) (j:V'.all (·.oneCell')=true):Yj0 H m b (U (.agg V')):=⟨V',a,rfl,h1,c,d,f,j⟩
theorem Yff (op:Int):∃ a,TxG [Zdr op] [] a:=by
 cases h:Zet op with
 | true=>exact ⟨0,.inl ⟨rfl,Yh0 h⟩⟩
 | false=>exact ⟨1,.inr ⟨rfl,op,h,rfl,rfl⟩⟩
theorem Zu7 (kn day known file office party other number amount sn sd fo fn:Int) (d:List F) (c:List Cl) (nl:Nat) (e:List (Int × Int)) (Ad Ak Al Ae:Option Addr) (cd cc cl ce:Nat) (a0:Ya9 ⟨kn,day,known,file,office,party,other,number,amount,sn,sd,d,c,nl,e,fo,fn⟩) (m:Nat) (hm:e.length<=m) (av:m<=6) (M b:Int) (R:-9223372036854775808<=M/\M<=9223372036854775807) (an:I64 b) (H:List Nat) (w:World) (hH:∀ i∈H,i<w.heap.size)
  (hd:Zdf [] H w (I Ad d.length cd) (.s 4 (d.flatMap F.cells))) (hc:Zdf [] H w (I Ak c.length cc) (.s 5 (c.flatMap Cl.cells))) (hl:Yfz (I Al nl cl) nl) (he:Zdf [] H w (I Ae e.length ce) (.s 2 (prD e))) :
  Calls prog 34 #[.agg #[iI kn,iI day,iI known,iI file,iI office,iI party,iI other,iI number,iI amount,iI sn,iI sd,I Ad d.length cd,I Ak c.length cc,I Al nl cl,I Ae e.length ce,iI fo,iI fn,nN,nN],.int Z M,.int Z b] w
   fun r w'=>Yj0 H m w' r/\Bl w w':=by
 have t:=ae (fun (W:World) (hW:Bl w W)=>(⟨hd.step (Zaf (row:=none) hW) (fun _ e=>by cases e) (fun _ h=>.inl h),hc.step (Zaf (row:=none) hW) (fun _ e=>by cases e) (fun _ h=>.inl h),he.step (Zaf (row:=none) hW) (fun _ e=>by cases e) (fun _ h=>.inl h)⟩:Zdf [] H W (I Ad d.length cd) (.s 4 (d.flatMap F.cells))/\Zdf [] H W (I Ak c.length cc) (.s 5 (c.flatMap Cl.cells))/\Zdf [] H W (I Ae e.length ce) (.s 2 (prD e))));have af:=ae (fun (W:World) (hW:Bl w W)=>(Yj5 he.out).keep hW);have a:=ae a0;have ab:=ae hH;have y:=ae hl;have L:=ae hm;have a3:=ae av;have aa:=ae an;clear a0 hH hd hc hl he hm av an;have X0:=Blk.new w 48 #[iI kn,iI day,iI known,iI file,iI office,iI party,iI other,iI number,iI amount,iI sn,iI sd,I Ad d.length cd,I Ak c.length cc,I Al nl cl,I Ae e.length ce,iI fo,iI fn,nN,nN];have P0:=Zab w (O #[iI kn,iI day,iI known,iI file,iI office,iI party,iI other,iI number,iI amount,iI sn,iI sd,I Ad d.length cd,I Ak c.length cc,I Al nl cl,I Ae e.length ce,iI fo,iI fn,nN,nN] 48);generalize hw1:w.alloc (O #[iI kn,iI day,iI known,iI file,iI office,iI party,iI other,iI number,iI amount,iI sn,iI sd,I Ad d.length cd,I Ak c.length cc,I Al nl cl,I Ae e.length ce,iI fo,iI fn,nN,nN] 48)=w1 at *;have a1:w1.heap.size=w.heap.size+1:=by rw [<- hw1,ax]
 go_enter func34,ntmps34;go_upto_region 1 with fail;have f:=X0.alloc (O #[iI 0,iI 0,iI 0,iI 0,iI 0,iI 0,iI 0,iI 0,iI 0,iI 0,iI 0,nN,nN,nN,nN,iI 0,iI 0,nN,nN] 48);have q:=Blk.new w1 48 #[iI 0,iI 0,iI 0,iI 0,iI 0,iI 0,iI 0,iI 0,iI 0,iI 0,iI 0,nN,nN,nN,nN,iI 0,iI 0,nN,nN];have u:=P0.alloc P0.size (O #[iI 0,iI 0,iI 0,iI 0,iI 0,iI 0,iI 0,iI 0,iI 0,iI 0,iI 0,nN,nN,nN,nN,iI 0,iI 0,nN,nN] 48);rw [a1] at q;clear X0 P0 hw1 a1;generalize w1.alloc _=w2 at *;go_wp2_with fail;refine (Zaz M 14 _ R.1 R.2 (by omega) (by omega)).mono ?_;rintro r w' ⟨rfl,rfl⟩;have N:=Zcs M 14 (by omega);have k1:=Zhq M 14 (by omega);generalize arN M 14=k at *;clear R;obtain rfl | rfl | rfl | rfl | rfl | rfl | rfl | rfl | rfl | rfl | rfl | rfl | rfl | rfl:k=0∨k=1∨k=2∨k=3∨k=4∨k=5∨k=6∨k=7∨k=8∨k=9∨k=10∨k=11∨k=12∨k=13:=by omega
 ·clear N k1;have c0:=f.cell 0;have f0:=f.frozen 0;go_upto_region 29 with fail;have o:=(f.set 0 (.int Z b));have z:=(q.far (p:=⟨w.heap.size,0,none⟩) (ar _) (.int Z b));have j:=(u.setCell (p:=⟨w.heap.size,0,none⟩) (ag _) (.int Z b));simp only [pB,pZ] at o;clear c0 f0 f q u;generalize (w2.setCell ⟨w.heap.size,0,none⟩ (.int Z b))=Q at *;go_wp2_with (first | (refine Zad o rfl _ rfl rfl rfl ?_) | (refine Zae z rfl _ _ rfl rfl rfl _ rfl rfl (by kernel_rfl) ?_;intro P B v));have l:=j.grown v j.size (fun k e=>by injection e with e;omega);obtain ⟨E,J,K⟩:=t.out _ l;exact bodyPost_ret (Zah rfl _ rfl B rfl) rfl ⟨Zd1 ⟨b,day,known,file,office,party,other,number,amount,sn,sd,d,c,nl,e,fo,fn⟩ ⟨a.out.some,a.out.dlen,a.out.clen,a.out.elen,a.out.file,a.out.earl,a.out.text⟩ (aj L.out (by omega)) ⟨_,_,_,_,rfl,E,J,y.out,K⟩ rfl (by kernel_rfl),l⟩
 ·clear N k1;have c1:=f.cell 1;have f1:=f.frozen 1;go_upto_region 29 with fail;have o:=(f.set 1 (.int Z b));have z:=(q.far (p:=⟨w.heap.size,1,none⟩) (ar _) (.int Z b));have j:=(u.setCell (p:=⟨w.heap.size,1,none⟩) (ag _) (.int Z b));simp only [pB,pZ,pC] at o;clear c1 f1 f q u;generalize (w2.setCell ⟨w.heap.size,1,none⟩ (.int Z b))=Q at *;go_wp2_with (first | (refine Zad o rfl _ rfl rfl rfl ?_) | (refine Zae z rfl _ _ rfl rfl rfl _ rfl rfl (by kernel_rfl) ?_;intro P B v));have l:=j.grown v j.size (fun k e=>by injection e with e;omega);obtain ⟨E,J,K⟩:=t.out _ l;exact bodyPost_ret (Zah rfl _ rfl B rfl) rfl ⟨Zd1 ⟨kn,b,known,file,office,party,other,number,amount,sn,sd,d,c,nl,e,fo,fn⟩ ⟨a.out.some,a.out.dlen,a.out.clen,a.out.elen,a.out.file,a.out.earl,a.out.text⟩ (aj L.out (by omega)) ⟨_,_,_,_,rfl,E,J,y.out,K⟩ rfl (by kernel_rfl),l⟩
 ·clear N k1;have c2:=f.cell 2;have f2:=f.frozen 2;go_upto_region 29 with fail;have o:=(f.set 2 (.int Z b));have z:=(q.far (p:=⟨w.heap.size,2,none⟩) (ar _) (.int Z b));have j:=(u.setCell (p:=⟨w.heap.size,2,none⟩) (ag _) (.int Z b));simp only [pB,pZ,pC] at o;clear c2 f2 f q u;generalize (w2.setCell ⟨w.heap.size,2,none⟩ (.int Z b))=Q at *;go_wp2_with (first | (refine Zad o rfl _ rfl rfl rfl ?_) | (refine Zae z rfl _ _ rfl rfl rfl _ rfl rfl (by kernel_rfl) ?_;intro P B v));have l:=j.grown v j.size (fun k e=>by injection e with e;omega);obtain ⟨E,J,K⟩:=t.out _ l;exact bodyPost_ret (Zah rfl _ rfl B rfl) rfl ⟨Zd1 ⟨kn,day,b,file,office,party,other,number,amount,sn,sd,d,c,nl,e,fo,fn⟩ ⟨a.out.some,a.out.dlen,a.out.clen,a.out.elen,a.out.file,a.out.earl,a.out.text⟩ (aj L.out (by omega)) ⟨_,_,_,_,rfl,E,J,y.out,K⟩ rfl (by kernel_rfl),l⟩
 ·clear N k1;have c3:=f.cell 3;have f3:=f.frozen 3;go_upto_region 29 with fail;have o:=(f.set 3 (.int Z b));have z:=(q.far (p:=⟨w.heap.size,3,none⟩) (ar _) (.int Z b));have j:=(u.setCell (p:=⟨w.heap.size,3,none⟩) (ag _) (.int Z b));simp only [pB,pZ,pC] at o;clear c3 f3 f q u;generalize (w2.setCell ⟨w.heap.size,3,none⟩ (.int Z b))=Q at *;go_wp2_with (first | (refine Zad o rfl _ rfl rfl rfl ?_) | (refine Zae z rfl _ _ rfl rfl rfl _ rfl rfl (by kernel_rfl) ?_;intro P B v));have l:=j.grown v j.size (fun k e=>by injection e with e;omega);obtain ⟨E,J,K⟩:=t.out _ l;exact bodyPost_ret (Zah rfl _ rfl B rfl) rfl ⟨Zd1 ⟨kn,day,known,b,office,party,other,number,amount,sn,sd,d,c,nl,e,fo,fn⟩ ⟨a.out.some,a.out.dlen,a.out.clen,a.out.elen,aa.out,a.out.earl,a.out.text⟩ (aj L.out (by omega)) ⟨_,_,_,_,rfl,E,J,y.out,K⟩ rfl (by kernel_rfl),l⟩
 ·clear N k1;have c4:=f.cell 4;have f4:=f.frozen 4;go_upto_region 29 with fail;have o:=(f.set 4 (.int Z b));have z:=(q.far (p:=⟨w.heap.size,4,none⟩) (ar _) (.int Z b));have j:=(u.setCell (p:=⟨w.heap.size,4,none⟩) (ag _) (.int Z b));simp only [pB,pZ,pC] at o;clear c4 f4 f q u;generalize (w2.setCell ⟨w.heap.size,4,none⟩ (.int Z b))=Q at *;go_wp2_with (first | (refine Zad o rfl _ rfl rfl rfl ?_) | (refine Zae z rfl _ _ rfl rfl rfl _ rfl rfl (by kernel_rfl) ?_;intro P B v));have l:=j.grown v j.size (fun k e=>by injection e with e;omega);obtain ⟨E,J,K⟩:=t.out _ l;exact bodyPost_ret (Zah rfl _ rfl B rfl) rfl ⟨Zd1 ⟨kn,day,known,file,b,party,other,number,amount,sn,sd,d,c,nl,e,fo,fn⟩ ⟨a.out.some,a.out.dlen,a.out.clen,a.out.elen,a.out.file,a.out.earl,a.out.text⟩ (aj L.out (by omega)) ⟨_,_,_,_,rfl,E,J,y.out,K⟩ rfl (by kernel_rfl),l⟩
 ·clear N k1;have c5:=f.cell 5;have f5:=f.frozen 5;go_upto_region 29 with fail;have o:=(f.set 5 (.int Z b));have z:=(q.far (p:=⟨w.heap.size,5,none⟩) (ar _) (.int Z b));have j:=(u.setCell (p:=⟨w.heap.size,5,none⟩) (ag _) (.int Z b));simp only [pB,pZ,pC] at o;clear c5 f5 f q u;generalize (w2.setCell ⟨w.heap.size,5,none⟩ (.int Z b))=Q at *;go_wp2_with (first | (refine Zad o rfl _ rfl rfl rfl ?_) | (refine Zae z rfl _ _ rfl rfl rfl _ rfl rfl (by kernel_rfl) ?_;intro P B v));have l:=j.grown v j.size (fun k e=>by injection e with e;omega);obtain ⟨E,J,K⟩:=t.out _ l;exact bodyPost_ret (Zah rfl _ rfl B rfl) rfl ⟨Zd1 ⟨kn,day,known,file,office,b,other,number,amount,sn,sd,d,c,nl,e,fo,fn⟩ ⟨a.out.some,a.out.dlen,a.out.clen,a.out.elen,a.out.file,a.out.earl,a.out.text⟩ (aj L.out (by omega)) ⟨_,_,_,_,rfl,E,J,y.out,K⟩ rfl (by kernel_rfl),l⟩
 ·clear N k1;have c6:=f.cell 6;have f6:=f.frozen 6;go_upto_region 29 with fail;have o:=(f.set 6 (.int Z b));have z:=(q.far (p:=⟨w.heap.size,6,none⟩) (ar _) (.int Z b));have j:=(u.setCell (p:=⟨w.heap.size,6,none⟩) (ag _) (.int Z b));simp only [pB,pZ,pC] at o;clear c6 f6 f q u;generalize (w2.setCell ⟨w.heap.size,6,none⟩ (.int Z b))=Q at *;go_wp2_with (first | (refine Zad o rfl _ rfl rfl rfl ?_) | (refine Zae z rfl _ _ rfl rfl rfl _ rfl rfl (by kernel_rfl) ?_;intro P B v));have l:=j.grown v j.size (fun k e=>by injection e with e;omega);obtain ⟨E,J,K⟩:=t.out _ l;exact bodyPost_ret (Zah rfl _ rfl B rfl) rfl ⟨Zd1 ⟨kn,day,known,file,office,party,b,number,amount,sn,sd,d,c,nl,e,fo,fn⟩ ⟨a.out.some,a.out.dlen,a.out.clen,a.out.elen,a.out.file,a.out.earl,a.out.text⟩ (aj L.out (by omega)) ⟨_,_,_,_,rfl,E,J,y.out,K⟩ rfl (by kernel_rfl),l⟩
 ·clear N k1;have c7:=f.cell 7;have f7:=f.frozen 7;go_upto_region 29 with fail;have o:=(f.set 7 (.int Z b));have z:=(q.far (p:=⟨w.heap.size,7,none⟩) (ar _) (.int Z b));have j:=(u.setCell (p:=⟨w.heap.size,7,none⟩) (ag _) (.int Z b));simp only [pB,pZ,pC] at o;clear c7 f7 f q u;generalize (w2.setCell ⟨w.heap.size,7,none⟩ (.int Z b))=Q at *;go_wp2_with (first | (refine Zad o rfl _ rfl rfl rfl ?_) | (refine Zae z rfl _ _ rfl rfl rfl _ rfl rfl (by kernel_rfl) ?_;intro P B v));have l:=j.grown v j.size (fun k e=>by injection e with e;omega);obtain ⟨E,J,K⟩:=t.out _ l;exact bodyPost_ret (Zah rfl _ rfl B rfl) rfl ⟨Zd1 ⟨kn,day,known,file,office,party,other,b,amount,sn,sd,d,c,nl,e,fo,fn⟩ ⟨a.out.some,a.out.dlen,a.out.clen,a.out.elen,a.out.file,a.out.earl,a.out.text⟩ (aj L.out (by omega)) ⟨_,_,_,_,rfl,E,J,y.out,K⟩ rfl (by kernel_rfl),l⟩
 ·clear N k1;have c8:=f.cell 8;have f8:=f.frozen 8;go_upto_region 29 with fail;have o:=(f.set 8 (.int Z b));have z:=(q.far (p:=⟨w.heap.size,8,none⟩) (ar _) (.int Z b));have j:=(u.setCell (p:=⟨w.heap.size,8,none⟩) (ag _) (.int Z b));simp only [pB,pZ,pC] at o;clear c8 f8 f q u;generalize (w2.setCell ⟨w.heap.size,8,none⟩ (.int Z b))=Q at *;go_wp2_with (first | (refine Zad o rfl _ rfl rfl rfl ?_) | (refine Zae z rfl _ _ rfl rfl rfl _ rfl rfl (by kernel_rfl) ?_;intro P B v));have l:=j.grown v j.size (fun k e=>by injection e with e;omega);obtain ⟨E,J,K⟩:=t.out _ l;exact bodyPost_ret (Zah rfl _ rfl B rfl) rfl ⟨Zd1 ⟨kn,day,known,file,office,party,other,number,b,sn,sd,d,c,nl,e,fo,fn⟩ ⟨a.out.some,a.out.dlen,a.out.clen,a.out.elen,a.out.file,a.out.earl,a.out.text⟩ (aj L.out (by omega)) ⟨_,_,_,_,rfl,E,J,y.out,K⟩ rfl (by kernel_rfl),l⟩
 ·clear N k1;have c9:=f.cell 9;have f9:=f.frozen 9;have a4:=f.cell 10;have bg:=f.frozen 10;go_upto_region 29 with fail;have o:=((f.set 9 (.int Z b)).set 10 (.int Z 2));have z:=((q.far (p:=⟨w.heap.size,9,none⟩) (ar _) (.int Z b)).far (p:=⟨w.heap.size,10,none⟩) (ar _) (.int Z 2));have j:=((u.setCell (p:=⟨w.heap.size,9,none⟩) (ag _) (.int Z b)).setCell (p:=⟨w.heap.size,10,none⟩) (ag _) (.int Z 2));simp only [pB,pZ,pC] at o;clear c9 f9 a4 bg f q u;generalize ((w2.setCell ⟨w.heap.size,9,none⟩ (.int Z b)).setCell ⟨w.heap.size,10,none⟩ (.int Z 2))=Q at *;go_wp2_with (first | (refine Zad o rfl _ rfl rfl rfl ?_) | (refine Zae z rfl _ _ rfl rfl rfl _ rfl rfl (by kernel_rfl) ?_;intro P B v));have l:=j.grown v j.size (fun k e=>by injection e with e;omega);obtain ⟨E,J,K⟩:=t.out _ l;exact bodyPost_ret (Zah rfl _ rfl B rfl) rfl ⟨Zd1 ⟨kn,day,known,file,office,party,other,number,amount,b,2,d,c,nl,e,fo,fn⟩ ⟨a.out.some,a.out.dlen,a.out.clen,a.out.elen,a.out.file,a.out.earl,a.out.text⟩ (aj L.out (by omega)) ⟨_,_,_,_,rfl,E,J,y.out,K⟩ rfl (by kernel_rfl),l⟩
 ·clear N k1;have S:w.heap.size<w2.heap.size:=f.lt;have hY:w.heap.size+1<w2.heap.size:=q.lt;have a5:=f.cell 11;have bh:=f.frozen 11;have a6:=f.cell 12;have bk:=f.frozen 12;go_upto_region 29 with fail;have T:=((u.setCell (p:=⟨w.heap.size,11,none⟩) (ag _) (I (some ⟨w2.heap.size,0,none⟩) 1 1)).setCell (p:=⟨w.heap.size,12,none⟩) (ag _) (I none 0 0));have F3:=Blk.new (((w2.setCell ⟨w.heap.size,11,none⟩ (I (some ⟨w2.heap.size,0,none⟩) 1 1)).setCell ⟨w.heap.size,12,none⟩ (I none 0 0))) 46 #[.int Z b,.int Z 0,I none 0 0,I none 0 0];have a2:(((w2.setCell ⟨w.heap.size,11,none⟩ (I (some ⟨w2.heap.size,0,none⟩) 1 1)).setCell ⟨w.heap.size,12,none⟩ (I none 0 0))).heap.size=w2.heap.size:=by simp [World.setCell]
  rw [a2] at F3;have o:=(((f.set 11 (I (some ⟨w2.heap.size,0,none⟩) 1 1)).set 12 (I none 0 0))).alloc (O #[.int Z b,.int Z 0,I none 0 0,I none 0 0] 46);have z:=(((q.far (p:=⟨w.heap.size,11,none⟩) (ar _) (I (some ⟨w2.heap.size,0,none⟩) 1 1)).far (p:=⟨w.heap.size,12,none⟩) (ar _) (I none 0 0))).alloc (O #[.int Z b,.int Z 0,I none 0 0,I none 0 0] 46);have j:=T.alloc T.size (O #[.int Z b,.int Z 0,I none 0 0,I none 0 0] 46);simp only [pB,pZ,pC] at o;clear a5 bh a6 bk f q u T a2 S;generalize (((w2.setCell ⟨w.heap.size,11,none⟩ (I (some ⟨w2.heap.size,0,none⟩) 1 1)).setCell ⟨w.heap.size,12,none⟩ (I none 0 0))).alloc (O #[.int Z b,.int Z 0,I none 0 0,I none 0 0] 46)=Q at *;have ad:=ae hY;clear hY;go_wp2_with (first | (refine Zad o rfl _ rfl rfl rfl ?_) | (refine Zae z rfl _ _ rfl rfl rfl _ rfl rfl (by kernel_rfl) ?_;intro P B v));have l:=j.grown v j.size (fun k e=>by injection e with e;omega);obtain ⟨E,J,K⟩:=t.out _ l;have rf:=Yfe (F3.grown v (fun e=>by injection e with e;exact absurd e (Nat.ne_of_gt ad.out))) (fun h=>by have:=ab.out _ h;have:=ad.out;omega);exact bodyPost_ret (Zah rfl _ rfl B rfl) rfl ⟨Zd1 ⟨kn,day,known,file,office,party,other,number,amount,sn,sd,[Zdr b],[],nl,e,fo,fn⟩ ⟨by simp,by simp,by simp,a.out.elen,a.out.file,a.out.earl,Yff b⟩ (aj L.out (by omega)) ⟨_,_,_,_,rfl,rf,.nil 5,y.out,K⟩ rfl (by kernel_rfl),l⟩
 ·clear N k1;have S:w.heap.size<w2.heap.size:=f.lt;have a7:=f.cell 13;have bl:=f.frozen 13;go_upto_region 29 with fail;have T:=(u.setCell (p:=⟨w.heap.size,13,none⟩) (ag _) (I (some ⟨w2.heap.size+1,0,none⟩) 1 1));have X:=T.alloc T.size (O #[.int Z b] 3);have o:=(((f.set 13 (I (some ⟨w2.heap.size+1,0,none⟩) 1 1))).alloc (O #[.int Z b] 3)).alloc (O #[I (some ⟨w2.heap.size,0,none⟩) 1 1,.int Z 0,.int Z 0,I none 0 0,I none 0 0] 129);have z:=(((q.far (p:=⟨w.heap.size,13,none⟩) (ar _) (I (some ⟨w2.heap.size+1,0,none⟩) 1 1))).alloc (O #[.int Z b] 3)).alloc (O #[I (some ⟨w2.heap.size,0,none⟩) 1 1,.int Z 0,.int Z 0,I none 0 0,I none 0 0] 129);have j:=X.alloc X.size (O #[I (some ⟨w2.heap.size,0,none⟩) 1 1,.int Z 0,.int Z 0,I none 0 0,I none 0 0] 129);simp only [pB,pZ,pC] at o;clear a7 bl f q u T X S;generalize (((w2.setCell ⟨w.heap.size,13,none⟩ (I (some ⟨w2.heap.size+1,0,none⟩) 1 1))).alloc (O #[.int Z b] 3)).alloc (O #[I (some ⟨w2.heap.size,0,none⟩) 1 1,.int Z 0,.int Z 0,I none 0 0,I none 0 0] 129)=Q at *;go_wp2_with (first | (refine Zad o rfl _ rfl rfl rfl ?_) | (refine Zae z rfl _ _ rfl rfl rfl _ rfl rfl (by kernel_rfl) ?_;intro P B v));have l:=j.grown v j.size (fun k e=>by injection e with e;omega);obtain ⟨E,J,K⟩:=t.out _ l;exact bodyPost_ret (Zah rfl _ rfl B rfl) rfl ⟨Zd1 ⟨kn,day,known,file,office,party,other,number,amount,sn,sd,d,c,1,e,fo,fn⟩ ⟨a.out.some,a.out.dlen,a.out.clen,a.out.elen,a.out.file,a.out.earl,a.out.text⟩ (aj L.out (by omega)) ⟨_,_,_,_,rfl,E,J,.inr ⟨_,_,rfl,Nat.zero_lt_one⟩,K⟩ rfl (by kernel_rfl),l⟩
 ·clear N k1;have S:w.heap.size<w2.heap.size:=f.lt;have hY:w.heap.size+1<w2.heap.size:=q.lt;have XA:=f.alloc (O #[] 106);have YA:=q.alloc (O #[] 106);have PA:=u.alloc u.size (O #[] 106);have OA:=gr w2 #[] 0 (base:=w2.heap.size) (e:=106) (size:=2) (ag _) (bi _) rfl;have SA:=af.out _ PA;have aq:=f.cell 14;have bx:e.length<=8:=a.out.elen;go_upto_region 29 with (at_builtin;first | (refine Zd8 underlying43 info106 rfl (by omega) (by omega) OA SA (Yh1 e) (by omega) (by omega) (by simp) rfl _ _ rfl rfl rfl ?_;intro v4 w4 O4 g4 l4;rw [cz,dm] at O4;obtain ⟨A4,q4,rfl⟩:=Zc1 O4;have X4:=(XA.grown g4 (fun e=>by injection e with e;have e:w.heap.size=w2.heap.size:=e;omega)).alloc (O #[.int Z b,.int Z 5,.int Z 4095,.int Z b] 106);have Y4:=(YA.grown g4 (fun e=>by injection e with e;have e:w.heap.size+1=w2.heap.size:=e;omega)).alloc (O #[.int Z b,.int Z 5,.int Z 4095,.int Z b] 106);have Y:=PA.grown g4 PA.size (fun k e=>by injection e with e;have e:w2.heap.size=k:=e;omega);have P4:=Y.alloc Y.size (O #[.int Z b,.int Z 5,.int Z 4095,.int Z b] 106);have al:=g4.size;rw [ax] at al;have am:w2.heap.size<=(w4.alloc (O #[.int Z b,.int Z 5,.int Z 4095,.int Z b] 106)).heap.size:=(by rw [ax];omega);have O5:=O4.alloc (O #[.int Z b,.int Z 5,.int Z 4095,.int Z b] 106);have S5:=Zer.of_new (m:=2) (c:=2) (size:=2) (Blk.new w4 106 #[.int Z b,.int Z 5,.int Z 4095,.int Z b]) rfl) | (refine Zd8 underlying43 info106 rfl (by omega) (by omega) O5 S5 (by simp [Value.oneCell']) (by omega) (by omega) am rfl _ _ rfl rfl rfl ?_;intro v6 w6 O6 g6 l6;obtain ⟨A6,q6,rfl⟩:=Zc1 O6;have X6:=X4.grown g6 (fun e=>by have:=(O5.lt _ e.symm).1;omega);have Y6:=Y4.grown g6 (fun e=>by have:=(O5.lt _ e.symm).1;omega);have P6:=P4.grown g6 P4.size (fun k e=>by have:=(O5.lt _ e).1;omega);have a8:=X6.cell 14;have bn:=X6.frozen 14))
  have O7:=O6.kept (Zaj w6 w.heap.size 14 (I A6 (e.length+2) q6)) (.inr (fun e=>by have:=(O6.lt _ e).1;omega));have o:=(X6.set 14 (I A6 (e.length+2) q6));have z:=(Y6.far (p:=⟨w.heap.size,14,none⟩) (ar _) (I A6 (e.length+2) q6));have j:=(P6.setCell (p:=⟨w.heap.size,14,none⟩) (ag _) (I A6 (e.length+2) q6));simp only [pB,pZ,pC] at o;clear a8 bn f q u XA YA PA OA SA aq X4 Y4 P4 Y O4 O5 S5 al am g4 g6 l4 l6 X6 Y6 P6 O6;generalize (w6.setCell ⟨w.heap.size,14,none⟩ (I A6 (e.length+2) q6))=Q at *;go_wp2_with (first | (refine Zad o rfl _ rfl rfl rfl ?_) | (refine Zae z rfl _ _ rfl rfl rfl _ rfl rfl (by kernel_rfl) ?_;intro P B v));have l:=j.grown v j.size (fun k e=>by injection e with e;omega);obtain ⟨E,J,K⟩:=t.out _ l;have Oz:=O7.kept v (.inr (fun e=>by have:=(O7.lt _ e).1;omega));have rE:Zdf [] H P (I A6 (e.length+2) q6) (.s 2 (prD (e++[(b,5),(4095,b)]))):=by
   rw [Zu6,show prV (e++[(b,5),(4095,b)])=prV e++[.int Z b,.int Z 5,.int Z 4095,.int Z b] by unfold prV;rw [bm];rfl];exact Zbv.rep (ts:=[]) (ts':=[]) ⟨_,_,Oz,Zax.of_plain _ _ _⟩ (fun _ h=>h) (by simp) (fun i hi=>by have:=ab.out i hi;omega)
  exact bodyPost_ret (Zah rfl _ rfl B rfl) rfl ⟨Zd1 ⟨kn,day,known,file,office,party,other,number,amount,sn,sd,d,c,nl,(e++[(b,5),(4095,b)]),fo,fn⟩ ⟨a.out.some,a.out.dlen,a.out.clen,by have:=L.out;have:=a3.out;simp;omega,a.out.file,(fun p hp=>by rcases List.mem_append.1 hp with hp | hp;exact a.out.earl p hp;simp at hp;rcases hp with rfl | rfl;exact aa.out;exact (⟨by decide,by decide⟩:I64 4095)),a.out.text⟩ (by have:=L.out;simp;omega) ⟨_,_,_,_,rfl,E,J,y.out,rE⟩ rfl (by kernel_rfl),l⟩
 ·clear N k1;have a9:=f.cell 15;have bo:=f.frozen 15;have bc:=f.cell 16;have bp:=f.frozen 16;have be:=f.cell 17;have bq:=f.frozen 17;have bf:=f.cell 18;have bs:=f.frozen 18;go_upto_region 29 with fail;have o:=((((f.set 15 (.int Z b)).set 16 (.int Z 1)).set 17 (I none 0 0)).set 18 (I none 0 0));have z:=((((q.far (p:=⟨w.heap.size,15,none⟩) (ar _) (.int Z b)).far (p:=⟨w.heap.size,16,none⟩) (ar _) (.int Z 1)).far (p:=⟨w.heap.size,17,none⟩) (ar _) (I none 0 0)).far (p:=⟨w.heap.size,18,none⟩) (ar _) (I none 0 0));have j:=((((u.setCell (p:=⟨w.heap.size,15,none⟩) (ag _) (.int Z b)).setCell (p:=⟨w.heap.size,16,none⟩) (ag _) (.int Z 1)).setCell (p:=⟨w.heap.size,17,none⟩) (ag _) (I none 0 0)).setCell (p:=⟨w.heap.size,18,none⟩) (ag _) (I none 0 0));simp only [pB,pZ,pC] at o;clear a9 bo bc bp be bq bf bs f q u;generalize ((((w2.setCell ⟨w.heap.size,15,none⟩ (.int Z b)).setCell ⟨w.heap.size,16,none⟩ (.int Z 1)).setCell ⟨w.heap.size,17,none⟩ (I none 0 0)).setCell ⟨w.heap.size,18,none⟩ (I none 0 0))=Q at *;go_wp2_with (first | (refine Zad o rfl _ rfl rfl rfl ?_) | (refine Zae z rfl _ _ rfl rfl rfl _ rfl rfl (by kernel_rfl) ?_;intro P B v));have l:=j.grown v j.size (fun k e=>by injection e with e;omega);obtain ⟨E,J,K⟩:=t.out _ l;exact bodyPost_ret (Zah rfl _ rfl B rfl) rfl ⟨Zd1 ⟨kn,day,known,file,office,party,other,number,amount,sn,sd,d,c,nl,e,b,1⟩ ⟨a.out.some,a.out.dlen,a.out.clen,a.out.elen,a.out.file,a.out.earl,a.out.text⟩ (aj L.out (by omega)) ⟨_,_,_,_,rfl,E,J,y.out,K⟩ rfl (by kernel_rfl),l⟩
theorem Zy5 (l:Ya9 x) (L:AcM H w V x) (M:∀ i∈H,i<w.heap.size) (m:Nat) (hm:x.e.length<=m) (k:m<=6) (a b:Int) (f:-9223372036854775808<=a/\a<=9223372036854775807) (j:I64 b) :
  Calls prog 34 #[.agg V,.int Z a,.int Z b] w
   fun r t=>(∃ V' o,r=U (.agg V')/\Ya9 o/\o.e.length<=m+2/\AcM H t V' o/\V'.size=19/\V'.all (·.oneCell')=true)/\Bl w t:=by
 obtain ⟨dv,cv,N,ev,rfl,hd,hc,hl,q⟩:=L;obtain ⟨u,E,rfl,_,_⟩:=hd.out.formulas;obtain ⟨y,B,rfl,_,_⟩:=hc.out.claims;obtain ⟨v,J,rfl,_,_⟩:=q.out.pairs;obtain ⟨z,K,rfl⟩:=hl.slice;obtain ⟨kn,day,known,file,office,party,other,number,amount,sn,sd,d,c,nl,e,fo,fn⟩:=x;exact Zu7 kn day known file office party other number amount sn sd fo fn d c nl e u y z v E B K J l m hm k a b f j H w M hd hc hl q
theorem Yiz (ps:List Nat):∀ u∈us ps,u.oneCell'=true:=fun u a=>by
 obtain ⟨x,_,rfl⟩:=List.mem_map.1 a;rfl
theorem Zof {ps:List Nat} {x:Nat} (h:Zbw ps) (a:x<18446744073709551616):Zbw (ps++[x]):=fun y hy=>by
 rcases List.mem_append.1 hy with hy | hy
 ·exact h y hy
 ·rw [List.mem_singleton.1 hy];exact a
theorem Ycj {ps:List Nat} {x:Nat} (h:Zbw ps) (a:x<18446744073709551616) (j:Nat):Zbw (ps.set j x):=fun y hy=>by
 rcases List.mem_or_eq_of_mem_set hy with hy | hy
 ·exact h y hy
 ·rw [hy];exact a
def Yh2 (W:World) (g:Nat):Nat:=match W.cell? ⟨g,29,none⟩ with
 | some (I _ n _)=>n
 | _=>0
theorem Yh3 {base n c:Nat} {j:List Value} (h:w.ownsRow base 26 1 (I (some ⟨g,0,none⟩) n c) n j) (k:Nat) (u:Value):(w.setCell ⟨g,k,none⟩ u).ownsRow base 26 1 (I (some ⟨g,0,none⟩) n c) n (j.set k u):=by
 refine ⟨by rw [iw];exact h.1,?_⟩;rcases h.2 with ⟨e,_⟩ | ⟨g',cap,a,e,o,l,f,b,d,q⟩
 ·cases e
 ·injection e with e1 e2 e3;injection e1 with e1;injection e1 with e1;subst e1 e3;refine .inr ⟨g,c,a.setIfInBounds k u,rfl,o,(show Blk w g 26 a from l).set k u,f,b,by simp [d],?_⟩;rw [<- q,Array.toList_setIfInBounds,List.take_set]
theorem Zmx:∀ (vs:List Value) (o:Nat) (C:Array Value),(Zgh C o vs).size=C.size
 | [],_,_=>rfl
 | v::r,o,C=>by rw [Zgh,Zmx r,gt]
theorem Zlc:∀ (vs:List Value) (o:Nat) (C:Array Value) (k:Nat),(k<o∨o+vs.length<=k)->(Zgh C o vs)[k]?=C[k]?
 | [],_,_,_,_=>rfl
 | v::r,o,C,k,h=>by
  rw [au] at h;rw [Zgh,Zlc r (o+1) _ k (by omega),bw (by omega)]
theorem Zu8:∀ (vs:List Value) (o:Nat) (C:Array Value) (j:Nat) (v:Value),vs[j]?=some v->o+vs.length<=C.size->(Zgh C o vs)[o+j]?=some v
 | [],_,_,_,_,h,_=>by simp at h
 | u::r,o,C,0,v,h,hs=>by
  rw [au] at hs;have e:u=v:=by simpa using h
  rw [Zgh,Zlc r (o+1) _ _ (by omega),Nat.add_zero,eu (by omega),e]
 | u::r,o,C,j+1,v,h,hs=>by
  rw [au] at hs;have a:r[j]?=some v:=by simpa using h
  have e:=Zu8 r (o+1) (C.setIfInBounds o u) j v a (by rw [gt];omega);rw [Zgh,show o+(j+1)=o+1+j by omega];exact e
section
variable {h:Hd} {i:Int} {V:Array Value} {s:Nat} {p:Value}
theorem Yck (f:V.size=19) (a:Hd):Zgh (Zgo h i V s p) 0 a.vals.toList=Zgo a i V s p:=by
 have b:=Zay (h:=h) (i:=i) (salt:=s) (p:=p) f;have c:=b.size;have l:a.vals.toList.length=8:=rfl;have out:∀ k,8<=k->(Zgh (Zgo h i V s p) 0 a.vals.toList)[k]?=(Zgo h i V s p)[k]?:=fun k o=>Zlc _ _ _ _ (.inr (by omega));refine Zh7.eq ⟨by rw [Zmx];exact c,f,fun j v d=>?_,fun j v d=>?_,?_,?_,?_⟩
 ·rw [out _ (by omega)];exact b.act j v d
 ·have e:=Zu8 a.vals.toList 0 (Zgo h i V s p) j v d (by omega);rw [cz] at e;exact e
 ·rw [out _ (by omega)];exact b.idx
 ·rw [out _ (by omega)];exact b.salt
 ·rw [out _ (by omega)];exact b.path
theorem Yfg (f:V.size=19) (b:V'.size=19):Zgh (Zgo h i V s p) 9 V'.toList=Zgo h i V' s p:=by
 have a:=Zay (h:=h) (i:=i) (salt:=s) (p:=p) f;have d:=a.size;have e:V'.toList.length=19:=by rw [br,b]
 have out:∀ k,(k<9∨28<=k)->(Zgh (Zgo h i V s p) 9 V'.toList)[k]?=(Zgo h i V s p)[k]?:=fun k o=>Zlc _ _ _ _ (by omega);refine Zh7.eq ⟨by rw [Zmx];exact d,b,fun j v c=>?_,fun j v c=>?_,?_,?_,?_⟩
 ·exact Zu8 V'.toList 9 (Zgo h i V s p) j v c (by omega)
 ·have l:j<8:=Zap c;rw [out _ (by omega)];exact a.hd j v c
 ·rw [out _ (by omega)];exact a.idx
 ·rw [out _ (by omega)];exact a.salt
 ·rw [out _ (by omega)];exact a.path
theorem Yfh (a:V.size=19) (j:Int):(Zgo h i V s p).setIfInBounds 8 (.int Z j)=Zgo h j V s p:=by
 obtain ⟨r,t,v2,u,v,y,z,B,E,J,b,c,d,e,f,k,l,o,q,rfl⟩:=Zt6 a;rfl
theorem Ycl (b:V.size=19) (a:Nat):(Zgo h i V s p).setIfInBounds 28 (.int .u64 (a:Int))=Zgo h i V a p:=by
 obtain ⟨r,t,v2,u,v,y,z,B,E,J,c,d,e,f,j,k,l,o,q,rfl⟩:=Zt6 b;rfl
theorem Zmy (a:V.size=19) (q:Value):(Zgo h i V s p).setIfInBounds 29 q=Zgo h i V s q:=by
 obtain ⟨r,t,v2,u,v,y,z,B,E,J,b,c,d,e,f,j,k,l,o,rfl⟩:=Zt6 a;rfl
theorem Zy6 (a:V.size=19) (q:Value):(Zgo h i V s p).setIfInBounds 11 q=Zgo h i (V.setIfInBounds 2 q) s p:=by
 obtain ⟨r,t,v2,u,v,y,z,B,E,J,b,c,d,e,f,j,k,l,o,rfl⟩:=Zt6 a;rfl
theorem Zu9 (a:V.size=19) (q:Value):(Zgo h i V s p).setIfInBounds 13 q=Zgo h i (V.setIfInBounds 4 q) s p:=by
 obtain ⟨r,t,v2,u,v,y,z,B,E,J,b,c,d,e,f,j,k,l,o,rfl⟩:=Zt6 a;rfl
end
theorem Zwz {T:TypeId} {h:Hd} {s:Nat} {n c:Nat} (b:Blk W g T (Zgo h i V s (I A n c))) (a:V.size=19):Yh2 W g=n:=by
 unfold Yh2;rw [b.cellAt 29 _ (Zay a).path]
def Yi0 (f:Fil):Ac:=⟨0,f.day,f.known,f.file,f.office,f.party,f.other,0,0,0,0,f.d,f.c,0,f.e,0,0⟩
theorem Ycm {f:Fil} (h:Zby f) (j:f.e.length<=2) (hd:1<=f.d.length):Ya9 (Yi0 f):=by
 obtain ⟨_,_,a,_,_,_,b,_,c,_⟩:=h;have hl:=Ztg.len b;exact ⟨hd,aj hl.1 (by omega),aj hl.2 (by omega),aj j (by omega),⟨by have:=a.1;show -9223372036854775808<=f.file;omega,by have:=a.2;show f.file<=9223372036854775807;omega⟩,fun p k=>by have:=(c p k).1;exact ⟨by omega,by omega⟩,0,.inl ⟨rfl,b⟩⟩
theorem Ycn {B:Nat} {f:Fil} {dv cv ev:Value} (h:Zbs w B f dv cv ev) (c:Bl w W) (b:B<=w.heap.size):Yf0 W W.heap.size (f.vals dv cv ev) (Yi0 f):=by
 have a:=h.keep (B':=W.heap.size) (fun p d=>c.cell (ah d b)) (aj b c.size);exact ⟨dv,cv,I none 0 0,ev,rfl,a.1,a.2.1,.inl ⟨rfl,rfl⟩,a.2.2⟩
theorem Yjw (j:Nat) (y:j<18446744073709551616) (fl:List Fil) (o:Int) (d:Zkv fl o) (A:Option Addr) (c:Nat) (hc:fl.length<=c) (w:World) (B:Nat) (l:B<=w.heap.size) (t:Zes w B A fl) (i size:Nat) (hi:i<size) (P:size<=fl.length) :
  Calls prog 10 #[.int .u64 (j:Int),I A fl.length c,.int Z (i:Int),.int Z (size:Int)] w fun e z=>(∃ C,e=U (.agg C)/\Cy z C 2 18)/\Bl w z:=by
 have hl:=d.len;have K:(fl.take size).length=size:=by rw [cw];omega
 have aa:(Zd3 (fl.take size)).length=size:=by rw [Zc6,K]
 have ab:=Zk8 16 (Zd3 (fl.take size)) i;refine (Zv7 j y fl (by omega) d.ok A c hc w B l t i size hi P (Zci 16 (Zd3 (fl.take size))) (Zff _ _) (fun W v=>∃ base,w.heap.size<base/\Zi8 W base v (Zdq 16 (Zd3 (fl.take size)) i))
  (fun W v hr=>?_) (fun W v L hr=>?_) (fun W W' v hp hg=>?_)).mono ?_
 ·obtain ⟨Y,c2,rfl,f,a⟩:=Rep.row hr;rw [Zc7] at f ⊢;obtain ⟨b,o,rfl,_,_⟩:=a 0 (.int .u64 ((Zd3 (fl.take size))[0]'(by omega):Int)) (by simp [us,show 0<(Zd3 (fl.take size)).length by omega]);exact Ze7 16 (Zd3 (fl.take size)) b o c2 W (by omega) (by omega) (by omega) f (Zfs _) (fun k J=>by
   obtain ⟨b2,o2,e,_,E⟩:=a k (.int .u64 ((Zd3 (fl.take size))[k]:Int)) (by simp [us,J]);injection e with e;injection e with e1 e2;subst e1 e2;exact E)
 ·obtain ⟨Y,c2,rfl,f,a⟩:=Rep.row hr;rw [Zc7] at f ⊢;obtain ⟨b,o,rfl,_,_⟩:=a 0 (.int .u64 ((Zd3 (fl.take size))[0]'(by omega):Int)) (by simp [us,show 0<(Zd3 (fl.take size)).length by omega]);refine (Zh6 16 (Zd3 (fl.take size)) i b o c2 W (by omega) (by omega) (by omega) (by omega) f (Zfs _) (fun k J=>by
   obtain ⟨b2,o2,e,_,E⟩:=a k (.int .u64 ((Zd3 (fl.take size))[k]:Int)) (by simp [us,J]);injection e with e;injection e with e1 e2;subst e1 e2;exact E)).mono ?_
  rintro e z ⟨u,rfl,X,q⟩;obtain ⟨Q,T,R,rfl,_,_⟩:=Zbv.slice X;exact ⟨Q,T,R,rfl,⟨_,L,X⟩,q⟩
 ·obtain ⟨base,q,ho⟩:=hp;obtain ⟨Q,T,R,rfl,_,_⟩:=Zbv.slice ho;exact ⟨base,q,ho.far hg q⟩
 ·rintro e z ⟨dv,cv,ev,Ap,np,cp,rfl,S,⟨base,q,ho⟩,r⟩;obtain ⟨rfl,N⟩:=ho.row;have M:=d.ok _ (aw (show i<fl.length by omega));refine ⟨⟨_,rfl,base,_,(i:Int),_,Yi0 fl[i],Zfe i,Ap,cp,Zdq 16 (Zd3 (fl.take size)) i,⟨(Zkg _ _ _ _ _ _ _ _).copV.eq,rfl,Zez S.one,Ycm M (d.earl _ (aw _)) (d.some _ (aw _)),d.earl _ (aw _),Ycn S r l,by omega,Zjy _ _ _,N,Zff _ _,by show 5<18446744073709551616;omega,Zcn _ _⟩⟩,r⟩
theorem Zw0 {p q:List FV} {x:FV} {k:Nat} (h:Blk W g 48 (Zam (p++x::q)++sp).toArray) (c:k=p.length):W.rangeAt g (k * 19) x.vals.toList:=fun j u a=>by
 subst c;refine h.cellAt _ _ ?_;have b:j<19:=Zap a;rw [Zcv,Zcl,ep,ay,ay,<- Zbe p,dg (by omega),i8,d9 (by rw [Zhl];exact b)];exact a
theorem Zva {c:Nat} (p m q:List FV) (a b N:Nat) (ha:a=p.length) (hb:b=a+m.length) (hN:N=b+q.length) (be:N<=1000) (B:Nat) (w:World) (hB:B<=g) (bo:0<B)
  (hX:Blk w g 48 (Zam (p++m++q)++sp).toArray) (hA:∀ x∈m,Zby x.f/\Zbs w B x.f x.dv x.cv x.ev) (hG:w.cell? ⟨0,0,none⟩=some (.int Z 655)) :
  Calls prog 179 #[I (some ⟨g,0,none⟩) N c,.int Z (a:Int),.int Z (b:Int),.func (.func 41) #[] #[]] w fun e w'=>e=U (.tuple #[])/\(∃ m',m'.Perm m/\Zb4 m'/\Blk w' g 48 (Zam (p++m'++q)++sp).toArray)/\w.grownBy w' (some g):=by
 have bq:=hX.lt;have HC:=ae (fun (W:World) (Q:w.grownBy W (some g)) (x y:FV) (hx:x∈m) (hy:y∈m)=>Zo6 x y W (hA x hx).1 (hA y hy).1 B (by have:=Q.size;omega)
  ((hA x hx).2.keep (fun p hp=>dc (Q.block p.block (by omega) (fun e=>by injection e with e;omega))) (ag _))
  ((hA y hy).2.keep (fun p hp=>dc (Q.block p.block (by omega) (fun e=>by injection e with e;omega))) (ag _))
  ((dc (a:=⟨0,0,none⟩) (Q.block 0 (by omega) (fun e=>by injection e with e;omega))).trans hG) (by have:=Q.size;omega))
 have HO:=ae (fun (x:FV) (hx:x∈m)=>(Zez (Zbs.one (hA x hx).2):x.vals.all (·.oneCell')=true));have HX:=ae hX;have bf:a<=1000:=by omega
 have bg:b<=1000:=by omega
 have M:=ae (show a=p.length/\b=a+m.length/\N=b+q.length from ⟨ha,hb,hN⟩);clear hA hG hX ha hb hN;go_enter func179,ntmps179;go_wp2_with fail;go_loopw [8] (fun i wr=>∃ (k:Nat) (s r:List FV),i=.int Z (k:Int)/\k<=b+1/\Hid (a+s.length<=k/\(r≠[]->k=a+s.length/\s≠[])/\(r=[]->b<=k))/\Hid (Yi6 w wr g p q sp m s r)) (fun i _=>b+1 - (intOf i).toNat)
 case atStart =>
  obtain ⟨ha,hb,hN⟩:=M.out;cases m with
  | nil=>exact ⟨a+1,[],[],by go_num,by simp at hb;omega,ae ⟨by simp,fun h=>absurd rfl h,fun _=>by simp at hb;omega⟩,ae ⟨List.Perm.refl _,List.Pairwise.nil,HX.out,World.grownBy.refl w _⟩⟩
  | cons x m=>exact ⟨a+1,[x],m,by go_num,by simp at hb;omega,ae ⟨by simp,fun _=>⟨rfl,by simp⟩,fun h=>by subst h;simp at hb;omega⟩,ae ⟨List.Perm.refl _,List.pairwise_singleton _ _,HX.out,World.grownBy.refl w _⟩⟩
 case round =>
  obtain ⟨k,s,r,rfl,bl,a0,HI⟩:=hrel;clear HX;by_cases ab:r=[]
  ·have bp:=a0.out.2.2 ab;subst ab;have hd:decide (k<b)=false:=decide_eq_false (by omega);go_wp2_with fail;go_end0;have h:=HI.out;exact ⟨rfl,⟨s,by simpa using h.1,h.2.1,by simpa using h.2.2.1⟩,h.2.2.2⟩
  ·obtain ⟨a9,bs⟩:=a0.out.2.1 ab;have P:=ae a9;obtain ⟨x,r,rfl⟩:=List.exists_cons_of_ne_nil ab;have Y:=ae (show s.length+(r.length+1)=m.length from by
    have:=HI.out.1.length_eq;rw [ai,au] at this;exact this)
   have a8:k<b:=by have h1:=Y.out;have h2:=M.out;omega
   have hd:=decide_eq_true a8;have HJ:=ae HI.out.begin;clear HI a0 ab a9;go_wp2_with fail;go_loopw [9] (fun v wr=>∃ (j:Nat) (E L:List FV),v=.int Z (j:Int)/\Hid (j=a+E.length/\E.length+L.length=s.length)/\Hid (Yc0 w wr g p q sp m x E L r)) (fun v _=>(intOf v).toNat)
   case atStart=>exact ⟨k,s,[],rfl,ae ⟨P.out,by simp⟩,HJ⟩
   case round =>
    obtain ⟨j,E,L,rfl,t,HI⟩:=hrel;clear HJ hd;have HK:=HI.out;have al:=HK.2.2.2.1.lt;have an:x∈m:=HK.1.mem_iff.1 (by simp);have a1:=ae (HO.out x an);rcases Zfh E with rfl | ⟨E,y,rfl⟩
    ·-- at the front
     have hd:decide (a<j)=false:=decide_eq_false (by have hj:=t.out.1;simp at hj;omega);clear al an HK a1;go_upto_region 4 with fail;go_cut [34] (fun v wx=>v=.bool false/\Below wr.heap.size wr wx)
     case first=>as_aux_lemma =>
      refine wp_region_held_drew (S:=(fun V=>Below wr.heap.size wr V)) (by kernel_rfl) ?_ (fun l=>?_)
      ·first | done | ((try dsimp only);exact (ap _ _).drew)
      have Q2:=(ap wr.heap.size wr).drew;generalize wr.drew=w2 at *;refine tq 0 18 rfl ?_;refine tq 1 19 rfl ?_;refine tq 2 20 rfl ?_;refine tq 3 21 rfl ?_;refine tz 4 22 rfl ?_;refine tz 5 23 rfl ?_;refine tz 6 24 rfl ?_;refine tz 7 25 rfl ?_;refine tz 8 26 rfl ?_;refine tz 9 27 rfl ?_;refine tz 10 28 rfl ?_;refine tz 11 29 rfl ?_;refine tz 12 30 rfl ?_;refine tz 13 31 rfl ?_;refine tz 14 32 rfl ?_;refine tz 15 33 rfl ?_;refine tq 16 34 rfl ?_;refine dn ?_;go_wp2_with fail;go_meet;exact ⟨rfl,Q2⟩
     case rest=>as_aux_lemma =>
      obtain ⟨rfl,R⟩:=hcut;have HL:=ae ((HI.out.keep R).done (fun y p' e=>by simp at e));clear R HI;go_wp2_with fail;go_roundw
      case rel=>exact ⟨k+1,_,r,by go_num,by omega,ae ⟨by have h1:=t.out.2;have h2:=P.out;simp at h1 ⊢;omega,fun hr=>⟨by have h1:=t.out.2;have h2:=P.out;simp at h1 ⊢;omega,by simp⟩,fun hr=>by have h1:=Y.out;have h2:=P.out;have h3:=M.out;subst hr;simp at h1;omega⟩,HL⟩
      case measure=>simp [intOf];omega
    ·have a4:y∈m:=HK.1.mem_iff.1 (by simp);obtain ⟨d,rfl⟩:∃ d,j=d+1:=⟨j - 1,by have hj:=t.out.1;simp at hj;omega⟩
     have bk:d+1<N:=by have h1:=t.out.2;have h2:=t.out.1;have h3:=M.out;have h4:=Y.out;simp at h1 h2;omega
     have af:=ae (show d=p.length+E.length from by have hj:=t.out.1;have h2:=M.out;simp at hj;omega);have hd:decide (a<d+1)=true:=decide_eq_true (by have hj:=t.out.1;simp at hj;omega);have bh:decide ((a:Int)<(d:Int)+1)=true:=decide_eq_true (by have hj:=t.out.1;simp at hj;omega);have bx:IntKind.i64.wrap (d:Int)=(d:Int):=by rw [az];omega
     have jz:=decide_eq_true bk;have bn:decide (d<N)=true:=decide_eq_true (by omega);have p2:(0:Int)<=(d:Int)/\(d:Int)<(N:Int):=by omega
     have p3:(d:Int)<(N:Int):=by omega
     have p0:(0:Int)<=(d:Int)+1:=by omega
     have p1:(d:Int)+1<(N:Int):=by omega
     have e0:((d:Int)+1).toNat=d+1:=by omega
     have av:=ae (fun (W:World) (Q:Below wr.heap.size wr W)=>HC.out W (Zac HK.2.2.2.2 (Zaf (row:=none) Q) (fun k e _=>by cases e)) x y an a4);have rx:wr.rangeAt g ((d+1) * 19) x.vals.toList:=Zw0 (p:=p++E++[y]) (q:=L++r++q) (x:=x) (sp:=sp) (by have:=HK.2.2.2.1;simpa using this) (by have:=af.out;simp;omega);have ry:wr.rangeAt g (d * 19) y.vals.toList:=Zw0 (p:=p++E) (q:=x::(L++r++q)) (x:=y) (sp:=sp) (by have:=HK.2.2.2.1;simpa using this) (by have:=af.out;simp;omega);have RX:=ae (fun (W:World) (Q:Below wr.heap.size wr W)=>(fun j' u hu=>(Q.cell (p:=⟨g,(d+1) * 19+j',none⟩) al).trans (rx j' u hu):W.rangeAt g ((d+1) * 19) x.vals.toList));have RY:=ae (fun (W:World) (Q:Below wr.heap.size wr W)=>(fun j' u hu=>(Q.cell (p:=⟨g,d * 19+j',none⟩) al).trans (ry j' u hu):W.rangeAt g (d * 19) y.vals.toList));have bc:=ae (HO.out y a4);have T:=FV.size x;have X:=FV.size y;clear HK rx ry an a4;generalize hz:Zf3 x.f y.f=z at *;go_upto_region 4 with fail;go_cut [34] (fun v wx=>v=.bool (decide (z<0))/\Below wr.heap.size wr wx)
     case first=>as_aux_lemma =>
      refine wp_region_held_drew (S:=(fun V=>Below wr.heap.size wr V)) (by kernel_rfl) ?_ (fun l=>?_)
      ·first | done | ((try dsimp only);exact (ap _ _).drew)
      have Q2:=(ap wr.heap.size wr).drew;generalize wr.drew=w2 at *;refine tq 0 18 rfl ?_;refine tq 1 19 rfl ?_;refine tq 2 20 rfl ?_;refine tq 3 21 rfl ?_;refine tq 4 22 rfl ?_;refine tq 5 23 rfl ?_;refine tq 6 24 rfl ?_;refine tq 7 25 rfl ?_;refine ty 8 26 rfl (Zcw T _ rfl rfl (fun V h=>RX.out V h) rfl) ?_;refine tq 9 27 rfl ?_;refine tq 10 28 rfl ?_;refine tq 11 29 rfl ?_;refine tq 12 30 rfl ?_;refine ty 13 31 rfl (Zcw X _ rfl rfl (fun V h=>RY.out V h) rfl) ?_;refine rd 14 (some 32) rfl fun K J=>?_;go_simp;(refine (av.out _ Q2).mono ?_;rintro e w3 ⟨rfl,a7⟩);refine J.out _ _ (Q2.trans (a7.mono Q2.size)) fun l=>?_;clear J K;(try simp only [pS,pB,pZ,pC]);have Q3:=Q2.trans (a7.mono Q2.size);refine tq 15 33 rfl ?_;refine tq 16 34 rfl ?_;refine dn ?_;go_wp2_with fail;go_meet;exact ⟨rfl,Q3⟩
     case rest=>as_aux_lemma =>
      obtain ⟨rfl,R⟩:=hcut;have HL:=ae (HI.out.keep R);have rx:=RX.out wc R;have ry:=RY.out wc R;clear R HI RX RY av al;by_cases ad:z<0
      ·have aa:=decide_eq_true ad;rw [aa];have aq:=ae (fun (W:World) (Q:Below wc.heap.size wc W)=>(HL.out.keep Q).swap (by rw [hz];exact ad) af.out);have a6:=ae (fun (W:World) (Q:Below wc.heap.size wc W) (o:Nat) (ho:o+19<=N * 19)=>(Zmn (o:=o) (n:=19) (HL.out.keep Q).2.2.2.1 (by
        have h1:=HL.out.1.length_eq;have h3:=M.out;simp only [ai,au,dk] at h1;rw [ef,ai,Zbe];simp only [ai,au,dk];omega)))
       have a5:=ae (show d=a+E.length/\E.length+(y::L).length=s.length from ⟨by have h1:=t.out.1;simp at h1;omega,by have h1:=t.out.2;simp at h1 ⊢;omega⟩);go_upto_region 6 with fail;clear HC HO M Y P t af HL hz ad aa hd bh bf bg be a8 bl jz bn;refine wp_region_held_drew (S:=(fun _=>True)) (by kernel_rfl) ?_ (fun l=>?_)
       ·first | done | ((try dsimp only);(try exact True.intro))
       have Qw:=(ap wc.heap.size wc).drew;have HS:=ae (aq.out _ Qw);have am:=ae (a6.out _ Qw);have rx:=(gu _ _ _ _).2 rx;have ry:=(gu _ _ _ _).2 ry;clear aq a6 Qw;generalize wc.drew=w2 at *;refine tq 0 37 rfl ?_;refine tq 1 38 rfl ?_;refine tq 2 39 rfl ?_;refine tq 3 40 rfl ?_;refine tq 4 41 rfl ?_;refine tq 5 42 rfl ?_;refine tq 6 43 rfl ?_;refine tq 7 44 rfl ?_;refine tq 8 45 rfl ?_;refine tq 10 47 rfl ?_;refine tq 11 48 rfl ?_;refine tq 12 49 rfl ?_;refine rd2 9 (some 46) 13 (some 50) (by kernel_rfl) rfl rfl (fun K J=>?_) fun K J=>?_
       ·rw [if_pos (by rfl)];refine wp_load_mid 48 _ rfl g (d * 19) rfl y.vals.toList _ ry underlying48 rfl (by rw [br,X];kernel_rfl) ?_;rw [bt];refine J.out _ _ trivial (fun l=>?_);clear J K;(try simp only [pS,pB,pZ,pC]);refine rd 13 (some 50) rfl fun K J=>?_;rw [if_pos (by rfl)];refine wp_load_mid 48 _ rfl g ((d+1) * 19) rfl x.vals.toList _ rx underlying48 rfl (by rw [br,T];kernel_rfl) ?_;rw [bt];refine J.out _ _ trivial (fun l=>?_);clear J K;(try simp only [pS,pB,pZ,pC]);have a3:(w2.setCells g ((d+1) * 19) y.vals.toList).there g (d * 19) x.vals.size:=by
         rw [T];exact go (w:=w2) (b':=g) (o':=d * 19) (n:=19) (am.out (d * 19) (by omega)) g ((d+1) * 19) y.vals.toList
        have a2:w2.there g ((d+1) * 19) y.vals.size:=by
         rw [X];exact am.out _ (by omega)
        refine tq 14 51 rfl ?_;refine rd 15 none rfl fun K J=>?_;rw [if_pos (by rfl)];refine wp_store_mid 48 _ _ rfl g ((d+1) * 19) y.vals rfl rfl a2 (by rw [X];kernel_rfl) bc.out ?_;refine J.out _ _ trivial (fun l=>?_);clear J K;dsimp only [Act.put];generalize w2.setCells g ((d+1) * 19) y.vals.toList=w3 at *;refine tq 16 52 rfl ?_;refine rd 17 none rfl fun K J=>?_;rw [if_pos (by rfl)];refine wp_store_mid 48 _ _ rfl g (d * 19) x.vals rfl rfl a3 (by rw [T];kernel_rfl) a1.out ?_;refine J.out _ _ trivial (fun l=>?_);clear J K;dsimp only [Act.put];generalize w3.setCells g (d * 19) x.vals.toList=w4 at *;refine dn ?_;go_wp2_with fail;go_roundw
        case rel=>exact ⟨d,E,y::L,by go_num,a5,HS⟩
        case measure=>simp [intOf]
       ·rw [if_pos (by rfl)];refine wp_load_mid 48 _ rfl g ((d+1) * 19) rfl x.vals.toList _ rx underlying48 rfl (by rw [br,T];kernel_rfl) ?_;rw [bt];refine J.out _ _ trivial (fun l=>?_);clear J K;(try simp only [pS,pB,pZ,pC]);refine rd 9 (some 46) rfl fun K J=>?_;rw [if_pos (by rfl)];refine wp_load_mid 48 _ rfl g (d * 19) rfl y.vals.toList _ ry underlying48 rfl (by rw [br,X];kernel_rfl) ?_;rw [bt];refine J.out _ _ trivial (fun l=>?_);clear J K;(try simp only [pS,pB,pZ,pC]);have a3:(w2.setCells g ((d+1) * 19) y.vals.toList).there g (d * 19) x.vals.size:=by
         rw [T];exact go (w:=w2) (b':=g) (o':=d * 19) (n:=19) (am.out (d * 19) (by omega)) g ((d+1) * 19) y.vals.toList
        have a2:w2.there g ((d+1) * 19) y.vals.size:=by
         rw [X];exact am.out _ (by omega)
        refine tq 14 51 rfl ?_;refine rd 15 none rfl fun K J=>?_;rw [if_pos (by rfl)];refine wp_store_mid 48 _ _ rfl g ((d+1) * 19) y.vals rfl rfl a2 (by rw [X];kernel_rfl) bc.out ?_;refine J.out _ _ trivial (fun l=>?_);clear J K;dsimp only [Act.put];generalize w2.setCells g ((d+1) * 19) y.vals.toList=w3 at *;refine tq 16 52 rfl ?_;refine rd 17 none rfl fun K J=>?_;rw [if_pos (by rfl)];refine wp_store_mid 48 _ _ rfl g (d * 19) x.vals rfl rfl a3 (by rw [T];kernel_rfl) a1.out ?_;refine J.out _ _ trivial (fun l=>?_);clear J K;dsimp only [Act.put];generalize w3.setCells g (d * 19) x.vals.toList=w4 at *;refine dn ?_;go_wp2_with fail;go_roundw
        case rel=>exact ⟨d,E,y::L,by go_num,a5,HS⟩
        case measure=>simp [intOf]
      ·have aa:=decide_eq_false ad;rw [aa];have HD:=ae (HL.out.done (fun y' p' e=>by
        obtain ⟨_,e2⟩:=List.append_inj' e rfl;injection e2 with e2;subst e2;rw [hz];exact ad))
       clear HL aa rx ry;go_wp2_with fail;go_roundw
       case rel=>exact ⟨k+1,_,r,by go_num,by omega,ae ⟨by have h1:=t.out.2;have h2:=P.out;simp at h1 ⊢;omega,fun hr=>⟨by have h1:=t.out.2;have h2:=P.out;simp at h1 ⊢;omega,by simp⟩,fun hr=>by have h1:=Y.out;have h2:=P.out;have h3:=M.out;subst hr;simp at h1;omega⟩,HD⟩
       case measure=>simp [intOf];omega
theorem Yco (l:List FV) (hl:l.length<20) (v:Value) (w:World) (E:SlF w v l) (z:Zi1 w l) (Q:w.cell? ⟨0,0,none⟩=some (.int Z 655)) (K:0<w.heap.size) :
  Calls prog 47 #[v] w fun e j=>(∃ u f,e=U u/\f.Perm l/\Zb4 f/\SlF j u f)/\Below w.heap.size w j:=by
 have o:=ae (Zn4 l (by omega) v w E (Zfu z));have J:=ae z;obtain ⟨A,c,rfl,_⟩:=E.form;clear E z;go_enter func47,ntmps47;go_wp2_with fail;refine o.out.mono ?_;rintro e d ⟨⟨u,rfl,ho⟩,a⟩;clear o;rcases Zwh ho with ⟨rfl,rfl⟩ | ⟨g,c2,sp,rfl,S,T,B⟩
 ·have q:=ae (Zd0 none 0 0 d (fun j=>j=d) (ae (Zh9 (I none 0 0) 0 (by omega) d (fun j=>j=d) (ae (Zmo d)))));clear ho;go_wp2_with fail;refine q.out.mono ?_;rintro e w2 ⟨rfl,rfl⟩;clear q;go_wp2_with fail;go_ret;exact ⟨⟨_,[],rfl,List.Perm.refl _,List.Pairwise.nil,SlF.nil _⟩,a⟩
 ·have X:=B.lt;have q:=ae (Zd0 (some ⟨g,0,none⟩) l.length c2 d _ (ae (Zh9 (I (some ⟨g,0,none⟩) l.length c2) l.length hl d _ (ae (Zva (g:=g) (c:=c2) (sp:=sp) [] l [] 0 l.length l.length rfl (by omega) (by simp) (by omega) w.heap.size d T K (by simpa using B)
   (fun x L=>⟨(J.out x L).1,Zbs.keep (J.out x L).2 (fun p y=>a.cell y) (ag _)⟩) ((a.cell (p:=⟨0,0,none⟩) K).trans Q))))))
  clear ho B;go_wp2_with fail;refine q.out.mono ?_;rintro e w2 ⟨rfl,⟨f,y,hs,b⟩,r⟩;have b:Blk w2 g 48 (Zam f++sp).toArray:=by simpa using b
  have M:=ae y;have N:=ae hs;have t:=y.length_eq;have R:=ae (SlF.of_blk (c:=c2) b);have P:=a.grown r a.size (fun k e=>by injection e with e;omega);clear q y hs b r;go_wp2_with fail;go_ret;exact ⟨⟨_,f,rfl,M.out,N.out,by have:=R.out;rw [t] at this;exact this⟩,P⟩
theorem Zy7 (L:List FV) (hn:Zc9 L) (Q:L.length<20) (sp b R:Nat) (A:Option Addr) (n c:Nat) (w:World) (P:Blk w sp 74 #[I A n c,.map (some b)]) (a:w.ownsMap prog 3 Zgr b R (Zdm L)) (r:Zi1 w L) (hG:w.cell? ⟨0,0,none⟩=some (.int Z 655)) (N:0<w.heap.size) :
  Calls prog 16 #[G (some ⟨sp,0,none⟩)] w fun e S=>(∃ u z,e=U u/\z.Perm L/\Zb4 z/\SlF S u z)/\Bl w S:=by
 have M:=Zab w (O #[.map (some b)] 72);have q:=Blk.new w 72 #[.map (some b)];have B:=ae (Zki L (fun x hx=>FV.one (r x hx).2) hn (by omega) w.heap.size b R _ q.lt q.c1.1 (a.alloc (O #[.map (some b)] 72)));have T:=ae r;have v:=P.c2;have K:=ae (Zn5 b w);clear r a P q;go_enter func16,ntmps16;go_wp2_with fail;refine K.out.mono ?_;rintro e w1 ⟨rfl,rfl⟩;clear K v;generalize w.alloc _=w1 at *;go_wp2_with fail;refine B.out.mono ?_;rintro e w2 ⟨⟨u,xs,rfl,o,ho⟩,f⟩;have d:=Zaa M f M.size;have y:=o.length_eq;have E:=ae o;have J:=ae (Yco xs (by omega) u w2 (SlF.of_own ho) ((T.out.keep d).perm o) ((d.cell (p:=⟨0,0,none⟩) N).trans hG) (ah N d.size));clear B o ho f y;go_wp2_with fail;refine J.out.mono ?_;rintro e w3 ⟨⟨u2,l2,rfl,j,k,l⟩,t⟩;have X:=ae (j.trans E.out);have Y:=ae k;have HW:=ae l;have P3:=Zaa d t d.size;clear J E j k l;go_wp2_with fail;go_ret;exact ⟨⟨_,l2,rfl,X.out,Y.out,HW.out⟩,P3⟩
theorem CyS.of {k:Nat} (z:Cy w C m k) (K:k<=100) (B:Zkw w):∃ V h i s A c ps a,CyS w C V h i s A c ps a:=by
 obtain ⟨base,h,J,V,x,s,u,v,ps,hy⟩:=z;obtain ⟨rfl,r,q,o,E,e,t,f,b,j,l,d⟩:=hy;obtain ⟨a,y⟩:=Yci B o e;exact ⟨V,h,J,s,u,v,ps,a,Zay r,y,by omega,Zwb b,f,d,j,l,Zmm b,q⟩
theorem Zf0 {a:Option Fil} (d:Zud w V a):∀ W,Bl w W->Calls prog 43 #[.agg V] W fun e l=>e=U (.int Z (avE a))/\Bl W l:=by
 intro W b;cases a with
 | none=>exact d.2.2 W b
 | some f =>
  obtain ⟨dv,cv,ev,rfl,c,j⟩:=d;exact Zgd f c dv cv ev W w.heap.size b.size (j.keep (fun p k=>b.cell k) (ag _))
theorem Yfi {h:Hd} {s:Nat} {c:Nat} {ps:List Nat} {a:Option Fil} (H:CyS w C V h i s A c ps a) (S:w.cell? ⟨0,0,none⟩=some (.int Z 655)) (K:0<w.heap.size) (d:List Nat) (z:Zbw d) (J:Nat) (o:Option Addr) (k:Zgq w o d) (sp L:Nat) (y:Blk w sp 74 #[I o d.length J,.map (some L)]) (Y:tkE d h s i ps a≠0) :
  Calls prog 12 #[G (some ⟨sp,0,none⟩),.agg C] w fun e w'=>e=U (.tuple #[.bool false,.int Z (tkE d h s i ps a)])/\Bl w w':=by
 have E:=(Blk.new w 29 #[G (some ⟨sp,0,none⟩)]).alloc (O C 58);have r:=Blk.new (w.alloc (O #[G (some ⟨sp,0,none⟩)] 29)) 58 C;rw [ax] at r;have u:=(Zab w (O #[G (some ⟨sp,0,none⟩)] 29)).alloc (by simp) (O C 58);have f:=ae (fun (W:World) (R:Nat) (j:Bl w W) (X:Blk W (w.heap.size+1) 58 C) (B:Blk W w.heap.size 29 #[G (some ⟨sp,0,none⟩)]) hF=>Zia (H.keep j) ((j.cell (p:=⟨0,0,none⟩) K).trans S) (ah K j.size) d z J o (.map (some L)) (k.keep j) (w.heap.size+1) w.heap.size sp R X B (y.keep j) hF);have M:=ae y;have q:=ae H.cop;clear k y H;generalize hTT:tkE d h s i ps a=T at *;clear hTT;go_enter func12,ntmps12;go_upto_region 1 with fail;generalize (w.alloc (O #[G (some ⟨sp,0,none⟩)] 29)).alloc (O C 58)=w2 at *;go_wp2_with fail;have hF:=Blk.new w2 88 #[.func (.func 37) #[] #[G (some ⟨w.heap.size+1,0,none⟩)],.func (.func 35) #[] #[G (some ⟨w.heap.size+1,0,none⟩),G (some ⟨w.heap.size,0,none⟩)],.func (.func 39) #[] #[G (some ⟨w.heap.size,0,none⟩),G (some ⟨w.heap.size+1,0,none⟩)]];have l:=u.alloc u.size (O #[.func (.func 37) #[] #[G (some ⟨w.heap.size+1,0,none⟩)],.func (.func 35) #[] #[G (some ⟨w.heap.size+1,0,none⟩),G (some ⟨w.heap.size,0,none⟩)],.func (.func 39) #[] #[G (some ⟨w.heap.size,0,none⟩),G (some ⟨w.heap.size+1,0,none⟩)]] 88);have t:=r.alloc (O #[.func (.func 37) #[] #[G (some ⟨w.heap.size+1,0,none⟩)],.func (.func 35) #[] #[G (some ⟨w.heap.size+1,0,none⟩),G (some ⟨w.heap.size,0,none⟩)],.func (.func 39) #[] #[G (some ⟨w.heap.size,0,none⟩),G (some ⟨w.heap.size+1,0,none⟩)]] 88);have v:=E.alloc (O #[.func (.func 37) #[] #[G (some ⟨w.heap.size+1,0,none⟩)],.func (.func 35) #[] #[G (some ⟨w.heap.size+1,0,none⟩),G (some ⟨w.heap.size,0,none⟩)],.func (.func 39) #[] #[G (some ⟨w.heap.size,0,none⟩),G (some ⟨w.heap.size+1,0,none⟩)]] 88);refine (f.out _ _ l t v hF).mono ?_;rintro e w4 ⟨rfl,b⟩;have P:=Zaa l b l.size;have N:=t.keep b;have Q:=v.keep b;clear f hF l t v b E r u;have aa:(T == 0)=false:=by rw [beq_eq_false_iff_ne];exact Y
 clear N Q M q;go_wp2_with fail;go_ret2;exact ⟨rfl,P⟩
end Go.Proofs.YtglkadmfjaecmaaGreatDoor
