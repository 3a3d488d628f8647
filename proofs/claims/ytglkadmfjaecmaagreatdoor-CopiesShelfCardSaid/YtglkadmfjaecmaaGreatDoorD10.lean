import Derived.Test.YtglkadmfjaecmaaGreatDoorD09
import Derived.Test.YtglkadmfjaecmaaGreatDoorRows
set_option maxRecDepth 100000
set_option maxHeartbeats 16000000
namespace Go.Proofs.YtglkadmfjaecmaaGreatDoor
open Go.RowKit Go.Shelf _root_.Go.Proofs.Tryz
open Go.Value renaming slice->I
open Go.IntKind renaming i64->Z, u64->V
open Go.Ending renaming returned->G
open Go.Obj renaming cells->O
attribute [local go_sem] Oper.semAt_some
variable {A:Option Addr} {W W' w:World} {g:Nat}
def Zm3 (l:List Cl):Nat->Nat
 | 0=>0
 | k+1=>Zm3 l k+((Zdg l (k+1)).getD k []).length
theorem Zz8 (l:List Cl) (k m:Nat) (h:k<=m):Zm3 l k<=Zm3 l m:=by
 induction m with
 | zero =>
  obtain rfl:k=0:=by omega
  exact ag _
 | succ m ih =>
  by_cases a:k<=m
  ·have:=ih a;rw [Zm3];omega
  ·obtain rfl:k=m+1:=by omega
   exact ag _
def Ztg (d:List F) (c:List Cl):Prop:=d.length<=16/\(∀ f∈d,OkF f)/\Zs2 c/\Zlw c/\(d.flatMap F.tops).length+Zm3 c c.length<=128
theorem Zz9 {d:List F} (h:∀ f∈d,OkF f):Zbr d<=d.length * 96:=by
 induction d with
 | nil=>simp [Zbr]
 | cons a d ih =>
  have h1:=(h a da).1;have c:=ih (fun f b=>h f (dh _ b));rw [Zbr,au];omega
theorem Zi7.box {base n:Nat} {v:Value} {t:TypeId} {cs:Array Value} (b:Blk W g t cs) (h:Zi7 W base v n) (a:W.grownBy W' v.ownBlock) (c:g<base):Blk W' g t cs :=
 b.grown a (fun e=>by have:=h.lt _ e.symm;omega)
theorem Zov (d:List F) (c:List Cl) (am:Ztg d c) (dv cv:Value) (w:World) (B:Nat) (a:B<=w.heap.size) (hd:Rep w B dv (.s 4 (d.flatMap F.cells))) (hc:Rep w B cv (.s 5 (c.flatMap Cl.cells))) :
  Calls prog 192 #[.agg #[dv,cv]] w fun e w'=>∃ u,e=G (.tuple #[u,.int Z 0])/\Bl w w':=by
 obtain ⟨aq,f,C,S,av⟩:=am;have HP:=ae (fun (W:World) (r:Bl w W)=>Zre (Zbr d) d (ag _) (by have:=Zz9 f;omega) dv W B (aj a r.size) (hd.keep (fun p L=>r.cell (ah L a)) (ag _)));have HV:=ae (fun (W:World) (r:Bl w W)=>Zjn c C cv W B (aj a r.size) (hc.keep (fun p L=>r.cell (ah L a)) (ag _)));have HA:=ae (fun (i:Nat) (hi:i<c.length) (W:World) (r:Bl w W)=>Ydx c C S i hi cv W B (aj a r.size) (hc.keep (fun p L=>r.cell (ah L a)) (ag _)));obtain ⟨A,q,rfl,_,v⟩:=hd.formulas;obtain ⟨A2,q2,rfl,_,_⟩:=hc.claims;have H:=ae v;have ab:=ae f;have an:=C.1;have HS:=ae (fun k (hk:k<=c.length)=>Zz8 c k c.length hk);have a1:decide ((16:Int)<(d.length:Int))=false:=by simp;omega
 have X0:=Blk.new w 42 #[I A d.length q,I A2 c.length q2];have P0:=Zab w (O #[I A d.length q,I A2 c.length q2] 42);clear hd hc v f C S;have x:=X0.c2;go_enter func192,ntmps192;go_wp2_with fail;clear x;generalize w.alloc _=w0 at *;go_loopw [19] (fun i wr=>∃ k:Nat,i=.int Z (k:Int)/\k<=d.length/\Bl w wr/\Blk wr w.heap.size 42 #[I A d.length q,I A2 c.length q2]) (fun i _=>d.length - (intOf i).toNat)
 case atStart=>exact ⟨0,rfl,bi _,P0,X0⟩
 case round =>
  obtain ⟨k,rfl,hk,j,M⟩:=hrel;by_cases l:k<d.length
  ·obtain ⟨b,o,y,rfl,hb,hy,c0,c1,c2,c3⟩:=H.out k l;have z:b<w.heap.size:=ah hb a;have e0:=(j.cell (p:=⟨b,o+k * 4,none⟩) z).trans c0;have e1:=(j.cell (p:=⟨b,o+k * 4+1,none⟩) z).trans c1;have e2:=(j.cell (p:=⟨b,o+k * 4+2,none⟩) z).trans c2;have e3:=(j.cell (p:=⟨b,o+k * 4+3,none⟩) z).trans c3;have f:=ab.out _ (aw l);rw [<- hy] at f;have HF:=ae (fun (W:World) (r:Bl w W)=>Zip W B (aj a r.size) (y.up (fun p L=>r.cell (ah L a)) (ag _)) f);obtain ⟨A3,n3,q3,A4,n4,q4,f1,f2,f3,f4⟩:=Zaq y.h;dsimp only [Zan.up] at HF;rw [f1,f2,f3,f4] at HF;rw [f1] at e0;rw [f2] at e1;rw [f3] at e2;rw [f4] at e3;clear c0 c1 c2 c3 f1 f2 f3 f4 hy f;generalize y.t.op=op at *;generalize y.t.n=nn at *;have Q0:=j.alloc j.size (O #[.int Z op,.int Z nn,I A3 n3 q3,I A4 n4 q4] 46);have XX:=M.alloc (O #[.int Z op,.int Z nn,I A3 n3 q3,I A4 n4 q4] 46);go_wp2_with fail;refine (HF.out _ Q0).mono ?_;rintro e w2 ⟨rfl,m⟩;have T:=Zaa Q0 m Q0.size;have Q:=XX.keep m;clear e0 e1 e2 e3;go_wp2_with fail;go_roundw
   case rel=>exact ⟨k+1,by go_num,by omega,T,Q⟩
   case measure=>simp [intOf];omega
  ·obtain rfl:k=d.length:=by omega
   have x:=M.c2;go_wp2_with fail;refine (HV.out _ j).mono ?_;rintro e w2 ⟨rfl,m⟩;have T:=Zaa j m j.size;have Q:=M.keep m;have P:=Q.c2;clear x;go_wp2_with fail;refine (HP.out _ T).mono ?_;rintro e w3 ⟨v3,rfl,o3,N⟩;have Q3:=Zaa T N T.size;have X3:=Q.keep N;have o3:=o3.mono (base':=w.heap.size+1) Q.lt;have X:=X3.c2;clear P;go_wp2_with fail;generalize hnt:(d.flatMap F.tops).length=Y at *;clear X hnt;go_loopw [8,41] (fun u i wr=>∃ k:Nat,i=.int Z (k:Int)/\k<=c.length/\Zi7 wr (w.heap.size+1) u (Y+Zm3 c k)/\Bl w wr/\Blk wr w.heap.size 42 #[I A d.length q,I A2 c.length q2]) (fun _ i _=>c.length - (intOf i).toNat)
   case atStart=>exact ⟨0,rfl,bi _,o3,Q3,X3⟩
   case round =>
    obtain ⟨k,rfl,hk,E,j,M⟩:=hrel;have x:=M.c2;have a0:=HS.out k hk;by_cases l:k<c.length
    ·have hA:=HA.out k l wr j;have af:=HS.out (k+1) l;have K:Zm3 c (k+1)=Zm3 c k+((Zdg c (k+1)).getD k []).length:=rfl;rw [K] at af;have ad:=ae K;have hA:=ae hA;clear K;generalize (Zdg c (k+1)).getD k []=al at *;generalize Zm3 c k=sk at *;go_wp2_with fail;refine hA.out.mono ?_;rintro e w5 ⟨v5,rfl,r5,J⟩;have s5:=r5.srcN (ag _);have O5:=E.below J;have Q5:=Zaa j J j.size;have X5:=M.keep J;have aa:=X5.lt;clear r5 x;go_wp2_with (at_builtin;refine Ze5 rfl _ _ rfl (w.heap.size+1) _ (Y+sk) rfl O5 _ al.length rfl s5 (by omega) aa ?_;intro v6 w6 U R);have Q6:=Q5.grown R Q5.size (fun q hq=>Nat.le_of_succ_le (O5.lt q hq));have X6:=O5.box X5 R (im _);rw [i7,<- ad.out] at U;go_roundw
     case rel=>exact ⟨k+1,by go_num,by omega,U,Q6,X6⟩
     case measure=>simp [intOf];omega
    ·obtain rfl:k=c.length:=by omega
     obtain ⟨A6,c6,rfl⟩:=E.slice;have a2:decide ((128:Int)<((Y+Zm3 c c.length:Nat):Int))=false:=by simp;omega
     generalize Y+Zm3 c c.length=nz at *;clear E;go_wp2_with fail;exact bodyPost_ret (results_tmp2 rfl _ _ _) rfl ⟨_,rfl,j⟩
theorem Zgb (d:List F) (c:List Cl) (b:Ztg d c) (dv cv:Value) (w:World) (B:Nat) (a:B<=w.heap.size) (hd:Rep w B dv (.s 4 (d.flatMap F.cells))) (hc:Rep w B cv (.s 5 (c.flatMap Cl.cells))) :
  Calls prog 146 #[.agg #[dv,cv]] w fun e m=>e=G (.int Z 0)/\Bl w m:=by
 have o:=ae (fun (W:World) (j:Bl w W)=>Zov d c b dv cv W B (aj a j.size) (hd.keep (fun p f=>j.cell (ah f a)) (ag _)) (hc.keep (fun p f=>j.cell (ah f a)) (ag _)));obtain ⟨A,q,rfl,_,_⟩:=hd.formulas;obtain ⟨r,k,rfl,_,_⟩:=hc.claims;have i:=Zab w (O #[I A d.length q,I r c.length k] 42);clear hd hc b;go_enter func146,ntmps146;go_wp2_with fail;refine (o.out _ i).mono ?_;rintro e w2 ⟨u,rfl,h⟩;have l:=Zaa i h i.size;go_wp2_with fail;go_ret;exact ⟨rfl,l⟩
theorem Zkr (d:List F) (c:List Cl) (av:Ztg d c) (dv cv:Value) (w:World) (B:Nat) (f:B<=w.heap.size) (hd:Rep w B dv (.s 4 (d.flatMap F.cells))) (hc:Rep w B cv (.s 5 (c.flatMap Cl.cells))) :
  Calls prog 175 #[.agg #[dv,cv]] w fun e w'=>∃ u,e=G (.tuple #[u,.int Z 0])/\Bl w w':=by
 obtain ⟨a1,v,K,U,a2⟩:=av;have HV:=ae (fun (W:World) (C:Bl w W)=>Zf7 c K cv W B (aj f C.size) (hc.keep (fun p R=>C.cell (ah R f)) (ag _)));have HA:=ae (fun (i:Nat) (hi:i<c.length) (W:World) (C:Bl w W)=>Ztf c K U i hi cv W B (aj f C.size) (hc.keep (fun p R=>C.cell (ah R f)) (ag _)));obtain ⟨A,q,rfl,_,H⟩:=hd.formulas;obtain ⟨A2,q2,rfl,_,_⟩:=hc.claims;have N:=ae H;have ad:=ae v;have a0:=K.1;have HS:=ae (fun k (L:k<=c.length)=>Zz8 c k c.length L);have HT:=ae (fun k (L:k<d.length)=>Ze4 d k L);have HL:=ae (fun k (L:k<d.length)=>Zeh d k L);have a4:decide ((16:Int)<(d.length:Int))=false:=by simp;omega
 have X0:=Blk.new w 42 #[I A d.length q,I A2 c.length q2];have P0:=Zab w (O #[I A d.length q,I A2 c.length q2] 42);clear hd hc H v K U;have x:=X0.c2;go_enter func175,ntmps175;go_wp2_with fail;clear x;generalize w.alloc _=w0 at *;go_loopw [4,5] (fun u i wr=>∃ k:Nat,i=.int Z (k:Int)/\k<=d.length/\Zi7 wr (w.heap.size+1) u ((d.take k).flatMap F.tops).length/\Bl w wr/\Blk wr w.heap.size 42 #[I A d.length q,I A2 c.length q2]) (fun _ i _=>d.length - (intOf i).toNat)
 case atStart=>exact ⟨0,rfl,bi _,Zi7.nil _ _,P0,X0⟩
 case round =>
  obtain ⟨k,rfl,L,j,l,S⟩:=hrel;have x:=S.c2;by_cases r:k<d.length
  ·obtain ⟨b,o,y,rfl,hb,hy,c0,c1,c2,c3⟩:=N.out k r;have m:b<w.heap.size:=ah hb f;have e0:=(l.cell (p:=⟨b,o+k * 4,none⟩) m).trans c0;have e1:=(l.cell (p:=⟨b,o+k * 4+1,none⟩) m).trans c1;have e2:=(l.cell (p:=⟨b,o+k * 4+2,none⟩) m).trans c2;have e3:=(l.cell (p:=⟨b,o+k * 4+3,none⟩) m).trans c3;have v:=ad.out _ (aw r);have J:=congrArg List.length (HT.out k r);have am:=HL.out k r;rw [<- hy] at v J am;rw [ai] at J;have ab:=ae J;have HF:=ae (fun (W:World) (C:Bl w W)=>Zfa W B (aj f C.size) (y.up (fun p R=>C.cell (ah R f)) (ag _)) v);have HP:=ae (fun (W:World) (C:Bl w W)=>Zq3 y.t.size W B (y.up (fun p R=>C.cell (ah R f)) (ag _)) (aj f C.size) (ag _) (by have:=v.1;omega));obtain ⟨A3,n3,q3,A4,n4,q4,f1,f2,f3,f4⟩:=Zaq y.h;dsimp only [Zan.up] at HF HP;rw [f1,f2,f3,f4] at HF HP;rw [f1] at e0;rw [f2] at e1;rw [f3] at e2;rw [f4] at e3;clear c0 c1 c2 c3 f1 f2 f3 f4 hy v J;have hm:=F.tops_le y.t;generalize y.t.op=op at *;generalize y.t.n=nn at *;generalize y.t.tops=tp at *;generalize ((d.take k).flatMap F.tops).length=nk at *;go_wp2_with fail;refine (HF.out _ l).mono ?_;rintro e w2 ⟨rfl,a⟩;have X:=Zaa l a l.size;have X2:=S.keep a;have T:=X2.c2;have O2:=j.below a;have g0:=(a.cell (p:=⟨b,o+k * 4,none⟩) (ah m l.size)).trans e0;have g1:=(a.cell (p:=⟨b,o+k * 4+1,none⟩) (ah m l.size)).trans e1;have g2:=(a.cell (p:=⟨b,o+k * 4+2,none⟩) (ah m l.size)).trans e2;have g3:=(a.cell (p:=⟨b,o+k * 4+3,none⟩) (ah m l.size)).trans e3;clear x e0 e1 e2 e3 j;go_wp2_with fail;refine (HP.out _ X).mono ?_;rintro e w3 ⟨v3,rfl,o3,M⟩;have Q3:=Zaa X M X.size;have X3:=X2.keep M;have O3:=O2.below M;have s3:=o3.srcN;have aq:=X3.lt;clear g0 g1 g2 g3 T o3;go_wp2_with (at_builtin;refine Ze5 rfl _ _ rfl (w.heap.size+1) _ nk rfl O3 _ tp.length rfl s3 (by omega) aq ?_;intro v6 w6 E z);have Q6:=Q3.grown z Q3.size (fun q hq=>Nat.le_of_succ_le (O3.lt q hq));have X6:=O3.box X3 z (im _);rw [<- ab.out] at E;go_roundw
   case rel=>exact ⟨k+1,by go_num,by omega,E,Q6,X6⟩
   case measure=>simp [intOf];omega
  ·obtain rfl:k=d.length:=by omega
   rw [df] at j;generalize (d.flatMap F.tops).length=Y at *;go_wp2_with fail;refine (HV.out _ l).mono ?_;rintro e w2 ⟨rfl,a⟩;have X:=Zaa l a l.size;have X2:=S.keep a;have O2:=j.below a;clear x j;go_wp2_with fail;go_loopw [4,8] (fun u i wr=>∃ k:Nat,i=.int Z (k:Int)/\k<=c.length/\Zi7 wr (w.heap.size+1) u (Y+Zm3 c k)/\Bl w wr/\Blk wr w.heap.size 42 #[I A d.length q,I A2 c.length q2]) (fun _ i _=>c.length - (intOf i).toNat)
   case atStart=>exact ⟨0,rfl,bi _,O2,X,X2⟩
   case round =>
    obtain ⟨k,rfl,L,j,l,S⟩:=hrel;have x:=S.c2;have a3:=HS.out k L;by_cases r:k<c.length
    ·have hA:=HA.out k r wr l;have an:=HS.out (k+1) r;have Q:Zm3 c (k+1)=Zm3 c k+((Zdg c (k+1)).getD k []).length:=rfl;rw [Q] at an;have af:=ae Q;have hA:=ae hA;clear Q;generalize ((Zdg c (k+1)).getD k []).length=al at *;generalize Zm3 c k=sk at *;go_wp2_with fail;refine hA.out.mono ?_;rintro e w5 ⟨v5,rfl,s5,P⟩;have O5:=j.below P;have Q5:=Zaa l P l.size;have X5:=S.keep P;have aa:=X5.lt;clear x;go_wp2_with (at_builtin;refine Ze5 rfl _ _ rfl (w.heap.size+1) _ (Y+sk) rfl O5 _ al rfl s5 (by omega) aa ?_;intro v6 w6 E z);have Q6:=Q5.grown z Q5.size (fun q hq=>Nat.le_of_succ_le (O5.lt q hq));have X6:=O5.box X5 z (im _);rw [i7,<- af.out] at E;go_roundw
     case rel=>exact ⟨k+1,by go_num,by omega,E,Q6,X6⟩
     case measure=>simp [intOf];omega
    ·obtain rfl:k=c.length:=by omega
     obtain ⟨A6,c6,rfl⟩:=j.slice;have a5:decide ((128:Int)<((Y+Zm3 c c.length:Nat):Int))=false:=by simp;omega
     generalize Y+Zm3 c c.length=nz at *;clear j;go_wp2_with fail;exact bodyPost_ret (results_tmp2 rfl _ _ _) rfl ⟨_,rfl,l⟩
theorem Zep (d:List F) (c:List Cl) (b:Ztg d c) (dv cv:Value) (w:World) (B:Nat) (a:B<=w.heap.size) (hd:Rep w B dv (.s 4 (d.flatMap F.cells))) (hc:Rep w B cv (.s 5 (c.flatMap Cl.cells))) :
  Calls prog 136 #[.agg #[dv,cv]] w fun e m=>e=G (.int Z 0)/\Bl w m:=by
 have o:=ae (fun (W:World) (j:Bl w W)=>Zkr d c b dv cv W B (aj a j.size) (hd.keep (fun p f=>j.cell (ah f a)) (ag _)) (hc.keep (fun p f=>j.cell (ah f a)) (ag _)));obtain ⟨A,q,rfl,_,_⟩:=hd.formulas;obtain ⟨r,k,rfl,_,_⟩:=hc.claims;have i:=Zab w (O #[I A d.length q,I r c.length k] 42);clear hd hc b;go_enter func136,ntmps136;go_wp2_with fail;refine (o.out _ i).mono ?_;rintro e w2 ⟨u,rfl,h⟩;have l:=Zaa i h i.size;go_wp2_with fail;go_ret;exact ⟨rfl,l⟩
def Zth (d:List F) (c:List Cl):List Nat:=Zbl (d.length:Int)++d.flatMap (fun f=>Zef (Zen f))++Zef (Zgw c)
theorem Zl2 {c:List Cl} (h:Zs2 c):(Zgw c).length<=621000:=by
 have h1:=h.take_len c.length;rw [df] at h1;have a:=Za2 (n:=(c.length:Int)) (by omega) (by have:=h.1;omega);unfold Zgw;rw [ai];omega
theorem Zl3 {d:List F} (h:∀ f∈d,OkF f):(d.flatMap (fun f=>Zef (Zen f))).length<=19300 * d.length:=by
 induction d with
 | nil=>simp
 | cons a d ih =>
  have h1:=OkN.len (t:=a) ⟨(h a da).1,(h a da).2.2⟩;have c:=ih (fun f b=>h f (dh _ b));have e:=Za9 (n:=(Zen a).length) (by omega);have i:(Zef (Zen a)).length<=19300:=by
   unfold Zef;rw [ai];omega
  rw [de,ai,au];omega
theorem Zns (d:List F) (c:List Cl):Zb6 (Zth d c):=((Zc3 _).app (Zb6.flat fun _ _=>Zit (Zhg _))).app (Zit (Zlu _))
theorem Zow {d:List F} {c:List Cl} (h:Ztg d c):(Zth d c).length<=940000:=by
 have h1:=Zl3 h.2.1;have e:=Zl2 h.2.2.1;have f:=h.1;have b:=Za2 (n:=(d.length:Int)) (by omega) (by omega);have i:=Za9 (n:=(Zgw c).length) (by omega);have a:(Zef (Zgw c)).length<=621100:=by
  unfold Zef;rw [ai];omega
 unfold Zth;simp only [ai];omega
theorem Zti (d:List F) (c:List Cl) (i:Ztg d c) (dv cv:Value) (w:World) (B:Nat) (a:B<=w.heap.size) (hd:Rep w B dv (.s 4 (d.flatMap F.cells))) (hc:Rep w B cv (.s 5 (c.flatMap Cl.cells))) :
  Calls prog 121 #[.agg #[dv,cv]] w fun e w'=>∃ u,e=G (.tuple #[u,.int Z 0])/\Zd2 w' w.heap.size u (Zth d c)/\Bl w w':=by
 have HV:=ae (fun (W:World) (l:Bl w W)=>Zgb d c i dv cv W B (aj a l.size) (hd.keep (fun p K=>l.cell (ah K a)) (ag _)) (hc.keep (fun p K=>l.cell (ah K a)) (ag _)));have HC:=ae (fun (W:World) (l:Bl w W)=>Ydp c i.2.2.1 cv W B (aj a l.size) (hc.keep (fun p K=>l.cell (ah K a)) (ag _)));obtain ⟨A,q,rfl,_,v⟩:=hd.formulas;obtain ⟨A2,q2,rfl,_,_⟩:=hc.claims;have J:=ae v;have ab:=ae i.2.1;have av:=i.2.2.1.1;have a0:=i.1;have a6:=Zl2 i.2.2.1;have aa:=ae (Zlu c);have am:=ae (fun k=>Zl3 (d:=d.take k) (fun f hf=>i.2.1 f (ed hf)));have N:=Blk.new w 42 #[I A d.length q,I A2 c.length q2];have P0:=Zab w (O #[I A d.length q,I A2 c.length q2] 42);clear hd hc v i;have L:=N.c2;go_enter func121,ntmps121;go_wp2_with fail;refine (HV.out _ P0).mono ?_;rintro e U ⟨rfl,H⟩;have P1:=Zaa P0 H P0.size;have X1:=N.keep H;have al:=P1.size;have G1:=Blk.new U 164 #[I none 0 0];have P2:=P1.alloc P1.size (O #[I none 0 0] 164);have X2:=X1.alloc (O #[I none 0 0] 164);have W1:Ze0 (U.alloc (O #[I none 0 0] 164)) w.heap.size U.heap.size []:=⟨al,_,0,G1,d8 _ _ _ _⟩;have R:=X2.c2;clear L;go_wp2_with fail;clear R;generalize U.heap.size=g at *;generalize U.alloc _=w2 at *;refine (Zdy g w.heap.size [] (d.length:Int) w2 (by omega) (by omega) W1 (by simp)).mono ?_;rintro e w3 ⟨⟨v3,rfl⟩,W3,k3⟩;rw [dm] at W3;have P3:=P2.trans k3.1;have X3:=k3.blk X2 (by decide) (by decide);have X:=X3.c2;have a4:=Za2 (n:=(d.length:Int)) (by omega) (by omega);clear W1 G1 P1 H k3 X2 P2 X1 N P0;go_wp2_with fail;clear X;go_loopw [24] (fun j wr=>∃ k:Nat,j=.int Z (k:Int)/\k<=d.length/\Ze0 wr w.heap.size g (Zbl (d.length:Int)++(d.take k).flatMap (fun f=>Zef (Zen f)))/\Bl w wr/\Blk wr w.heap.size 42 #[I A d.length q,I A2 c.length q2]) (fun j _=>d.length - (intOf j).toNat)
 case atStart=>exact ⟨0,rfl,bi _,by simpa using W3,P3,X3⟩
 case round =>
  obtain ⟨k,rfl,hk,l,x,hX⟩:=hrel;have a5:=am.out k;have a2:=List.length_take_le k d;have ad:(Zbl (d.length:Int)++(d.take k).flatMap (fun f=>Zef (Zen f))).length<=309000:=by rw [ai];omega
  by_cases C:k<d.length
  ·obtain ⟨b,o,y,rfl,hb,hy,c0,c1,c2,c3⟩:=J.out k C;have z:b<w.heap.size:=ah hb a;have e0:=(x.cell (p:=⟨b,o+k * 4,none⟩) z).trans c0;have e1:=(x.cell (p:=⟨b,o+k * 4+1,none⟩) z).trans c1;have e2:=(x.cell (p:=⟨b,o+k * 4+2,none⟩) z).trans c2;have e3:=(x.cell (p:=⟨b,o+k * 4+3,none⟩) z).trans c3;have r:=ab.out _ (aw C);have HT:Zbl (d.length:Int)++(d.take (k+1)).flatMap (fun f=>Zef (Zen f))=Zbl (d.length:Int)++(d.take k).flatMap (fun f=>Zef (Zen f))++Zef (Zen d[k]):=by
    rw [dq,ak C,bm];simp
   rw [<- hy] at r HT;have af:=ae HT;have E:=ae (fun (W:World) (l:Bl w W)=>Zz1 W B (aj a l.size) (y.up (fun p K=>l.cell (ah K a)) (ag _)) r);have a3:=OkN.len (t:=y.t) ⟨r.1,r.2.2⟩;have an:=ae (Zhg y.t);obtain ⟨A3,n3,q3,A4,n4,q4,f1,f2,f3,f4⟩:=Zaq y.h;dsimp only [Zan.up] at E;rw [f1,f2,f3,f4] at E;rw [f1] at e0;rw [f2] at e1;rw [f3] at e2;rw [f4] at e3;clear c0 c1 c2 c3 f1 f2 f3 f4 hy r HT W3 P3 X3;generalize Zen y.t=fb at *;generalize y.t.op=op at *;generalize y.t.n=nn at *;generalize Zbl (d.length:Int)++(d.take k).flatMap (fun f=>Zef (Zen f))=bs at *;have Y:=x.alloc x.size (O #[.int Z op,.int Z nn,I A3 n3 q3,I A4 n4 q4] 46);have N:=hX.alloc (O #[.int Z op,.int Z nn,I A3 n3 q3,I A4 n4 q4] 46);have W0:=l.alloc (O #[.int Z op,.int Z nn,I A3 n3 q3,I A4 n4 q4] 46);go_wp2_with fail;refine (E.out _ Y).mono ?_;rintro e w4 ⟨v4,rfl,T,m⟩;have S:=Zaa Y m Y.size;have P:=W0.grown m;have X4:=N.keep m;clear e0 e1 e2 e3 N W0 Y;go_wp2_with fail;refine (Zk0 g w.heap.size _ fb v4 w4 P (by omega) (by omega) an.out T.rep).mono ?_;rintro e w6 ⟨⟨v6,rfl⟩,W6,M⟩;have Q:=S.trans M.1;have X6:=M.blk X4 (by decide) (by decide);rw [<- af.out] at W6;clear P S M T;go_wp2_with fail;go_roundw
   case rel=>exact ⟨k+1,by go_num,by omega,W6,Q,X6⟩
   case measure=>simp [intOf];omega
  ·obtain rfl:k=d.length:=by omega
   rw [df] at l ad;have L:=hX.c2;clear W3 P3 X3;go_wp2_with fail;refine (HC.out _ x).mono ?_;rintro e w4 ⟨v4,rfl,T,m⟩;have S:=Zaa x m x.size;have P:=l.grown m;clear L l;generalize hE0:Zbl (d.length:Int)++d.flatMap (fun f=>Zef (Zen f))=bs at *;go_wp2_with fail;refine (Zk0 g w.heap.size _ (Zgw c) v4 w4 P (by omega) (by omega) aa.out T.rep).mono ?_;rintro e w6 ⟨⟨v6,rfl⟩,W6,M⟩;have Q:=S.trans M.1;have a1:(bs++Zef (Zgw c)).length<=940000:=by
    have:=Za9 (n:=(Zgw c).length) (by omega);unfold Zef;simp only [ai];omega
   clear P S M T;go_wp2_with fail;refine (Zir g w.heap.size _ w6 W6 (by omega)).mono ?_;rintro e w7 ⟨v7,rfl,o7,aq⟩;have E:Zth d c=bs++Zef (Zgw c):=by unfold Zth;rw [hE0]
   have E:=ae E;go_wp2_with fail;exact bodyPost_ret (results_tmp2 rfl _ _ _) rfl ⟨_,rfl,by rw [E.out];exact o7.mono Q.size,Zaa Q aq Q.size⟩
theorem Zm4 (d:List F) (c:List Cl) (i:Ztg d c) (dv cv:Value) (w:World) (B:Nat) (a:B<=w.heap.size) (hd:Rep w B dv (.s 4 (d.flatMap F.cells))) (hc:Rep w B cv (.s 5 (c.flatMap Cl.cells))) :
  Calls prog 91 #[.agg #[dv,cv]] w fun e w'=>∃ u,e=G (.tuple #[u,.int Z 0])/\Zd2 w' w.heap.size u (Zth d c)/\Bl w w':=by
 have HV:=ae (fun (W:World) (l:Bl w W)=>Zep d c i dv cv W B (aj a l.size) (hd.keep (fun p N=>l.cell (ah N a)) (ag _)) (hc.keep (fun p N=>l.cell (ah N a)) (ag _)));have HC:=ae (fun (W:World) (l:Bl w W)=>Zs9 c i.2.2.1 cv W B (aj a l.size) (hc.keep (fun p N=>l.cell (ah N a)) (ag _)));obtain ⟨A,q,rfl,_,r⟩:=hd.formulas;obtain ⟨T,X,rfl,_,_⟩:=hc.claims;have L:=ae r;have aa:=ae i.2.1;have an:=i.2.2.1.1;have av:=i.1;have a4:=Zl2 i.2.2.1;have al:=ae (fun k=>Zl3 (d:=d.take k) (fun f hf=>i.2.1 f (ed hf)));have am:=ae (fun W=>Zcf (d.length:Int) (by omega) (by omega) W);have X0:=Blk.new w 42 #[I A d.length q,I T c.length X];have U:=Zab w (O #[I A d.length q,I T c.length X] 42);have a2:=Za2 (n:=(d.length:Int)) (by omega) (by omega);clear hd hc r i;have x:=X0.c2;go_enter func91,ntmps91;go_wp2_with fail;refine (HV.out _ U).mono ?_;rintro e w1 ⟨rfl,H⟩;have P1:=Zaa U H U.size;have S:=X0.keep H;have Q:=S.c2;clear x;go_wp2_with fail;refine (am.out _).mono ?_;rintro e w2 ⟨v2,rfl,o2,K⟩;have W2:Zst w w2 42 #[I A d.length q,I T c.length X] v2 (Zbl (d.length:Int)):=⟨S.keep K,Zaa P1 K P1.size,o2.mono S.lt⟩;clear Q S P1 H K o2 X0 U;go_wp2_with fail;go_loopw [5,6] (fun u j wr=>∃ k:Nat,j=.int Z (k:Int)/\k<=d.length/\Zst w wr 42 #[I A d.length q,I T c.length X] u (Zbl (d.length:Int)++(d.take k).flatMap (fun f=>Zef (Zen f)))) (fun _ j _=>d.length - (intOf j).toNat)
 case atStart=>exact ⟨0,rfl,bi _,by simpa using W2⟩
 case round =>
  obtain ⟨k,rfl,hk,l⟩:=hrel;have x:=l.1.c2;have P:=l.2.1;have a3:=al.out k;have a0:=List.length_take_le k d;have ab:(Zbl (d.length:Int)++(d.take k).flatMap (fun f=>Zef (Zen f))).length<=309000:=by rw [ai];omega
  by_cases C:k<d.length
  ·obtain ⟨b,o,y,rfl,hb,hy,c0,c1,c2,c3⟩:=L.out k C;have v:b<w.heap.size:=ah hb a;have e0:=(P.cell (p:=⟨b,o+k * 4,none⟩) v).trans c0;have e1:=(P.cell (p:=⟨b,o+k * 4+1,none⟩) v).trans c1;have e2:=(P.cell (p:=⟨b,o+k * 4+2,none⟩) v).trans c2;have e3:=(P.cell (p:=⟨b,o+k * 4+3,none⟩) v).trans c3;have m:=aa.out _ (aw C);have HT:Zbl (d.length:Int)++(d.take (k+1)).flatMap (fun f=>Zef (Zen f))=Zbl (d.length:Int)++(d.take k).flatMap (fun f=>Zef (Zen f))++Zef (Zen d[k]):=by
    rw [dq,ak C,bm];simp
   rw [<- hy] at m HT;have ad:=ae HT;have E:=ae (fun (W:World) (l:Bl w W)=>Zs7 W B (aj a l.size) (y.up (fun p N=>l.cell (ah N a)) (ag _)) m);have a1:=OkN.len (t:=y.t) ⟨m.1,m.2.2⟩;have af:=Za9 (n:=(Zen y.t).length) (by omega);have Y:(Zef (Zen y.t)).length<=19300:=by
    unfold Zef;rw [ai];omega
   obtain ⟨A3,n3,q3,A4,n4,q4,f1,f2,f3,f4⟩:=Zaq y.h;dsimp only [Zan.up] at E;rw [f1,f2,f3,f4] at E;rw [f1] at e0;rw [f2] at e1;rw [f3] at e2;rw [f4] at e3;clear c0 c1 c2 c3 f1 f2 f3 f4 hy m HT W2;generalize Zen y.t=fb at *;generalize y.t.op=op at *;generalize y.t.n=nn at *;generalize Zbl (d.length:Int)++(d.take k).flatMap (fun f=>Zef (Zen f))=bs at *;go_wp2_with fail;refine (E.out _ P).mono ?_;rintro e w4 ⟨v4,rfl,o4,M⟩;have z:=l.call M;have aq:=z.1.c2;clear e0 e1 e2 e3 x;go_wp2_with (first
    | (go_at_call 92;refine (Zhd v4 fb _ (by omega) o4.rep).mono ?_;rintro e w5 ⟨v5,rfl,o5,J⟩)
    | (at_builtin;refine Za7 rfl _ _ rfl (w.heap.size+1) _ bs rfl (z.call J).2.2 _ (Zef fb) rfl o5.rep (by omega) (z.call J).size ?_;intro v7 w7 o7 g7))
   have R:=(z.call J).app o7 g7;rw [<- ad.out] at R;go_roundw
   case rel=>exact ⟨k+1,by go_num,by omega,R⟩
   case measure=>simp [intOf];omega
  ·obtain rfl:k=d.length:=by omega
   rw [df] at l ab;clear W2;have af:=Za9 (n:=(Zgw c).length) (by omega);have Y:(Zef (Zgw c)).length<=621100:=by
    unfold Zef;rw [ai];omega
   generalize hE0:Zbl (d.length:Int)++d.flatMap (fun f=>Zef (Zen f))=bs at *;have E:Zth d c=bs++Zef (Zgw c):=by unfold Zth;rw [hE0]
   have E:=ae E;clear hE0;generalize hcb:Zgw c=ec at *;clear hcb;go_wp2_with fail;refine (HC.out _ P).mono ?_;rintro e w4 ⟨v4,rfl,o4,M⟩;have z:=l.call M;clear x;go_wp2_with (first
    | (go_at_call 92;refine (Zhd v4 ec _ (by omega) o4.rep).mono ?_;rintro e w5 ⟨v5,rfl,o5,J⟩)
    | (at_builtin;refine Za7 rfl _ _ rfl (w.heap.size+1) _ bs rfl (z.call J).2.2 _ (Zef ec) rfl o5.rep (by omega) (z.call J).size ?_;intro v7 w7 o7 g7))
   have R:=(z.call J).app o7 g7;exact bodyPost_ret (results_tmp2 rfl _ _ _) rfl ⟨_,rfl,by rw [E.out];exact R.2.2.mono (gq _),R.2.1⟩
theorem Blk.c19 {t:TypeId} {o u v p r x q m l s e k c f i b d a j:Value} (h:Blk W g t #[o,u,v,p,r,x,q,m,l,s,e,k,c,f,i,b,d,a,j]) :
  W.cell? ⟨g,0,none⟩=some o/\W.cell? ⟨g,1,none⟩=some u/\W.cell? ⟨g,2,none⟩=some v/\W.cell? ⟨g,3,none⟩=some p/\W.cell? ⟨g,4,none⟩=some r/\W.cell? ⟨g,5,none⟩=some x/\W.cell? ⟨g,6,none⟩=some q/\W.cell? ⟨g,7,none⟩=some m/\W.cell? ⟨g,8,none⟩=some l/\W.cell? ⟨g,9,none⟩=some s /\
  W.cell? ⟨g,10,none⟩=some e/\W.cell? ⟨g,11,none⟩=some k/\W.cell? ⟨g,12,none⟩=some c/\W.cell? ⟨g,13,none⟩=some f/\W.cell? ⟨g,14,none⟩=some i/\W.cell? ⟨g,15,none⟩=some b/\W.cell? ⟨g,16,none⟩=some d/\W.cell? ⟨g,17,none⟩=some a/\W.cell? ⟨g,18,none⟩=some j :=
 ⟨h.cell 0,h.cell 1,h.cell 2,h.cell 3,h.cell 4,h.cell 5,h.cell 6,h.cell 7,h.cell 8,h.cell 9,h.cell 10,h.cell 11,h.cell 12,h.cell 13,h.cell 14,h.cell 15,h.cell 16,h.cell 17,h.cell 18⟩
theorem Zbb (n lo hi:Int) (b:lo<=n) (h1:n<=hi) (w:World) :
  Calls prog 85 #[.int Z n,.int Z lo,.int Z hi] w fun e a=>e=G (.bool true)/\a=w:=by
 have c:=decide_eq_true b;have d1:=decide_eq_true h1;go_enter func85,ntmps85;go_wp2_with fail;go_ret;exact ⟨rfl,rfl⟩
theorem Ztj (w:World) :
  Calls prog 63 #[.int Z 0] w fun e a=>e=G (.bool true)/\a=w:=by
 go_enter func63,ntmps63;go_wp2_with fail;go_ret;exact ⟨rfl,rfl⟩
def Zb9 (W:World) (A:Option Addr) (n:Nat):Prop:=∀ k,k<n->∃ b o x,A=some ⟨b,o,none⟩/\b<W.heap.size/\W.cell? ⟨b,o+k,none⟩=some (.int Z x)/\-9223372036854775808<=x/\x<=9223372036854775807
theorem Zb9.grown {n:Nat} {row:Option Nat} (h:Zb9 W A n) (c:W.grownBy W' row) (d:∀ a,A=some a->row≠some a.block):Zb9 W' A n:=by
 intro k f;obtain ⟨b,o,x,rfl,h1,i,j⟩:=h k f;exact ⟨b,o,x,rfl,ah h1 c.size,(dc (a:=⟨b,o+k,none⟩) (c.block b h1 (fun e=>d _ rfl e.symm))).trans i,j⟩
theorem Yd1 (A:Option Addr) (n c:Nat) (i a:Int) (hm:1<=a) (q:a<=1000000) (w:World) (d:Zb9 w A n) :
  Calls prog 60 #[I A n c,.int Z i,.int Z a] w fun e p=>(∃ r:Int,e=G (.int Z r)/\0<=r/\r<a)/\∃ m,p=w.drewN m:=by
 by_cases t:i<0
 ·clear d;go_enter func60,ntmps60;go_wp2_with fail;go_ret;exact ⟨⟨0,rfl,by omega,by omega⟩,0,rfl⟩
 by_cases h1:(n:Int)<=i
 ·clear d;go_enter func60,ntmps60;go_wp2_with fail;go_ret;exact ⟨⟨0,rfl,by omega,by omega⟩,0,rfl⟩
 obtain ⟨k,rfl⟩:∃ k:Nat,i=(k:Int):=⟨i.toNat,by omega⟩;obtain ⟨b,o,x,rfl,u,hc,j,f⟩:=d k (by omega);have s:=ae (fun W=>Zaz x a W j f hm (by omega));have l:=Zcs x a hm;have h:=Zhq x a hm;generalize arN x a=r at *;clear d;go_enter func60,ntmps60;go_wp2_with fail;refine (s.out _).mono ?_;rintro e w2 ⟨rfl,rfl⟩;go_wp2_with fail;go_ret;exact ⟨⟨r,rfl,l,h⟩,0,rfl⟩
def Mk (w:World) (base g:Nat) (A:Option Addr) (n c:Nat) (day:Int) (fv:Value):Prop :=
 (∃ at_:Int,Blk w g 77 #[I A n c,.int Z at_,.int Z day,fv])/\Zb9 w A n/\(∀ a,A=some a->a.block<base)/\base<=g
theorem Mk.lt {base:Nat} {n c:Nat} {day:Int} {fv:Value} (h:Mk w base g A n c day fv):g<w.heap.size:=h.1.elim fun _ h=>h.lt
theorem Mk.base {base:Nat} {n c:Nat} {day:Int} {fv:Value} (h:Mk w base g A n c day fv):base<=g:=h.2.2.2
theorem Mk.step {b:World} {base:Nat} {n c:Nat} {day:Int} {fv:Value} (h:Mk w base g A n c day fv) {row:Option Nat} (d:w.grownBy b row) (hr:∀ k,row=some k->base<=k/\k≠g):Mk b base g A n c day fv:=by
 obtain ⟨⟨a,h1⟩,j,f,i⟩:=h;exact ⟨⟨a,h1.grown d (fun e=>(hr g e.symm).2 rfl)⟩,j.grown d (fun a e l=>by have:=(hr _ l).1;have:=f a e;omega),f,i⟩
theorem Mk.hidden {ts:List TypeId} {base:Nat} {n c:Nat} {day:Int} {fv:Value} (h:Mk w base g A n c day fv) (a:77∈ts):Zbp ts w g:=h.1.elim fun _ h=>h.hidden a
theorem Zak {base:Nat} {n c:Nat} {day:Int} {fv:Value} (h:Mk w base g A n c day fv) (k:Int) (o:1<=k) (j:k<=1000000) :
  Calls prog 25 #[.pointer (some ⟨g,0,none⟩),.int Z k] w fun e x=>(∃ r:Int,e=G (.int Z r)/\0<=r/\r<k)/\w.grownBy x (some g)/\Mk x base g A n c day fv:=by
 obtain ⟨⟨at_,p⟩,B,y,f⟩:=h;have L:=ae (fun (i:Int) (W:World) (P:Zb9 W A n)=>Yd1 A n c i k o j W P);have hc:=p.c4;have T:=p.f4;have C:=ae p;have J:=ae B;have v:=ae y;clear p B y o j;go_enter func25,ntmps25;go_upto_region 2 with fail;have s:=C.out.set 1 (.int Z (wrap64 (at_+1)));simp only [pB,pZ,pC] at s;have t:=Zaj w g 1 (.int Z (wrap64 (at_+1)));have z:Zb9 (w.setCell ⟨g,1,none⟩ (.int Z (wrap64 (at_+1)))) A n:=J.out.grown t (fun a e N=>by
  cases N;have:=v.out a e;omega)
 clear hc T C J;generalize wrap64 (at_+1)=l at *;generalize w.setCell ⟨g,1,none⟩ (.int Z l)=H at *;refine wp_region_held_drew (S:=(fun W=>Blk W g 77 #[I A n c,.int Z l,.int Z day,fv]/\Zb9 W A n/\w.grownBy W (some g))) (by kernel_rfl) ?_ (fun b=>?_)
 ·first | done | ((try dsimp only);exact ⟨s.drew,z.grown (Zat H none) (fun _ _ e=>by cases e),Zac t (Zat H none) (fun _ e=>by cases e)⟩)
 clear s t z;refine tq 0 12 rfl ?_;refine tq 1 13 rfl ?_;refine tq 2 14 rfl ?_;refine th 3 15 rfl (fun _ d=>d.1.c4) ?_;refine tq 4 16 rfl ?_;refine tq 5 17 rfl ?_;refine tq 6 18 rfl ?_;refine th 7 19 rfl (fun _ d=>d.1.c4) ?_;refine tq 8 20 rfl ?_;refine tq 9 21 rfl ?_;refine rd 10 (some 22) rfl fun K E=>?_;go_simp;(refine (L.out _ _ b.2.1).mono ?_;rintro e U ⟨⟨r,rfl,u,q⟩,⟨m,rfl⟩⟩);refine E.out _ _ ?_ (fun b=>?_)
 ·first | done | ((try dsimp only);exact ⟨b.1.drewN m,b.2.1.grown (Zlk _ m none) (fun _ _ e=>by cases e),Zac b.2.2 (Zlk _ m none) (fun _ e=>by cases e)⟩)
 clear E K;(try simp only [pS,pB,pZ,pC]);refine tq 11 4 rfl ?_;refine dn ?_;obtain ⟨M,Q,R⟩:=b;go_wp2_with fail;go_ret;exact ⟨⟨r,rfl,u,q⟩,R,⟨_,M⟩,Q,v.out,f⟩
open Go.ChangeShapes Go.WideShapes Go.ChangeAt Go.RowKit
theorem Zhh:laidOutB prog=true:=by kernel_rfl
theorem own:ownKnob prog.godebug=none:=by kernel_rfl
def Zox:List (String × DataW Unit):=Rows.copiesShelfRow.laid
theorem Zkd (os:Os) (a:Array Value):((World.laidAll prog os Zox).forCall (fun _ _=>0) ⟨#[],a,[]⟩).Shaped prog :=
 World.shaped_of_ZipB (by kernel_rfl) (by kernel_rfl)
theorem Zrf (os:Os) (a:Array Value):laidMetH prog Zox ((World.laidAll prog os Zox).forCall (fun _ _=>0) ⟨#[],a,[]⟩).memory:=by
 rw [MakeChecks.laidMetH_plain _ _ _ (by kernel_rfl)];exact laidMet_laidAll _ (by kernel_rfl) (by kernel_rfl)
def Zgy:List Int:=[655,1,1,257,61,20,17,17,49,17,1,1,5,281,5,257,77,29,17,1024,18,50]
theorem Zl4:(Rows.laid_priorart_acts_fields:DataW Unit)=Lib.tabData Z Zgy:=by kernel_rfl
theorem Zh1 (hlaid:laidMetH prog Zox W):W.cell? ⟨0,0,none⟩=some (.int Z 655)/\0<W.heap.size:=by
 rw [MakeChecks.laidMetH_plain _ _ _ (by kernel_rfl)] at hlaid;have hL : laidMet prog [("priorart/acts.fields", Rows.laid_priorart_acts_fields)] W := hlaid;rw [Zl4] at hL;have hT := Lib.tabIs_of_head (g := 0) (t := 132) (e := 3) (n := 22) (by kernel_rfl) (by kernel_rfl) underlying132 underlying3 (by kernel_rfl) (by kernel_rfl) hL;have hc:=hT.cell (g:=0) (by kernel_rfl) 0 (by decide);exact ⟨hc,bu W _ hc⟩
theorem Yaa {x:Int} (h:(Lit.int Z x).wf=true):-9223372036854775808<=x/\x<=9223372036854775807:=by
 simpa [Lit.wf,IntKind.min,IntKind.max,IntKind.signed,IntKind.bits] using h
theorem Zhi {H:Type} {enc:TypeId × Value->H} {base:Nat} {v:Value} {d:DataW H} {p:List MemPlace} (m:Value.okWide prog W .any base 22 v) (h:DataW.Trod enc prog W 0 (fun _=>true) true 22 v d p) :
  ∃ A n c,v=I A n c/\Zb9 W A n/\(∀ a,A=some a->a.block<W.heap.size):=by
 obtain ⟨A,n,c,rfl⟩:=okWide_slice underlying22 m;have u:∀ a,A=some a->a.block<W.heap.size:=fun a e=>by
  subst e;have h1:Cell.okWide prog W .any base 22 (I (some a) n c):=by
   unfold Value.okWide at m;rw [underlying22] at m;exact m
  have s:Cell.ok prog W .any base 22 (I (some a) n c):=by
   unfold Cell.okWide at h1;rw [underlying22] at h1;exact h1
  have z:W.has prog .any base a 3 c:=by
   unfold Cell.ok at s;rw [underlying22] at s;exact s.2.2
  obtain ⟨_,_,row,cells,hs,_⟩:=z;unfold World.shape? at hs;rcases ir a.block W.heap.size with h | h
  ·exact h
  ·rw [gw h] at hs;cases hs
 obtain ⟨fuel,E⟩:=h;refine ⟨A,n,c,rfl,?_,u⟩;rcases open_ints underlying22 underlying3 (by kernel_rfl) E with ⟨f,C⟩ | ⟨a,y,x,o,f,_,hl,hm,B,C,i,q⟩
 ·simp [Value.cells] at f;obtain ⟨rfl,rfl,rfl⟩:=f;exact fun k t=>absurd t (jf k)
 ·simp [Value.cells] at f;obtain ⟨rfl,rfl,rfl⟩:=f;simp only [if_true] at B;intro k t;have j:k<o.length:=by omega
  obtain ⟨b,r,spot⟩:=a;have l:spot=none:=by simpa [Addr.add] using World.cell?_spot (i 0 (by omega))
  subst l;refine ⟨b,r,o.getD k 0,rfl,u _ rfl,by rw [<- add_plain];exact i k j,?_⟩;have:o.getD k 0=o[k]:=by simp [List.getD,j]
  rw [this];exact Yaa (q _ (aw j))
theorem info26:(prog.info? 26).map (fun i=>(i.zero,i.size,i.bytes))=some (some (.int V 0),1,8):=by kernel_rfl
def Ycy (l:List Nat):List Value:=l.map fun (x:Nat)=>.int V (x:Int)
theorem Yab {l:List Nat} {k m:Nat} (h1:0<k) (a:k<=m) (b:m<=l.length):lw ((l.drop (k - 1)).take (m - (k - 1)))=l[k - 1]'(by omega)+256 * lw ((l.drop k).take (m - k)):=by
 rw [ct (i:=k - 1) (by omega),show m - (k - 1)=(m - k)+1 from by omega,gy,lw,show k - 1+1=k from by omega]
theorem Zke (v:Value) (bs:List Nat) (am:Zb6 bs) (hn:bs.length<=1000000000) (w:World) (hr:Rep w w.heap.size v (.s 1 (Zdv (bys bs)))) :
  Calls prog 106 #[v] w fun e w'=>∃ u,e=G u/\w'.ownsRow w.heap.size 26 1 u (Zau bs).length (Ycy (Zau bs))/\Bl w w':=by
 obtain ⟨A,c,rfl,hc,J⟩:=hr.row;rw [Za0] at hc ⊢;obtain ⟨i0,hi,ab,af,al⟩:=info_parts info26;have C:=ae J;have t:=ae am;clear hr J am;go_enter func106,ntmps106;go_wp2_with fail;go_loopw [3,4] (fun u i wr=>∃ (q:Nat) (d:List Nat),i=.int Z (q:Int)/\q<=bs.length+8/\d.length<=q/\wr.ownsRow w.heap.size 26 1 u d.length (Ycy d)/\Bl w wr/\Zau bs=d++Zau (bs.drop q)) (fun _ i _=>bs.length+8 - (intOf i).toNat)
 case atStart=>exact ⟨0,[],rfl,bi _,ag _,d8 _ _ _ _,ap _ _,rfl⟩
 case round =>
  obtain ⟨q,d,rfl,hq,a4,f,N,ad⟩:=hrel;have P:=ae ad;clear ad;by_cases a5:q<bs.length
  ·obtain ⟨wo,aq⟩:∃ z:World,z=wr:=⟨_,rfl⟩;subst aq;by_cases h8:q+8<=bs.length
   ·have a3:(q:Int)+8<=(bs.length:Int):=by omega
    have K:=ae (Zni (l:=bs) (i:=q) (k:=q+8) (by omega) (by omega));go_wp2_with fail;go_loopw [5,6] (fun x j wr=>∃ k:Nat,j=.int Z ((k:Int) - 1)/\q<=k/\k<=(q+8)/\x=.int V (lw ((bs.drop k).take ((q+8) - k)):Int)/\wo=wr) (fun _ j _=>(intOf j+1).toNat - q)
    case atStart=>exact ⟨(q+8),by first | rfl | (congr 1;push_cast;omega) | (congr 1;omega),by omega,ag _,by rw [ic,List.take_zero];rfl,rfl⟩
    case round =>
     obtain ⟨k,rfl,a2,aa,rfl,rfl⟩:=hrel;have HX:=Zoh t.out k (q+8) (by omega) (by omega);by_cases a0:q<k
     ·have an:lw ((bs.drop k).take ((q+8) - k))<72057594037927936:=ah HX (Nat.pow_le_pow_right (n:=256) (by omega) (show (q+8) - k<=7 by omega));have M:=Yab (l:=bs) (k:=k) (m:=(q+8)) (by omega) aa (by omega);obtain ⟨b,o,rfl,Q,y⟩:=C.out (k - 1) _ (Zjf bs (k - 1) (by omega));have Y:=(N.cell (p:=⟨b,o+(k - 1),none⟩) Q).trans y;have av:=t.out _ (aw (show k - 1<bs.length by omega));have H:=ae M;clear M y HX;generalize lw ((bs.drop k).take ((q+8) - k))=X at *;generalize bs[k - 1]=B at *;obtain ⟨k,rfl⟩:∃ z,k=z+1:=⟨k - 1,by omega⟩
      rw [jc] at Y H;have U:((k+1:Nat):Int) - 1=(k:Int):=by omega
      rw [U];go_wp2_with fail;go_roundw
      case rel=>exact ⟨k,by go_num,by omega,by omega,by rw [H.out];congr 1;omega,trivial⟩
      case measure=>simp [intOf];omega
     ·obtain rfl:k=q:=by omega
      clear HX;rw [K.out];have a1:=Zld (l:=bs.drop k) (Zdw t.out (fun x hx=>gg hx));have r:=Zdt (l:=bs.drop k) (by intro e;have:=congrArg List.length e;rw [dw] at this;simp at this;omega);rw [i9] at r;have h:Zau bs=(d++[lw ((bs.drop k).take 8)])++Zau (bs.drop (k+8)):=by rw [P.out,r,ay];rfl
      have h:=ae h;clear r;generalize lw ((bs.drop k).take 8)=X at *;have HS:w.heap.size<=(wo.alloc (O #[.int V (X:Int)] 26)).heap.size:=aj (ia N.size) (jb (by simp));have T:d.length+1<=maxLen:=by unfold maxLen;omega
      have S:(d.length+1) * 8<=140737488355328:=by omega
      go_wp2_with (at_builtin;refine wpList_append_own _ rfl _ _ 27 rfl w.heap.size 26 i0 (.int V 0) 1 8 underlying27 hi ab af al rfl (by decide) _ _ _ rfl (f.alloc _) ⟨wo.heap.size,0,none⟩ 1 1 [.int V (X:Int)] rfl rfl (cell_one_new _ _ _) (by intro u hu;rw [List.mem_singleton.mp hu];rfl) T S HS ?_;intro v1 w1 a R _);have HB:Bl w w1:=(N.alloc N.size _).grown R HS (Zjd f);have E:Ycy d++[Value.int V (X:Int)]=Ycy (d++[X]):=by unfold Ycy;rw [cj];rfl
      have L:d.length+1=(d++[X]).length:=by simp
      rw [E,L] at a;go_roundw
      case rel=>exact ⟨k+8,d++[X],by go_num,by omega,by rw [<- L];omega,a,HB,h.out⟩
      case measure=>simp [intOf];omega
   ·have a3:¬ ((q:Int)+8<=(bs.length:Int)):=by omega
    have K:=ae (Zni (l:=bs) (i:=q) (k:=bs.length) (by omega) (by omega));go_wp2_with fail;go_loopw [5,6] (fun x j wr=>∃ k:Nat,j=.int Z ((k:Int) - 1)/\q<=k/\k<=bs.length/\x=.int V (lw ((bs.drop k).take (bs.length - k)):Int)/\wo=wr) (fun _ j _=>(intOf j+1).toNat - q)
    case atStart=>exact ⟨bs.length,by first | rfl | (congr 1;push_cast;omega) | (congr 1;omega),by omega,ag _,by rw [ic,List.take_zero];rfl,rfl⟩
    case round =>
     obtain ⟨k,rfl,a2,aa,rfl,rfl⟩:=hrel;have HX:=Zoh t.out k bs.length (by omega) (by omega);by_cases a0:q<k
     ·have an:lw ((bs.drop k).take (bs.length - k))<72057594037927936:=ah HX (Nat.pow_le_pow_right (n:=256) (by omega) (show bs.length - k<=7 by omega));have M:=Yab (l:=bs) (k:=k) (m:=bs.length) (by omega) aa (by omega);obtain ⟨b,o,rfl,Q,y⟩:=C.out (k - 1) _ (Zjf bs (k - 1) (by omega));have Y:=(N.cell (p:=⟨b,o+(k - 1),none⟩) Q).trans y;have av:=t.out _ (aw (show k - 1<bs.length by omega));have H:=ae M;clear M y HX;generalize lw ((bs.drop k).take (bs.length - k))=X at *;generalize bs[k - 1]=B at *;obtain ⟨k,rfl⟩:∃ z,k=z+1:=⟨k - 1,by omega⟩
      rw [jc] at Y H;have U:((k+1:Nat):Int) - 1=(k:Int):=by omega
      rw [U];go_wp2_with fail;go_roundw
      case rel=>exact ⟨k,by go_num,by omega,by omega,by rw [H.out];congr 1;omega,trivial⟩
      case measure=>simp [intOf];omega
     ·obtain rfl:k=q:=by omega
      clear HX;rw [K.out];have a1:=Zld (l:=bs.drop k) (Zdw t.out (fun x hx=>gg hx));have r:=Zdt (l:=bs.drop k) (by intro e;have:=congrArg List.length e;rw [dw] at this;simp at this;omega);rw [i9] at r;have h:Zau bs=(d++[lw ((bs.drop k).take 8)])++Zau (bs.drop (k+8)):=by rw [P.out,r,ay];rfl
      have h:=ae h;clear r;generalize lw ((bs.drop k).take 8)=X at *;have HS:w.heap.size<=(wo.alloc (O #[.int V (X:Int)] 26)).heap.size:=aj (ia N.size) (jb (by simp));have T:d.length+1<=maxLen:=by unfold maxLen;omega
      have S:(d.length+1) * 8<=140737488355328:=by omega
      go_wp2_with (at_builtin;refine wpList_append_own _ rfl _ _ 27 rfl w.heap.size 26 i0 (.int V 0) 1 8 underlying27 hi ab af al rfl (by decide) _ _ _ rfl (f.alloc _) ⟨wo.heap.size,0,none⟩ 1 1 [.int V (X:Int)] rfl rfl (cell_one_new _ _ _) (by intro u hu;rw [List.mem_singleton.mp hu];rfl) T S HS ?_;intro v1 w1 a R _);have HB:Bl w w1:=(N.alloc N.size _).grown R HS (Zjd f);have E:Ycy d++[Value.int V (X:Int)]=Ycy (d++[X]):=by unfold Ycy;rw [cj];rfl
      have L:d.length+1=(d++[X]).length:=by simp
      rw [E,L] at a;go_roundw
      case rel=>exact ⟨k+8,d++[X],by go_num,by omega,by rw [<- L];omega,a,HB,h.out⟩
      case measure=>simp [intOf];omega
  ·have hd:bs.drop q=[]:=gh (by omega);have hE:Zau bs=d:=by rw [P.out,hd,Zfl,bv]
   have HE:=ae hE;have HO:=ae f;clear f hE hd;go_wp2_with fail;go_ret;exact ⟨_,rfl,by rw [HE.out];exact HO.out,N⟩
theorem Zks (w:World) (e:TypeId) (s:ByteArray):Bl w (Lib.bytesWorld w e s) :=
 ⟨rfl,rfl,rfl,by rw [Lib.bytesWorld_size];omega,fun i hi=>Lib.bytesWorld_at_old w e s i hi⟩
theorem Zm5 (w:World) (e:TypeId) (s:ByteArray) (c:Nat) (hc:s.size<=c):Rep (Lib.bytesWorld w e s) (Lib.bytesWorld w e s).heap.size (I (some ⟨w.heap.size,0,none⟩) s.size c) (.s 1 (Zdv (bys (sb s)))):=by
 refine Rep.mk (by rw [Zdo,Za0,Zfm,iu]) hc (by rw [Lib.bytesWorld_size];omega) (Zax.of_plain _ _ (bys (sb s))) (fun j u b=>?_);have d:j<(sb s).length:=by
  rcases ir j (sb s).length with h | h
  ·exact h
  ·rw [gj (by rw [Za0];exact h)] at b;cases b
 rw [Zjf (sb s) j d] at b;cases b;have a:j<s.size:=by rw [<- Zfm];exact d
 rw [cz,Lib.bytesWorld_cell w e s j a];congr 3;have f:s.data.toList[j]?=some (s[j]'a):=by
  rw [dj];exact eh a
 rw [Yfl s j a d,fk,f];rfl
theorem Yd2 (s:Nat) (l:List Nat) (k:Nat) (h:k<l.length):Zf4 (Zj7 s (l.take k)) l[k]=Zj7 s (l.take (k+1)):=by
 rw [dq,ak h,Option.toList_some,Zok]
theorem Znt (s:ByteArray) (ad:s.size<=1000000) (v:Value) (l:List Int) (w:World) (hr:Rep w w.heap.size v (.s 1 (Zdv (Zdj l)))) (hl:l.length<=1000000000) :
  Calls prog 65 #[.string s,v] w fun e y=>e=G (.int V (Zvg (Zau (sb s)) s.size (Zfn l):Int))/\Bl w y:=by
 obtain ⟨A,c,rfl,hc,j⟩:=hr.row;rw [Zb1] at hc ⊢;have t:=ae j;clear hr j;go_enter func65,ntmps65;have U:=Lib.run_convert_string_bytes (P:=prog) w 9 96 5 s underlying9 underlying96 underlying5;have hR:=Zm5 w 5 s (grownCap w s.size 0 5) (grownCap_ge w _ _ _);have Y:=Zks w 5 s;have am:=Zfm s;have HW:=ae (Zke _ (sb s) (Zii s) (by omega) _ hR);clear hR;go_wp2_with fail;clear U;generalize Lib.bytesWorld w 5 s=w0 at *;refine HW.out.mono ?_;rintro e Q ⟨u,rfl,a,T⟩;have B:=Zaa Y T Y.size;have C:=Zvh (Zii s);have al:=Ze9 (sb s);have af:=ae a;obtain ⟨Au,cu,rfl⟩:=Zc1 a;have d:∀ k (E:k<(Zau (sb s)).length),∃ g,Au=some ⟨g,0,none⟩/\Q.cell? ⟨g,0+k,none⟩=some (.int V (((Zau (sb s))[k]:Nat):Int)):=fun k E=>by
  rcases a.2 with ⟨e,hn⟩ | ⟨g,cap,aa,e,_⟩
  ·omega
  ·cases e;refine ⟨g,rfl,?_⟩;rw [cz,a.cellAt k (by omega)];unfold Ycy;rw [i6,ak E];rfl
 have X:=ae d;have N:=ae C;clear a d C HW;generalize hwl0:Zau (sb s)=h at *;have H:=ae hwl0;clear hwl0;go_wp2_with fail;go_loopw [5,7] (fun x i wr=>∃ k:Nat,i=.int Z (k:Int)/\k<=h.length/\x=.int V (Zj7 0 (h.take k):Int)/\Q=wr) (fun _ i _=>h.length - (intOf i).toNat)
 case atStart=>exact ⟨0,rfl,bi _,rfl,rfl⟩
 case round =>
  obtain ⟨k,rfl,E,rfl,rfl⟩:=hrel;have r:=Zih (h.take k) 0 (by decide);by_cases f:k<h.length
  ·obtain ⟨g,rfl,m⟩:=X.out k f;rw [cz] at m;have J:=N.out _ (aw f);have K:=ae (Yd2 0 h k f);generalize h[k]=x at *;generalize Zj7 0 (h.take k)=S at *;go_wp2_with (go_at_call 107;refine (Zhb _ _ _ r J).mono ?_;rintro e y ⟨rfl,rfl⟩);go_roundw
   case rel=>exact ⟨k+1,by go_num,by omega,by rw [K.out],trivial⟩
   case measure=>simp [intOf];omega
  ·obtain rfl:k=h.length:=by omega
   rw [df] at r ⊢;generalize hS:Zj7 0 h=S at *;have M:=ae (Zfk (Zf4 S s.size) l.length);have L:=Zfk S s.size;have R:Zvg h s.size (Zfn l)=Zf4 (Zj7 (Zf4 (Zf4 S s.size) l.length) (Zfn l)) 0:=by
    unfold Zvg;rw [hS];unfold Zfn;rw [ba]
   have R:=ae R;clear hS;go_wp2_with (go_at_call 107;refine (Zhb _ _ _ (by first | exact r | exact L) (by omega)).mono ?_;rintro e y ⟨rfl,rfl⟩);generalize Zf4 (Zf4 S s.size) l.length=z at *;go_loopw [5,8] (fun x i wr=>∃ k:Nat,i=.int Z (k:Int)/\k<=l.length/\x=.int V (Zj7 z ((Zfn l).take k):Int)/\Q=wr) (fun _ i _=>l.length - (intOf i).toNat)
   case atStart=>exact ⟨0,rfl,bi _,rfl,rfl⟩
   case round =>
    obtain ⟨k,rfl,E,rfl,rfl⟩:=hrel;have HR:=ae (Zih ((Zfn l).take k) z M.out);by_cases f:k<l.length
    ·obtain ⟨b,o,rfl,hb,m⟩:=t.out k _ (Zbx l k f);have ab:=(B.cell (p:=⟨b,o+k,none⟩) hb).trans m;have hu:=Zik l[k];have HU:=ae (Zij l[k]);have K:=ae (Zvi (s:=z) f);clear m;generalize l[k]=n at *;generalize Zj7 z ((Zfn l).take k)=S at *;go_wp2_with (go_at_call 107;refine (Zhb _ _ _ HR.out HU.out).mono ?_;rintro e y ⟨rfl,rfl⟩);go_roundw
     case rel=>exact ⟨k+1,by go_num,by omega,by rw [K.out],trivial⟩
     case measure=>simp [intOf];omega
    ·obtain rfl:k=l.length:=by omega
     have q:=HR.out;rw [show List.take l.length (Zfn l)=Zfn l from et (by unfold Zfn;rw [ba];exact ag _)] at q ⊢;generalize Zj7 z (Zfn l)=S at *;go_wp2_with (go_at_call 107;refine (Zhb S 0 _ q (by decide)).mono ?_;rintro e y ⟨rfl,rfl⟩);go_ret;refine ⟨?_,B⟩;show Ending.returned (.int V ((Zf4 S 0:Nat):Int))=_;rw [H.out,R.out]
theorem Zdu (s:ByteArray) (b:s.size<=1000000) (l:List Int) (m:List Nat) (n:Nat) (cs:Array Value) (w:World) (H:Nat) (d:w.heap.size=H) (a:cs=(Zdj l).toArray) (hn:l.length=n) (hm:Zfn l=m) (hl:l.length<=1000000000) :
  Calls prog 65 #[.string s,I (some ⟨H,0,none⟩) n n] (w.alloc (O cs 3)) fun e c=>e=G (.int V (Zw6 s m:Int))/\Bl w c:=by
 subst a d;have hr:=Rep.fresh_plain (w:=w) (n:=n) (e:=3) (cs:=(Zdj l).toArray) (by simp [Zb1,hn]);refine (Znt s b _ l _ hr hl).mono ?_;rintro e c ⟨rfl,f⟩;rw [Zvk hm];exact ⟨rfl,((ap w.heap.size w).alloc (ag _) _).trans (f.mono (by simp))⟩
theorem Zl5 (h:Nat) (b:h<18446744073709551616) (w:World) :
  Calls prog 66 #[.int V (h:Int)] w fun e a=>e=G (.int V (Zce h:Int))/\Bl w a:=by
 have d:=ae (Zba b);clear b;have f:IntKind.i64.wrap (h:Int)=Zbg h:=rfl;go_enter func66,ntmps66;go_wp2_with (go_at_call 65;refine (Zdu Ygg (by decide) [Zbg h] [h] 1 _ w _ rfl rfl rfl (by unfold Zfn;rw [du,fq,d.out]) (fw rfl)).mono ?_;rintro e a ⟨rfl,c⟩);go_ret;exact ⟨rfl,c⟩
theorem Znu (s:Nat) (b:s<18446744073709551616) (w:World) :
  Calls prog 70 #[.int V (s:Int)] w fun e a=>e=G (.int V (Zie s:Int))/\Bl w a:=by
 have d:=ae (Zba b);clear b;have f:IntKind.i64.wrap (s:Int)=Zbg s:=rfl;go_enter func70,ntmps70;go_wp2_with (go_at_call 65;refine (Zdu Yjf (by decide) [Zbg s] [s] 1 _ w _ rfl rfl rfl (by unfold Zfn;rw [du,fq,d.out]) (fw rfl)).mono ?_;rintro e a ⟨rfl,c⟩);go_ret;exact ⟨rfl,c⟩
theorem Zh2 (a b:Nat) (f:a<18446744073709551616) (c:b<18446744073709551616) (w:World) :
  Calls prog 68 #[.int V (a:Int),.int V (b:Int)] w fun e d=>e=G (.int V (Zjg a b:Int))/\Bl w d:=by
 have i:=ae (Zba f);have h:=ae (Zba c);clear f c;have k:IntKind.i64.wrap (a:Int)=Zbg a:=rfl;have j:IntKind.i64.wrap (b:Int)=Zbg b:=rfl;go_enter func68,ntmps68;go_wp2_with (go_at_call 65;refine (Zdu Ygh (by decide) [Zbg a,Zbg b] [a,b] 2 _ w _ rfl rfl rfl (by unfold Zfn;rw [du,du,fq,i.out,h.out]) (fw rfl)).mono ?_;rintro e d ⟨rfl,c⟩);go_ret;exact ⟨rfl,c⟩
theorem Zm6 (s:ByteArray) (P:s.size<=1000000) (v:Value) (bs:List Nat) (o:Zb6 bs) (hn:bs.length<=900000000) (w:World) (hr:Rep w w.heap.size v (.s 1 (Zdv (bys bs)))) :
  Calls prog 144 #[.string s,v] w fun e X=>e=G (.int V (Ze3 s bs:Int))/\Bl w X:=by
 have K:=ae (Zke v bs o (by omega) w hr);obtain ⟨A,c,rfl,hc,_⟩:=hr.row;rw [Za0] at hc K ⊢;obtain ⟨i0,hi,C,r,z⟩:=info_parts info3;have HV:=ae (Zqk s bs o (by omega));have aa:=Ze9 bs;clear hr o;go_enter func144,ntmps144;go_wp2_with fail;refine K.out.mono ?_;rintro e j ⟨u,rfl,d,l⟩;obtain ⟨Au,cu,rfl⟩:=Zc1 d;have f:∀ k (N:k<(Zau bs).length),∃ g,Au=some ⟨g,0,none⟩/\g<j.heap.size/\j.cell? ⟨g,k,none⟩=some (.int V (((Zau bs)[k]:Nat):Int)):=fun k N=>by
  rcases d.2 with ⟨e,hn⟩ | ⟨g,cap,U,e,_⟩
  ·omega
  ·cases e;refine ⟨g,rfl,(d.lt g rfl).2,?_⟩;rw [d.cellAt k (by omega)];unfold Ycy;rw [i6,ak N];rfl
 have S:=ae f;clear d f K;generalize Zau bs=h at *;have ab:=l.size;go_wp2_with fail;go_loopw [6,7] (fun x i wr=>∃ k:Nat,i=.int Z (k:Int)/\k<=h.length/\wr.ownsRow j.heap.size 3 1 x k (Zdj ((h.take k).map Zbg))/\Bl j wr) (fun _ i _=>h.length - (intOf i).toNat)
 case atStart=>exact ⟨0,rfl,bi _,d8 _ _ _ _,ap _ _⟩
 case round =>
  obtain ⟨k,rfl,N,b,m⟩:=hrel;have H:k+1<=maxLen:=by unfold maxLen;omega
  have E:(k+1) * 8<=140737488355328:=by omega
  by_cases y:k<h.length
  ·obtain ⟨g,rfl,hg,B⟩:=S.out k y;have Y:=(m.cell (p:=⟨g,k,none⟩) hg).trans B;have M:Zdj ((h.take (k+1)).map Zbg)=Zdj ((h.take k).map Zbg)++[.int Z (Zbg h[k])]:=by
    rw [dq,ak y,Option.toList_some,cj];unfold Zdj;rw [cj];rfl
   have M:=ae M;clear B;generalize h[k]=x at *;have HX:IntKind.i64.wrap (x:Int)=Zbg x:=rfl;have t:j.heap.size<=(wr.alloc (O #[.int Z (Zbg x)] 3)).heap.size:=aj (ia m.size) (jb (by simp));go_wp2_with (at_builtin;refine wpList_append_own _ rfl _ _ 22 rfl j.heap.size 3 i0 (.int Z 0) 1 8 underlying22 hi C r z rfl (by decide) _ _ _ rfl (b.alloc _) ⟨wr.heap.size,0,none⟩ 1 1 [.int Z (Zbg x)] rfl rfl (cell_one_new _ _ _) (by intro u L;rw [List.mem_singleton.mp L];rfl) H E t ?_;intro T w2 a q _);have J:Bl j w2:=(m.alloc m.size _).grown q t (Zjd b);rw [<- M.out] at a;go_roundw
   case rel=>exact ⟨k+1,by go_num,by omega,a,J⟩
   case measure=>simp [intOf];omega
  ·obtain rfl:k=h.length:=by omega
   rw [df] at b;have t:j.heap.size<=(wr.alloc (O #[.int Z (bs.length:Int)] 3)).heap.size:=aj (ia m.size) (jb (by simp));go_wp2_with (at_builtin;refine wpList_append_own _ rfl _ _ 22 rfl j.heap.size 3 i0 (.int Z 0) 1 8 underlying22 hi C r z rfl (by decide) _ _ _ rfl (b.alloc _) ⟨wr.heap.size,0,none⟩ 1 1 [.int Z (bs.length:Int)] rfl rfl (cell_one_new _ _ _) (by intro u L;rw [List.mem_singleton.mp L];rfl) H E t ?_;intro T w2 a q _);have J:Bl j w2:=(m.alloc m.size _).grown q t (Zjd b);have HI:Zdj (h.map Zbg)++[Value.int Z (bs.length:Int)]=Zdj (h.map Zbg++[(bs.length:Int)]):=by unfold Zdj;rw [cj];rfl
   rw [HI] at a;refine (Znt s P T (h.map Zbg++[(bs.length:Int)]) w2 (Rep.of_own_plain a) (by rw [ai,ba];simp;omega)).mono ?_;rintro e w3 ⟨rfl,Q⟩;rw [HV.out];have R:=Zaa (Zaa l J l.size) Q (aj l.size J.size);go_wp2_with fail;go_ret;exact ⟨rfl,R⟩
theorem Zoy (v:Value) (bs:List Nat) (d:Zb6 bs) (hn:bs.length<=900000000) (salt:Nat) (hs:salt<18446744073709551616) (w:World) (hr:Rep w w.heap.size v (.s 1 (Zdv (bys bs)))) :
  Calls prog 105 #[v,.int V (salt:Int)] w fun e f=>e=G (.int V (Zbo bs salt:Int))/\Bl w f:=by
 have l:=ae (Zba hs);have h:=ae (Zba (Zlf Zdx bs));clear hs;have m:IntKind.i64.wrap (salt:Int)=Zbg salt:=rfl;have o:IntKind.i64.wrap (Ze3 Zdx bs:Int)=Zbg (Ze3 Zdx bs):=rfl;obtain ⟨A,c,rfl,hc,a⟩:=hr.row;have j:=ae hr;clear hr a;go_enter func105,ntmps105;go_wp2_with (go_at_call 144;refine (Zm6 Zdx (by decide) _ bs d hn w j.out).mono ?_;rintro e i ⟨rfl,b⟩);go_wp2_with (go_at_call 65;refine (Zdu Ygf (by decide) [Zbg salt,Zbg (Ze3 Zdx bs)] [salt,Ze3 Zdx bs] 2 _ i _ rfl rfl rfl (by unfold Zfn;rw [du,du,fq,l.out,h.out]) (fw rfl)).mono ?_;rintro e f ⟨rfl,k⟩);go_ret;exact ⟨rfl,b.trans (k.mono b.size)⟩
attribute [local go_sem ↓] Go.wp_at_zero Go.wp_at_succ
structure Hd where
 office:Int
 tick:Int
 day:Int
 size:Int
 log:Nat
 map:Nat
 sld:Int
 sign:Nat
def Hd.vals (h:Hd):Array Value:=#[iI h.office,iI h.tick,iI h.day,iI h.size,uI (h.log:Int),uI (h.map:Int),iI h.sld,uI (h.sign:Int)]
def Zk4 (key:Nat) (h:Hd):Nat:=Zw6 Ygi [key,u64 h.office,u64 h.tick,u64 h.day,u64 h.size,h.log,h.map,u64 h.sld]
theorem Ziv (key:Nat) (c:key<18446744073709551616) (o t d s:Int) (l m:Nat) (hl:l<18446744073709551616) (hm:m<18446744073709551616) (sl:Int) (a:Nat) (w:World) :
  Calls prog 116 #[.int V (key:Int),.agg #[iI o,iI t,iI d,iI s,uI (l:Int),uI (m:Int),iI sl,uI (a:Int)]] w fun e b=>e=G (.int V (Zk4 key ⟨o,t,d,s,l,m,sl,a⟩:Int))/\Bl w b:=by
 have j:=ae (Zba c);have f:=ae (Zba hl);have h:=ae (Zba hm);clear c hl hm;have k:IntKind.i64.wrap (key:Int)=Zbg key:=rfl;have p:IntKind.i64.wrap (l:Int)=Zbg l:=rfl;have q:IntKind.i64.wrap (m:Int)=Zbg m:=rfl;go_enter func116,ntmps116;go_wp2_with (go_at_call 23;refine (Zgt Ygi (by decide) [Zbg key,o,t,d,s,Zbg l,Zbg m,sl] [key,u64 o,u64 t,u64 d,u64 s,l,m,u64 sl] 8 _ (w.alloc (O #[iI o,iI t,iI d,iI s,uI (l:Int),uI (m:Int),iI sl,uI (a:Int)] 56)) _ (by simp) rfl rfl (by unfold Zfn;simp only [du,fq,j.out,f.out,h.out]) (fw rfl)).mono ?_;rintro e b ⟨rfl,i⟩);go_ret;exact ⟨rfl,Zaa (Zab _ _) i (by simp)⟩
end Go.Proofs.YtglkadmfjaecmaaGreatDoor
