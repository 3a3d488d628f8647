import Derived.Test.YtglkadmfjaecmaaGreatDoorD13
set_option maxRecDepth 100000
set_option maxHeartbeats 16000000
namespace Go.Proofs.YtglkadmfjaecmaaGreatDoor
open Go.RowKit Go.Shelf _root_.Go.Proofs.Tryz
open Go.Value renaming slice->I, int->Z
open Go.IntKind renaming i64->V
open Go.Obj renaming cells->U
attribute [local go_sem] Oper.semAt_some
variable {H:List Nat} {W w:World} {ts:List TypeId}
def TA:List TypeId:=[77,48]
theorem Yfv:∀ t∈TA,t∈TS:=by decide
theorem Zgf {u f:Value} {g:List Cl} {refs:List Int} {t:F} {a b c d:Value} (O:Zbv TS (List.range w.heap.size) W w.heap.size 129 5 u (g.flatMap Cl.cells)) (j:Zdf TS (u.ownBlock.toList++List.range w.heap.size) W f (.s 1 (Zdv (Zdj refs))))
  (h:Zb0 TS (u.ownBlock.toList++List.range w.heap.size) W [a,b,c,d] t.cells) (_:True):Zbv TS (List.range w.heap.size) (W.alloc (U #[f,a,b,c,d] 129)) w.heap.size 129 5 u (g.flatMap Cl.cells) /\
   Zb0 TS (u.ownBlock.toList++List.range w.heap.size) (W.alloc (U #[f,a,b,c,d] 129)) #[f,a,b,c,d].toList (Cl.cells ⟨refs,t⟩) :=
 ⟨O.step (ao W _ none) (fun _ e=>by cases e) (fun i hi=>.inl hi),Zb0.step (Zax.cons j h) (ao W _ none) (fun _ e=>by cases e) (fun i hi=>.inl hi)⟩
theorem Zph (k:Nat):Zd5 [] k:=fun j h=>by simp at h
theorem Zv1 {k:Nat} {r:Int} (a:0<=r) (h1:r<(k:Int)):Zd5 [r] k:=fun j h=>by
 have:j=0:=by simp at h;omega
 subst this;exact ⟨a,h1,fun h=>absurd h (Nat.lt_irrefl _)⟩
theorem Zv2 {k:Nat} (h:k=2):Zd5 [0,1] k:=fun j a=>by
 subst h;have:j=0∨j=1:=by simp at a;omega
 rcases this with rfl | rfl
 ·exact ⟨(by omega:(0:Int)<=0),(by omega:(0:Int)<((2:Nat):Int)),fun h=>absurd h (Nat.lt_irrefl _)⟩
 ·exact ⟨(by omega:(0:Int)<=1),(by omega:(1:Int)<((2:Nat):Int)),fun _=>(by omega:(0:Int)<1)⟩
theorem Zmg {a:List Cl} {k:Nat} {refs:List Int} {t:F} (d:a.length=k) (h:∀ i (h:i<a.length),Zd5 a[i].refs i/\Zkp a[i].body) (hr:Zd5 refs k) (c:Zkp t):∀ i (h:i<(a++[Cl.mk refs t]).length),Zd5 (a++[Cl.mk refs t])[i].refs i/\Zkp (a++[Cl.mk refs t])[i].body:=by
 intro i hi;by_cases b:i<a.length
 ·rw [List.getElem_append_left b];exact h i b
 ·have:i=k:=by simp at hi;omega
  subst this;rw [List.getElem_append_right (by omega)];simp only [d,ic,List.getElem_cons_zero];exact ⟨hr,c⟩
theorem Zfb {base g:Nat} {A:Option Addr} {n c:Nat} {day:Int} {fv:Value} (h:Mk w base g A n c day fv) :
  Calls prog 62 #[.pointer (some ⟨g,0,none⟩)] w fun e w'=>(∃ u cl,e=.returned u/\Zdf TA (List.range w.heap.size) w' u (.s 5 (cl.flatMap Cl.cells))/\Zq9 cl)/\w.grownBy w' (some g)/\Mk w' base g A n c day fv:=by
 have bo:=h.lt;have be:=h.base;have HM:=ae h;clear h;go_enter func62,ntmps62;go_wp2_with fail;refine (Zak HM.out 3 (by omega) (by omega)).mono ?_;rintro e w1 ⟨⟨r,rfl,bf,bc⟩,G1,M1⟩;obtain ⟨m,rfl⟩:∃ m:Nat,r=(m:Int):=⟨r.toNat,by omega⟩
 have hm:m<3:=by omega
 clear bf bc HM;go_wp2_with fail;have O1:Zbv TS (List.range w.heap.size) w1 w.heap.size 129 5 (I none 0 0) (([]:List Cl).flatMap Cl.cells):=Zbv.nil ..;go_loopw [3,5] (fun u j wr=>∃ (k:Nat) (cl:List Cl),j=Z V (k:Int)/\k<=m+1/\cl.length=k/\(∀ i (h:i<cl.length),Zd5 cl[i].refs i/\Zkp cl[i].body)/\Zbv TS (List.range w.heap.size) wr w.heap.size 129 5 u (cl.flatMap Cl.cells)/\w.grownBy wr (some g)/\Mk wr base g A n c day fv) (fun _ j _=>m+1 - (intOf j).toNat)
 case atStart=>exact ⟨0,[],rfl,bi _,rfl,fun i h=>by simp at h,O1,G1,M1⟩
 case round =>
  obtain ⟨k,cl,rfl,hk,v,a7,hO,hG,hM⟩:=hrel;have ab:=ae a7;clear O1 G1 M1 a7;by_cases bn:k<m+1
  ·have a5:=ae (Zey hM);have hs:=hM.lt;have HO:=ae hO;have a9:=hO.lt;go_wp2_with fail;refine a5.out.mono ?_;rintro e w2 ⟨⟨a,b,c',d,t,rfl,a1,ad⟩,g2,M2⟩;have l:=a1 (u3.ownBlock.toList++List.range w.heap.size) (fun i hi=>by
    have h1:=hG.size;rcases List.mem_append.1 hi with hi | hi
    ·exact (a9 _ (Option.mem_toList.1 hi)).2
    ·have:=List.mem_range.1 hi;omega)
   obtain ⟨N,J,K,E,C,P,rfl,rfl,rfl,rfl⟩:=Zaq l.out;have O:=HO.out.step g2 (fun i e _=>by injection e with e;subst e;exact ⟨.inl (hM.hidden (by decide)),fun S=>by have:=(a9 _ S).1;omega⟩) (fun i hi=>.inl hi);have G:=Zac hG g2 (fun _ e _=>e);have al:Hid True:=trivial;clear a1 HO a5 hG hO g2;generalize t.op=op at *;generalize t.n=L at *;have X:=Blk.new w2 129 #[I none 0 0,Z V op,Z V L,I N J K,I E C P];have g3:=ao w2 (U #[I none 0 0,Z V op,Z V L,I N J K,I E C P] 129) none;have M:=M2.step g3 (fun _ e=>by cases e);have a4:Hid (∀ i,u3.ownBlock=some i->i≠w2.heap.size):=fun i e=>by have:=(O.lt i e).2;omega
   have l:=l.step g3 (fun _ e=>by cases e) (fun i hi=>.inl hi);have O:=O.step g3 (fun _ e=>by cases e) (fun i hi=>.inl hi);have y:Zdf TS (u3.ownBlock.toList++List.range w.heap.size) (w2.alloc (U #[I none 0 0,Z V op,Z V L,I N J K,I E C P] 129)) (I none 0 0) (.s 1 (Zdv (Zdj []))):=Rep.nil 1;have bg:=G.size;have bh:=M2.lt;have G:=Zac G g3 (fun _ e=>by cases e);clear M2 g3;go_upto_region 7 with fail;generalize w2.alloc _=w3 at *;generalize w2.heap.size=cb at *;have am:=X.lt;by_cases bp:k=0
   ·have e0:decide (0<(k:Int))=false:=by simp;omega
    have S:((k:Int) == 2)=false:=by simp;omega
    go_upto_region 11 with fail;obtain ⟨Q,N8⟩:=Zgf O y l al.out;have Y8:=Blk.new w3 129 #[I none 0 0,Z V op,Z V L,I N J K,I E C P];have T:=Zac G (ao w3 (U #[I none 0 0,Z V op,Z V L,I N J K,I E C P] 129) none) (fun _ e=>by cases e);have M8:=M.step (ao w3 (U #[I none 0 0,Z V op,Z V L,I N J K,I E C P] 129) none) (fun _ e=>by cases e);have f:=Q.lt;have an:=X.c5;have z:=ae (Zph k);clear O y l G M X;go_wp2_with (at_builtin;refine Zbt underlying40 info129 rfl (by omega) (by omega) Q Y8 rfl (by kernel_rfl) N8 (by rw [Zai (fun x _=>x.cells_length)];omega) (by omega) (aj T.size (ag _)) rfl _ _ rfl rfl rfl ?_;intro v9 w9 o9 Y l9);have G9:=Zac T Y (fun q e hq=>by have:=(f q e).1;omega);have M9:=M8.step Y (fun q e=>by have:=(f q e).1;omega);go_roundw
    case rel=>exact ⟨k+1,cl++[⟨[],t⟩],by go_num,by omega,by simp [v],Zmg v ab.out z.out ad,by rw [bm,de,er,bv];exact o9,G9,M9⟩
    case measure=>simp [intOf];omega
   ·have e0:decide (0<(k:Int))=true:=by simp;omega
    go_wp2_with fail;refine (Zak M 2 (by omega) (by omega)).mono ?_;rintro e w4 ⟨⟨r2,rfl,bk,bl⟩,B,Mn⟩;have X:=X.grown B (fun e=>by injection e with e;omega);have l:=l.step B (fun i e _=>.inl (by injection e with e;subst e;exact M.hidden (by decide))) (fun i hi=>.inl hi);have y:=y.step B (fun i e _=>.inl (by injection e with e;subst e;exact M.hidden (by decide))) (fun i hi=>.inl hi);have O:=O.step B (fun i e _=>by injection e with e;subst e;exact ⟨.inl (M.hidden (by decide)),fun S=>by have:=(O.lt _ S).1;omega⟩) (fun i hi=>.inl hi);have G:=Zac G B (fun _ e _=>e);have M:=Mn;have am:=X.lt;clear B Mn;by_cases h2:r2=0
    ·subst h2;go_wp2_with fail;refine (Zak M (k:Int) (by omega) (by omega)).mono ?_;rintro e w5 ⟨⟨r3,rfl,a0,a2⟩,B,Mn⟩;have X:=X.grown B (fun e=>by injection e with e;omega);have l:=l.step B (fun i e _=>.inl (by injection e with e;subst e;exact M.hidden (by decide))) (fun i hi=>.inl hi);have y:=y.step B (fun i e _=>.inl (by injection e with e;subst e;exact M.hidden (by decide))) (fun i hi=>.inl hi);have O:=O.step B (fun i e _=>by injection e with e;subst e;exact ⟨.inl (M.hidden (by decide)),fun S=>by have:=(O.lt _ S).1;omega⟩) (fun i hi=>.inl hi);have G:=Zac G B (fun _ e _=>e);have M:=Mn;have am:=X.lt;clear B Mn;have aq:=(X.alloc (U #[Z V r3] 3)).c5;have av:(w5.alloc (U #[Z V r3] 3)).frozen? ⟨cb,0,none⟩=false:=(X.alloc (U #[Z V r3] 3)).frozen 0;have HX:=ae X;have aa:=ae l;have HO:=ae O;have HG:=ae G;have HM:=ae M;clear X l O G M y;go_upto_region 9 with fail;have gs:=Zaj w5 cb 0 (I (some ⟨w5.heap.size,0,none⟩) 1 1);have ga:=ao (w5.setCell ⟨cb,0,none⟩ (I (some ⟨w5.heap.size,0,none⟩) 1 1)) (U #[Z V r3] 3) none;have X:=(HX.out.set 0 (I (some ⟨w5.heap.size,0,none⟩) 1 1)).alloc (U #[Z V r3] 3);simp only [pB,pZ] at X;have l:=(aa.out.step gs (fun i e _=>.inl (by injection e with e;subst e;exact HX.out.hidden (by decide))) (fun i hi=>.inl hi)).step ga (fun _ e=>by cases e) (fun i hi=>.inl hi);have O:=(HO.out.step gs (fun i e _=>by injection e with e;subst e;exact ⟨.inl (HX.out.hidden (by decide)),fun S=>a4.out _ S rfl⟩) (fun i hi=>.inl hi)).step ga (fun _ e=>by cases e) (fun i hi=>.inl hi);have G:=Zac (Zac HG.out gs (fun i e hi=>by injection e with e;omega)) ga (fun _ e=>by cases e);have M:=(HM.out.step gs (fun i e=>by injection e with e;omega)).step ga (fun _ e=>by cases e);have y:Zdf TS (u3.ownBlock.toList++List.range w.heap.size) ((w5.setCell ⟨cb,0,none⟩ (I (some ⟨w5.heap.size,0,none⟩) 1 1)).alloc (U #[Z V r3] 3)) (I (some ⟨w5.heap.size,0,none⟩) 1 1) (.s 1 (Zdv (Zdj [r3]))):=Zdf.of_blk (Blk.newAt (by simp [World.setCell])) (by decide) (fun hi=>by
      have h1:=HG.out.size;rcases List.mem_append.1 hi with hi | hi
      ·have:=(HO.out.lt _ (Option.mem_toList.1 hi)).2;omega
      ·have:=List.mem_range.1 hi;omega) rfl (Zax.of_plain _ _ (Zdj [r3]))
     clear HX aq av aa HO HG HM gs ga;generalize (w5.setCell ⟨cb,0,none⟩ (I (some ⟨w5.heap.size,0,none⟩) 1 1)).alloc (U #[Z V r3] 3)=w6 at *;generalize w5.heap.size=R at *;by_cases a3:k=2
     ·have S:((k:Int) == 2)=true:=by simp;omega
      go_wp2_with fail;refine (Zak M 4 (by omega) (by omega)).mono ?_;rintro e p ⟨⟨r4,rfl,a6,a8⟩,B,Mn⟩;have X:=X.grown B (fun e=>by injection e with e;omega);have l:=l.step B (fun i e _=>.inl (by injection e with e;subst e;exact M.hidden (by decide))) (fun i hi=>.inl hi);have y:=y.step B (fun i e _=>.inl (by injection e with e;subst e;exact M.hidden (by decide))) (fun i hi=>.inl hi);have O:=O.step B (fun i e _=>by injection e with e;subst e;exact ⟨.inl (M.hidden (by decide)),fun S=>by have:=(O.lt _ S).1;omega⟩) (fun i hi=>.inl hi);have G:=Zac G B (fun _ e _=>e);have M:=Mn;have am:=X.lt;clear B Mn;by_cases h4:r4=0
      ·subst h4;go_upto_region 10 with fail;have aq:=(X.alloc (U #[Z V 0,Z V 1] 3)).c5;have av:(p.alloc (U #[Z V 0,Z V 1] 3)).frozen? ⟨cb,0,none⟩=false:=(X.alloc (U #[Z V 0,Z V 1] 3)).frozen 0;have HX:=ae X;have aa:=ae l;have HO:=ae O;have HG:=ae G;have HM:=ae M;clear X l O G M y;go_upto_region 11 with fail;have gs:=Zaj p cb 0 (I (some ⟨p.heap.size,0,none⟩) 2 2);have ga:=ao (p.setCell ⟨cb,0,none⟩ (I (some ⟨p.heap.size,0,none⟩) 2 2)) (U #[Z V 0,Z V 1] 3) none;have X:=(HX.out.set 0 (I (some ⟨p.heap.size,0,none⟩) 2 2)).alloc (U #[Z V 0,Z V 1] 3);simp only [pB,pZ] at X;have l:=(aa.out.step gs (fun i e _=>.inl (by injection e with e;subst e;exact HX.out.hidden (by decide))) (fun i hi=>.inl hi)).step ga (fun _ e=>by cases e) (fun i hi=>.inl hi);have O:=(HO.out.step gs (fun i e _=>by injection e with e;subst e;exact ⟨.inl (HX.out.hidden (by decide)),fun S=>a4.out _ S rfl⟩) (fun i hi=>.inl hi)).step ga (fun _ e=>by cases e) (fun i hi=>.inl hi);have G:=Zac (Zac HG.out gs (fun i e hi=>by injection e with e;omega)) ga (fun _ e=>by cases e);have M:=(HM.out.step gs (fun i e=>by injection e with e;omega)).step ga (fun _ e=>by cases e);have y:Zdf TS (u3.ownBlock.toList++List.range w.heap.size) ((p.setCell ⟨cb,0,none⟩ (I (some ⟨p.heap.size,0,none⟩) 2 2)).alloc (U #[Z V 0,Z V 1] 3)) (I (some ⟨p.heap.size,0,none⟩) 2 2) (.s 1 (Zdv (Zdj [0,1]))):=Zdf.of_blk (Blk.newAt (by simp [World.setCell])) (by decide) (fun hi=>by
        have h1:=HG.out.size;rcases List.mem_append.1 hi with hi | hi
        ·have:=(HO.out.lt _ (Option.mem_toList.1 hi)).2;omega
        ·have:=List.mem_range.1 hi;omega) rfl (Zax.of_plain _ _ (Zdj [0,1]))
       clear HX aq av aa HO HG HM gs ga;generalize (p.setCell ⟨cb,0,none⟩ (I (some ⟨p.heap.size,0,none⟩) 2 2)).alloc (U #[Z V 0,Z V 1] 3)=af at *;generalize p.heap.size=o at *;obtain ⟨Q,N8⟩:=Zgf O y l al.out;have Y8:=Blk.new af 129 #[I (some ⟨o,0,none⟩) 2 2,Z V op,Z V L,I N J K,I E C P];have T:=Zac G (ao af (U #[I (some ⟨o,0,none⟩) 2 2,Z V op,Z V L,I N J K,I E C P] 129) none) (fun _ e=>by cases e);have M8:=M.step (ao af (U #[I (some ⟨o,0,none⟩) 2 2,Z V op,Z V L,I N J K,I E C P] 129) none) (fun _ e=>by cases e);have f:=Q.lt;have an:=X.c5;have z:=ae (Zv2 a3);clear O y l G M X;go_wp2_with (at_builtin;refine Zbt underlying40 info129 rfl (by omega) (by omega) Q Y8 rfl (by kernel_rfl) N8 (by rw [Zai (fun x _=>x.cells_length)];omega) (by omega) (aj T.size (ag _)) rfl _ _ rfl rfl rfl ?_;intro v9 w9 o9 Y l9);have G9:=Zac T Y (fun q e hq=>by have:=(f q e).1;omega);have M9:=M8.step Y (fun q e=>by have:=(f q e).1;omega);go_roundw
       case rel=>exact ⟨k+1,cl++[⟨[0,1],t⟩],by go_num,by omega,by simp [v],Zmg v ab.out z.out ad,by rw [bm,de,er,bv];exact o9,G9,M9⟩
       case measure=>simp [intOf];omega
      ·have e4:(r4 == 0)=false:=by simpa using h4
       go_upto_region 11 with fail;obtain ⟨Q,N8⟩:=Zgf O y l al.out;have Y8:=Blk.new p 129 #[I (some ⟨R,0,none⟩) 1 1,Z V op,Z V L,I N J K,I E C P];have T:=Zac G (ao p (U #[I (some ⟨R,0,none⟩) 1 1,Z V op,Z V L,I N J K,I E C P] 129) none) (fun _ e=>by cases e);have M8:=M.step (ao p (U #[I (some ⟨R,0,none⟩) 1 1,Z V op,Z V L,I N J K,I E C P] 129) none) (fun _ e=>by cases e);have f:=Q.lt;have an:=X.c5;have z:=ae (Zv1 a0 a2);clear O y l G M X;go_wp2_with (at_builtin;refine Zbt underlying40 info129 rfl (by omega) (by omega) Q Y8 rfl (by kernel_rfl) N8 (by rw [Zai (fun x _=>x.cells_length)];omega) (by omega) (aj T.size (ag _)) rfl _ _ rfl rfl rfl ?_;intro v9 w9 o9 Y l9);have G9:=Zac T Y (fun q e hq=>by have:=(f q e).1;omega);have M9:=M8.step Y (fun q e=>by have:=(f q e).1;omega);go_roundw
       case rel=>exact ⟨k+1,cl++[⟨[r3],t⟩],by go_num,by omega,by simp [v],Zmg v ab.out z.out ad,by rw [bm,de,er,bv];exact o9,G9,M9⟩
       case measure=>simp [intOf];omega
     ·have S:((k:Int) == 2)=false:=by simp;omega
      go_upto_region 11 with fail;obtain ⟨Q,N8⟩:=Zgf O y l al.out;have Y8:=Blk.new w6 129 #[I (some ⟨R,0,none⟩) 1 1,Z V op,Z V L,I N J K,I E C P];have T:=Zac G (ao w6 (U #[I (some ⟨R,0,none⟩) 1 1,Z V op,Z V L,I N J K,I E C P] 129) none) (fun _ e=>by cases e);have M8:=M.step (ao w6 (U #[I (some ⟨R,0,none⟩) 1 1,Z V op,Z V L,I N J K,I E C P] 129) none) (fun _ e=>by cases e);have f:=Q.lt;have an:=X.c5;have z:=ae (Zv1 a0 a2);clear O y l G M X;go_wp2_with (at_builtin;refine Zbt underlying40 info129 rfl (by omega) (by omega) Q Y8 rfl (by kernel_rfl) N8 (by rw [Zai (fun x _=>x.cells_length)];omega) (by omega) (aj T.size (ag _)) rfl _ _ rfl rfl rfl ?_;intro v9 w9 o9 Y l9);have G9:=Zac T Y (fun q e hq=>by have:=(f q e).1;omega);have M9:=M8.step Y (fun q e=>by have:=(f q e).1;omega);go_roundw
      case rel=>exact ⟨k+1,cl++[⟨[r3],t⟩],by go_num,by omega,by simp [v],Zmg v ab.out z.out ad,by rw [bm,de,er,bv];exact o9,G9,M9⟩
      case measure=>simp [intOf];omega
    ·have e3:(r2 == 0)=false:=by simpa using h2
     go_upto_region 9 with fail;by_cases a3:k=2
     ·have S:((k:Int) == 2)=true:=by simp;omega
      go_wp2_with fail;refine (Zak M 4 (by omega) (by omega)).mono ?_;rintro e p ⟨⟨r4,rfl,a6,a8⟩,B,Mn⟩;have X:=X.grown B (fun e=>by injection e with e;omega);have l:=l.step B (fun i e _=>.inl (by injection e with e;subst e;exact M.hidden (by decide))) (fun i hi=>.inl hi);have y:=y.step B (fun i e _=>.inl (by injection e with e;subst e;exact M.hidden (by decide))) (fun i hi=>.inl hi);have O:=O.step B (fun i e _=>by injection e with e;subst e;exact ⟨.inl (M.hidden (by decide)),fun S=>by have:=(O.lt _ S).1;omega⟩) (fun i hi=>.inl hi);have G:=Zac G B (fun _ e _=>e);have M:=Mn;have am:=X.lt;clear B Mn;by_cases h4:r4=0
      ·subst h4;go_upto_region 10 with fail;have aq:=(X.alloc (U #[Z V 0,Z V 1] 3)).c5;have av:(p.alloc (U #[Z V 0,Z V 1] 3)).frozen? ⟨cb,0,none⟩=false:=(X.alloc (U #[Z V 0,Z V 1] 3)).frozen 0;have HX:=ae X;have aa:=ae l;have HO:=ae O;have HG:=ae G;have HM:=ae M;clear X l O G M y;go_upto_region 11 with fail;have gs:=Zaj p cb 0 (I (some ⟨p.heap.size,0,none⟩) 2 2);have ga:=ao (p.setCell ⟨cb,0,none⟩ (I (some ⟨p.heap.size,0,none⟩) 2 2)) (U #[Z V 0,Z V 1] 3) none;have X:=(HX.out.set 0 (I (some ⟨p.heap.size,0,none⟩) 2 2)).alloc (U #[Z V 0,Z V 1] 3);simp only [pB,pZ] at X;have l:=(aa.out.step gs (fun i e _=>.inl (by injection e with e;subst e;exact HX.out.hidden (by decide))) (fun i hi=>.inl hi)).step ga (fun _ e=>by cases e) (fun i hi=>.inl hi);have O:=(HO.out.step gs (fun i e _=>by injection e with e;subst e;exact ⟨.inl (HX.out.hidden (by decide)),fun S=>a4.out _ S rfl⟩) (fun i hi=>.inl hi)).step ga (fun _ e=>by cases e) (fun i hi=>.inl hi);have G:=Zac (Zac HG.out gs (fun i e hi=>by injection e with e;omega)) ga (fun _ e=>by cases e);have M:=(HM.out.step gs (fun i e=>by injection e with e;omega)).step ga (fun _ e=>by cases e);have y:Zdf TS (u3.ownBlock.toList++List.range w.heap.size) ((p.setCell ⟨cb,0,none⟩ (I (some ⟨p.heap.size,0,none⟩) 2 2)).alloc (U #[Z V 0,Z V 1] 3)) (I (some ⟨p.heap.size,0,none⟩) 2 2) (.s 1 (Zdv (Zdj [0,1]))):=Zdf.of_blk (Blk.newAt (by simp [World.setCell])) (by decide) (fun hi=>by
        have h1:=HG.out.size;rcases List.mem_append.1 hi with hi | hi
        ·have:=(HO.out.lt _ (Option.mem_toList.1 hi)).2;omega
        ·have:=List.mem_range.1 hi;omega) rfl (Zax.of_plain _ _ (Zdj [0,1]))
       clear HX aq av aa HO HG HM gs ga;generalize (p.setCell ⟨cb,0,none⟩ (I (some ⟨p.heap.size,0,none⟩) 2 2)).alloc (U #[Z V 0,Z V 1] 3)=af at *;generalize p.heap.size=o at *;obtain ⟨Q,N8⟩:=Zgf O y l al.out;have Y8:=Blk.new af 129 #[I (some ⟨o,0,none⟩) 2 2,Z V op,Z V L,I N J K,I E C P];have T:=Zac G (ao af (U #[I (some ⟨o,0,none⟩) 2 2,Z V op,Z V L,I N J K,I E C P] 129) none) (fun _ e=>by cases e);have M8:=M.step (ao af (U #[I (some ⟨o,0,none⟩) 2 2,Z V op,Z V L,I N J K,I E C P] 129) none) (fun _ e=>by cases e);have f:=Q.lt;have an:=X.c5;have z:=ae (Zv2 a3);clear O y l G M X;go_wp2_with (at_builtin;refine Zbt underlying40 info129 rfl (by omega) (by omega) Q Y8 rfl (by kernel_rfl) N8 (by rw [Zai (fun x _=>x.cells_length)];omega) (by omega) (aj T.size (ag _)) rfl _ _ rfl rfl rfl ?_;intro v9 w9 o9 Y l9);have G9:=Zac T Y (fun q e hq=>by have:=(f q e).1;omega);have M9:=M8.step Y (fun q e=>by have:=(f q e).1;omega);go_roundw
       case rel=>exact ⟨k+1,cl++[⟨[0,1],t⟩],by go_num,by omega,by simp [v],Zmg v ab.out z.out ad,by rw [bm,de,er,bv];exact o9,G9,M9⟩
       case measure=>simp [intOf];omega
      ·have e4:(r4 == 0)=false:=by simpa using h4
       go_upto_region 11 with fail;obtain ⟨Q,N8⟩:=Zgf O y l al.out;have Y8:=Blk.new p 129 #[I none 0 0,Z V op,Z V L,I N J K,I E C P];have T:=Zac G (ao p (U #[I none 0 0,Z V op,Z V L,I N J K,I E C P] 129) none) (fun _ e=>by cases e);have M8:=M.step (ao p (U #[I none 0 0,Z V op,Z V L,I N J K,I E C P] 129) none) (fun _ e=>by cases e);have f:=Q.lt;have an:=X.c5;have z:=ae (Zph k);clear O y l G M X;go_wp2_with (at_builtin;refine Zbt underlying40 info129 rfl (by omega) (by omega) Q Y8 rfl (by kernel_rfl) N8 (by rw [Zai (fun x _=>x.cells_length)];omega) (by omega) (aj T.size (ag _)) rfl _ _ rfl rfl rfl ?_;intro v9 w9 o9 Y l9);have G9:=Zac T Y (fun q e hq=>by have:=(f q e).1;omega);have M9:=M8.step Y (fun q e=>by have:=(f q e).1;omega);go_roundw
       case rel=>exact ⟨k+1,cl++[⟨[],t⟩],by go_num,by omega,by simp [v],Zmg v ab.out z.out ad,by rw [bm,de,er,bv];exact o9,G9,M9⟩
       case measure=>simp [intOf];omega
     ·have S:((k:Int) == 2)=false:=by simp;omega
      go_upto_region 11 with fail;obtain ⟨Q,N8⟩:=Zgf O y l al.out;have Y8:=Blk.new w4 129 #[I none 0 0,Z V op,Z V L,I N J K,I E C P];have T:=Zac G (ao w4 (U #[I none 0 0,Z V op,Z V L,I N J K,I E C P] 129) none) (fun _ e=>by cases e);have M8:=M.step (ao w4 (U #[I none 0 0,Z V op,Z V L,I N J K,I E C P] 129) none) (fun _ e=>by cases e);have f:=Q.lt;have an:=X.c5;have z:=ae (Zph k);clear O y l G M X;go_wp2_with (at_builtin;refine Zbt underlying40 info129 rfl (by omega) (by omega) Q Y8 rfl (by kernel_rfl) N8 (by rw [Zai (fun x _=>x.cells_length)];omega) (by omega) (aj T.size (ag _)) rfl _ _ rfl rfl rfl ?_;intro v9 w9 o9 Y l9);have G9:=Zac T Y (fun q e hq=>by have:=(f q e).1;omega);have M9:=M8.step Y (fun q e=>by have:=(f q e).1;omega);go_roundw
      case rel=>exact ⟨k+1,cl++[⟨[],t⟩],by go_num,by omega,by simp [v],Zmg v ab.out z.out ad,by rw [bm,de,er,bv];exact o9,G9,M9⟩
      case measure=>simp [intOf];omega
  ·obtain rfl:k=m+1:=by omega
   have HO:=ae hO;go_wp2_with fail;go_ret;exact ⟨⟨u3,cl,rfl,HO.out.rep Yfv (by decide) (fun i hi=>List.mem_range.1 hi),⟨by omega,ab.out⟩⟩,hG,hM⟩
def Fil.cells (f:Fil):List D :=
 [.v (Z V 0),.v (Z V f.day),.v (Z V f.known),.v (Z V f.file),.v (Z V f.office),.v (Z V f.party),.v (Z V f.other),.v (Z V 0),.v (Z V 0),.v (Z V 0),.v (Z V 0),
  .s 4 (f.d.flatMap F.cells),.s 5 (f.c.flatMap Cl.cells),.v (I none 0 0),.s 2 (prD f.e),.v (Z V 0),.v (Z V 0),.v (I none 0 0),.v (I none 0 0)]
theorem Fil.cells_length (f:Fil):f.cells.length=19:=rfl
def Zg3 (ts:List TypeId) (H:List Nat) (W:World) (f:Fil) (dv cv ev:Value):Prop:=Zdf ts H W dv (.s 4 (f.d.flatMap F.cells))/\Zdf ts H W cv (.s 5 (f.c.flatMap Cl.cells))/\Zdf ts H W ev (.s 2 (prD f.e))
theorem Zg3.row {f:Fil} {dv cv ev:Value} (h:Zg3 ts H W f dv cv ev):Zb0 ts H W (f.vals dv cv ev).toList f.cells :=
 Zax.cons (.v _) (Zax.cons (.v _) (Zax.cons (.v _) (Zax.cons (.v _) (Zax.cons (.v _) (Zax.cons (.v _) (Zax.cons (.v _) (Zax.cons (.v _) (Zax.cons (.v _) (Zax.cons (.v _) (Zax.cons (.v _)
  (Zax.cons h.1 (Zax.cons h.2.1 (Zax.cons (.v _) (Zax.cons h.2.2 (Zax.cons (.v _) (Zax.cons (.v _) (Zax.cons (.v _) (Zax.cons (.v _) (Zax.nil _ _)))))))))))))))))))
theorem Zg3.inv {B:Nat} {vs:List Value} {f:Fil} (h:Zax W B vs f.cells):∃ dv cv ev,vs=(f.vals dv cv ev).toList/\Rep W B dv (.s 4 (f.d.flatMap F.cells))/\Rep W B cv (.s 5 (f.c.flatMap Cl.cells))/\Rep W B ev (.s 2 (prD f.e)):=by
 unfold Fil.cells at h;obtain ⟨u0,v0,rfl,h0,h⟩:=h.inv;obtain ⟨u1,v1,rfl,h1,h⟩:=h.inv;obtain ⟨u2,v2,rfl,t,h⟩:=h.inv;obtain ⟨u3,v3,rfl,z,h⟩:=h.inv;obtain ⟨u4,v4,rfl,S,h⟩:=h.inv;obtain ⟨u5,v5,rfl,v,h⟩:=h.inv;obtain ⟨u6,v6,rfl,P,h⟩:=h.inv;obtain ⟨u7,v7,rfl,u,h⟩:=h.inv;obtain ⟨u8,v8,rfl,M,h⟩:=h.inv;obtain ⟨u9,v9,rfl,x,h⟩:=h.inv;obtain ⟨T,Y,rfl,r,h⟩:=h.inv;obtain ⟨p,Q,rfl,l,h⟩:=h.inv;obtain ⟨a,y,rfl,b,h⟩:=h.inv;obtain ⟨L,A,rfl,g,h⟩:=h.inv;obtain ⟨k,C,rfl,m,h⟩:=h.inv;obtain ⟨E,K,rfl,q,h⟩:=h.inv;obtain ⟨R,J,rfl,j,h⟩:=h.inv;obtain ⟨N,X,rfl,i,h⟩:=h.inv;obtain ⟨O,G,rfl,o,h⟩:=h.inv;obtain rfl:=h.inv_nil;rw [h0.plain,h1.plain,t.plain,z.plain,S.plain,v.plain,P.plain,u.plain,M.plain,x.plain,r.plain,g.plain,q.plain,j.plain,i.plain,o.plain];exact ⟨p,a,k,rfl,l,b,m⟩
theorem Yij {base:Nat} {v:Value} {l:List Fil} (h:Zbv ts H W base 48 19 v (l.flatMap Fil.cells)) (k:Nat) (G:k<l.length) :
  ∃ b c dv cv ev,v=I (some ⟨b,0,none⟩) l.length c/\l.length<=c/\v.ownBlock=some b/\W.rangeAt b (k * 19) (l[k].vals dv cv ev).toList/\Zg3 ts (v.ownBlock.toList++H) W l[k] dv cv ev:=by
 obtain ⟨n,L,h1,p⟩:=h;have z:=Zai (l:=l) (f:=Fil.cells) (k:=19) (fun x _=>x.cells_length);have y:=p.1;have E:=h1.1;obtain rfl:n=l.length:=by omega
 have t:=Zcd (l:=l) (f:=Fil.cells) (k:=19) (i:=k) (a:=l[k]) (fun x _=>x.cells_length) (ak G);have m:=(Zax.drop p (k * 19)).take 19;rw [t] at m;obtain ⟨dv,cv,ev,e,C,J,B⟩:=Zg3.inv m;rcases h1.2 with ⟨_,hn⟩ | ⟨g,cap,A,rfl,N,M,o,s,r,K⟩
 ·omega
 ·refine ⟨g,cap,dv,cv,ev,rfl,o,rfl,fun j u d=>?_,C,J,B⟩;rw [<- e,gi] at d;by_cases q:j<19
  ·rw [if_pos q,fz] at d;rw [h1.cellAt (k * 19+j) (by omega)];exact d
  ·rw [if_neg q] at d;cases d
def Yik (d:List F) (c:List Cl):Prop:=(1<=d.length/\d.length<=2)/\(∀ f∈d,Zkp f)/\Zq9 c
def Zv3 (i:Nat) (f:Fil):Prop:=f.file=5 * (i:Int)/\(0<=f.office/\f.office<=1)/\(1<=f.party/\f.party<=2)/\(f.other=-1∨∃ j:Nat,j<i/\f.other=5 * (j:Int))/\Yik f.d f.c/\f.e.length<=2 /\
 (∀ p∈f.e,(∃ j:Nat,j<i/\p.1=5 * (j:Int))/\0<=p.2/\p.2<=100001)/\(f.e.map Prod.fst).Nodup
def Yi4 (l:List Fil):Prop:=l.length<=14/\∀ i (h:i<l.length),Zv3 i l[i]/\0<=l[i].day/\l[i].day<=100000/\0<=l[i].known/\l[i].known<=100
end Go.Proofs.YtglkadmfjaecmaaGreatDoor
