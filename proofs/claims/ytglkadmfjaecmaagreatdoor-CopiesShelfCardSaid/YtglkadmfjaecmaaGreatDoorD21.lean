import Derived.Test.YtglkadmfjaecmaaGreatDoorD20
set_option maxRecDepth 100000
set_option maxHeartbeats 16000000
namespace Go.Proofs.YtglkadmfjaecmaaGreatDoor
open Go.RowKit Go.Shelf _root_.Go.Proofs.Tryz
open Go.Value renaming pointer->I, slice->X
open Go.IntKind renaming i64->Z
open Go.Obj renaming cells->G
open Go.Ending renaming returned->O
attribute [local go_sem] Oper.semAt_some
variable {A:Option Addr} {C V:Array Value} {Q:Exit->Act->World->Prop} {T:TypeId} {bytes m mb nn q:Nat} {cs xs:List Value} {d1 d2 i k1 k2:Int} {o:Oper} {w:World} {z:Value}
theorem Zr6:Zch.all (·.oneCell')=true:=by simp [Zch,Value.oneCell']
theorem Zda {W:World} {D:DataW Value} (h:w.ownsMap prog 3 Zgr mb nn D) (d:Bl w W):W.ownsMap prog 3 Zgr mb nn D:=by
 have b:=h.lt;obtain ⟨es,a,c,e,hs,f⟩:=h;exact ⟨es,a,(d.block mb b).trans c,e,hs,f⟩
theorem Zg8 {D:DataW Value} (h:w.ownsMap prog 3 Zgr mb nn D) {g:Nat} {t:TypeId} {cs:Array Value} (b:Blk w g t cs):g≠mb:=by
 rintro rfl;obtain ⟨es,a,h1,_⟩:=h;rw [show w.heap[g]?=_ from b] at h1;cases h1
theorem Zwj {h:Hd} {s:Nat} {c:Nat} {ps:List Nat} {a:Option Fil} (H:CyS w C V h i s A c ps a) (hG:w.cell? ⟨0,0,none⟩=some (.int Z 655)) (h0:0<w.heap.size) (M:List Nat) (a0:Zbw M) (ck:Nat) (Ak:Option Addr) (ad:Zgq w Ak M) (sp mb:Nat) (hS:Blk w sp 74 #[X Ak M.length ck,.map (some mb)]) (nn:Nat) (L:List FV) (hn:Zc9 L) (B:w.ownsMap prog 3 Zgr mb nn (Zdm L)) (x y:FV) (a2:V=x.vals) (ab:Zby x.f) (aq:x.At w) (hy:y∈L) (t:Zby y.f) (r:y.At w) (hf:y.f.file=x.f.file) (he:tkE M h s i ps a=0) :
  Calls prog 12 #[I (some ⟨sp,0,none⟩),.agg C] w fun e N=>e=O (.tuple #[.bool false,.int Z (if Zf3 y.f x.f=0 then 0 else 22)])/\Bl w N:=by
 subst a2;obtain ⟨R,hR⟩:∃ R:Int,R=if Zf3 y.f x.f=0 then 0 else 22:=⟨_,rfl⟩
 rw [<- hR];have HR:=ae hR;clear hR;have al:=ae (fun (W:World) (g:Bl w W)=>Zn6 hn hy t (Zda B g));rw [hf] at al;have af:=ae (fun (W:World) (g:Bl w W)=>Zo6 y x W t ab w.heap.size g.size (Zbs.keep r (fun p hp=>g.cell hp) (ag _)) (Zbs.keep aq (fun p hp=>g.cell hp) (ag _)) ((g.cell (p:=⟨0,0,none⟩) h0).trans hG) (ah h0 g.size));have an:=H.cop.act 3 (.int Z x.f.file) rfl;have am:=FV.one r;have E:=FV.size y;clear B hy t ab r aq hf hn;have SB:=(Blk.new w 29 #[I (some ⟨sp,0,none⟩)]).alloc (G C 58);have K0:=Blk.new (w.alloc (G #[I (some ⟨sp,0,none⟩)] 29)) 58 C;rw [ax] at K0;have P2:=(Zab w (G #[I (some ⟨sp,0,none⟩)] 29)).alloc (by simp) (G C 58);have Y:=ae (fun (W:World) (fb:Nat) (g:Bl w W) (hb:Blk W (w.heap.size+1) 58 C) (a1:Blk W w.heap.size 29 #[I (some ⟨sp,0,none⟩)]) hF=>Zia (H.keep g) ((g.cell (p:=⟨0,0,none⟩) h0).trans hG) (ah h0 g.size) M a0 ck Ak (.map (some mb)) (ad.keep g) (w.heap.size+1) w.heap.size sp fb hb a1 (hS.keep g) hF);have HS:=ae hS;have aa:=ae H.cop;clear ad hS H;generalize hTT:tkE M h s i ps a=T at *;clear hTT;go_enter func12,ntmps12;go_upto_region 1 with fail;generalize (w.alloc (G #[I (some ⟨sp,0,none⟩)] 29)).alloc (G C 58)=w2 at *;go_wp2_with fail;have hF:=Blk.new w2 88 #[.func (.func 37) #[] #[I (some ⟨w.heap.size+1,0,none⟩)],.func (.func 35) #[] #[I (some ⟨w.heap.size+1,0,none⟩),I (some ⟨w.heap.size,0,none⟩)],.func (.func 39) #[] #[I (some ⟨w.heap.size,0,none⟩),I (some ⟨w.heap.size+1,0,none⟩)]];have PF:=P2.alloc P2.size (G #[.func (.func 37) #[] #[I (some ⟨w.heap.size+1,0,none⟩)],.func (.func 35) #[] #[I (some ⟨w.heap.size+1,0,none⟩),I (some ⟨w.heap.size,0,none⟩)],.func (.func 39) #[] #[I (some ⟨w.heap.size,0,none⟩),I (some ⟨w.heap.size+1,0,none⟩)]] 88);have KF:=K0.alloc (G #[.func (.func 37) #[] #[I (some ⟨w.heap.size+1,0,none⟩)],.func (.func 35) #[] #[I (some ⟨w.heap.size+1,0,none⟩),I (some ⟨w.heap.size,0,none⟩)],.func (.func 39) #[] #[I (some ⟨w.heap.size,0,none⟩),I (some ⟨w.heap.size+1,0,none⟩)]] 88);have SF:=SB.alloc (G #[.func (.func 37) #[] #[I (some ⟨w.heap.size+1,0,none⟩)],.func (.func 35) #[] #[I (some ⟨w.heap.size+1,0,none⟩),I (some ⟨w.heap.size,0,none⟩)],.func (.func 39) #[] #[I (some ⟨w.heap.size,0,none⟩),I (some ⟨w.heap.size+1,0,none⟩)]] 88);refine (Y.out _ _ PF KF SF hF).mono ?_;rintro e w4 ⟨rfl,u⟩;have U:=Zaa PF u PF.size;have K4:=KF.keep u;have S4:=SF.keep u;clear Y hF PF KF SF u SB K0 P2;subst he;have W4:=HS.out.keep U;have m1:=S4.c1.1;have m2:=W4.c2.2;have m3:=K4.cellAt 12 _ an;have l1:=S4.lt;have l2:=W4.lt;have l3:=K4.lt;go_upto_region 5 with fail;refine wp_region_held_drew (S:=(fun V=>Bl w4 V)) (by kernel_rfl) ?_ (fun d=>?_)
 ·first | done | ((try dsimp only);exact (ap _ _).drew)
 have Q5:=(ap w4.heap.size w4).drew;generalize w4.drew=w5 at *;refine tq 0 20 rfl ?_ (hy:=by intro N b;(try dsimp only at b);have h1:=(b.cell (p:=⟨w.heap.size,0,none⟩) l1).trans m1;go_simp;try (with_reducible rfl));refine tq 1 21 rfl ?_;refine tq 2 22 rfl ?_;refine tq 3 23 rfl ?_ (hy:=by intro N b;(try dsimp only at b);have h1:=(b.cell (p:=⟨sp,1,none⟩) l2).trans m2;go_simp;try (with_reducible rfl));refine tq 4 24 rfl ?_;refine tq 5 25 rfl ?_;refine tq 6 26 rfl ?_ (hy:=by intro N b;(try dsimp only at b);have h1:=(b.cell (p:=⟨w.heap.size+1,12,none⟩) l3).trans m3;go_simp;try (with_reducible rfl));refine tq 7 27 rfl ?_ (hy:=by intro N b;(try dsimp only at b);have h1:=al.out N (Zaa U b U.size);go_simp;try (with_reducible rfl));refine tq 8 19 rfl ?_;refine tq 9 28 rfl ?_;refine tq 10 29 rfl ?_;have BN:=Blk.new w5 48 Zch;have Q6:=Q5.alloc Q5.size (G Zch 48);unfold Zch at Q6;refine rd 11 (some 8) rfl fun K hK=>?_;go_simp;skip;refine hK.out _ _ (Q6) fun d=>?_;clear hK K;(try simp only [pS,pB,pZ,pC]);refine rd 12 none rfl fun K hK=>?_;rw [if_pos (by rfl)];refine Zcr BN rfl _ _ rfl rfl y.vals rfl E am ?_;intro w6 X6 g6;have P:=Q6.grown g6 Q6.size (fun j e=>by injection e with e;have:=Q5.size;omega);refine hK.out _ _ P (fun d=>?_);clear hK K;dsimp only [Act.put];refine tq 13 9 rfl ?_;refine dn ?_;have v:=Zaa U P U.size;have K6:=K4.keep P;have S6:=S4.keep P;have W6:=W4.keep P;clear W4 K4 S4 m1 m2 m3 l1 l2 l3 Q5 BN Q6 g6 P d U;generalize hz:Zf3 y.f x.f=z at *;clear hz;by_cases k:z=0
 ·have av:(z == 0)=true:=by rw [k];rfl
  have J:=ae (show R=0 from by have h:=HR.out;rw [if_pos k] at h;exact h);clear k HR;go_wp2_with (first | (refine Zad X6 E _ rfl rfl rfl ?_) | (refine Zbd aa.out K6 _ rfl rfl rfl ?_));refine (af.out _ v).mono ?_;rintro e w7 ⟨rfl,l⟩;have P7:=Zaa v l v.size;clear X6 K6 S6 W6 l v;go_wp2_with fail;go_ret2;exact ⟨by rw [J.out];rfl,P7⟩
 ·have av:(z == 0)=false:=by rw [beq_eq_false_iff_ne];exact k
  have J:=ae (show R=22 from by have h:=HR.out;rw [if_neg k] at h;exact h);clear k HR;go_wp2_with (first | (refine Zad X6 E _ rfl rfl rfl ?_) | (refine Zbd aa.out K6 _ rfl rfl rfl ?_));refine (af.out _ v).mono ?_;rintro e w7 ⟨rfl,l⟩;have P7:=Zaa v l v.size;clear X6 K6 S6 W6 l v;go_wp2_with fail;go_ret2;exact ⟨by rw [J.out];rfl,P7⟩
theorem Zwk {h:Hd} {s:Nat} {c:Nat} {ps:List Nat} {a:Option Fil} (H:CyS w C V h i s A c ps a) (hG:w.cell? ⟨0,0,none⟩=some (.int Z 655)) (h0:0<w.heap.size) (N:List Nat) (an:Zbw N) (ck:Nat) (Ak:Option Addr) (ad:Zgq w Ak N) (sp mb:Nat) (hS:Blk w sp 74 #[X Ak N.length ck,.map (some mb)]) (nn:Nat) (a0:nn<1000) (L:List FV) (r:w.ownsMap prog 3 Zgr mb nn (Zdm L)) (x:FV) (av:V=x.vals) (ab:Zby x.f) (hx:∀ y∈L,y.f.file≠x.f.file) (he:tkE N h s i ps a=0) :
  Calls prog 12 #[I (some ⟨sp,0,none⟩),.agg C] w fun e l=>e=O (.tuple #[.bool true,.int Z 0])/\l.ownsMap prog 3 Zgr mb (nn+1) (Zdm (L++[x]))/\w.grownBy l (some mb):=by
 subst av;have af:=ae (fun (W:World) (u:Bl w W)=>Zyg hx ab (Zda r u));have al:=ae (fun (W:World) (u:Bl w W)=>Zda r u);have aa:=ae (fun (W:World) (g:Nat) (hb:Blk W g 58 C)=>H.cop.range hb);have J:=H.cop.act 3 (.int Z x.f.file) rfl;have am:=FV.size x;clear r hx;have SB:=(Blk.new w 29 #[I (some ⟨sp,0,none⟩)]).alloc (G C 58);have K0:=Blk.new (w.alloc (G #[I (some ⟨sp,0,none⟩)] 29)) 58 C;rw [ax] at K0;have P2:=(Zab w (G #[I (some ⟨sp,0,none⟩)] 29)).alloc (by simp) (G C 58);have R:=ae (fun (W:World) (fb:Nat) (u:Bl w W) (hb:Blk W (w.heap.size+1) 58 C) (aq:Blk W w.heap.size 29 #[I (some ⟨sp,0,none⟩)]) hF=>Zia (H.keep u) ((u.cell (p:=⟨0,0,none⟩) h0).trans hG) (ah h0 u.size) N an ck Ak (.map (some mb)) (ad.keep u) (w.heap.size+1) w.heap.size sp fb hb aq (hS.keep u) hF);have HS:=ae hS;have a1:=ae H.cop;clear ad hS H;generalize hTT:tkE N h s i ps a=T at *;clear hTT;go_enter func12,ntmps12;go_upto_region 1 with fail;generalize (w.alloc (G #[I (some ⟨sp,0,none⟩)] 29)).alloc (G C 58)=w2 at *;go_wp2_with fail;have hF:=Blk.new w2 88 #[.func (.func 37) #[] #[I (some ⟨w.heap.size+1,0,none⟩)],.func (.func 35) #[] #[I (some ⟨w.heap.size+1,0,none⟩),I (some ⟨w.heap.size,0,none⟩)],.func (.func 39) #[] #[I (some ⟨w.heap.size,0,none⟩),I (some ⟨w.heap.size+1,0,none⟩)]];have PF:=P2.alloc P2.size (G #[.func (.func 37) #[] #[I (some ⟨w.heap.size+1,0,none⟩)],.func (.func 35) #[] #[I (some ⟨w.heap.size+1,0,none⟩),I (some ⟨w.heap.size,0,none⟩)],.func (.func 39) #[] #[I (some ⟨w.heap.size,0,none⟩),I (some ⟨w.heap.size+1,0,none⟩)]] 88);have KF:=K0.alloc (G #[.func (.func 37) #[] #[I (some ⟨w.heap.size+1,0,none⟩)],.func (.func 35) #[] #[I (some ⟨w.heap.size+1,0,none⟩),I (some ⟨w.heap.size,0,none⟩)],.func (.func 39) #[] #[I (some ⟨w.heap.size,0,none⟩),I (some ⟨w.heap.size+1,0,none⟩)]] 88);have SF:=SB.alloc (G #[.func (.func 37) #[] #[I (some ⟨w.heap.size+1,0,none⟩)],.func (.func 35) #[] #[I (some ⟨w.heap.size+1,0,none⟩),I (some ⟨w.heap.size,0,none⟩)],.func (.func 39) #[] #[I (some ⟨w.heap.size,0,none⟩),I (some ⟨w.heap.size+1,0,none⟩)]] 88);refine (R.out _ _ PF KF SF hF).mono ?_;rintro e w4 ⟨rfl,t⟩;have P:=Zaa PF t PF.size;have K4:=KF.keep t;have S4:=SF.keep t;clear R hF PF KF SF t SB K0 P2;subst he;have W4:=HS.out.keep P;have m1:=S4.c1.1;have m2:=W4.c2.2;have m3:=K4.cellAt 12 _ J;have l1:=S4.lt;have l2:=W4.lt;have l3:=K4.lt;go_upto_region 5 with fail;refine wp_region_held_drew (S:=(fun V=>Bl w4 V)) (by kernel_rfl) ?_ (fun d=>?_)
 ·first | done | ((try dsimp only);exact (ap _ _).drew)
 have Q5:=(ap w4.heap.size w4).drew;generalize w4.drew=w5 at *;refine tq 0 20 rfl ?_ (hy:=by intro l b;(try dsimp only at b);have h1:=(b.cell (p:=⟨w.heap.size,0,none⟩) l1).trans m1;go_simp;try (with_reducible rfl));refine tq 1 21 rfl ?_;refine tq 2 22 rfl ?_;refine tq 3 23 rfl ?_ (hy:=by intro l b;(try dsimp only at b);have h1:=(b.cell (p:=⟨sp,1,none⟩) l2).trans m2;go_simp;try (with_reducible rfl));refine tq 4 24 rfl ?_;refine tq 5 25 rfl ?_;refine tq 6 26 rfl ?_ (hy:=by intro l b;(try dsimp only at b);have h1:=(b.cell (p:=⟨w.heap.size+1,12,none⟩) l3).trans m3;go_simp;try (with_reducible rfl));refine tq 7 27 rfl ?_ (hy:=by intro l b;(try dsimp only at b);have h1:=af.out l (Zaa P b P.size);go_simp;try (with_reducible rfl));refine tq 8 19 rfl ?_;refine tq 9 28 rfl ?_;refine tq 10 29 rfl ?_;have BN:=Blk.new w5 48 Zch;have Y:=Q5.alloc Q5.size (G Zch 48);unfold Zch at Y;refine rd 11 (some 8) rfl fun K E=>?_;go_simp;skip;refine E.out _ _ (Y) fun d=>?_;clear E K;(try simp only [pS,pB,pZ,pC]);refine rd 12 none rfl fun K E=>?_;rw [if_pos (by rfl)];refine Zcr BN rfl _ _ rfl rfl Zch rfl rfl Zr6 ?_;intro v X6 g6;have B:=Y.grown g6 Y.size (fun j e=>by injection e with e;have:=Q5.size;omega);refine E.out _ _ B (fun d=>?_);clear E K;dsimp only [Act.put];refine tq 13 9 rfl ?_;refine dn ?_;have P6:=Zaa P B P.size;have K6:=K4.keep B;have S6:=S4.keep B;have W6:=W4.keep B;clear W4 K4 S4 m1 m2 m3 l1 l2 l3 Q5 BN Y g6 B d P;go_upto_region 10 with fail;have O6:=al.out _ P6;have n1:=Zg8 O6 S6;have n2:=Zg8 O6 W6;have n3:=Zg8 O6 K6;have RS:=ae (fun (U:World) (M:v.grownBy U (some mb))=>(S6.grown M (fun e=>n1 (by injection e))).c1.1);have RW:=ae (fun (U:World) (M:v.grownBy U (some mb))=>(W6.grown M (fun e=>n2 (by injection e))).c2.2);have RK:=ae (fun (U:World) (M:v.grownBy U (some mb))=>(K6.grown M (fun e=>n3 (by injection e))).cellAt 12 _ J);have RV:=ae (fun (U:World) (M:v.grownBy U (some mb))=>aa.out U _ (K6.grown M (fun e=>n3 (by injection e))));clear S6 W6 K6 n1 n2 n3 X6 aa al af;refine wp_region_held_drew (S:=(fun V=>v.grownBy V (some mb))) (by kernel_rfl) ?_ (fun d=>?_)
 ·first | done | ((try dsimp only);exact Zat v _)
 have B:=Zat v (some mb);have O7:v.drew.ownsMap prog 3 Zgr mb nn (Zdm L):=O6.drew;generalize v.drew=w7 at *;refine tq 0 41 rfl ?_ (hy:=by intro l b;(try dsimp only at b);have h1:=RS.out l b;go_simp;try (with_reducible rfl));refine tq 1 42 rfl ?_;refine tq 2 43 rfl ?_;refine tq 3 44 rfl ?_ (hy:=by intro l b;(try dsimp only at b);have h1:=RW.out l b;go_simp;try (with_reducible rfl));refine tq 4 45 rfl ?_;refine tq 5 46 rfl ?_;refine tq 6 47 rfl ?_ (hy:=by intro l b;(try dsimp only at b);have h1:=RK.out l b;go_simp;try (with_reducible rfl));refine tq 7 48 rfl ?_;refine ty 8 49 rfl (Zcw am _ rfl rfl (fun V h=>RV.out V h) rfl) ?_;refine rd 9 none rfl fun K E=>?_;rw [if_pos (by rfl)];refine Yhl _ _ _ rfl L x ab mb nn rfl O7 a0 rfl rfl ?_;intro w8 O8 g8;have Q8:=Zac B g8 (fun k e _=>e);refine E.out _ _ Q8 (fun d=>?_);clear E K;dsimp only [Act.put];refine dn ?_;have G8:=Zac (Zaf (row:=some mb) P6) Q8 (fun k e _=>e);clear RS RW RK RV Q8 B d g8 O6 O7;go_wp2_with fail;go_ret2;exact ⟨rfl,O8,G8⟩
theorem Yf1 {α:Type} [DecidableEq α] {a b:List α} (h1:q<a.length) (d:q<b.length) (c:a[q]≠b[q]):decide (a=b)=false:=by
 refine decide_eq_false (fun e=>c ?_);subst e;rfl
theorem Zr7 {α:Type} {a b:List α} (h1:q<a.length) (c:q<b.length) (h:a.take q=b.take q) (e:a[q]=b[q]):a.take (q+1)=b.take (q+1):=by
 rw [dq,dq,ak h1,ak c,h,e]
theorem Zwl {α:Type} {a b:List α} (hl:a.length=b.length) (h:a.take a.length=b.take a.length):a=b:=by
 rw [df] at h;rw [hl,df] at h;exact h
theorem Zi2 (bs cs:List Nat) (hn:bs.length<=1000000000) (v M:Value) (w:World) (h1:Rep w w.heap.size v (.s 1 (Zdv (bys bs)))) (t:Rep w w.heap.size M (.s 1 (Zdv (bys cs)))) :
  Calls prog 46 #[v,M] w fun e Y=>e=O (.bool (decide (bs=cs)))/\Bl w Y:=by
 obtain ⟨A,c,rfl,hc,f⟩:=h1.row;obtain ⟨A',c',rfl,J,a⟩:=t.row;rw [Za0] at hc J ⊢;rw [Za0];have W:=ae f;have H2:=ae a;clear h1 t f a;by_cases hl:bs.length=cs.length
 ·have N:=ae hl;have x:=ae (fun (q:Nat) (h1:q<bs.length) (t:q<cs.length) (E:bs[q]≠cs[q])=>Yf1 h1 t E);have u:=ae (fun (h:bs.take bs.length=cs.take bs.length)=>(decide_eq_true (Zwl hl h):decide (bs=cs)=true));have r:((bs.length:Int) == (cs.length:Int))=true:=by rw [hl];exact beq_self_eq_true _
  clear hl;generalize decide (bs=cs)=R at *;go_enter func46,ntmps46;go_wp2_with fail;go_loopw [5] (fun i wr=>∃ q:Nat,i=.int Z (q:Int)/\q<=bs.length/\Hid (bs.take q=cs.take q)/\Bl w wr) (fun i _=>bs.length - (intOf i).toNat)
  case atStart=>exact ⟨0,rfl,bi _,ae rfl,ap _ _⟩
  case round =>
   obtain ⟨q,rfl,hq,K,l⟩:=hrel;clear r;by_cases g:q<bs.length
   ·have d:q<cs.length:=by have:=N.out;omega
    obtain ⟨b,oo,rfl,U,L⟩:=W.out q _ (Zx0 g);obtain ⟨b2,o2,rfl,H,j⟩:=H2.out q _ (Zx0 d);have e1:=(l.cell (p:=⟨b,oo+q,none⟩) U).trans L;have P:=(l.cell (p:=⟨b2,o2+q,none⟩) H).trans j;have hd:=decide_eq_true g;have aa:=decide_eq_true d;clear L j;by_cases k:bs[q]=cs[q]
    ·have HS:=ae (Zr7 g d K.out k);rw [<- k] at P;clear k;generalize bs[q]=B at *;go_wp2_with fail;go_quiet (fail);go_wp2_with fail;go_roundw
     case rel=>exact ⟨q+1,by go_num,by omega,HS,Zag l _⟩
     case measure=>simp [intOf];omega
    ·have y:=ae (x.out q g d k);generalize bs[q]=B at *;generalize cs[q]=C at *;have S:((B:Int) == (C:Int))=false:=by rw [beq_eq_false_iff_ne];omega
     clear k;go_wp2_with fail;go_quiet (fail);go_wp2_with fail;go_ret;exact ⟨by rw [y.out];rfl,Zag l _⟩
   ·have hd:=decide_eq_false g;obtain rfl:q=bs.length:=by omega
    have y:=ae (u.out K.out);go_wp2_with fail;go_ret;exact ⟨by rw [y.out];rfl,l⟩
 ·have r:((bs.length:Int) == (cs.length:Int))=false:=by rw [beq_eq_false_iff_ne];omega
  rw [show decide (bs=cs)=false from decide_eq_false (fun e=>hl (by rw [e]))];clear hl;go_enter func46,ntmps46;go_wp2_with fail;go_ret;exact ⟨rfl,ap _ _⟩
theorem Zi3 {x:FV} {B:Nat} (c:Zby x.f) (b:B<=w.heap.size) (g:Zbs w B x.f x.dv x.cv x.ev) :
  Calls prog 45 #[.agg x.vals] w fun e a=>∃ u,e=O (.tuple #[u,.int Z 0])/\Rep a a.heap.size u (.s 1 (Zdv (bys (Zdh x.f))))/\Bl w a:=by
 refine (Zma x.f c x.dv x.cv x.ev w B b g).mono ?_;rintro e a ⟨u,rfl,o,d⟩;exact ⟨u,rfl,o.rep,d⟩
def Zi9 (l:List FV):List (List Nat):=l.map fun x=>Zdh x.f
theorem Zb8 (l:List FV):(Zi9 l).length=l.length:=ba ..
theorem Zpr {l:List FV} (h:q<l.length):(Zi9 l)[q]'(by rw [Zb8];exact h)=Zdh l[q].f:=by unfold Zi9;rw [ig]
theorem Zgi (l m:List FV) (hl:l.length<=100) (v v':Value) (w:World) (hv:SlF w v l) (B:SlF w v' m) (hA:Zi1 w l) (P:Zi1 w m) :
  Calls prog 15 #[v,v'] w fun e w'=>e=O (.bool (decide (Zi9 l=Zi9 m)))/\Bl w w':=by
 have HV:=ae hv;have Y:=ae B;obtain ⟨A,c,rfl,_⟩:=hv.form;obtain ⟨A',c',rfl,_⟩:=B.form;have HA:=ae hA;have an:=ae P;clear hv B hA P;by_cases r:l.length=m.length
 ·have HL:=ae r;have ad:=ae (fun (q:Nat) (h1:q<l.length) (h2:q<m.length) (af:Zdh l[q].f≠Zdh m[q].f)=>Yf1 (a:=Zi9 l) (b:=Zi9 m) (q:=q) (by rw [Zb8];exact h1) (by rw [Zb8];exact h2) (by rw [Zpr h1,Zpr h2];exact af));have am:=ae (fun (h:(Zi9 l).take l.length=(Zi9 m).take l.length)=>(decide_eq_true (Zwl (by rw [Zb8,Zb8];exact r) (by rw [Zb8];exact h)):decide (Zi9 l=Zi9 m)=true));rw [<- r];rw [<- r] at Y;clear r;generalize decide (Zi9 l=Zi9 m)=R at *;go_enter func15,ntmps15;go_wp2_with fail;go_loopw [5] (fun i wr=>∃ q:Nat,i=.int Z (q:Int)/\q<=l.length/\Hid ((Zi9 l).take q=(Zi9 m).take q)/\Bl w wr) (fun i _=>l.length - (intOf i).toNat)
  case atStart=>exact ⟨0,rfl,bi _,ae rfl,ap _ _⟩
  case round =>
   obtain ⟨q,rfl,hq,HQ,S⟩:=hrel;by_cases g:q<l.length
   ·have d:q<m.length:=by have:=HL.out;omega
    obtain ⟨A0,c0,J,hf⟩:=HV.out.form;injection J with J en ec;clear ec en;subst J;obtain ⟨b,o,rfl,hr⟩:=hf q g;obtain ⟨A0,c0,J,U⟩:=Y.out.form;injection J with J en ec;clear ec en;subst J;obtain ⟨b2,o2,rfl,K⟩:=U q d;have hd:=decide_eq_true g;have a0:=decide_eq_true d;have hx:=HA.out _ (aw g);have hy:=an.out _ (aw d);have HX:=ae (fun (W:World) (E:Bl w W)=>Zi3 hx.1 (ag _) (hx.2.keep E));have HY:=ae (fun (W:World) (E:Bl w W)=>Zi3 hy.1 (ag _) (hy.2.keep E));have av:=Zex hx.1;have aq:=Zex hy.1;have aa:=bu w _ (hr 0 _ rfl);have H:=bu w _ (K 0 _ rfl);have RX:=ae (fun (W:World) (E:Bl w W)=>(fun j u hu=>(E.cell (p:=⟨b,o+q * 19+j,none⟩) aa).trans (hr j u hu):W.rangeAt b (o+q * 19) l[q].vals.toList));have RY:=ae (fun (W:World) (E:Bl w W)=>(fun j u hu=>(E.cell (p:=⟨b2,o2+q * 19+j,none⟩) H).trans (K j u hu):W.rangeAt b2 (o2+q * 19) m[q].vals.toList));have ab:=FV.size l[q];have al:=FV.size m[q];have HS:=ae (fun (e:Zdh l[q].f=Zdh m[q].f)=>Zr7 (a:=Zi9 l) (b:=Zi9 m) (q:=q) (by rw [Zb8];exact g) (by rw [Zb8];exact d) HQ.out (by rw [Zpr g,Zpr d];exact e));have HF:=ae (ad.out q g d);clear hr K hf U hx hy;generalize Zdh l[q].f=bx at *;generalize Zdh m[q].f=bz at *;generalize l[q].vals=Vx at *;generalize m[q].vals=Vy at *;have R1:=RX.out _ S;go_wp2_with (refine Zel R1 ab _ rfl rfl rfl ?_);refine (HX.out _ S).mono ?_;rintro e w1 ⟨u1,rfl,p1,M⟩;have N:=Zaa S M S.size;have R2:=RY.out _ N;clear R1;go_wp2_with (refine Zel R2 al _ rfl rfl rfl ?_);refine (HY.out _ N).mono ?_;rintro e w2 ⟨u2,rfl,p2,t⟩;have B2:=Zaa N t N.size;have x:=p1.keep (fun p hp=>t.cell hp) t.size;clear R2 p1 M t N;by_cases L:bx=bz
    ·have y:=ae (HS.out L);have k:=ae (Zi2 bx bz (by omega) u1 u2 _ x p2);rw [decide_eq_true L] at k;clear L x p2;go_wp2_with fail;refine k.out.mono ?_;rintro e w3 ⟨rfl,s⟩;have B3:=Zaa B2 s B2.size;clear s k;go_wp2_with fail;go_roundw
     case rel=>exact ⟨q+1,by go_num,by omega,y,B3⟩
     case measure=>simp [intOf];omega
    ·have y:=ae (HF.out L);have k:=ae (Zi2 bx bz (by omega) u1 u2 _ x p2);rw [decide_eq_false L] at k;clear L x p2;go_wp2_with fail;refine k.out.mono ?_;rintro e w3 ⟨rfl,s⟩;have B3:=Zaa B2 s B2.size;clear s k;go_wp2_with fail;go_ret;exact ⟨by rw [y.out];rfl,B3⟩
   ·have hd:=decide_eq_false g;obtain rfl:q=l.length:=by omega
    have HF:=ae (am.out HQ.out);go_wp2_with fail;go_ret;exact ⟨by rw [HF.out];rfl,S⟩
 ·have a1:((l.length:Int) == (m.length:Int))=false:=by rw [beq_eq_false_iff_ne];omega
  rw [show decide (Zi9 l=Zi9 m)=false from decide_eq_false (fun e=>r (by rw [<- Zb8 l,e,Zb8]))];clear r;go_enter func15,ntmps15;go_wp2_with fail;go_ret;exact ⟨rfl,ap _ _⟩
theorem Zkj (A A':Option Addr) (c a:Nat) (w:World):Calls prog 18 #[X A 0 c,X A' 0 a] w fun e b=>e=O (.bool true)/\b=w:=by
 go_enter func18,ntmps18;go_wp2_with fail;go_loopw [5] (fun i wr=>i=.int Z 0/\wr=w) (fun _ _=>0)
 case atStart=>exact ⟨rfl,rfl⟩
 case round =>
  obtain ⟨rfl,rfl⟩:=hrel;go_wp2_with fail;go_ret;exact ⟨rfl,rfl⟩
def Zsu:List (Int × Int)->Int
 | []=>0
 | p::l=>if p.1<p.2 then -1 else if p.2<p.1 then 1 else Zsu l
theorem Zmq (p:Int × Int) (l:List (Int × Int)):Zsu (p::l)=if Zif p.1 p.2=0 then Zsu l else Zif p.1 p.2:=by
 simp only [Zsu];by_cases h1:p.1<p.2
 ·have e:Zif p.1 p.2=-1:=by unfold Zif;rw [if_pos h1]
  rw [if_pos h1,e,if_neg (by omega)]
 ·by_cases a:p.2<p.1
  ·have e:Zif p.1 p.2=1:=by unfold Zif;rw [if_neg h1,if_pos a]
   rw [if_neg h1,if_pos a,e,if_neg (by omega)]
  ·have e:Zif p.1 p.2=0:=by unfold Zif;rw [if_neg h1,if_neg a]
   rw [if_neg h1,if_neg a,e,if_pos rfl]
def Zkk:List Nat->List Nat->List (Int × Int)
 | a::l,b::m=>((a:Int),(b:Int))::Zkk l m
 | _,_=>[]
theorem Zwm:∀ (l m:List Nat) (n:Nat),Zsu (Zkk l m++[(((n+l.length:Nat):Int),((n+m.length:Nat):Int))])=Zf2 (zl l) (zl m)
 | [],[],n=>by simp [Zkk,Zsu,zl,Zf2]
 | [],b::m,n=>by
  simp only [Zkk,dm,Zsu,zl,Zf2,fq,du,dk,au];rw [if_pos (by omega)]
 | a::l,[],n=>by
  simp only [Zkk,dm,Zsu,zl,Zf2,fq,du,dk,au];rw [if_neg (by omega),if_pos (by omega)]
 | a::l,b::m,n=>by
  have c:=Zwm l m (n+1);have e:n+1+l.length=n+(a::l).length:=by simp;omega
  have d:n+1+m.length=n+(b::m).length:=by simp;omega
  rw [e,d] at c;show Zsu (((a:Int),(b:Int))::(Zkk l m++_))=Zf2 ((a:Int)::zl l) ((b:Int)::zl m);rw [Zmq,Zfr,c]
theorem Zr8:∀ (l m:List Nat) (k:Nat) (h1:k<l.length) (c:k<m.length),Zkk (l.take (k+1)) (m.take (k+1))=Zkk (l.take k) (m.take k)++[((l[k]:Int),(m[k]:Int))]
 | a::l,b::m,0,_,_=>by simp [Zkk]
 | a::l,b::m,k+1,h1,c=>by
  have:=Zr8 l m k (by simpa using h1) (by simpa using c);simp only [gy,Zkk,List.getElem_cons_succ,dx];rw [this]
theorem Zps:∀ (l m:List Nat) (k:Nat),(l.length<=k∨m.length<=k)->Zkk (l.take k) (m.take k)=Zkk l m
 | [],m,k,_=>by simp [Zkk]
 | a::l,[],k,_=>by
  cases k <;> simp [Zkk]
 | a::l,b::m,0,h=>by simp at h
 | a::l,b::m,k+1,h=>by
  have:=Zps l m k (by simpa using h);simp only [gy,Zkk];rw [this]
def Zkx (d1 d2 k1 k2:Int) (l m:List Nat):List (Int × Int):=(d1,d2)::(k1,k2)::(Zkk l m++[((l.length:Int),(m.length:Int))])
theorem Ybi (f g:Fil):Zsu (Zkx f.day g.day f.known g.known (Zdh f) (Zdh g))=Zf3 f g:=by
 have h:=Zwm (Zdh f) (Zdh g) 0;rw [cz,cz] at h;unfold Zkx;rw [Zmq,Zmq,h];unfold Zf3 Fil.key;rw [Zfr,Zfr];rfl
theorem Ybj (a b:List (Int × Int)):prV (a++b)=prV a++prV b:=bm ..
theorem Zwn {l:List (Int × Int)} {k:Nat} (h:k<l.length):(prV l)[k * 2]?=some (.int Z l[k].1)/\(prV l)[k * 2+1]?=some (.int Z l[k].2):=by
 have b:=Zcd (l:=l) (f:=fun p:Int × Int=>[Value.int Z p.1,.int Z p.2]) (k:=2) (i:=k) (a:=l[k]) (fun _ _=>rfl) (ak h);have c:(((prV l).drop (k * 2)).take 2)[0]?=some (.int Z l[k].1):=by unfold prV;rw [b];rfl
 have h1:(((prV l).drop (k * 2)).take 2)[1]?=some (.int Z l[k].2):=by unfold prV;rw [b];rfl
 rw [gi,if_pos (by omega),fz] at c h1;exact ⟨by simpa using c,h1⟩
theorem Zr9 {l:List (Int × Int)} {k:Nat} (h:k<l.length):Zsu (l.drop k)=if l[k].1<l[k].2 then -1 else if l[k].2<l[k].1 then 1 else Zsu (l.drop (k+1)):=by
 rw [ct h];rfl
theorem Zpt (w:World) (a:Array Value) (n:Nat) {base:Nat} {e:TypeId} {size:Nat} (b:base<=w.heap.size) (hn:n<=1000) (hs:a.size=n * size):(w.alloc (G a e)).ownsRow base e size (X (some ⟨w.heap.size,0,none⟩) n n) n a.toList :=
 ⟨by rw [br,hs],.inr ⟨w.heap.size,n,a,rfl,b,heap_alloc_new w _,ag _,by unfold maxLen;omega,hs,by rw [et (by rw [br,hs];exact ag _)]⟩⟩
theorem Zwo {e:TypeId} {size:Nat} (t:prog.underlying T=some (.slice e)) (k:(prog.info? e).map (fun i=>(i.zero,i.size,i.bytes))=some (some z,size,bytes)) (B:z.cells.size=size) (x:0<size) (s:bytes<=1000)
  {base:Nat} {v:Value} {n:Nat} (a:w.ownsRow base e size v n xs) {src:Value} (hs:Zer w src m size cs) (h1:∀ u∈cs,u.oneCell'=true)
  (hn:n<=10000000) (hm:m<=1000) (f:base<=w.heap.size) {ty:TypeId} :
  ∃ g h,(Builtin.append_ #[T,T] ty #[v,src]).run prog w=.ok g h/\h.ownsRow base e size g (n+m) (xs++cs)/\w.grownBy h v.ownBlock/\(g.ownBlock=v.ownBlock∨g.ownBlock=some w.heap.size):=by
 obtain ⟨i0,hi,l,r,p⟩:=info_parts k;obtain ⟨hl,hs⟩:=hs;rcases hs with ⟨rfl,rfl⟩ | ⟨b,o,c,rfl,_,d⟩
 ·have y:cs=[]:=bj (by rw [hl,io]);subst y;exact ⟨v,w,run_append_owned_none (P:=prog) (w:=w) base T ty e i0 size t (by rw [hi]) v n xs (by exact a),by rw [bv,Nat.add_zero];exact a,World.grownBy.refl w _,.inl rfl⟩
 ·obtain ⟨g,h,K,L,E,_,H⟩:=run_append_own_at (P:=prog) w base T ty e i0 z size bytes t hi l r p B x v n xs a ⟨b,o,none⟩ m c cs hl
   (fun j u J=>by rw [Addr.add_lit];exact d j u J) h1 (by unfold maxLen;omega) (by
    have:=Nat.mul_le_mul (show n+m<=10001000 by omega) s;omega) f
  exact ⟨g,h,K,L,E,H⟩
theorem Ze8 {e:TypeId} {size:Nat} (y:prog.underlying T=some (.slice e)) (d:(prog.info? e).map (fun i=>(i.zero,i.size,i.bytes))=some (some z,size,bytes)) (t:z.cells.size=size) (p:0<size) (k:bytes<=1000)
  {base:Nat} {v:Value} {n:Nat} (g:w.ownsRow base e size v n xs) {src:Value} (hs:Zer w src m size cs) (h1:∀ u∈cs,u.oneCell'=true)
  (hn:n<=10000000) (hm:m<=1000) (c:base<=w.heap.size)
  {ops:Array Oper} {rest:List Oper} {o:Oper} {a:Act} (j:o.guard=none) (s x:Operand) (ho:o.op=.call {callee:=.builtin .append,args:=#[s,x],argTypes:=#[T,T] }) (h:a.eval s=v) (r:a.eval x=src)
  (B:∀ b f,f.ownsRow base e size b (n+m) (xs++cs)->w.grownBy f v.ownBlock->(b.ownBlock=v.ownBlock∨b.ownBlock=some w.heap.size)->wpList prog ops Q rest (a.put o.dst b) f):wpList prog ops Q (o::rest) a w :=
 let ⟨b,f,r1,r2,r3,r4⟩:=Zwo y d t p k g hs h1 hn hm c (ty:=o.type)
 wpList_plain j fun _ l=>Zct s x T v _ b ho h r r1 (l _ _ (B b f r2 r3 r4))
theorem Zbm {e:TypeId} {size:Nat} (r:prog.underlying T=some (.slice e)) (d:(prog.info? e).map (fun i=>(i.zero,i.size,i.bytes))=some (some z,size,bytes)) (p:z.cells.size=size) (k:0<size) (j:bytes<=1000)
  {base:Nat} {v:Value} {n:Nat} (g:w.ownsRow base e size v n xs) {src:Value} (hs:Zer w src m size cs) (h1:∀ u∈cs,u.oneCell'=true)
  (hn:n<=10000000) (hm:m<=1000) (c:base<=w.heap.size)
  {a:Act} {K:Act->World->Prop} (s x:Operand) (ho:o.op=.call {callee:=.builtin .append,args:=#[s,x],argTypes:=#[T,T] }) (h:a.eval s=v) (l:a.eval x=src)
  (t:∀ b f,f.ownsRow base e size b (n+m) (xs++cs)->w.grownBy f v.ownBlock->(b.ownBlock=v.ownBlock∨b.ownBlock=some w.heap.size)->K (a.put o.dst b) f):o.wp prog a w K Q :=
 let ⟨b,f,r1,r2,r3,r4⟩:=Zwo r d p k j g hs h1 hn hm c (ty:=o.type)
 Zct s x T v _ b ho h l r1 (t b f r2 r3 r4)
theorem Zcz {base:Nat} {e:TypeId} {size:Nat} {v:Value} {n:Nat} (h:w.ownsRow base e size v n xs):∃ A c,v=X A n c/\n<=c/\(0<n->∃ g,A=some ⟨g,0,none⟩/\base<=g/\g<w.heap.size/\∀ (j:Nat) (u:Value),xs[j]?=some u->w.cell? ⟨g,j,none⟩=some u):=by
 have a:=h;rcases h.2 with ⟨rfl,rfl⟩ | ⟨g,cap,r,rfl,l,t,b,k,f,s⟩
 ·exact ⟨none,0,rfl,ag _,fun h=>absurd h (Nat.lt_irrefl _)⟩
 ·exact ⟨some ⟨g,0,none⟩,cap,rfl,b,fun _=>⟨g,rfl,l,(a.lt g rfl).2,fun j u d=>by
   have p:=Zap d;rw [a.cellAt j (by rw [<- a.1];exact p)];exact d⟩⟩
theorem info147:(prog.info? 147).map (fun i=>(i.zero,i.size,i.bytes))=some (some (.agg #[.int Z 0,.int Z 0]),2,16):=by kernel_rfl
def ksP (d1 d2 k1 k2:Int) (l m:List Nat) (k:Nat):List (Int × Int):=(d1,d2)::(k1,k2)::Zkk (l.take k) (m.take k)
theorem Zwp:∀ (l m:List Nat) (k:Nat),k<=l.length->k<=m.length->(Zkk (l.take k) (m.take k)).length=k
 | [],_,k,h,_=>by simp at h;subst h;simp [Zkk]
 | _::_,[],k,_,h=>by simp at h;subst h;simp [Zkk]
 | a::l,b::m,0,_,_=>by simp [Zkk]
 | a::l,b::m,k+1,h1,h2=>by
  simp only [gy,Zkk,au];rw [Zwp l m k (by simpa using h1) (by simpa using h2)]
theorem Yew {l m:List Nat} {k:Nat} (h1:k<l.length) (a:k<m.length):prV (ksP d1 d2 k1 k2 l m (k+1))=prV (ksP d1 d2 k1 k2 l m k)++[.int Z (l[k]:Int),.int Z (m[k]:Int)]:=by
 unfold ksP;rw [Zr8 l m k h1 a];show prV ([(d1,d2),(k1,k2)]++(Zkk (l.take k) (m.take k)++[_]))=prV ([(d1,d2),(k1,k2)]++Zkk (l.take k) (m.take k))++_;rw [<- ay,Ybj _ [((l[k]:Int),(m[k]:Int))]];rfl
theorem Yhm {l m:List Nat} {k:Nat} (h:l.length<=k∨m.length<=k):prV (ksP d1 d2 k1 k2 l m k)++[.int Z (l.length:Int),.int Z (m.length:Int)]=prV (Zkx d1 d2 k1 k2 l m):=by
 unfold ksP Zkx;rw [Zps l m k h];show prV ([(d1,d2),(k1,k2)]++Zkk l m)++prV [((l.length:Int),(m.length:Int))]=prV ([(d1,d2),(k1,k2)]++(Zkk l m++[((l.length:Int),(m.length:Int))]));rw [<- Ybj,ay]
theorem Zyh (x y:FV) (w:World) (hx:Zby x.f) (hy:Zby y.f) (B:Nat) (am:B<=w.heap.size) (fx:Zbs w B x.f x.dv x.cv x.ev) (fy:Zbs w B y.f y.dv y.cv y.ev) :
  Calls prog 50 #[.agg x.vals,.agg y.vals] w fun e w'=>e=O (.int Z (Zf3 x.f y.f))/\Bl w w':=by
 have HX:=ae (fun (W:World) (hW:Bl w W)=>Zi3 hx (aj am hW.size) (fx.keep (fun p hp=>hW.cell (ah hp am)) (ag _)));have HY:=ae (fun (W:World) (hW:Bl w W)=>Zi3 hy (aj am hW.size) (fy.keep (fun p hp=>hW.cell (ah hp am)) (ag _)));have ck:=Zex hx;have cd:=Zex hy;have be:=ae (Zfq x.f);have bg:=ae (Zfq y.f);have X1:=(Blk.new w 48 x.vals).alloc (G y.vals 48);have X2:=Blk.new (w.alloc (G x.vals 48)) 48 y.vals;rw [ax] at X2;have P1:=(Zab w (G x.vals 48)).alloc (by simp) (G y.vals 48);have HE:=ae (fun (W:World) (h1:Blk W w.heap.size 48 x.vals) (h2:Blk W (w.heap.size+1) 48 y.vals)=>(⟨h1.cellAt 1 (.int Z x.f.day) rfl,h1.cellAt 2 (.int Z x.f.known) rfl,h2.cellAt 1 (.int Z y.f.day) rfl,h2.cellAt 2 (.int Z y.f.known) rfl⟩ :
  W.cell? ⟨w.heap.size,1,none⟩=some (.int Z x.f.day)/\W.cell? ⟨w.heap.size,2,none⟩=some (.int Z x.f.known)/\W.cell? ⟨w.heap.size+1,1,none⟩=some (.int Z y.f.day)/\W.cell? ⟨w.heap.size+1,2,none⟩=some (.int Z y.f.known)))
 have bs:=FV.size x;have b4:=FV.size y;obtain ⟨R,hR⟩:∃ R,R=Zf3 x.f y.f:=⟨_,rfl⟩;rw [<- hR];rw [<- Ybi] at hR;have HR:=ae hR;clear hR hx hy fx fy am;generalize Zdh x.f=r at *;generalize Zdh y.f=s at *;generalize x.vals=Vx at *;generalize y.vals=Vy at *;generalize x.f.day=d1 at *;generalize x.f.known=k1 at *;generalize y.f.day=d2 at *;generalize y.f.known=k2 at *;go_enter func50,ntmps50;go_upto_region 1 with fail;generalize (w.alloc (G Vx 48)).alloc (G Vy 48)=w1 at *;go_wp2_with (refine Zad X1 bs _ rfl rfl rfl ?_);refine (HX.out _ P1).mono ?_;rintro e w2 ⟨u1,rfl,p1,ad⟩;have P2:=Zaa P1 ad P1.size;have Y1:=X1.keep ad;have Y2:=X2.keep ad;clear X1 X2 P1 ad HX;go_wp2_with (refine Zad Y2 b4 _ rfl rfl rfl ?_);refine (HY.out _ P2).mono ?_;rintro e w3 ⟨u2,rfl,p2,ab⟩;have P3:=Zaa P2 ab P2.size;have bk:=p1.keep (fun p hp=>ab.cell hp) ab.size;obtain ⟨e1,e2,e3,e4⟩:=HE.out w3 (Y1.keep ab) (Y2.keep ab);obtain ⟨A1,c1,rfl,b9,H⟩:=bk.row;obtain ⟨A2,c2,rfl,b5,bh⟩:=p2.row;rw [Za0] at b9 b5;have H1:=ae H;have H2:=ae bh;have bl:=Za0 r;have bo:=Za0 s;simp only [Za0];clear H bh Y1 Y2 P2 ab HY p1 bk p2 HE bl bo;go_upto_region 4 with fail;have OK:=Zpt w3 #[.int Z d1,.int Z d2,.int Z k1,.int Z k2] 2 (e:=147) (size:=2) (ag _) (by omega) rfl;have BK:=Zab w3 (G #[.int Z d1,.int Z d2,.int Z k1,.int Z k2] 147);generalize w3.alloc _=w4 at *;clear e1 e2 e3 e4;have bq:=ae OK;clear OK;go_wp2_with fail;go_loopw [9,10] (fun v i wr=>∃ k:Nat,i=.int Z (k:Int)/\k<=r.length/\k<=s.length/\Hid (wr.ownsRow w3.heap.size 147 2 v (k+2) (prV (ksP d1 d2 k1 k2 r s k)))/\Bl w3 wr) (fun _ i _=>r.length - (intOf i).toNat)
 case atStart=>exact ⟨0,rfl,bi _,bi _,bq,BK⟩
 case round =>
  obtain ⟨k,rfl,b8,b1,HO,t⟩:=hrel;clear bq BK;by_cases ca:k<r.length/\k<s.length
  ·obtain ⟨P,U⟩:=ca;have bp:=decide_eq_true P;have cb:=decide_eq_true U;obtain ⟨b,o,rfl,hb,b0⟩:=H1.out k _ (Zx0 P);obtain ⟨b2,o2,rfl,ad,b7⟩:=H2.out k _ (Zx0 U);have cg:=be.out _ (aw P);have ch:=bg.out _ (aw U);have HS:=ae (Yew (d1:=d1) (d2:=d2) (k1:=k1) (k2:=k2) P U);have ce:IntKind.i64.wrap (r[k]:Int)=(r[k]:Int):=by rw [az];omega
   have cf:IntKind.i64.wrap (s[k]:Int)=(s[k]:Int):=by rw [az];omega
   obtain ⟨A3,c3,rfl,b3,_⟩:=Zcz HO.out;generalize r[k]=B1 at *;generalize s[k]=B2 at *;have bn:=t.size;go_upto_region 7 with fail;refine wp_region_held_drew (S:=(fun V=>Bl w3 V)) (by kernel_rfl) ?_ (fun N=>?_)
   ·first | done | ((try dsimp only);exact t.drew)
   have Q:=t.drew;have a5:=ae (show wr.drew.ownsRow w3.heap.size 147 2 _ (k+2) (prV (ksP d1 d2 k1 k2 r s k)) from HO.out);clear HO t;generalize wr.drew=w5 at *;refine tq 0 45 rfl ?_;refine tq 1 46 rfl ?_;refine tq 2 47 rfl ?_;refine tq 3 48 rfl ?_;refine tq 4 49 rfl ?_ (hy:=by intro w' aq;(try dsimp only at aq);have hk:=(aq.cell (p:=⟨b,o+k,none⟩) hb).trans b0;go_simp;try (with_reducible rfl));refine tq 5 50 rfl ?_;refine tq 6 51 rfl ?_;refine tq 7 52 rfl ?_;refine tq 8 53 rfl ?_;refine tq 9 54 rfl ?_ (hy:=by intro w' aq;(try dsimp only at aq);have hk:=(aq.cell (p:=⟨b2,o2+k,none⟩) ad).trans b7;go_simp;try (with_reducible rfl));refine tq 10 55 rfl ?_;refine tq 11 56 rfl ?_;have Q6:=Q.alloc Q.size (G #[.int Z (B1:Int),.int Z (B2:Int)] 147);refine rd 12 (some 57) rfl fun K hK=>?_;go_simp;skip;refine hK.out _ _ (Q6) fun N=>?_;clear hK K;(try simp only [pS,pB,pZ,pC]);refine rd 13 (some 58) rfl fun K hK=>?_;rw [if_pos (by rfl)];refine Zbm underlying148 info147 rfl (by omega) (by omega) (a5.out.alloc _) (Zer.of_new (m:=1) (c:=1) (size:=2) (Blk.new w5 147 #[.int Z (B1:Int),.int Z (B2:Int)]) rfl) (by simp [Value.oneCell']) (by omega) (by omega) (by have:=Q6.size;exact this) _ _ rfl rfl rfl ?_;intro v6 w6 O6 g6 l6;refine hK.out _ _ ?_ (fun N=>?_)
   ·exact Q6.grown g6 Q6.size (fun j e=>((a5.out.alloc (G #[.int Z (B1:Int),.int Z (B2:Int)] 147)).lt j e).1)
   have Q7:=Q6.grown g6 Q6.size (fun j e=>((a5.out.alloc (G #[.int Z (B1:Int),.int Z (B2:Int)] 147)).lt j e).1);clear hK K;(try simp only [pS,pB,pZ,pC]);refine tq 14 9 rfl ?_;refine dn ?_;have b6:=ae (show w6.ownsRow w3.heap.size 147 2 v6 (k+1+2) (prV (ksP d1 d2 k1 k2 r s (k+1))) from by rw [HS.out];exact O6);clear O6 a5 Q Q6 N g6 l6 HS;go_wp2_with fail;go_roundw
   case rel=>exact ⟨k+1,by go_num,by omega,by omega,b6,Q7⟩
   case measure=>simp [intOf];omega
  ·obtain ⟨A3,c3,rfl,b3,_⟩:=Zcz HO.out;have bn:=t.size;have HK:=ae (Yhm (d1:=d1) (d2:=d2) (k1:=k1) (k2:=k2) (l:=r) (m:=s) (k:=k) (by omega));have al:=ae (show (Zkx d1 d2 k1 k2 r s).length=k+2+1 from by
    unfold Zkx;rw [au,au,ai,<- Zps r s k (by omega),Zwp r s k b8 b1];rfl)
   obtain ⟨n,hn⟩:∃ n,n=k+2+1:=⟨_,rfl⟩;rw [<- hn] at al;have cc:n<=1000010:=by omega
   have HN:=ae hn;clear hn;by_cases P:k<r.length
   ·have U:s.length=k:=by omega
    have bp:=decide_eq_true P;have cb:decide (k<s.length)=false:=decide_eq_false (by omega);have ci:=ae U;clear U;have a0:=Zer.of_new (m:=1) (c:=1) (size:=2) (Blk.new wr 147 #[.int Z (r.length:Int),.int Z (s.length:Int)]) rfl;have M:=HO.out.alloc (G #[.int Z (r.length:Int),.int Z (s.length:Int)] 147);have H:=t.alloc t.size (G #[.int Z (r.length:Int),.int Z (s.length:Int)] 147);have E:w3.heap.size<=(wr.alloc (G #[.int Z (r.length:Int),.int Z (s.length:Int)] 147)).heap.size:=H.size;clear HO t H1 H2 be bg;go_wp2_with (at_builtin;refine Ze8 underlying148 info147 rfl (by omega) (by omega) M a0 (by simp [Value.oneCell']) (by omega) (by omega) E rfl _ _ rfl rfl rfl ?_;intro v7 w7 o7 g7 l7;have Q7:=H.grown g7 E (fun j e=>(M.lt j e).1);rw [<- HN.out] at o7;have o8:w7.ownsRow w3.heap.size 147 2 v7 n (prV (Zkx d1 d2 k1 k2 r s)):=(by rw [<- HK.out];exact o7);obtain ⟨A7,c7,rfl,a9,av⟩:=Zcz o8);have P7:=Zaa P3 Q7 P3.size;have a7:=ae (av (by have:=HN.out;omega));have a4:=ae (show Zsu ((Zkx d1 d2 k1 k2 r s).drop 0)=R from HR.out.symm);clear o7 o8 g7 l7 av M a0 H E Q7 HK HR a9;generalize Zkx d1 d2 k1 k2 r s=K at *;go_loopw [11] (fun i wy=>∃ q:Nat,i=.int Z (q:Int)/\q<=n/\Hid (Zsu (K.drop q)=R)/\Bl w7 wy) (fun i _=>n - (intOf i).toNat)
    case atStart=>exact ⟨0,rfl,bi _,a4,ap _ _⟩
    case round =>
     obtain ⟨q,rfl,hq,HQ,t⟩:=hrel;clear a4;by_cases af:q<n
     ·have aa:q<K.length:=by have:=al.out;omega
      have bf:=decide_eq_true af;obtain ⟨g,rfl,bc,an,d⟩:=a7.out;have x1:=(t.cell (p:=⟨g,q * 2,none⟩) an).trans (d _ _ (Zwn aa).1);have x2:=(t.cell (p:=⟨g,q * 2+1,none⟩) an).trans (d _ _ (Zwn aa).2);have Y:=HQ.out;rw [Zr9 aa] at Y;generalize K[q].1=a1 at *;generalize K[q].2=a2 at *;have a3:=ae Y;clear Y d bc;by_cases L:a1<a2
      ·have a8:=decide_eq_true L;have u:=a3.out;rw [if_pos L] at u;have a:=ae u;clear u;go_wp2_with fail;go_quiet (fail);go_wp2_with fail;go_ret;exact ⟨by rw [<- a.out];rfl,Zag (Zaa P7 t P7.size) _⟩
      ·have a8:=decide_eq_false L;have u:=a3.out;rw [if_neg L] at u;by_cases J:a2<a1
       ·have a6:=decide_eq_true J;rw [if_pos J] at u;have a:=ae u;clear u;go_wp2_with fail;go_quiet (fail);go_wp2_with fail;go_quiet (fail);go_wp2_with fail;go_ret;exact ⟨by rw [<- a.out];rfl,Zag (Zag (Zaa P7 t P7.size) _) _⟩
       ·have a6:=decide_eq_false J;rw [if_neg J] at u;have a:=ae u;clear u;go_wp2_with fail;go_quiet (fail);go_wp2_with fail;go_quiet (fail);go_wp2_with fail;go_roundw
        case rel=>exact ⟨q+1,by go_num,by omega,a,by first | exact Zag t _ | exact Zag (Zag t _) _⟩
        case measure=>simp [intOf];omega
     ·have bf:=decide_eq_false af;have a:=ae (show R=0 from by
       have h:=HQ.out;rw [gh (by have:=al.out;omega)] at h;exact h.symm)
      go_wp2_with fail;go_ret;exact ⟨by rw [a.out];rfl,Zaa P7 t P7.size⟩
   ·have bp:=decide_eq_false P;have a0:=Zer.of_new (m:=1) (c:=1) (size:=2) (Blk.new wr 147 #[.int Z (r.length:Int),.int Z (s.length:Int)]) rfl;have M:=HO.out.alloc (G #[.int Z (r.length:Int),.int Z (s.length:Int)] 147);have H:=t.alloc t.size (G #[.int Z (r.length:Int),.int Z (s.length:Int)] 147);have E:w3.heap.size<=(wr.alloc (G #[.int Z (r.length:Int),.int Z (s.length:Int)] 147)).heap.size:=H.size;clear HO t H1 H2 be bg;go_wp2_with (at_builtin;refine Ze8 underlying148 info147 rfl (by omega) (by omega) M a0 (by simp [Value.oneCell']) (by omega) (by omega) E rfl _ _ rfl rfl rfl ?_;intro v7 w7 o7 g7 l7;have Q7:=H.grown g7 E (fun j e=>(M.lt j e).1);rw [<- HN.out] at o7;have o8:w7.ownsRow w3.heap.size 147 2 v7 n (prV (Zkx d1 d2 k1 k2 r s)):=(by rw [<- HK.out];exact o7);obtain ⟨A7,c7,rfl,a9,av⟩:=Zcz o8);have P7:=Zaa P3 Q7 P3.size;have a7:=ae (av (by have:=HN.out;omega));have a4:=ae (show Zsu ((Zkx d1 d2 k1 k2 r s).drop 0)=R from HR.out.symm);clear o7 o8 g7 l7 av M a0 H E Q7 HK HR a9;generalize Zkx d1 d2 k1 k2 r s=K at *;go_loopw [11] (fun i wy=>∃ q:Nat,i=.int Z (q:Int)/\q<=n/\Hid (Zsu (K.drop q)=R)/\Bl w7 wy) (fun i _=>n - (intOf i).toNat)
    case atStart=>exact ⟨0,rfl,bi _,a4,ap _ _⟩
    case round =>
     obtain ⟨q,rfl,hq,HQ,t⟩:=hrel;clear a4;by_cases af:q<n
     ·have aa:q<K.length:=by have:=al.out;omega
      have bf:=decide_eq_true af;obtain ⟨g,rfl,bc,an,d⟩:=a7.out;have x1:=(t.cell (p:=⟨g,q * 2,none⟩) an).trans (d _ _ (Zwn aa).1);have x2:=(t.cell (p:=⟨g,q * 2+1,none⟩) an).trans (d _ _ (Zwn aa).2);have Y:=HQ.out;rw [Zr9 aa] at Y;generalize K[q].1=a1 at *;generalize K[q].2=a2 at *;have a3:=ae Y;clear Y d bc;by_cases L:a1<a2
      ·have a8:=decide_eq_true L;have u:=a3.out;rw [if_pos L] at u;have a:=ae u;clear u;go_wp2_with fail;go_quiet (fail);go_wp2_with fail;go_ret;exact ⟨by rw [<- a.out];rfl,Zag (Zaa P7 t P7.size) _⟩
      ·have a8:=decide_eq_false L;have u:=a3.out;rw [if_neg L] at u;by_cases J:a2<a1
       ·have a6:=decide_eq_true J;rw [if_pos J] at u;have a:=ae u;clear u;go_wp2_with fail;go_quiet (fail);go_wp2_with fail;go_quiet (fail);go_wp2_with fail;go_ret;exact ⟨by rw [<- a.out];rfl,Zag (Zag (Zaa P7 t P7.size) _) _⟩
       ·have a6:=decide_eq_false J;rw [if_neg J] at u;have a:=ae u;clear u;go_wp2_with fail;go_quiet (fail);go_wp2_with fail;go_quiet (fail);go_wp2_with fail;go_roundw
        case rel=>exact ⟨q+1,by go_num,by omega,a,by first | exact Zag t _ | exact Zag (Zag t _) _⟩
        case measure=>simp [intOf];omega
     ·have bf:=decide_eq_false af;have a:=ae (show R=0 from by
       have h:=HQ.out;rw [gh (by have:=al.out;omega)] at h;exact h.symm)
      go_wp2_with fail;go_ret;exact ⟨by rw [a.out];rfl,Zaa P7 t P7.size⟩
end Go.Proofs.YtglkadmfjaecmaaGreatDoor
