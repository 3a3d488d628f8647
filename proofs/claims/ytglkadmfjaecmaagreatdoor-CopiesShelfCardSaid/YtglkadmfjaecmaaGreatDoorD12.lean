import Derived.Test.YtglkadmfjaecmaaGreatDoorD11
set_option maxRecDepth 100000
set_option maxHeartbeats 16000000
namespace Go.Proofs.YtglkadmfjaecmaaGreatDoor
open Go.RowKit Go.Shelf _root_.Go.Proofs.Tryz
open Go.Value renaming slice->I, int->Z, agg->X
open Go.IntKind renaming i64->G
open Go.Obj renaming cells->O
open Go.Ending renaming returned->U
attribute [local go_sem] Oper.semAt_some
variable {cs:Array Value} {g:Nat} {l:List Int} {m:Int} {w:World}
def Fil.nums (f:Fil):List Int:=[0,f.day,f.known,f.file,f.office,f.party,f.other,0,0,0,0]
def prE (e:List (Int × Int)):List Nat:=e.flatMap fun p=>Zbl p.1++Zbl p.2
def Zdh (f:Fil):List Nat:=f.nums.flatMap Zbl++Zef (Zth f.d f.c)++Zbl (f.e.length:Int)++prE f.e
theorem Zg0 (h:∀ x∈l,-9223372036854775808<=x/\x<=9223372036854775807):(l.flatMap Zbl).length<=l.length * 10:=by
 induction l with
 | nil=>simp
 | cons a l ih =>
  have h1:=Za2 (h a da).1 (h a da).2;have b:=ih (fun c hc=>h c (dh _ hc));rw [de,ai,au];omega
theorem Ztp {e:List (Int × Int)} (h:∀ p∈e,(0<=p.1/\p.1<=4095)/\(0<=p.2/\p.2<=131072)):(prE e).length<=e.length * 20:=by
 unfold prE;induction e with
 | nil=>simp
 | cons a l ih =>
  obtain ⟨⟨j,i⟩,f,b⟩:=h a da;have h1:=Za2 (n:=a.1) (by omega) (by omega);have k:=Za2 (n:=a.2) (by omega) (by omega);have d:=ih (fun c hc=>h c (dh _ hc));rw [de,ai,ai,au];omega
theorem Zby.nums {f:Fil} (h:Zby f):∀ x∈f.nums,-9223372036854775808<=x/\x<=9223372036854775807:=by
 obtain ⟨d,c,b,i,e,j,_⟩:=h;intro x a;simp only [Fil.nums,dt,dl,or_false] at a;rcases a with rfl | rfl | rfl | rfl | rfl | rfl | rfl | rfl | rfl | rfl | rfl <;> omega
theorem Zby.earl {f:Fil} (h:Zby f):∀ p∈f.e,(0<=p.1/\p.1<=4095)/\(0<=p.2/\p.2<=131072):=fun p a=>⟨(h.2.2.2.2.2.2.2.2.1 p a).1,(h.2.2.2.2.2.2.2.2.1 p a).2.1⟩
theorem Zrj {k:Nat} (h:k<l.length):(l.take (k+1)).flatMap Zbl=(l.take k).flatMap Zbl++Zbl l[k]:=by
 rw [dq,ak h,bm];simp
theorem Zvy {l:List (Int × Int)} {k:Nat} (h:k<l.length):prE (l.take (k+1))=prE (l.take k)++Zbl l[k].1++Zbl l[k].2:=by
 unfold prE;rw [dq,ak h,bm];simp
theorem Zo1 (f:Fil) (r:Zby f) (dv cv ev:Value) (w:World) (hG:w.cell? ⟨0,0,none⟩=some (Z G 655)) (h0:0<w.heap.size) (B:Nat) (C:B<=w.heap.size) (h:Zbs w B f dv cv ev) :
  Calls prog 81 #[X (f.vals dv cv ev)] w fun e w'=>∃ u,e=U (.tuple #[u,Z G 0])/\Zd2 w' w.heap.size u (Zdh f)/\Bl w w':=by
 have i:∀ W,Bl w W->∀ p:Addr,p.block<B->W.cell? p=w.cell? p:=fun W a p hp=>a.cell (ah hp C);have HV:=ae (fun (W:World) (a:Bl w W)=>Zjt f r dv cv ev W ((a.cell (p:=⟨0,0,none⟩) h0).trans hG) (ah h0 a.size) B (aj C a.size) (h.keep (i W a) (ag _)));have HT:=ae (fun (W:World) (a:Bl w W)=>Zti f.d f.c r.2.2.2.2.2.2.1 dv cv W B (aj C a.size) (h.1.keep (i W a) (ag _)) (h.2.1.keep (i W a) (ag _)));have bc:=Zow r.2.2.2.2.2.2.1;have a4:=ae (Zns f.d f.c);have K:=ae r.nums;have R:=ae r.earl;have a9:f.e.length<=8:=r.2.2.2.2.2.2.2.1;have Y:Zdh f=f.nums.flatMap Zbl++Zef (Zth f.d f.c)++Zbl (f.e.length:Int)++prE f.e:=rfl;obtain ⟨Ae,ce,rfl,x5,x6⟩:=h.2.2.pairs;clear h r i x5;have a2:=ae x6;clear x6;generalize Zth f.d f.c=tb at *;have a8:f.nums.length=11:=rfl;have af:f.nums=[0,f.day,f.known,f.file,f.office,f.party,f.other,0,0,0,0]:=rfl;generalize Zdh f=eb at *;generalize f.nums=t at *;obtain ⟨day,known,file,office,party,other,d,c,el⟩:=f;unfold Fil.vals at *;dsimp only at *;clear d c;have a6:=ae Y;have av:=ae af;clear Y af;have Q:=Blk.new w 48 #[iI 0,iI day,iI known,iI file,iI office,iI party,iI other,iI 0,iI 0,iI 0,iI 0,dv,cv,nN,I Ae el.length ce,iI 0,iI 0,nN,nN];have P0:=Zab w (O #[iI 0,iI day,iI known,iI file,iI office,iI party,iI other,iI 0,iI 0,iI 0,iI 0,dv,cv,nN,I Ae el.length ce,iI 0,iI 0,nN,nN] 48);go_enter func81,ntmps81;go_wp2_with (refine Zad Q rfl _ rfl rfl rfl ?_);refine (HV.out _ P0).mono ?_;rintro e w1 ⟨rfl,J⟩;have P1:=Zaa P0 J P0.size;have X1:=Q.keep J;have am:=P1.size;have G1:=Blk.new w1 164 #[I none 0 0];have P2:=P1.alloc P1.size (O #[I none 0 0] 164);have X2:=X1.alloc (O #[I none 0 0] 164);have W1:Ze0 (w1.alloc (O #[I none 0 0] 164)) w.heap.size w1.heap.size []:=⟨am,_,0,G1,d8 _ _ _ _⟩;clear G1 P1 X1 J P0 Q;generalize hgg:w1.heap.size=g at *;generalize hw2:w1.alloc (O #[I none 0 0] 164)=w2 at *;have V:w2.heap.size=g+1:=by rw [<- hw2,ax,hgg]
 have ab:=X2.c19;go_upto_region 5 with fail;have P:=Blk.new w2 3 #[iI 0,iI day,iI known,iI file,iI office,iI party,iI other,iI 0,iI 0,iI 0,iI 0];rw [V] at P;have X3:=X2.alloc (O #[iI 0,iI day,iI known,iI file,iI office,iI party,iI other,iI 0,iI 0,iI 0,iI 0] 3);have P3:=P2.alloc P2.size (O #[iI 0,iI day,iI known,iI file,iI office,iI party,iI other,iI 0,iI 0,iI 0,iI 0] 3);have W3:=W1.alloc (O #[iI 0,iI day,iI known,iI file,iI office,iI party,iI other,iI 0,iI 0,iI 0,iI 0] 3);have T:(Zdj t).toArray=#[iI 0,iI day,iI known,iI file,iI office,iI party,iI other,iI 0,iI 0,iI 0,iI 0]:=by rw [av.out];rfl
 have P:Blk (w2.alloc (O #[iI 0,iI day,iI known,iI file,iI office,iI party,iI other,iI 0,iI 0,iI 0,iI 0] 3)) (g+1) 3 (Zdj t).toArray:=by rw [T];exact P
 clear ab W1 X2 P2;generalize w2.alloc _=w3 at *;clear T;go_loopw [44] (fun j wr=>∃ k:Nat,j=Z G (k:Int)/\k<=11/\Ze0 wr w.heap.size g ((t.take k).flatMap Zbl)/\Bl w wr/\Blk wr w.heap.size 48 #[iI 0,iI day,iI known,iI file,iI office,iI party,iI other,iI 0,iI 0,iI 0,iI 0,dv,cv,nN,I Ae el.length ce,iI 0,iI 0,nN,nN]/\Blk wr (g+1) 3 (Zdj t).toArray) (fun j _=>11 - (intOf j).toNat)
 case atStart=>exact ⟨0,rfl,bi _,by simpa using W3,P3,X3,P⟩
 case round =>
  obtain ⟨k,rfl,hk,a,s,A,hR⟩:=hrel;have N:=Zg0 (l:=t.take k) (fun x hx=>K.out x (ed hx));rw [cw] at N;by_cases E:k<11
  ·have M:k<t.length:=by omega
   have hc:=hR.cellAt k (Z G t[k]) (by rw [ep];exact Zbx t k M);have HS:=ae (Zrj M);obtain ⟨n0,n1⟩:=K.out t[k] (aw M);generalize t[k]=x at *;generalize (t.take k).flatMap Zbl=bs at *;clear X3 P3 W3 P;go_wp2_with fail;refine (Zdy g w.heap.size bs x wr n0 n1 a (by omega)).mono ?_;rintro e w4 ⟨⟨v4,rfl⟩,W4,k4⟩;have P4:=s.trans k4.1;have X4:=k4.blk A (by decide) (by decide);have R4:=k4.blk hR (by decide) (by decide);rw [<- HS.out] at W4;clear hc N;go_wp2_with fail;go_roundw
   case rel=>exact ⟨k+1,by go_num,by omega,W4,P4,X4,R4⟩
   case measure=>simp [intOf];omega
  ·obtain rfl:k=11:=by omega
   rw [et (by omega)] at a;have q:=A.c19;clear X3 P3 W3 P hR;generalize hE1:t.flatMap Zbl=bs at *;have aq:bs.length<=110:=by
    rw [<- hE1];have:=Zg0 K.out;omega
   have a1:=ae hE1;clear hE1 N;go_wp2_with fail;refine (HT.out _ s).mono ?_;rintro e w4 ⟨v4,rfl,o4,L⟩;have P4:=Zaa s L s.size;have W4:=a.grown L;have X4:=A.keep L;clear q a s A;go_wp2_with fail;refine (Zk0 g w.heap.size _ tb v4 w4 W4 (by omega) (by omega) a4.out o4.rep).mono ?_;rintro e w5 ⟨⟨v5,rfl⟩,W5,k5⟩;have P5:=P4.trans k5.1;have X5:=k5.blk X4 (by decide) (by decide);have an:(Zef tb).length<=940020:=by
    have:=Za9 (n:=tb.length) (by omega);unfold Zef;simp only [ai];omega
   have q:=X5.c19;clear W4 P4 X4 k5 o4;go_wp2_with fail;refine (Zdy g w.heap.size _ (el.length:Int) w5 (by omega) (by omega) W5 (by rw [ai];omega)).mono ?_;rintro e w6 ⟨⟨v6,rfl⟩,W6,k6⟩;have P6:=P5.trans k6.1;have X6:=k6.blk X5 (by decide) (by decide);have a7:=Za2 (n:=(el.length:Int)) (by omega) (by omega);clear q W5 P5 X5 k6;have q:=X6.c19;generalize hE2:bs++Zef tb++Zbl (el.length:Int)=z at *;have be:z.length<=950000:=by
    rw [<- hE2];simp only [ai];omega
   have a5:=ae hE2;clear hE2 a7 an aq;go_wp2_with fail;clear q;go_loopw [70] (fun j wr=>∃ k:Nat,j=Z G (k:Int)/\k<=el.length/\Ze0 wr w.heap.size g (z++prE (el.take k))/\Bl w wr/\Blk wr w.heap.size 48 #[iI 0,iI day,iI known,iI file,iI office,iI party,iI other,iI 0,iI 0,iI 0,iI 0,dv,cv,nN,I Ae el.length ce,iI 0,iI 0,nN,nN]) (fun j _=>el.length - (intOf j).toNat)
   case atStart=>exact ⟨0,rfl,bi _,by simpa [prE] using W6,P6,X6⟩
   case round =>
    obtain ⟨k,rfl,hk,a,s,A⟩:=hrel;have al:=Ztp (e:=el.take k) (fun p hp=>R.out p (ed hp));rw [cw] at al;by_cases E:k<el.length
    ·obtain ⟨b,o,rfl,hb,c0,c1⟩:=a2.out k E;have ad:b<w.heap.size:=ah hb C;have e0:=(s.cell (p:=⟨b,o+k * 2,none⟩) ad).trans c0;have e1:=(s.cell (p:=⟨b,o+k * 2+1,none⟩) ad).trans c1;obtain ⟨⟨p1,p2⟩,p3,p4⟩:=R.out _ (aw E);have HS:=ae (Zvy E);generalize el[k].1=x at *;generalize el[k].2=y at *;generalize prE (el.take k)=ps at *;have Q0:=s.alloc s.size (O #[Z G x,Z G y] 106);have Q:=A.alloc (O #[Z G x,Z G y] 106);have W0:=a.alloc (O #[Z G x,Z G y] 106);have Y0:=Blk.new wr 106 #[Z G x,Z G y];have a0:=Y0.c2;have bf:=Za2 (n:=x) (by omega) (by omega);clear c0 c1 W6 P6 X6 a s A;go_wp2_with fail;refine (Zdy g w.heap.size _ x _ (by omega) (by omega) W0 (by rw [ai];omega)).mono ?_;rintro e w7 ⟨⟨v7,rfl⟩,W7,k7⟩;have P7:=Q0.trans k7.1;have X7:=k7.blk Q (by decide) (by decide);have Y7:=k7.blk Y0 (by decide) (by decide);have aa:=Y7.c2;clear a0 W0 Q0 Q Y0 k7 e0 e1;go_wp2_with fail;refine (Zdy g w.heap.size _ y _ (by omega) (by omega) W7 (by simp only [ai];omega)).mono ?_;rintro e w8 ⟨⟨v8,rfl⟩,W8,k8⟩;have P8:=P7.trans k8.1;have X8:=k8.blk X7 (by decide) (by decide);have H:z++ps++Zbl x++Zbl y=z++(ps++Zbl x++Zbl y):=by simp only [ay]
     rw [H,<- HS.out] at W8;clear aa W7 P7 X7 k8 H;go_wp2_with fail;go_roundw
     case rel=>exact ⟨k+1,by go_num,by omega,W8,P8,X8⟩
     case measure=>simp [intOf];omega
    ·obtain rfl:k=el.length:=by omega
     rw [df] at a al;have q:=A.c19;have v:z++prE el=eb:=by rw [a6.out,<- a5.out,<- a1.out]
     rw [v] at a;have S:eb.length<=3000000000:=by
      rw [<- v,ai];omega
     clear v;clear W6 P6 X6 A;go_wp2_with fail;refine (Zir g w.heap.size _ wr a S).mono ?_;rintro e w7 ⟨v7,rfl,o7,a3⟩;clear q;go_wp2_with fail;exact bodyPost_ret (results_tmp2 rfl _ _ _) rfl ⟨_,rfl,o7.mono s.size,Zaa s a3 s.size⟩
def Zf2:List Int->List Int->Int
 | [],[]=>0
 | [],_::_=>-1
 | _::_,[]=>1
 | a::l,b::m=>if a<b then -1 else if b<a then 1 else Zf2 l m
theorem Zg1:∀ l m:List Int,Zf2 m l=- Zf2 l m
 | [],[]=>by simp [Zf2]
 | [],_::_=>by simp [Zf2]
 | _::_,[]=>by simp [Zf2]
 | a::l,b::m=>by
  have:=Zg1 l m;simp only [Zf2];by_cases h:a<b
  ·rw [if_pos h,if_neg (by omega),if_pos h];rfl
  ·by_cases c:b<a
   ·rw [if_pos c,if_neg h,if_pos c]
   ·rw [if_neg h,if_neg c,if_neg c,if_neg h,this]
theorem Zl8:∀ l:List Int,Zf2 l l=0
 | []=>rfl
 | a::l=>by simp only [Zf2];rw [if_neg (by omega),if_neg (by omega),Zl8 l]
theorem Zo2:∀ {l m:List Int},Zf2 l m=0->l=m
 | [],[],_=>rfl
 | [],_::_,h=>by simp [Zf2] at h
 | _::_,[],h=>by simp [Zf2] at h
 | a::l,b::m,h=>by
  simp only [Zf2] at h;by_cases h1:a<b
  ·rw [if_pos h1] at h;omega
  ·rw [if_neg h1] at h;by_cases c:b<a
   ·rw [if_pos c] at h;omega
   ·rw [if_neg c] at h;rw [Zo2 h,show a=b by omega]
theorem Zju:∀ {l m n:List Int},Zf2 l m<=0->Zf2 m n<=0->Zf2 l n<=0
 | [],_,[],_,_=>by simp [Zf2]
 | [],_,_::_,_,_=>by simp [Zf2]
 | _::_,[],_,h,_=>by simp [Zf2] at h
 | _::_,_::_,[],_,h=>by simp [Zf2] at h
 | a::l,b::m,c::n,h,h2=>by
  simp only [Zf2] at h h2 ⊢;by_cases d:a<c
  ·rw [if_pos d];omega
  ·rw [if_neg d];by_cases i:a<b
   ·have:¬ b<c:=by omega
    rw [if_neg this,if_pos (by omega)] at h2;omega
   ·rw [if_neg i] at h;by_cases f:b<a
    ·rw [if_pos f] at h;omega
    ·rw [if_neg f] at h;obtain rfl:a=b:=by omega
     rw [if_neg d] at h2;by_cases e:c<a
     ·rw [if_pos e] at h2;omega
     ·rw [if_neg e] at h2 ⊢;exact Zju h h2
def Fil.key (f:Fil):List Int:=f.day::f.known::(Zdh f).map fun n:Nat=>(n:Int)
theorem Yg2:∀ (n m:Nat) (x y:List Nat),uvL n++x=uvL m++y->n=m/\x=y:=by
 intro n;induction n using Nat.strongRecOn with
 | _ n ih =>
  intro m x y h;rw [show uvL n=(if h:n<128 then [n] else (128+n % 128)::uvL (n / 128)) from by rw [uvL],show uvL m=(if h:m<128 then [m] else (128+m % 128)::uvL (m / 128)) from by rw [uvL]] at h;by_cases hn:n<128
  ·rw [dif_pos hn] at h;by_cases hm:m<128
   ·rw [dif_pos hm] at h;simp only [dx,dm,List.cons.injEq] at h;exact h
   ·rw [dif_neg hm] at h;simp only [dx,dm,List.cons.injEq] at h;omega
  ·rw [dif_neg hn] at h;by_cases hm:m<128
   ·rw [dif_pos hm] at h;simp only [dx,dm,List.cons.injEq] at h;omega
   ·rw [dif_neg hm] at h;simp only [dx,List.cons.injEq] at h;obtain ⟨h1,a⟩:=ih (n / 128) (by omega) (m / 128) x y h.2;exact ⟨by omega,a⟩
theorem Yih {n:Int} (h:zz n=zz m):n=m:=by
 unfold zz at h;by_cases h1:n<0
 ·rw [if_pos h1] at h;by_cases a:m<0
  ·rw [if_pos a] at h;omega
  ·rw [if_neg a] at h;omega
 ·rw [if_neg h1] at h;by_cases a:m<0
  ·rw [if_pos a] at h;omega
  ·rw [if_neg a] at h;omega
theorem Zk5 {n:Int} {x y:List Nat} (h:Zbl n++x=Zbl m++y):n=m/\x=y:=by
 obtain ⟨h1,a⟩:=Yg2 _ _ _ _ h;exact ⟨Yih h1,a⟩
theorem Yd8 {f g:Fil} (h:Zdh f=Zdh g):f.day=g.day/\f.known=g.known/\f.file=g.file:=by
 unfold Zdh Fil.nums at h;simp only [de,er,ay] at h;obtain ⟨_,h⟩:=Zk5 h;obtain ⟨h1,h⟩:=Zk5 h;obtain ⟨a,h⟩:=Zk5 h;obtain ⟨b,_⟩:=Zk5 h;exact ⟨h1,a,b⟩
theorem Zo3 {f g:Fil}:f.key=g.key↔Zdh f=Zdh g:=by
 constructor
 ·intro h;unfold Fil.key at h;injection h with _ h;injection h with _ h;exact (List.map_inj_right (fun a b e=>by omega)).1 h
 ·intro h;obtain ⟨h1,c,_⟩:=Yd8 h;unfold Fil.key;rw [h,h1,c]
def Zf3 (f g:Fil):Int:=Zf2 f.key g.key
theorem Zrk {f g:Fil}:Zf3 f g=0↔Zdh f=Zdh g :=
 ⟨fun h=>Zo3.1 (Zo2 h),fun h=>by unfold Zf3;rw [Zo3.2 h];exact Zl8 _⟩
structure FV where
 f:Fil
 dv:Value
 cv:Value
 ev:Value
def FV.vals (x:FV):Array Value:=x.f.vals x.dv x.cv x.ev
theorem FV.size (x:FV):x.vals.size=19:=rfl
def Zb4 (l:List FV):Prop:=l.Pairwise fun x y=>Zf3 x.f y.f<=0
theorem Zl9 {c d:List FV} {x:FV} (hs:Zb4 (c++d)) (r:∀ y∈d,Zf3 x.f y.f<0) (q:∀ y p,c=p++[y]->¬ Zf3 x.f y.f<0):Zb4 (c++x::d):=by
 unfold Zb4 at *;rw [iy] at hs ⊢;obtain ⟨h1,o,t⟩:=hs;have e:∀ y∈c,Zf3 y.f x.f<=0:=by
  intro y hy;obtain ⟨p,z,k⟩:∃ p z,c=p++[z]:=⟨c.dropLast,c.getLast (List.ne_nil_of_mem hy),(List.dropLast_concat_getLast _).symm⟩;have s:=q z p k;have h:Zf3 z.f x.f<=0:=by
   have:=Zg1 z.f.key x.f.key;unfold Zf3 at *;omega
  rw [k] at hy h1;rcases List.mem_append.1 hy with hy | hy
  ·rw [iy] at h1;exact Zju (h1.2.2 y hy z (by simp)) h
  ·simp only [jd] at hy;rw [hy];exact h
 refine ⟨h1,?_,?_⟩
 ·rw [List.pairwise_cons];exact ⟨fun y hy=>by have:=r y hy;omega,o⟩
 ·intro a j b i;rcases List.mem_cons.1 i with rfl | i
  ·exact e a j
  ·exact t a j b i
theorem Ztq {b a:List FV} {x y:FV} (hs:Zb4 (b++[y]++a)) (d:∀ z∈a,Zf3 x.f z.f<0) (hy:Zf3 x.f y.f<0):Zb4 (b++(y::a))/\(∀ z∈y::a,Zf3 x.f z.f<0):=by
 refine ⟨by simpa using hs,fun z c=>?_⟩;rcases List.mem_cons.1 c with rfl | c
 ·exact hy
 ·exact d z c
theorem Blk.setRow {W:World} {t:TypeId} (h:Blk W g t cs) (vs:Array Value):Blk (W.setRow g vs) g t vs:=setRow_heap W g cs vs t _ h
theorem Zej (W:World) (g:Nat) (vs:Array Value):W.grownBy (W.setRow g vs) (some g):=by
 refine ⟨rfl,rfl,rfl,by simp [World.setRow],fun k _ a=>?_⟩;simp only [World.setRow,Array.getElem?_modify];rw [if_neg (fun e=>a (by rw [e]))]
theorem Zae {b:Array Value} (h:Blk w g 48 b) (hs:b.size=19) {ops:Array Oper} {rest:List Oper} {o:Oper} {a:Act} {Q:Exit->Act->World->Prop} (p v:Operand) (ho:o.op=.store 48 p v) (e:o.guard=none)
  (f:a.eval p=.pointer (some ⟨g,0,none⟩)) (vs:Array Value) (i:a.eval v=X vs) (c:vs.size=19) (h1:vs.all (·.oneCell')=true)
  (j:∀ d,Blk d g 48 vs->w.grownBy d (some g)->wpList prog ops Q rest (a.put o.dst undef) d):wpList prog ops Q (o::rest) a w :=
 wpList_store_row e 48 p v ho g vs f i 48 b h (by rw [c];kernel_rfl) (by rw [hs,c]) h1 (j _ (h.setRow vs) (Zej w g vs))
theorem Zah {fn:Func} {p:Tmp} (h:fn.results=#[.cell p 48]) (a:Array Value) (b:a.getD p undef=.pointer (some ⟨g,0,none⟩)) (c:Blk w g 48 cs) (hs:cs.size=19) :
  (results fn a).run prog w=.ok (X cs) w :=
 results_cell_row h a w g 48 cs _ _ b c underlying48 rfl (by rw [hs];kernel_rfl)
theorem Ztr (day known file office party other:Int) (u Ac t:Option Addr) (nd q o r ne s:Nat) (w:World) :
  Calls prog 84 #[X #[iI 0,iI day,iI known,iI file,iI office,iI party,iI other,iI 0,iI 0,iI 0,iI 0,I u nd q,I Ac o r,nN,I t ne s,iI 0,iI 0,nN,nN]] w
   fun e Q=>e=U (X #[iI 0,iI day,iI known,iI 0,iI 0,iI 0,iI 0,iI 0,iI 0,iI 0,iI 0,nN,nN,nN,nN,iI 0,iI 0,nN,nN])/\Bl w Q:=by
 have X0:=Blk.new w 48 #[iI 0,iI day,iI known,iI file,iI office,iI party,iI other,iI 0,iI 0,iI 0,iI 0,I u nd q,I Ac o r,nN,I t ne s,iI 0,iI 0,nN,nN];have C:=Zab w (O #[iI 0,iI day,iI known,iI file,iI office,iI party,iI other,iI 0,iI 0,iI 0,iI 0,I u nd q,I Ac o r,nN,I t ne s,iI 0,iI 0,nN,nN] 48);generalize hw1:w.alloc (O #[iI 0,iI day,iI known,iI file,iI office,iI party,iI other,iI 0,iI 0,iI 0,iI 0,I u nd q,I Ac o r,nN,I t ne s,iI 0,iI 0,nN,nN] 48)=H at *;have J:H.heap.size=w.heap.size+1:=by rw [<- hw1,ax]
 go_enter func84,ntmps84;go_upto_region 1 with fail;have j:=X0.alloc (O #[iI 0,iI 0,iI 0,iI 0,iI 0,iI 0,iI 0,iI 0,iI 0,iI 0,iI 0,nN,nN,nN,nN,iI 0,iI 0,nN,nN] 48);have v:=Blk.new H 48 #[iI 0,iI 0,iI 0,iI 0,iI 0,iI 0,iI 0,iI 0,iI 0,iI 0,iI 0,nN,nN,nN,nN,iI 0,iI 0,nN,nN];have V:=C.alloc C.size (O #[iI 0,iI 0,iI 0,iI 0,iI 0,iI 0,iI 0,iI 0,iI 0,iI 0,iI 0,nN,nN,nN,nN,iI 0,iI 0,nN,nN] 48);rw [J] at v;clear X0 C hw1;generalize H.alloc _=w2 at *;have a:=j.cell 0;go_upto_region 2 with (go_at_call 63;refine (Ztj _).mono ?_;rintro e Q ⟨rfl,c⟩;have c:=c.symm;subst c)
 have c3:=j.cell 3;have f3:=j.frozen 3;go_upto_region 3 with fail;have d:=(j.set 3 (Z G 0));have M:=(v.far (p:=⟨w.heap.size,3,none⟩) (ar _) (Z G 0));have P3:=(V.setCell (p:=⟨w.heap.size,3,none⟩) (ag _) (Z G 0));simp only [pB,pZ,pC] at d;clear c3 f3 a j v V;generalize (w2.setCell ⟨w.heap.size,3,none⟩ (Z G 0))=w3 at *;have a:=d.cell 0;have c4:=d.cell 4;have f4:=d.frozen 4;go_upto_region 6 with fail;have h:=(d.set 4 (Z G 0));have Y:=(M.far (p:=⟨w.heap.size,4,none⟩) (ar _) (Z G 0));have W:=(P3.setCell (p:=⟨w.heap.size,4,none⟩) (ag _) (Z G 0));simp only [pB,pZ,pC] at h;clear c4 f4 a d M P3;generalize (w3.setCell ⟨w.heap.size,4,none⟩ (Z G 0))=w4 at *;have a:=h.cell 0;have c5:=h.cell 5;have f5:=h.frozen 5;go_upto_region 7 with fail;have i:=(h.set 5 (Z G 0));have L:=(Y.far (p:=⟨w.heap.size,5,none⟩) (ar _) (Z G 0));have T:=(W.setCell (p:=⟨w.heap.size,5,none⟩) (ag _) (Z G 0));simp only [pB,pZ,pC] at i;clear c5 f5 a h Y W;generalize (w4.setCell ⟨w.heap.size,5,none⟩ (Z G 0))=w5 at *;have a:=i.cell 0;have c6:=i.cell 6;have f6:=i.frozen 6;go_upto_region 8 with fail;have b:=(i.set 6 (Z G 0));have S:=(L.far (p:=⟨w.heap.size,6,none⟩) (ar _) (Z G 0));have P6:=(T.setCell (p:=⟨w.heap.size,6,none⟩) (ag _) (Z G 0));simp only [pB,pZ,pC] at b;clear c6 f6 a i L T;generalize (w5.setCell ⟨w.heap.size,6,none⟩ (Z G 0))=w6 at *;have a:=b.cell 0;have A:=b.cell 11;have y:=b.frozen 11;have E:=b.cell 12;have B:=b.frozen 12;go_upto_region 9 with fail;have f:=((b.set 11 (I none 0 0)).set 12 (I none 0 0));have P:=((S.far (p:=⟨w.heap.size,11,none⟩) (ar _) (I none 0 0)).far (p:=⟨w.heap.size,12,none⟩) (ar _) (I none 0 0));have R:=((P6.setCell (p:=⟨w.heap.size,11,none⟩) (ag _) (I none 0 0)).setCell (p:=⟨w.heap.size,12,none⟩) (ag _) (I none 0 0));simp only [pB,pZ,pC] at f;clear A y E B a b S P6;generalize ((w6.setCell ⟨w.heap.size,11,none⟩ (I none 0 0)).setCell ⟨w.heap.size,12,none⟩ (I none 0 0))=w7 at *;have a:=f.cell 0;have K:=f.cell 14;have z:=f.frozen 14;go_upto_region 54 with fail;have x:=(f.set 14 (I none 0 0));have Y8:=(P.far (p:=⟨w.heap.size,14,none⟩) (ar _) (I none 0 0));have N:=(R.setCell (p:=⟨w.heap.size,14,none⟩) (ag _) (I none 0 0));simp only [pB,pZ,pC] at x;clear K z a f P R;generalize (w7.setCell ⟨w.heap.size,14,none⟩ (I none 0 0))=w8 at *;have a:=x.cell 0;clear a;go_wp2_with (first | (refine Zad x rfl _ rfl rfl rfl ?_) | (refine Zae Y8 rfl _ _ rfl rfl rfl _ rfl rfl (by kernel_rfl) ?_;intro wz Yz gz));have Pz:=N.grown gz N.size (fun k e=>by injection e with e;omega);exact bodyPost_ret (Zah rfl _ rfl Yz rfl) rfl ⟨rfl,Pz⟩
theorem Zrl (day known:Int) (w:World) :
  Calls prog 83 #[X #[iI 0,iI day,iI known,iI 0,iI 0,iI 0,iI 0,iI 0,iI 0,iI 0,iI 0,nN,nN,nN,nN,iI 0,iI 0,nN,nN]] w
   fun e k=>e=U (.bool true)/\Bl w k:=by
 have a:=Blk.new w 48 #[iI 0,iI day,iI known,iI 0,iI 0,iI 0,iI 0,iI 0,iI 0,iI 0,iI 0,nN,nN,nN,nN,iI 0,iI 0,nN,nN];have u:=Zab w (O #[iI 0,iI day,iI known,iI 0,iI 0,iI 0,iI 0,iI 0,iI 0,iI 0,iI 0,nN,nN,nN,nN,iI 0,iI 0,nN,nN] 48);go_enter func83,ntmps83;go_upto_region 1 with fail;generalize w.alloc _=b at *;have o:b.cell? ⟨w.heap.size,3,none⟩=some (Z G 0):=a.cell 3;have c4:b.cell? ⟨w.heap.size,4,none⟩=some (Z G 0):=a.cell 4;have c5:b.cell? ⟨w.heap.size,5,none⟩=some (Z G 0):=a.cell 5;have r:b.cell? ⟨w.heap.size,6,none⟩=some (Z G 0):=a.cell 6;have s:b.cell? ⟨w.heap.size,7,none⟩=some (Z G 0):=a.cell 7;have c8:b.cell? ⟨w.heap.size,8,none⟩=some (Z G 0):=a.cell 8;have v:b.cell? ⟨w.heap.size,9,none⟩=some (Z G 0):=a.cell 9;have h:b.cell? ⟨w.heap.size,10,none⟩=some (Z G 0):=a.cell 10;go_upto_region 2 with fail;clear o c4 c5 r s c8 v h;have f:b.cell? ⟨w.heap.size,15,none⟩=some (Z G 0):=a.cell 15;have c:b.cell? ⟨w.heap.size,16,none⟩=some (Z G 0):=a.cell 16;have d:b.cell? ⟨w.heap.size,17,none⟩=some (I none 0 0):=a.cell 17;have i:b.cell? ⟨w.heap.size,18,none⟩=some (I none 0 0):=a.cell 18;go_upto_region 3 with fail;clear f c d i;have q:b.cell? ⟨w.heap.size,11,none⟩=some (I none 0 0):=a.cell 11;have j:b.cell? ⟨w.heap.size,12,none⟩=some (I none 0 0):=a.cell 12;have p:b.cell? ⟨w.heap.size,13,none⟩=some (I none 0 0):=a.cell 13;have t:b.cell? ⟨w.heap.size,14,none⟩=some (I none 0 0):=a.cell 14;clear a;go_wp2_with fail;go_ret;exact ⟨rfl,u⟩
theorem Zo4 (f:Fil) (aq:Zby f) (dv cv ev:Value) (w:World) (B:Nat) (a:B<=w.heap.size) (h:Zbs w B f dv cv ev) :
  Calls prog 127 #[X (f.vals dv cv ev)] w fun e w'=>e=U (.bool true)/\Bl w w':=by
 obtain ⟨day,known,file,office,party,other,d,c,el⟩:=f;obtain ⟨a1,aa,Y,z,A,q,H,a5,N,E⟩:=aq;obtain ⟨hd,hc,he⟩:=h;unfold Fil.vals;dsimp only at *;have HV:=ae (fun (W:World) (hW:Bl w W)=>Zep d c H dv cv W B (aj a hW.size) (hd.keep (fun p V=>hW.cell (ah V a)) (ag _)) (hc.keep (fun p V=>hW.cell (ah V a)) (ag _)));have HO:=ae (fun W=>Zbb office 0 11 z.1 z.2 W);have a2:=ae (fun W=>Zbb party 1 4095 A.1 A.2 W);have al:=ae (fun W=>Zbb other (-1) 4095 q.1 q.2.1 W);obtain ⟨Ad,cd,rfl,x1,x2⟩:=hd.formulas;obtain ⟨Ac,cc,rfl,x3,x4⟩:=hc.claims;obtain ⟨T,K,rfl,x5,r⟩:=he.pairs;clear hd hc he H x1 x2 x3 x4 x5;generalize d.length=nd at *;generalize c.length=nc at *;have r:=ae r;have av:=ae N;have ad:=ae E;have J:(other == file)=false:=by simpa using q.2.2
 have Q:decide (8<(el.length:Int))=false:=by simp;omega
 clear q a1 aa z A N E Y;have C:=Blk.new w 48 #[iI 0,iI day,iI known,iI file,iI office,iI party,iI other,iI 0,iI 0,iI 0,iI 0,I Ad nd cd,I Ac nc cc,nN,I T el.length K,iI 0,iI 0,nN,nN];have S:=Zab w (O #[iI 0,iI day,iI known,iI file,iI office,iI party,iI other,iI 0,iI 0,iI 0,iI 0,I Ad nd cd,I Ac nc cc,nN,I T el.length K,iI 0,iI 0,nN,nN] 48);have v:=C.c19;go_enter func127,ntmps127;go_wp2_with fail;refine (HO.out _).mono ?_;rintro e w1 ⟨rfl,rfl⟩;go_wp2_with fail;refine (a2.out _).mono ?_;rintro e w1 ⟨rfl,rfl⟩;go_wp2_with fail;refine (al.out _).mono ?_;rintro e w1 ⟨rfl,rfl⟩;go_wp2_with fail;refine (HV.out _ S).mono ?_;rintro e w1 ⟨rfl,u⟩;have X1:=C.keep u;have P1:=Zaa S u S.size;clear v C S u;go_wp2_with fail;clear Q J;go_loopw [3] (fun j wr=>∃ k:Nat,j=Z G (k:Int)/\k<=el.length/\Bl w wr/\Blk wr w.heap.size 48 #[iI 0,iI day,iI known,iI file,iI office,iI party,iI other,iI 0,iI 0,iI 0,iI 0,I Ad nd cd,I Ac nc cc,nN,I T el.length K,iI 0,iI 0,nN,nN]) (fun j _=>el.length - (intOf j).toNat)
 case atStart=>exact ⟨0,rfl,bi _,P1,X1⟩
 case round =>
  obtain ⟨k,rfl,hk,L,hX⟩:=hrel;have s:wr.cell? ⟨w.heap.size,14,none⟩=some (I T el.length K):=hX.cell 14;have am:wr.cell? ⟨w.heap.size,3,none⟩=some (Z G file):=hX.cell 3;by_cases M:k<el.length
  ·obtain ⟨b,o,rfl,hb,c0,c1⟩:=r.out k M;have t:b<w.heap.size:=ah hb a;have e0:=(L.cell (p:=⟨b,o+k * 2,none⟩) t).trans c0;have e1:=(L.cell (p:=⟨b,o+k * 2+1,none⟩) t).trans c1;obtain ⟨⟨p1,p2⟩,⟨p3,p4⟩,p5⟩:=av.out _ (aw M);have an:=ae (fun W=>Zbb el[k].1 0 4095 p1 p2 W);have a3:=ae (fun W=>Zbb el[k].2 0 131072 p3 p4 W);have h5:(el[k].1 == file)=false:=by simpa using p5
   have a0:=ae (fun (j:Nat) (hj:j<k)=>(by
    have h7:=List.pairwise_iff_getElem.1 (List.nodup_iff_pairwise_ne.1 ad.out) j k (by simp;omega) (by simp;omega) hj;simpa using h7:(el[j]'(by omega)).1≠el[k].1))
   clear c0 c1 p1 p2 p3 p4 p5;generalize el[k].1=x at *;generalize el[k].2=y at *;have Q0:=L.alloc L.size (O #[Z G x,Z G y] 106);have C:=hX.alloc (O #[Z G x,Z G y] 106);have Y0:=Blk.new wr 106 #[Z G x,Z G y];have a6:=Y0.c2;have P:(wr.alloc (O #[Z G x,Z G y] 106)).cell? ⟨w.heap.size,3,none⟩=some (Z G file):=C.cell 3;clear X1 P1;go_wp2_with fail;refine (an.out _).mono ?_;rintro e w2 ⟨rfl,rfl⟩;go_wp2_with fail;refine (a3.out _).mono ?_;rintro e w2 ⟨rfl,rfl⟩;clear s am;go_wp2_with fail;clear h5 e0 e1 P;generalize hwy:wr.alloc (O #[Z G x,Z G y] 106)=wy at *;generalize hyb:wr.heap.size=yb at *;go_loopw [5] (fun j wq=>∃ i:Nat,j=Z G (i:Int)/\i<=k/\∃ n,wq=wy.drewN n) (fun j _=>k - (intOf j).toNat)
   case atStart=>exact ⟨0,rfl,bi _,0,rfl⟩
   case round =>
    obtain ⟨i,rfl,hi,n,rfl⟩:=hrel;by_cases ab:i<k
    ·obtain ⟨b2,o2,af,_,d0,_⟩:=r.out i (by omega);cases af;have R:=a0.out i ab;have f0:wy.cell? ⟨b,o+i * 2,none⟩=some (Z G (el[i]'(by omega)).1):=(Q0.cell (p:=⟨b,o+i * 2,none⟩) t).trans d0;have s:wy.cell? ⟨w.heap.size,14,none⟩=some (I (some ⟨b,o,none⟩) el.length K):=C.cell 14;have a4:((el[i]'(by omega)).1 == x)=false:=by simpa using R
     clear d0 R;generalize (el[i]'(by omega)).1=xi at *;go_wp2_with fail;go_quiet (fail);go_wp2;go_roundw
     case rel=>exact ⟨i+1,by go_num,by omega,_,rfl⟩
     case measure=>simp [intOf];omega
    ·obtain rfl:i=k:=by omega
     go_wp2_with fail;go_roundw
     case rel=>exact ⟨i+1,by go_num,by omega,Zag Q0 n,C.drewN n⟩
     case measure=>simp [intOf];omega
  ·obtain rfl:k=el.length:=by omega
   go_wp2_with fail;go_ret;exact ⟨rfl,L⟩
def Yd9 (x lo hi:Int):Bool:=decide (lo<=x) && decide (x<=hi)
theorem Zjv (x lo hi:Int) (w:World) :
  Calls prog 85 #[Z G x,Z G lo,Z G hi] w fun e b=>e=U (.bool (Yd9 x lo hi))/\b=w:=by
 by_cases h1:lo<=x
 ·by_cases a:x<=hi
  ·have e:Yd9 x lo hi=true:=by simp [Yd9,h1,a]
   rw [e];exact Zbb x lo hi h1 a w
  ·have e:Yd9 x lo hi=false:=by simp [Yd9,a]
   have d1:=decide_eq_true h1;have d2:=decide_eq_false a;rw [e];clear e;go_enter func85,ntmps85;go_wp2_with fail;go_ret;exact ⟨rfl,rfl⟩
 ·have e:Yd9 x lo hi=false:=by simp [Yd9,h1]
  have d1:=decide_eq_false h1;rw [e];clear e;go_enter func85,ntmps85;go_wp2_with fail;go_ret;exact ⟨rfl,rfl⟩
theorem Zm7 (f:Fil) (k:Zby f) (dv cv ev:Value) (w:World) (B:Nat) (j:B<=w.heap.size) (h:Zbs w B f dv cv ev) :
  Calls prog 86 #[X (f.vals dv cv ev)] w fun e H=>e=U (.bool true)/\Bl w H:=by
 have C:=ae (fun (W:World) (A:Bl w W)=>Zo4 f k dv cv ev W B (aj j A.size) (h.keep (fun p E=>A.cell (ah E j)) (ag _)));have b:=k.2.2.2.2.1;clear h k j;obtain ⟨day,known,file,office,party,other,d,c,el⟩:=f;unfold Fil.vals at *;dsimp only at *;clear d c el;have K:=ae (fun W=>Zbb party 1 4095 b.1 b.2 W);have L:=ae (fun W=>Zjv other 1 4095 W);have z:=ae (fun W=>Zjv 0 day 131072 W);clear b;generalize Yd9 other 1 4095=J at *;generalize Yd9 0 day 131072=N at *;have o:=Blk.new w 48 #[iI 0,iI day,iI known,iI file,iI office,iI party,iI other,iI 0,iI 0,iI 0,iI 0,dv,cv,nN,ev,iI 0,iI 0,nN,nN];have q:=Zab w (O #[iI 0,iI day,iI known,iI file,iI office,iI party,iI other,iI 0,iI 0,iI 0,iI 0,dv,cv,nN,ev,iI 0,iI 0,nN,nN] 48);have t:(w.alloc (O #[iI 0,iI day,iI known,iI file,iI office,iI party,iI other,iI 0,iI 0,iI 0,iI 0,dv,cv,nN,ev,iI 0,iI 0,nN,nN] 48)).cell? ⟨w.heap.size,0,none⟩=some (Z G 0):=o.cell 0;have x:(w.alloc (O #[iI 0,iI day,iI known,iI file,iI office,iI party,iI other,iI 0,iI 0,iI 0,iI 0,dv,cv,nN,ev,iI 0,iI 0,nN,nN] 48)).cell? ⟨w.heap.size,1,none⟩=some (Z G day):=o.cell 1;have u:(w.alloc (O #[iI 0,iI day,iI known,iI file,iI office,iI party,iI other,iI 0,iI 0,iI 0,iI 0,dv,cv,nN,ev,iI 0,iI 0,nN,nN] 48)).cell? ⟨w.heap.size,5,none⟩=some (Z G party):=o.cell 5;have s:(w.alloc (O #[iI 0,iI day,iI known,iI file,iI office,iI party,iI other,iI 0,iI 0,iI 0,iI 0,dv,cv,nN,ev,iI 0,iI 0,nN,nN] 48)).cell? ⟨w.heap.size,6,none⟩=some (Z G other):=o.cell 6;have r:(w.alloc (O #[iI 0,iI day,iI known,iI file,iI office,iI party,iI other,iI 0,iI 0,iI 0,iI 0,dv,cv,nN,ev,iI 0,iI 0,nN,nN] 48)).cell? ⟨w.heap.size,7,none⟩=some (Z G 0):=o.cell 7;go_enter func86,ntmps86;go_upto_region 1 with fail;generalize w.alloc _=w0 at *;go_wp2_with fail;refine (K.out _).mono ?_;rintro e v ⟨rfl,a⟩;have a:=a.symm;subst a;go_wp2_with fail;refine (L.out _).mono ?_;rintro e v ⟨rfl,a⟩;have a:=a.symm;subst a;cases J with
 | false =>
  go_wp2_with fail;refine (z.out _).mono ?_;rintro e v ⟨rfl,a⟩;have a:=a.symm;subst a;clear x u s r;go_wp2_with (refine Zad o rfl _ rfl rfl rfl ?_);refine (C.out _ q).mono ?_;rintro e v ⟨rfl,i⟩;have y:=Zaa q i q.size;clear t;go_wp2_with fail;go_ret;exact ⟨rfl,y⟩
 | true =>
  generalize hpo:(party != other)=M at *;go_wp2_with fail;refine (z.out _).mono ?_;rintro e v ⟨rfl,a⟩;have a:=a.symm;subst a;clear x u s r hpo;go_wp2_with (refine Zad o rfl _ rfl rfl rfl ?_);refine (C.out _ q).mono ?_;rintro e v ⟨rfl,i⟩;have y:=Zaa q i q.size;clear t;go_wp2_with fail;go_ret;exact ⟨rfl,y⟩
theorem Zgd (f:Fil) (q:Zby f) (dv cv ev:Value) (w:World) (B:Nat) (r:B<=w.heap.size) (h:Zbs w B f dv cv ev) :
  Calls prog 43 #[X (f.vals dv cv ev)] w fun e w'=>e=U (Z G 0)/\Bl w w':=by
 have HF:=ae (fun (W:World) (hW:Bl w W)=>Zm7 f q dv cv ev W B (aj r hW.size) (h.keep (fun p hp=>hW.cell (ah hp r)) (ag _)));obtain ⟨day,known,file,office,party,other,d,c,el⟩:=f;obtain ⟨i,k,j,V,Y,ab,M,u,E,L⟩:=q;obtain ⟨hd,hc,he⟩:=h;unfold Fil.vals at *;dsimp only at *;obtain ⟨Ad,N,rfl,x1,x2⟩:=hd.formulas;obtain ⟨Ac,v,rfl,x3,x4⟩:=hc.claims;obtain ⟨z,Q,rfl,x5,x6⟩:=he.pairs;clear hd hc he M E L x1 x2 x3 x4 x5 x6 ab u V Y;generalize d.length=nd at *;generalize c.length=C at *;generalize el.length=ne at *;have x:=ae (fun (W:World)=>Ztr day known file office party other Ad Ac z nd N C v ne Q W);have J:=ae (fun (W:World)=>Zrl day known W);have HK:=ae (fun W=>Zbb 0 0 21 (by omega) (by omega) W);have HD:=ae (fun W=>Zbb day 0 131072 i.1 i.2 W);have HN:=ae (fun W=>Zbb known 0 1099511627776 k.1 k.2 W);have T:=ae (fun W=>Zbb file 0 4095 j.1 j.2 W);clear i k j;have X0:=Blk.new w 48 #[iI 0,iI day,iI known,iI file,iI office,iI party,iI other,iI 0,iI 0,iI 0,iI 0,I Ad nd N,I Ac C v,nN,I z ne Q,iI 0,iI 0,nN,nN];have P:=Zab w (O #[iI 0,iI day,iI known,iI file,iI office,iI party,iI other,iI 0,iI 0,iI 0,iI 0,I Ad nd N,I Ac C v,nN,I z ne Q,iI 0,iI 0,nN,nN] 48);go_enter func43,ntmps43;go_wp2_with (refine Zad X0 rfl _ rfl rfl rfl ?_);refine (x.out _).mono ?_;rintro e w1 ⟨rfl,b⟩;have X1:=X0.keep b;have R:=Zaa P b P.size;clear X0 P b;go_wp2_with fail;refine (J.out _).mono ?_;rintro e w2 ⟨rfl,o⟩;have s:=X1.keep o;have K:=Zaa R o R.size;clear X1 R o;have aa:w2.cell? ⟨w.heap.size,0,none⟩=some (Z G 0):=s.cell 0;have S:w2.cell? ⟨w.heap.size,1,none⟩=some (Z G day):=s.cell 1;have H:w2.cell? ⟨w.heap.size,2,none⟩=some (Z G known):=s.cell 2;have y:w2.cell? ⟨w.heap.size,3,none⟩=some (Z G file):=s.cell 3;go_wp2_with fail;refine (HK.out _).mono ?_;rintro e t ⟨rfl,a⟩;have a:=a.symm;subst a;go_wp2_with fail;refine (HD.out _).mono ?_;rintro e t ⟨rfl,a⟩;have a:=a.symm;subst a;go_wp2_with fail;refine (HN.out _).mono ?_;rintro e t ⟨rfl,a⟩;have a:=a.symm;subst a;go_wp2_with fail;refine (T.out _).mono ?_;rintro e t ⟨rfl,a⟩;have a:=a.symm;subst a;go_wp2_with (refine Zad s rfl _ rfl rfl rfl ?_);refine (HF.out _ K).mono ?_;rintro e t ⟨rfl,A⟩;have P3:=Zaa K A K.size;clear aa S H y;go_wp2_with fail;go_ret;exact ⟨rfl,P3⟩
theorem Zma (f:Fil) (v:Zby f) (dv cv ev:Value) (w:World) (B:Nat) (J:B<=w.heap.size) (h:Zbs w B f dv cv ev) :
  Calls prog 45 #[X (f.vals dv cv ev)] w fun e w'=>∃ u,e=U (.tuple #[u,Z G 0])/\Zd2 w' w.heap.size u (Zdh f)/\Bl w w':=by
 have i:∀ W,Bl w W->∀ p:Addr,p.block<B->W.cell? p=w.cell? p:=fun W r p hp=>r.cell (ah hp J);have HV:=ae (fun (W:World) (r:Bl w W)=>Zgd f v dv cv ev W B (aj J r.size) (h.keep (i W r) (ag _)));have HT:=ae (fun (W:World) (r:Bl w W)=>Zm4 f.d f.c v.2.2.2.2.2.2.1 dv cv W B (aj J r.size) (h.1.keep (i W r) (ag _)) (h.2.1.keep (i W r) (ag _)));have bo:=Zow v.2.2.2.2.2.2.1;have Y:=ae v.nums;have aa:=ae v.earl;have bf:f.e.length<=8:=v.2.2.2.2.2.2.2.1;have aq:Zdh f=f.nums.flatMap Zbl++Zef (Zth f.d f.c)++Zbl (f.e.length:Int)++prE f.e:=rfl;obtain ⟨V,L,rfl,x5,x6⟩:=h.2.2.pairs;clear h v i x5;have a6:=ae x6;clear x6;generalize Zth f.d f.c=tb at *;have bl:f.nums.length=11:=rfl;have am:f.nums=[0,f.day,f.known,f.file,f.office,f.party,f.other,0,0,0,0]:=rfl;generalize Zdh f=eb at *;generalize f.nums=z at *;obtain ⟨day,known,file,office,party,other,d,c,el⟩:=f;unfold Fil.vals at *;dsimp only at *;clear d c;have a3:=ae aq;have a2:=ae am;clear aq am;have X0:=Blk.new w 48 #[iI 0,iI day,iI known,iI file,iI office,iI party,iI other,iI 0,iI 0,iI 0,iI 0,dv,cv,nN,I V el.length L,iI 0,iI 0,nN,nN];have P0:=Zab w (O #[iI 0,iI day,iI known,iI file,iI office,iI party,iI other,iI 0,iI 0,iI 0,iI 0,dv,cv,nN,I V el.length L,iI 0,iI 0,nN,nN] 48);go_enter func45,ntmps45;go_wp2_with (refine Zad X0 rfl _ rfl rfl rfl ?_);refine (HV.out _ P0).mono ?_;rintro e w1 ⟨rfl,S⟩;have P1:=Zaa P0 S P0.size;have X1:=X0.keep S;clear S P0 X0;have af:=X1.c19;go_upto_region 6 with fail;have R3:=Blk.new w1 3 #[iI 0,iI day,iI known,iI file,iI office,iI party,iI other,iI 0,iI 0,iI 0,iI 0];have X3:=X1.alloc (O #[iI 0,iI day,iI known,iI file,iI office,iI party,iI other,iI 0,iI 0,iI 0,iI 0] 3);have P3:=P1.alloc P1.size (O #[iI 0,iI day,iI known,iI file,iI office,iI party,iI other,iI 0,iI 0,iI 0,iI 0] 3);have bg:(w1.alloc (O #[iI 0,iI day,iI known,iI file,iI office,iI party,iI other,iI 0,iI 0,iI 0,iI 0] 3)).heap.size=w1.heap.size+1:=ax ..;have al:(Zdj z).toArray=#[iI 0,iI day,iI known,iI file,iI office,iI party,iI other,iI 0,iI 0,iI 0,iI 0]:=by rw [a2.out];rfl
 have R3:Blk (w1.alloc (O #[iI 0,iI day,iI known,iI file,iI office,iI party,iI other,iI 0,iI 0,iI 0,iI 0] 3)) w1.heap.size 3 (Zdj z).toArray:=by rw [al];exact R3
 have bc:=X1.lt;clear af X1 P1;generalize w1.alloc _=w3 at *;clear al;generalize w1.heap.size=g at *;have O3:Zd2 w3 (g+1) (I none 0 0) []:=Zd2.nil ..;go_loopw [5,6] (fun u j wr=>∃ k:Nat,j=Z G (k:Int)/\k<=11/\Zd2 wr (g+1) u ((z.take k).flatMap Zbl)/\Bl w wr/\Blk wr w.heap.size 48 #[iI 0,iI day,iI known,iI file,iI office,iI party,iI other,iI 0,iI 0,iI 0,iI 0,dv,cv,nN,I V el.length L,iI 0,iI 0,nN,nN]/\Blk wr g 3 (Zdj z).toArray) (fun _ j _=>11 - (intOf j).toNat)
 case atStart=>exact ⟨0,rfl,bi _,by simpa using O3,P3,X3,R3⟩
 case round =>
  obtain ⟨k,rfl,hk,hO,hB,hX,hR⟩:=hrel;have ad:=Zg0 (l:=z.take k) (fun x hx=>Y.out x (ed hx));rw [cw] at ad;by_cases E:k<11
  ·have Q:k<z.length:=by omega
   have hc:=hR.cellAt k (Z G z[k]) (by rw [ep];exact Zbx z k Q);have HS:=ae (Zrj Q);obtain ⟨n0,n1⟩:=Y.out z[k] (aw Q);have an:=Za2 n0 n1;generalize z[k]=x at *;generalize (z.take k).flatMap Zbl=bs at *;clear X3 P3 O3 R3;go_wp2_with fail;refine (Zcf x n0 n1 wr).mono ?_;rintro e w4 ⟨v4,rfl,R,a⟩;have P4:=Zaa hB a hB.size;have X4:=hX.keep a;have R4:=hR.keep a;have O4:=hO.below a;have a7:=R4.lt;clear hc;go_wp2_with (at_builtin;refine Za7 rfl _ _ rfl (g+1) _ bs rfl O4 _ (Zbl x) rfl R.rep (by omega) a7 ?_;intro v7 w7 N C);have P7:=P4.grown C P4.size (fun q e=>by have:=O4.lt q e;omega);have X7:=X4.grown C (fun e=>by have:=O4.lt _ e.symm;omega);have R7:=R4.grown C (fun e=>by have:=O4.lt _ e.symm;omega);rw [<- HS.out] at N;go_roundw
   case rel=>exact ⟨k+1,by go_num,by omega,N,P7,X7,R7⟩
   case measure=>simp [intOf];omega
  ·obtain rfl:k=11:=by omega
   rw [et (by omega)] at hO;have s:=hX.c19;clear X3 P3 O3 R3 hR;generalize hE1:z.flatMap Zbl=bs at *;have a1:bs.length<=110:=by
    rw [<- hE1];have:=Zg0 Y.out;omega
   have a4:=ae hE1;have W0:Zst w wr 48 #[iI 0,iI day,iI known,iI file,iI office,iI party,iI other,iI 0,iI 0,iI 0,iI 0,dv,cv,nN,I V el.length L,iI 0,iI 0,nN,nN] _ bs:=⟨hX,hB,hO.mono (by omega)⟩
   clear hE1 ad hX hB hO;go_wp2_with fail;refine (HT.out _ W0.2.1).mono ?_;rintro e w4 ⟨v4,rfl,R,a⟩;have T:=W0.call a;clear s W0 a;have a8:(Zef tb).length<=940020:=by
    have:=Za9 (n:=tb.length) (by omega);unfold Zef;simp only [ai];omega
   go_wp2_with fail;refine (Zhd v4 tb _ (by omega) R.rep).mono ?_;rintro e w5 ⟨v5,rfl,o5,av⟩;have W5:=T.call av;clear T R av;go_upto_region 13 with (at_builtin;refine Za7 rfl _ _ rfl (w.heap.size+1) _ bs rfl W5.2.2 _ (Zef tb) rfl o5.rep (by omega) W5.size ?_;intro v7 w7 N C)
   have M:=W5.app N C;clear W5 o5 N C;have s:w7.cell? ⟨w.heap.size,14,none⟩=some (I V el.length L):=M.1.cell 14;have an:=Za2 (n:=(el.length:Int)) (by omega) (by omega);go_wp2_with fail;refine (Zcf (el.length:Int) (by omega) (by omega) w7).mono ?_;rintro e w8 ⟨v8,rfl,o8,A⟩;have H:=M.call A;clear s M A;go_upto_region 15 with (at_builtin;refine Za7 rfl _ _ rfl (w.heap.size+1) _ (bs++Zef tb) rfl H.2.2 _ (Zbl (el.length:Int)) rfl o8.rep (by rw [ai];omega) H.size ?_;intro v9 w9 o9 g9)
   have W9:=H.app o9 g9;clear H o8 o9 g9;generalize hE2:bs++Zef tb++Zbl (el.length:Int)=t at *;have bh:t.length<=950000:=by
    rw [<- hE2];simp only [ai];omega
   have a0:=ae hE2;clear hE2 an a8 a1;go_loopw [5,9] (fun u j wr=>∃ k:Nat,j=Z G (k:Int)/\k<=el.length/\Zst w wr 48 #[iI 0,iI day,iI known,iI file,iI office,iI party,iI other,iI 0,iI 0,iI 0,iI 0,dv,cv,nN,I V el.length L,iI 0,iI 0,nN,nN] u (t++prE (el.take k))) (fun _ j _=>el.length - (intOf j).toNat)
   case atStart=>exact ⟨0,rfl,bi _,by simpa [prE] using W9⟩
   case round =>
    obtain ⟨k,rfl,hk,r⟩:=hrel;have a5:=Ztp (e:=el.take k) (fun p hp=>aa.out p (ed hp));rw [cw] at a5;have s:wr.cell? ⟨w.heap.size,14,none⟩=some (I V el.length L):=r.1.cell 14;by_cases E:k<el.length
    ·obtain ⟨b,o,rfl,hb,c0,c1⟩:=a6.out k E;have ab:b<w.heap.size:=ah hb J;have e0:=(r.2.1.cell (p:=⟨b,o+k * 2,none⟩) ab).trans c0;obtain ⟨⟨p1,p2⟩,p3,p4⟩:=aa.out _ (aw E);have HS:=ae (Zvy E);have a9:=ae c1;generalize el[k].1=x at *;generalize el[k].2=y at *;generalize prE (el.take k)=ps at *;have bn:=Za2 (n:=x) (by omega) (by omega);have be:=Za2 (n:=y) (by omega) (by omega);clear c0 c1 W9;go_wp2_with fail;refine (Zcf x (by omega) (by omega) wr).mono ?_;rintro e w4 ⟨v4,rfl,R,a⟩;have T:=r.call a;clear s e0 r a;go_upto_region 18 with (at_builtin;refine Za7 rfl _ _ rfl (w.heap.size+1) _ (t++ps) rfl T.2.2 _ (Zbl x) rfl R.rep (by rw [ai];omega) T.size ?_;intro v7 w7 N C)
     have M:=T.app N C;clear T R N C;have s:w7.cell? ⟨w.heap.size,14,none⟩=some (I (some ⟨b,o,none⟩) el.length L):=M.1.cell 14;have e1:=(M.2.1.cell (p:=⟨b,o+k * 2+1,none⟩) ab).trans a9.out;go_wp2_with fail;refine (Zcf y (by omega) (by omega) w7).mono ?_;rintro e w8 ⟨v8,rfl,o8,A⟩;have H:=M.call A;clear s e1 M A;go_wp2_with (at_builtin;refine Za7 rfl _ _ rfl (w.heap.size+1) _ (t++ps++Zbl x) rfl H.2.2 _ (Zbl y) rfl o8.rep (by simp only [ai];omega) H.size ?_;intro v9 w9 o9 g9);have W9:=H.app o9 g9;have P:t++ps++Zbl x++Zbl y=t++(ps++Zbl x++Zbl y):=by simp only [ay]
     rw [P,<- HS.out] at W9;clear H o8 o9 g9 P;go_roundw
     case rel=>exact ⟨k+1,by go_num,by omega,W9⟩
     case measure=>simp [intOf];omega
    ·obtain rfl:k=el.length:=by omega
     rw [df] at r;have bk:wr.cell? ⟨w.heap.size,13,none⟩=some (I none 0 0):=r.1.cell 13;have K:t++prE el=eb:=by rw [a3.out,<- a0.out,<- a4.out]
     rw [K] at r;clear K W9;go_wp2_with fail;exact bodyPost_ret (results_tmp2 rfl _ _ _) rfl ⟨_,rfl,r.2.2.mono (gq _),r.2.1⟩
theorem Zfq (f:Fil):Zb6 (Zdh f) :=
 (((Zb6.flat fun _ _=>Zc3 _).app (Zit (Zns _ _))).app (Zc3 _)).app (Zb6.flat fun _ _=>(Zc3 _).app (Zc3 _))
theorem Zex {f:Fil} (h:Zby f):(Zdh f).length<=1000000:=by
 have h1:=Zg0 h.nums;have a:=Zow h.2.2.2.2.2.2.1;have o:=Za2 (n:=(f.e.length:Int)) (by omega) (by have:=h.2.2.2.2.2.2.2.1;omega);have i:=Ztp h.earl;have k:=h.2.2.2.2.2.2.2.1;have j:=Za9 (n:=(Zth f.d f.c).length) (by omega);have b:f.nums.length=11:=rfl;unfold Zdh Zef;simp only [ai];omega
theorem Zrm (f:Fil) (b:Zby f) (dv cv ev:Value) (salt:Nat) (hs:salt<18446744073709551616) (w:World) (B:Nat) (a:B<=w.heap.size) (h:Zbs w B f dv cv ev) :
  Calls prog 64 #[X (f.vals dv cv ev),Z .u64 (salt:Int)] w fun e v=>e=U (Z .u64 (Zbo (Zdh f) salt:Int))/\Bl w v:=by
 have u:=ae (fun (W:World) (q:Bl w W)=>Zma f b dv cv ev W B (aj a q.size) (h.keep (fun p t=>q.cell (ah t a)) (ag _)));have s:=Zex b;have i:=ae (Zfq f);clear h b a;generalize Zdh f=bs at *;have y:(f.vals dv cv ev).size=19:=rfl;have E:=Blk.new w 48 (f.vals dv cv ev);have k:=Zab w (O (f.vals dv cv ev) 48);obtain ⟨day,known,file,office,party,other,d,c,el⟩:=f;unfold Fil.vals at *;dsimp only at *;clear d c el;go_enter func64,ntmps64;go_wp2_with (refine Zad E rfl _ rfl rfl rfl ?_);refine (u.out _ k).mono ?_;rintro e z ⟨A,rfl,x,j⟩;have r:=Zaa k j k.size;go_wp2_with fail;refine (Zoy A bs i.out (by omega) salt hs z x.rep).mono ?_;rintro e w2 ⟨rfl,o⟩;have C:=Zaa r o r.size;go_wp2_with fail;go_ret;exact ⟨rfl,C⟩
def Zif (x y:Int):Int:=if x<y then -1 else if y<x then 1 else 0
theorem Zfr (x y:Int) (l m:List Int):Zf2 (x::l) (y::m)=if Zif x y=0 then Zf2 l m else Zif x y:=by
 simp only [Zf2];by_cases h1:x<y
 ·have e:Zif x y=-1:=by unfold Zif;rw [if_pos h1]
  rw [if_pos h1,e,if_neg (by omega)]
 ·by_cases a:y<x
  ·have e:Zif x y=1:=by unfold Zif;rw [if_neg h1,if_pos a]
   rw [if_neg h1,if_pos a,e,if_neg (by omega)]
  ·have e:Zif x y=0:=by unfold Zif;rw [if_neg h1,if_neg a]
   rw [if_neg h1,if_neg a,e,if_pos rfl]
theorem Zmb (x:Int) (w:World):Calls prog 119 #[Z G x] w fun e a=>e=U (.bool false)/\a=w:=by
 go_enter func119,ntmps119;go_wp2_with fail;go_ret;exact ⟨by first | rfl | simp,rfl⟩
theorem Zjw (x:Int) (w:World):Calls prog 167 #[Z .u8 x] w fun e a=>e=U (.bool false)/\a=w:=by
 go_enter func167,ntmps167;go_wp2_with fail;go_ret;exact ⟨by first | rfl | simp,rfl⟩
theorem Znv (x y:Int) (w:World):Calls prog 80 #[Z G x,Z G y] w fun e b=>e=U (Z G (Zif x y))/\b=w:=by
 unfold Zif;by_cases h1:x<y
 ·have d1:=decide_eq_true h1;rw [if_pos h1];go_enter func80,ntmps80;go_wp2_with (first | (go_at_call 119;refine (Zmb _ _).mono ?_;rintro e b ⟨rfl,rfl⟩));go_ret;exact ⟨rfl,rfl⟩
 ·have d1:=decide_eq_false h1;rw [if_neg h1];by_cases a:y<x
  ·have d2:=decide_eq_true a;rw [if_pos a];go_enter func80,ntmps80;go_wp2_with (first | (go_at_call 119;refine (Zmb _ _).mono ?_;rintro e b ⟨rfl,rfl⟩));go_ret;exact ⟨rfl,rfl⟩
  ·have d2:=decide_eq_false a;rw [if_neg a];go_enter func80,ntmps80;go_wp2_with (first | (go_at_call 119;refine (Zmb _ _).mono ?_;rintro e b ⟨rfl,rfl⟩));go_ret;exact ⟨rfl,rfl⟩
theorem Zts (x y:Int) (w:World):Calls prog 126 #[Z .u8 x,Z .u8 y] w fun e b=>e=U (Z G (Zif x y))/\b=w:=by
 unfold Zif;by_cases h1:x<y
 ·have d1:=decide_eq_true h1;rw [if_pos h1];go_enter func126,ntmps126;go_wp2_with (first | (go_at_call 167;refine (Zjw _ _).mono ?_;rintro e b ⟨rfl,rfl⟩));go_ret;exact ⟨rfl,rfl⟩
 ·have d1:=decide_eq_false h1;rw [if_neg h1];by_cases a:y<x
  ·have d2:=decide_eq_true a;rw [if_pos a];go_enter func126,ntmps126;go_wp2_with (first | (go_at_call 167;refine (Zjw _ _).mono ?_;rintro e b ⟨rfl,rfl⟩));go_ret;exact ⟨rfl,rfl⟩
  ·have d2:=decide_eq_false a;rw [if_neg a];go_enter func126,ntmps126;go_wp2_with (first | (go_at_call 167;refine (Zjw _ _).mono ?_;rintro e b ⟨rfl,rfl⟩));go_ret;exact ⟨rfl,rfl⟩
theorem Zx0 {ps:List Nat} {k:Nat} (a:k<ps.length):(bys ps)[k]?=some (Z .u8 (ps[k]:Int)):=by simp [bys,a]
def zl (l:List Nat):List Int:=l.map fun n:Nat=>(n:Int)
theorem Zo5 {l:List Nat} {k:Nat} (h:k<l.length):zl (l.drop k)=(l[k]:Int)::zl (l.drop (k+1)):=by
 rw [ct h];rfl
theorem Yaf {l:List Nat} {k:Nat} (h:l.length<=k):zl (l.drop k)=[]:=by
 rw [gh h];rfl
theorem Zrn (l m:List Nat) (hl:l.length<=1000000000) (v H:Value) (w:World) (h1:Rep w w.heap.size v (.s 1 (Zdv (bys l)))) (C:Rep w w.heap.size H (.s 1 (Zdv (bys m)))) :
  Calls prog 82 #[v,H] w fun e x=>e=U (Z G (Zf2 (zl l) (zl m)))/\x=w:=by
 obtain ⟨A,c,rfl,hc,h⟩:=h1.row;obtain ⟨A',c',rfl,y,d⟩:=C.row;rw [Za0] at hc y ⊢;rw [Za0];have N:=ae h;have S:=ae d;clear h1 C h d;generalize hR:Zf2 (zl l) (zl m)=R;have K:=ae hR;clear hR;go_enter func82,ntmps82;go_wp2_with fail;go_loopw [11] (fun i wr=>∃ q:Nat,i=Z G (q:Int)/\q<=l.length/\q<=m.length/\Hid (Zf2 (zl (l.drop q)) (zl (m.drop q))=R)/\wr=w) (fun i _=>l.length - (intOf i).toNat)
 case atStart=>exact ⟨0,rfl,bi _,bi _,K,by first | rfl | trivial⟩
 case round =>
  obtain ⟨q,rfl,W,L,t,rfl⟩:=hrel;by_cases j:q<l.length
  ·obtain ⟨b,oo,rfl,V,T⟩:=N.out q _ (Zx0 j);have hd:=decide_eq_true j;by_cases f:q<m.length
   ·obtain ⟨b2,Y,rfl,Q,M⟩:=S.out q _ (Zx0 f);have p:decide (m.length<=q)=false:=decide_eq_false (by omega);have a:=t.out;rw [Zo5 j,Zo5 f,Zfr] at a;generalize l[q]=B at *;generalize m[q]=J at *;have E:=ae (Zts (B:Int) (J:Int) wr);generalize hz:Zif (B:Int) (J:Int)=z at *;by_cases o:z=0
    ·rw [if_pos o] at a;have u:=ae a;subst o;clear hz a;go_wp2_with (first | (go_at_call 126;refine E.out.mono ?_;rintro e x ⟨rfl,rfl⟩));go_roundw
     case rel=>exact ⟨q+1,by go_num,by omega,by omega,u,by first | rfl | trivial⟩
     case measure=>simp [intOf];omega
    ·rw [if_neg o] at a;have P:(z == 0)=false:=by rw [beq_eq_false_iff_ne];exact o
     have r:=ae a;clear hz a;go_wp2_with (first | (go_at_call 126;refine E.out.mono ?_;rintro e x ⟨rfl,rfl⟩));go_ret;exact ⟨by rw [<- r.out];rfl,by first | rfl | trivial⟩
   ·have p:decide (m.length<=q)=true:=decide_eq_true (by omega);have a:=t.out;rw [Zo5 j,Yaf (l:=m) (k:=q) (by omega)] at a;generalize l[q]=B at *;have r:=ae (a.symm.trans (show Zf2 ((B:Int)::zl (l.drop (q+1))) []=1 from rfl));clear a;go_wp2_with fail;go_ret;exact ⟨by rw [r.out];rfl,by first | rfl | trivial⟩
  ·have hd:=decide_eq_false j;obtain rfl:q=l.length:=by omega
   have a:=t.out;rw [Yaf (l:=l) (k:=l.length) (ag _)] at a;by_cases f:l.length<m.length
   ·have p:=decide_eq_true f;rw [Zo5 f] at a;have r:=ae (a.symm.trans (show Zf2 [] _=-1 from rfl));clear a;go_wp2_with fail;go_ret;exact ⟨by rw [r.out];rfl,by first | rfl | trivial⟩
   ·have p:=decide_eq_false f;rw [Yaf (l:=m) (k:=l.length) (by omega)] at a;have r:=ae (a.symm.trans (show Zf2 [] []=0 from rfl));clear a;go_wp2_with fail;go_ret;exact ⟨by rw [r.out];rfl,by first | rfl | trivial⟩
theorem Yag (x y:Int) (g:Nat) (w:World) (d:Blk w g 3 #[Z G x,Z G y]) :
  Calls prog 79 #[I (some ⟨g,0,none⟩) 2 2] w fun e f=>e=U (Z G (if x=0 then y else x))/\f=w:=by
 have c2:=d.c2;by_cases h1:x=0
 ·subst h1;rw [if_pos rfl];by_cases c:y=0
  ·subst c;go_enter func79,ntmps79;go_wp2_with fail;go_loopw [8] (fun i wr=>∃ q:Nat,i=Z G (q:Int)/\q<=2/\wr=w) (fun i _=>2 - (intOf i).toNat)
   case atStart=>exact ⟨0,rfl,by omega,by first | rfl | trivial⟩
   case round =>
    obtain ⟨q,rfl,b,rfl⟩:=hrel;rcases (by omega:q=0∨q=1∨q=2) with rfl | rfl | rfl
    ·go_wp2_with fail;go_roundw
     case rel=>exact ⟨1,by go_num,by omega,by first | rfl | trivial⟩
     case measure=>simp [intOf]
    ·go_wp2_with fail;go_roundw
     case rel=>exact ⟨2,by go_num,by omega,by first | rfl | trivial⟩
     case measure=>simp [intOf]
    ·go_wp2_with fail;go_ret;exact ⟨rfl,by first | rfl | trivial⟩
  ·have a:(y == 0)=false:=by rw [beq_eq_false_iff_ne];exact c
   go_enter func79,ntmps79;go_wp2_with fail;go_loopw [8] (fun i wr=>∃ q:Nat,i=Z G (q:Int)/\q<=1/\wr=w) (fun i _=>2 - (intOf i).toNat)
   case atStart=>exact ⟨0,rfl,by omega,by first | rfl | trivial⟩
   case round =>
    obtain ⟨q,rfl,b,rfl⟩:=hrel;rcases (by omega:q=0∨q=1) with rfl | rfl
    ·go_wp2_with fail;go_roundw
     case rel=>exact ⟨1,by go_num,by omega,by first | rfl | trivial⟩
     case measure=>simp [intOf]
    ·go_wp2_with fail;go_ret;exact ⟨rfl,by first | rfl | trivial⟩
 ·rw [if_neg h1];have a:(x == 0)=false:=by rw [beq_eq_false_iff_ne];exact h1
  go_enter func79,ntmps79;go_wp2_with fail;go_loopw [8] (fun i wr=>∃ q:Nat,i=Z G (q:Int)/\q<=0/\wr=w) (fun i _=>2 - (intOf i).toNat)
  case atStart=>exact ⟨0,rfl,by omega,by first | rfl | trivial⟩
  case round =>
   obtain ⟨q,rfl,b,rfl⟩:=hrel;obtain rfl:q=0:=by omega
   go_wp2_with fail;go_ret;exact ⟨rfl,by first | rfl | trivial⟩
theorem Zx1 (f g:Fil):Zf3 f g=if (if Zif f.day g.day=0 then Zif f.known g.known else Zif f.day g.day)=0 then Zf2 (zl (Zdh f)) (zl (Zdh g)) else (if Zif f.day g.day=0 then Zif f.known g.known else Zif f.day g.day):=by
 unfold Zf3 Fil.key zl;rw [Zfr,Zfr];by_cases h1:Zif f.day g.day=0
 ·rw [if_pos h1,if_pos h1]
 ·rw [if_neg h1,if_neg h1,if_neg h1]
theorem Zvz {x:FV} {B:Nat} (d:Zby x.f) (b:B<=w.heap.size) (i:Zbs w B x.f x.dv x.cv x.ev) (c:w.cell? ⟨0,0,none⟩=some (Z G 655)) (j:0<w.heap.size) :
  Calls prog 81 #[X x.vals] w fun e a=>∃ u,e=U (.tuple #[u,Z G 0])/\Rep a a.heap.size u (.s 1 (Zdv (bys (Zdh x.f))))/\Bl w a:=by
 refine (Zo1 x.f d x.dv x.cv x.ev w c j B b i).mono ?_;rintro e a ⟨u,rfl,o,h⟩;exact ⟨u,rfl,o.rep,h⟩
theorem Zo6 (x y:FV) (w:World) (hx:Zby x.f) (hy:Zby y.f) (B:Nat) (c:B<=w.heap.size) (fx:Zbs w B x.f x.dv x.cv x.ev) (fy:Zbs w B y.f y.dv y.cv y.ev) (Y:w.cell? ⟨0,0,none⟩=some (Z G 655)) (t:0<w.heap.size) :
  Calls prog 41 #[X x.vals,X y.vals] w fun e C=>e=U (Z G (Zf3 x.f y.f))/\Bl w C:=by
 have HX:=ae (fun (W:World) (i:Bl w W)=>Zvz hx (aj c i.size) (fx.keep (fun p r=>i.cell (ah r c)) (ag _)) ((i.cell (p:=⟨0,0,none⟩) t).trans Y) (ah t i.size));have HY:=ae (fun (W:World) (i:Bl w W)=>Zvz hy (aj c i.size) (fy.keep (fun p r=>i.cell (ah r c)) (ag _)) ((i.cell (p:=⟨0,0,none⟩) t).trans Y) (ah t i.size));have ad:=Zex hx;have aa:=Zex hy;have v:=(Blk.new w 48 x.vals).alloc (O y.vals 48);have q:=Blk.new (w.alloc (O x.vals 48)) 48 y.vals;rw [ax] at q;have P1:=(Zab w (O x.vals 48)).alloc (by simp) (O y.vals 48);obtain ⟨R,E⟩:∃ R,R=Zf3 x.f y.f:=⟨_,rfl⟩;rw [<- E];rw [Zx1] at E;have J:=ae E;clear E;have e1:=v.cellAt 1 (Z G x.f.day) rfl;have e2:=v.cellAt 2 (Z G x.f.known) rfl;have e3:=q.cellAt 1 (Z G y.f.day) rfl;have e4:=q.cellAt 2 (Z G y.f.known) rfl;have N:=FV.size x;have P:=FV.size y;clear hx hy fx fy Y t c;generalize Zdh x.f=bx at *;generalize Zdh y.f=bz at *;generalize hVx:x.vals=Vx at *;generalize hVy:y.vals=Vy at *;generalize x.f.day=d1 at *;generalize x.f.known=k1 at *;generalize y.f.day=d2 at *;generalize y.f.known=k2 at *;go_enter func41,ntmps41;go_upto_region 1 with fail;generalize (w.alloc (O Vx 48)).alloc (O Vy 48)=M at *;have Q:=v.lt;have l2:=q.lt;refine wp_region_held_drew (S:=(fun V=>Bl M V)) (by kernel_rfl) ?_ (fun a=>?_)
 ·first | done | ((try dsimp only);exact (ap _ _).drew)
 have u:=(ap M.heap.size M).drew;generalize M.drew=w2 at *;refine tq 0 10 rfl ?_;refine tq 1 11 rfl ?_ (hy:=by intro C b;(try dsimp only at b);have hk:=(b.cell (p:=⟨w.heap.size,1,none⟩) Q).trans e1;go_simp;try (with_reducible rfl));refine tq 2 12 rfl ?_;refine tq 3 13 rfl ?_ (hy:=by intro C b;(try dsimp only at b);have hk:=(b.cell (p:=⟨w.heap.size+1,1,none⟩) l2).trans e3;go_simp;try (with_reducible rfl));refine tq 5 15 rfl ?_;refine tq 6 16 rfl ?_ (hy:=by intro C b;(try dsimp only at b);have hk:=(b.cell (p:=⟨w.heap.size,2,none⟩) Q).trans e2;go_simp;try (with_reducible rfl));refine tq 7 17 rfl ?_;refine tq 8 18 rfl ?_ (hy:=by intro C b;(try dsimp only at b);have hk:=(b.cell (p:=⟨w.heap.size+1,2,none⟩) l2).trans e4;go_simp;try (with_reducible rfl));refine rd 4 (some 14) rfl fun K d=>?_;go_simp;(refine (Znv _ _ _).mono ?_;rintro e w2 ⟨rfl,rfl⟩);refine d.out _ _ (u) fun a=>?_;clear d K;(try simp only [pS,pB,pZ,pC]);refine rd 9 (some 19) rfl fun K d=>?_;go_simp;(refine (Znv _ _ _).mono ?_;rintro e w2 ⟨rfl,rfl⟩);refine d.out _ _ (u) fun a=>?_;clear d K;(try simp only [pS,pB,pZ,pC]);generalize hc1:Zif d1 d2=c1 at *;generalize hc2:Zif k1 k2=c2 at *;have BS:=Blk.new w2 3 #[Z G c1,Z G c2];have A:=u.alloc u.size (O #[Z G c1,Z G c2] 3);refine rd 10 (some 20) rfl fun K d=>?_;go_simp;skip;refine d.out _ _ (A) fun a=>?_;clear d K;(try simp only [pS,pB,pZ,pC]);generalize w2.alloc _=w3 at *;refine rd 11 (some 21) rfl fun K d=>?_;go_simp;(refine (Yag c1 c2 _ _ BS).mono ?_;rintro e w3 ⟨rfl,rfl⟩);refine d.out _ _ (A) fun a=>?_;clear d K;(try simp only [pS,pB,pZ,pC]);refine tq 12 5 rfl ?_;refine dn ?_;have s:=Zaa P1 A P1.size;have Y1:=v.keep A;have Y2:=q.keep A;clear v q u BS e1 e2 e3 e4 Q l2 P1 a;generalize (if c1=0 then c2 else c1)=z at *;by_cases L:z=0
 ·have h:=J.out;rw [if_pos L] at h;have o:=ae h;subst L;clear h J;go_wp2_with (refine Zad Y1 N _ rfl rfl rfl ?_);refine (HX.out _ s).mono ?_;rintro e w5 ⟨u1,rfl,R1,k⟩;have H:=Zaa s k s.size;have Z2:=Y2.keep k;clear Y1 Y2 k s;go_wp2_with (refine Zad Z2 P _ rfl rfl rfl ?_);refine (HY.out _ H).mono ?_;rintro e w6 ⟨u2,rfl,R2,j⟩;have P6:=Zaa H j H.size;have T:=R1.keep (fun p r=>j.cell r) j.size;clear Z2 j R1 H;go_wp2_with fail;refine (Zrn bx bz (by omega) u1 u2 _ T R2).mono ?_;rintro e w7 ⟨rfl,rfl⟩;go_wp2_with fail;go_ret;exact ⟨by rw [o.out];rfl,P6⟩
 ·have h:=J.out;rw [if_neg L] at h;have o:=ae h;clear h J;have ab:(z == 0)=false:=by rw [beq_eq_false_iff_ne];exact L
  go_wp2_with fail;go_ret;exact ⟨by rw [o.out];rfl,s⟩
end Go.Proofs.YtglkadmfjaecmaaGreatDoor
