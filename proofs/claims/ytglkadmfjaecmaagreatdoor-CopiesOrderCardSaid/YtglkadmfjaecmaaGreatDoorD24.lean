import Derived.Test.YtglkadmfjaecmaaGreatDoorD23
import Derived.Test.YtglkadmfjaecmaaGreatDoorD22
set_option maxRecDepth 100000
set_option maxHeartbeats 16000000
namespace Go.Proofs.YtglkadmfjaecmaaGreatDoor
open Go.RowKit Go.Shelf _root_.Go.Proofs.Tryz
open Go.IntKind renaming i64->I
open Go.Ending renaming returned->Z
open Go.Value renaming slice->G, tuple->O
attribute [local go_sem] Oper.semAt_some
set_option linter.unusedVariables false
variable {N bs ci g i m pp r0 st0:Nat} {W w wr:World} {ds:List D} {sp:List Value} {u:Value}
def Yiu (g c N:Nat) (sp:List Value) (d:Nat):Prop:=∀ (p s1 s2 q:List XV) (a m b:Nat) (w:World),a=p.length->m=a+s1.length->b=m+s2.length->N=b+q.length->b - a<=d->0<s1.length->0<s2.length->Zas s1->Zas s2->Zd4 w g (p++s1++s2++q) sp->Zib w g (s1++s2) ->
 Calls prog 180 #[G (some ⟨g,0,none⟩) N c,.int I (a:Int),.int I (m:Int),.int I (b:Int),.func (.func 41) #[] #[]] w fun e w'=>e=Z (O #[])/\(∃ s,s.Perm (s1++s2)/\Zas s/\Zd4 w' g (p++s++q) sp)/\w.grownBy w' (some g)
def Yht (s1 s2:List XV) (a m pp st0 r0 s r:Nat):Prop:=st0<=s/\s<=r/\r<=r0/\(s=st0∨∃ x y,s2[pp+1 - s - m]?=some x/\s1[s - 1 - a]?=some y/\¬ Ze2 x y<0)/\(r=r0∨∃ x y,s2[pp - r - m]?=some x/\s1[r - a]?=some y/\Ze2 x y<0)
structure Yjb (a m b mid n pp st0 r0:Nat):Prop where
 ham:a+2<=m
 hmb:m+2<=b
 hmid:mid=(a+b) / 2
 hn:n=mid+m
 hpp:pp+1=n
 hc:(mid<m/\st0+b=n/\r0=mid)∨(m<=mid/\st0=a/\r0=m)
theorem Yjb.facts {a b mid n:Nat} (h:Yjb a m b mid n pp st0 r0):a<=st0/\st0<=r0/\r0<=m/\r0<=mid/\a<mid/\mid<b/\∀ c,st0<=c->c<=r0->m<=n - c/\n - c<=b/\mid<=n - c/\n - c - m=mid - c/\c<=n:=by
 obtain ⟨h1,d,o,f,k,j⟩:=h;refine ⟨by omega,by omega,by omega,by omega,by omega,by omega,fun c e l=>⟨by omega,by omega,by omega,by omega,by omega⟩⟩
theorem Yht.law {s1 s2:List XV} {a b mid n s:Nat} (d:Yjb a m b mid n pp st0 r0) (h1:m=a+s1.length) (p:b=m+s2.length) (k:Zas s1) (l:Zas s2) (h:Yht s1 s2 a m pp st0 r0 s s) :
  (∀ x∈s2.take (n - s - m),∀ y∈s1.drop (s - a),Ze2 x y<=0)/\(∀ x∈s1.take (s - a),∀ y∈s2.drop (n - s - m),Ze2 x y<=0):=by
 obtain ⟨c1,c2,j,c4,c5⟩:=h;obtain ⟨q,f2,t,f4,z,C,o⟩:=d.facts;obtain ⟨E,v,B,r,A⟩:=o s c1 j;have hpp:=d.hpp;have hc:=d.hc;have hn:=d.hn;refine Ybx k l ?_ ?_
 ·rcases c5 with c5 | ⟨x,y,e,hy,c⟩
  ·rcases hc with ⟨d1,d2,f⟩ | ⟨d1,d2,f⟩
   ·exact .inr (.inl (by omega))
   ·exact .inl (by omega)
  ·exact .inr (.inr ⟨x,y,by rw [show n - s - m - 1=pp - s - m by omega];exact e,hy,c⟩)
 ·rcases c4 with c4 | ⟨x,y,e,hy,c⟩
  ·rcases hc with ⟨d1,d2,f⟩ | ⟨d1,d2,f⟩
   ·exact .inr (.inl (by omega))
   ·exact .inl (by omega)
  ·by_cases hs:s=a
   ·exact .inl (by omega)
   ·exact .inr (.inr ⟨x,y,by rw [show n - s - m=pp+1 - s - m by omega];exact e,by rw [show s - a - 1=s - 1 - a by omega];exact hy,c⟩)
theorem Ye4 {c:Nat} (bh:N<=100000) (p s1 s2 q:List XV) (a m b:Nat) (w:World) (ha:a=p.length) (hm:m=a+s1.length) (hb:b=m+s2.length) (hN:N=b+q.length) (bk:2<=s1.length) (bn:2<=s2.length) (be:Zas s1) (a6:Zas s2) (hX:Zd4 w g (p++s1++s2++q) sp) (hC:Zib w g (s1++s2)) (IH:∀ d,d<b - a->Yiu g c N sp d) :
  Calls prog 180 #[G (some ⟨g,0,none⟩) N c,.int I (a:Int),.int I (m:Int),.int I (b:Int),.func (.func 41) #[] #[]] w fun e T=>e=Z (O #[])/\(∃ s,s.Perm (s1++s2)/\Zas s/\Zd4 T g (p++s++q) sp)/\w.grownBy T (some g):=by
 obtain ⟨mid,hmid⟩:∃ mid:Nat,mid=(a+b) / 2:=⟨_,rfl⟩;obtain ⟨n,hn⟩:∃ n:Nat,n=mid+m:=⟨_,rfl⟩;obtain ⟨pp,hpp⟩:∃ pp:Nat,pp+1=n:=⟨n - 1,by omega⟩
 obtain ⟨st0,r0,hB⟩:∃ st0 r0,Yjb a m b mid n pp st0 r0:=by
  by_cases hc:mid<m
  ·exact ⟨n - b,mid,by omega,by omega,hmid,hn,hpp,.inl ⟨hc,by omega,rfl⟩⟩
  ·exact ⟨a,m,by omega,by omega,hmid,hn,hpp,.inr ⟨by omega,rfl,rfl⟩⟩
 obtain ⟨f1,f2,f3,f4,f5,f6,f7⟩:=hB.facts;have al:=ae (fun (h:Nat) (y:XV) (h1:a<=h) (hy:s1[h - a]?=some y)=>(by
  have:=Zap hy;rw [ay,ay,dg (by omega),show h - p.length=h - a by omega,d9 this];exact hy:(p++s1++s2++q)[h]?=some y))
 have an:=ae (fun (h:Nat) (y:XV) (h1:m<=h) (hy:s2[h - m]?=some y)=>(by
  have:=Zap hy;rw [ay,dg (by simp;omega),show h - (p++s1).length=h - m by simp;omega,d9 this];exact hy:(p++s1++s2++q)[h]?=some y))
 have HR:=ae (fun (W:World) (hW:Bl w W)=>(hX.keep hW));have HC:=ae hC;have HA:=ae (show a=p.length/\m=a+s1.length/\b=m+s2.length/\N=b+q.length from ⟨ha,hm,hb,hN⟩);have P:=ae hB;have ad:=ae IH;have B:=ae (And.intro be a6);have Q:=ae f7;obtain ⟨n1,bp⟩:∃ n1:Nat,n1=s1.length:=⟨_,rfl⟩;obtain ⟨n2,bq⟩:∃ n2:Nat,n2=s2.length:=⟨_,rfl⟩;have e1:IntKind.i64.wrap ((m:Int) - (a:Int))=(n1:Int):=by rw [az];omega
 have e2:((n1:Int) == 1)=false:=by rw [beq_eq_false_iff_ne];omega
 have e3:IntKind.i64.wrap ((b:Int) - (m:Int))=(n2:Int):=by rw [az];omega
 have e4:((n2:Int) == 1)=false:=by rw [beq_eq_false_iff_ne];omega
 have k1:IntKind.i64.wrap ((a:Int)+(b:Int))=(a:Int)+(b:Int):=by rw [az];omega
 have k2:IntKind.u64.wrap ((a:Int)+(b:Int))=(a:Int)+(b:Int):=by rw [fu];omega
 have k3:((a:Int)+(b:Int)) / 2=(mid:Int):=by omega
 have k4:IntKind.i64.wrap (mid:Int)=(mid:Int):=by rw [az];omega
 have k5:IntKind.i64.wrap ((mid:Int)+(m:Int))=(n:Int):=by rw [az];omega
 have k6:IntKind.i64.wrap ((n:Int) - 1)=(pp:Int):=by rw [az];omega
 have bl:n<=2 * N:=by omega
 have b6:b<=N:=by omega
 have a7:r0<=N:=by omega
 have X:=ae (show Yht s1 s2 a m pp st0 r0 st0 r0 from ⟨ag _,f2,ag _,.inl rfl,.inl rfl⟩);clear hX hC ha hm hb hN be a6 bk bn bp bq hmid hn hpp IH f7 hB f5 f6;go_enter func180,ntmps180;go_upto_region 27 with fail;go_cut [140] (fun v E=>v=.bool (decide (mid<m))/\w=E)
 case first=>as_aux_lemma =>
  clear ad B HC HR an al X Q P;go_wp2_with fail;go_meet;exact ⟨rfl,rfl⟩
 case rest=>as_aux_lemma =>
 obtain ⟨rfl,rfl⟩:=hcut;rename_i t;refine t _ _ ?_;clear t;go_cut [20,21] (fun s r E=>s=.int I (st0:Int)/\r=.int I (r0:Int)/\w=E)
 case first=>as_aux_lemma =>
  clear e1 e2 e3 e4 k1 k2 k3 k4 k5 ad B HC HR an al X Q;obtain ⟨_,_,_,hn,_,hc⟩:=P.out;rcases hc with ⟨h1,A,h3⟩ | ⟨h1,A,h3⟩
  ·have d1:=decide_eq_true h1;rw [d1];have s1:IntKind.i64.wrap ((n:Int) - (b:Int))=(st0:Int):=by rw [az];omega
   subst h3;clear A hn;go_wp2_with fail;go_meet;exact ⟨rfl,rfl,rfl⟩
  ·have d1:decide (mid<m)=false:=decide_eq_false (by omega);rw [d1];subst A h3;clear hn;go_wp2_with fail;go_meet;exact ⟨rfl,rfl,rfl⟩
 case rest=>as_aux_lemma =>
 obtain ⟨rfl,rfl,rfl⟩:=hcut;clear e1 e2 e3 e4 k1 k2 k3 k4 k5;go_wp2_with fail;go_loopw [20,21,23] (fun i j _ wr=>∃ i' j':Nat,i=.int I (i':Int)/\j=.int I (j':Int)/\st0<=i'/\i'<=j'/\j'<=r0/\Hid (Yht s1 s2 a m pp st0 r0 i' j')/\Bl w wr) (fun i j _ _=>(intOf j).toNat - (intOf i).toNat)
 case atStart=>exact ⟨st0,r0,rfl,rfl,ag _,f2,ag _,X,ap _ _⟩
 case round=>as_aux_lemma =>
  clear X k6;obtain ⟨i,j,rfl,rfl,a4,bg,a1,HS,hP⟩:=hrel;by_cases a2:i<j
  ·have d1:=decide_eq_true a2;obtain ⟨h,hh⟩:∃ h:Nat,h=(i+j) / 2:=⟨_,rfl⟩;have bf:i<=h:=by omega
   have b7:h<j:=by omega
   have k1:IntKind.i64.wrap ((i:Int)+(j:Int))=(i:Int)+(j:Int):=by rw [az];omega
   have k2:IntKind.u64.wrap ((i:Int)+(j:Int))=(i:Int)+(j:Int):=by rw [fu];omega
   have k3:((i:Int)+(j:Int)) / 2=(h:Int):=by omega
   have k4:IntKind.i64.wrap (h:Int)=(h:Int):=by rw [az];omega
   obtain ⟨e,he⟩:∃ e:Nat,e=pp - h:=⟨_,rfl⟩;have a5:e+h=pp/\m<=e/\e<b:=by
    have h1:=Q.out h (by omega) (by omega);have A:=Q.out (h+1) (by omega) (by omega);have h3:=P.out.hpp;omega
   have k5:IntKind.i64.wrap ((pp:Int) - (h:Int))=(e:Int):=by rw [az];omega
   obtain ⟨y,hy⟩:∃ y,s1[h - a]?=some y:=⟨_,ak (by have:=HA.out;omega)⟩
   obtain ⟨x,M⟩:∃ x,s2[e - m]?=some x:=⟨_,ak (by have:=HA.out;omega)⟩
   have HY:=ae hy;have HX:=ae M;have a3:=ae a5;have hz:∃ z,z=Ze2 x y:=⟨_,rfl⟩;obtain ⟨z,hz⟩:=hz;have RX:=ae (fun (W:World) (hW:Bl wr W)=>((HR.out W (Zaa hP hW hP.size)).at (an.out e x a5.2.1 HX.out)));have RY:=ae (fun (W:World) (hW:Bl wr W)=>((HR.out W (Zaa hP hW hP.size)).at (al.out h y (by omega) HY.out)));have af:=ae (fun (W:World) (hW:Bl wr W)=>HC.out W (Zaf (Zaa hP hW hP.size)) x (List.mem_append.2 (.inr (iq HX.out))) y (List.mem_append.2 (.inl (iq HY.out))));rw [<- hz] at af;have HZ:=ae hz;have p0:(0:Int)<=(h:Int)/\(h:Int)<(N:Int):=by omega
   have p1:(h:Int)<(N:Int):=by omega
   have p2:(0:Int)<=(e:Int)/\(e:Int)<(N:Int):=by omega
   have p3:(e:Int)<(N:Int):=by omega
   have jz:decide (h<N)=true:=decide_eq_true (by omega);have b0:decide (e<N)=true:=decide_eq_true (by omega);clear hy M hz hh he a5;go_upto_region 35 with fail;go_cut [171] (fun v E=>v=.bool (!decide (z<0))/\Bl wr E)
   case first=>as_aux_lemma =>
    clear HC HA HS an al B HR HZ HY HX a3 hP ad Q P;refine wp_region_held_drew (S:=(fun V=>Bl wr V)) (by kernel_rfl) ?_ (fun a0=>?_)
    ·first | done | ((try dsimp only);exact (ap _ _).drew)
    have Q2:=(ap wr.heap.size wr).drew;generalize wr.drew=w2 at *;refine tq 0 158 rfl ?_;refine tq 1 159 rfl ?_;refine tq 2 160 rfl ?_;refine tq 3 161 rfl ?_;refine tq 4 162 rfl ?_;refine tq 5 163 rfl ?_;refine ty 6 164 rfl (Zcw x.hs _ rfl rfl (fun V h=>RX.out V h) rfl) ?_;refine tq 7 165 rfl ?_;refine tq 8 166 rfl ?_;refine tq 9 167 rfl ?_;refine ty 10 168 rfl (Zcw y.hs _ rfl rfl (fun V h=>RY.out V h) rfl) ?_;refine rd 11 (some 169) rfl fun K hK=>?_;go_simp;(refine (af.out _ Q2).mono ?_;rintro e w3 ⟨rfl,a8⟩);refine hK.out _ _ (Q2.trans (a8.mono Q2.size)) fun a0=>?_;clear hK K;(try simp only [pS,pB,pZ,pC]);have Q3:=Q2.trans (a8.mono Q2.size);refine tq 12 170 rfl ?_;refine tq 13 171 rfl ?_;refine dn ?_;go_wp2_with fail;go_meet;exact ⟨rfl,Q3⟩
   case rest=>as_aux_lemma =>
    obtain ⟨rfl,a9⟩:=hcut;have P2:=Zaa hP a9 hP.size;clear hP a9 RX RY af;by_cases aa:z<0
    ·have dz:(!decide (z<0))=false:=by rw [decide_eq_true aa];rfl
     rw [dz];have av:=ae (show Yht s1 s2 a m pp st0 r0 i h from by
      obtain ⟨b1,b2,b3,b4,b5⟩:=HS.out;exact ⟨b1,bf,by omega,b4,.inr ⟨x,y,by rw [show pp - h=e by have:=a3.out;omega];exact HX.out,HY.out,by rw [<- HZ.out];exact aa⟩⟩)
     clear HS HY HZ dz aa k5;go_wp2_with fail;go_roundw
     case rel=>exact ⟨i,h,rfl,rfl,a4,bf,by omega,av,P2⟩
     case measure=>simp [intOf];omega
    ·have dz:(!decide (z<0))=true:=by rw [decide_eq_false aa];rfl
     rw [dz];have av:=ae (show Yht s1 s2 a m pp st0 r0 (h+1) j from by
      obtain ⟨b1,b2,b3,b4,b5⟩:=HS.out;exact ⟨by omega,by omega,b3,.inr ⟨x,y,by rw [show pp+1 - (h+1)=e by have:=a3.out;omega];exact HX.out,by rw [jc];exact HY.out,by rw [<- HZ.out];exact aa⟩,b5⟩)
     clear HS HY HZ dz aa k5;go_wp2_with fail;go_roundw
     case rel=>exact ⟨h+1,j,by go_num,rfl,by omega,by omega,a1,av,P2⟩
     case measure=>simp [intOf];omega
  ·have d1:=decide_eq_false a2;obtain rfl:i=j:=by omega
   have g7:=Q.out i a4 a1;obtain ⟨e,he⟩:∃ e:Nat,e+i=n:=⟨n - i,by omega⟩
   have k7:IntKind.i64.wrap ((n:Int) - (i:Int))=(e:Int):=by rw [az];omega
   have H:=ae (show m<=e/\e<=b/\mid<=e/\e - m=mid - i/\a<=i/\i<=m/\i<=mid/\e<=N/\a<mid/\mid<b from by have:=P.out.facts;omega);have bc:=ae (show (∀ x∈s2.take (e - m),∀ y∈s1.drop (i - a),Ze2 x y<=0)/\(∀ x∈s1.take (i - a),∀ y∈s2.drop (e - m),Ze2 x y<=0) from by
    have:=Yht.law P.out (by have:=HA.out;omega) (by have:=HA.out;omega) B.out.1 B.out.2 HS.out
    rwa [show n - i - m=e - m by omega] at this)
   have f:=ae (show s1.take (i - a)++s1.drop (i - a)=s1/\s2.take (e - m)++s2.drop (e - m)=s2 from ⟨di _ _,di _ _⟩);have U:=ae (show (s1.take (i - a)).length=i - a/\(s1.drop (i - a)).length=m - i/\(s2.take (e - m)).length=e - m/\(s2.drop (e - m)).length=b - e from by
    have:=HA.out;have:=H.out;refine ⟨?_,?_,?_,?_⟩ <;> simp only [cw,dw] <;> omega)
   generalize s1.take (i - a)=u1 at *;generalize s1.drop (i - a)=Y at *;generalize s2.take (e - m)=u2 at *;generalize s2.drop (e - m)=v2 at *;have ab:=ae (show Zd4 wr g (p++u1++Y++(u2++v2)++q) sp/\w.grownBy wr (some g) from by
    have h1:=HR.out wr hP;rw [<- f.out.1,<- f.out.2] at h1;exact ⟨by simpa using h1,Zaf hP⟩)
   clear g7 he HS HR an al Q P d1 a2 a4 bg a1 hP f1 f2 f3 f4 bl a7;go_upto_region 39 with fail;go_cut [185] (fun v E=>∃ bb:Bool,v=.bool bb/\(bb=true->0<Y.length/\0<u2.length)/\(bb=false->Y.length=0∨u2.length=0)/\wr=E)
   case first=>as_aux_lemma =>
    have h1:=U.out;have A:=H.out;by_cases c1:i<m
    ·have d1:decide (i<m)=true:=decide_eq_true c1;by_cases c2:m<e
     ·have d2:decide (m<e)=true:=decide_eq_true c2;go_wp2_with fail;go_meet;exact ⟨true,rfl,fun _=>by omega,fun h=>Bool.noConfusion h,rfl⟩
     ·have d2:decide (m<e)=false:=decide_eq_false c2;go_wp2_with fail;go_meet;exact ⟨false,rfl,fun h=>Bool.noConfusion h,fun _=>by omega,rfl⟩
    ·have d1:decide (i<m)=false:=decide_eq_false c1;go_wp2_with fail;go_meet;exact ⟨false,rfl,fun h=>Bool.noConfusion h,fun _=>by omega,rfl⟩
   case rest=>as_aux_lemma =>
   obtain ⟨bb,rfl,k,l,rfl⟩:=hcut;rename_i t;refine t _ _ ?_;clear t;go_cut [] (fun E=>Zd4 E g (p++(u1++u2)++(Y++v2)++q) sp/\w.grownBy E (some g))
   case first=>as_aux_lemma =>
    cases bb with
    | true =>
     have C:=ae (k rfl);clear k l;have J:=ae (fun (vc:Value)=>(by
      have h1:=U.out;have A:=H.out;have h3:=HA.out;refine (Zyo (c:=c) (p++u1) Y u2 (v2++q) i m e N (by rw [ai];omega) (by rw [ai];omega) (by omega) (by rw [ai];omega) bh C.out.1 C.out.2 wr vc (by have:=ab.out.1;simpa using this)).mono ?_;rintro e2 T ⟨rfl,o,h5⟩;exact ⟨rfl,by simpa using o,Zac ab.out.2 h5 (fun _ e _=>e)⟩:Calls prog 205 #[G (some ⟨g,0,none⟩) N c,.int I (i:Int),.int I (m:Int),.int I (e:Int),vc] wr fun e T=>e=Z (O #[])/\Zd4 T g (p++(u1++u2)++(Y++v2)++q) sp/\w.grownBy T (some g)))
     go_wp2_with fail;refine (J.out _).mono ?_;rintro e2 w5 ⟨rfl,h1,A⟩;have H1:=ae h1;have H2:=ae A;clear h1 A J;go_wp2_with fail;go_meet;exact ⟨H1.out,H2.out⟩
    | false =>
     have am:=ae (l rfl);clear k l;go_wp2_with fail;go_meet;refine ⟨?_,ab.out.2⟩;have h1:=ab.out.1;rcases am.out with h | h
     ·obtain rfl:=bj h;simpa using h1
     ·obtain rfl:=bj h;simpa using h1
   case rest=>as_aux_lemma =>
   have H1:=ae hcut.1;have H2:=ae hcut.2;obtain ⟨w5,rfl⟩:∃ z:World,z=wc:=⟨_,rfl⟩;clear ab k l hcut k7;go_upto_region 41 with fail;go_cut [199] (fun v E=>∃ bb:Bool,v=.bool bb/\(bb=true->0<u1.length/\0<u2.length)/\(bb=false->u1.length=0∨u2.length=0)/\w5=E)
   case first=>as_aux_lemma =>
    have h1:=U.out;have A:=H.out;by_cases c1:a<i
    ·have d1:decide (a<i)=true:=decide_eq_true c1;by_cases c2:i<mid
     ·have d2:decide (i<mid)=true:=decide_eq_true c2;go_wp2_with fail;go_meet;exact ⟨true,rfl,fun _=>by omega,fun h=>Bool.noConfusion h,rfl⟩
     ·have d2:decide (i<mid)=false:=decide_eq_false c2;go_wp2_with fail;go_meet;exact ⟨false,rfl,fun h=>Bool.noConfusion h,fun _=>by omega,rfl⟩
    ·have d1:decide (a<i)=false:=decide_eq_false c1;go_wp2_with fail;go_meet;exact ⟨false,rfl,fun h=>Bool.noConfusion h,fun _=>by omega,rfl⟩
   case rest=>as_aux_lemma =>
   obtain ⟨bb,rfl,k,l,rfl⟩:=hcut;rename_i t;refine t _ _ ?_;clear t;go_cut [] (fun E=>∃ L,L.Perm (u1++u2)/\Zas L/\Zd4 E g (p++L++(Y++v2)++q) sp/\w.grownBy E (some g))
   case first=>as_aux_lemma =>
    cases bb with
    | true =>
     have C:=ae (k rfl);clear k l;have J:=ae (by
      have h1:=U.out;have A:=H.out;have h3:=HA.out;have o:=B.out;rw [<- f.out.1,<- f.out.2] at o;refine (ad.out (mid - a) (by omega) p u1 u2 (Y++v2++q) a i mid w5 (by omega) (by omega) (by omega) (by simp only [ai];omega) (by omega) C.out.1 C.out.2 (Zdc o.1).1 (Zdc o.2).1 (by have:=H1.out;simpa using this) ((HC.out.step H2.out).sub (fun x M=>by
       rw [<- f.out.1,<- f.out.2];simp only [List.mem_append] at M ⊢;rcases M with M | M
       ·exact .inl (.inl M)
       ·exact .inr (.inl M)))).mono ?_
      rintro e2 T ⟨rfl,⟨L,h5,h6,h7⟩,h8⟩;exact ⟨rfl,L,h5,h6,by simpa using h7,Zac H2.out h8 (fun _ e _=>e)⟩:Calls prog 180 #[G (some ⟨g,0,none⟩) N c,.int I (a:Int),.int I (i:Int),.int I (mid:Int),.func (.func 41) #[] #[]] w5 fun e T=>e=Z (O #[])/\∃ L,L.Perm (u1++u2)/\Zas L/\Zd4 T g (p++L++(Y++v2)++q) sp/\w.grownBy T (some g))
     go_wp2_with fail;refine J.out.mono ?_;rintro e2 w6 ⟨rfl,h1⟩;have H3:=ae h1;clear h1 J;go_wp2_with fail;go_meet;exact H3.out
    | false =>
     have am:=ae (l rfl);clear k l;go_wp2_with fail;go_meet;refine ⟨u1++u2,List.Perm.refl _,?_,H1.out,H2.out⟩;have o:=B.out;rw [<- f.out.1,<- f.out.2] at o;rcases am.out with h | h
     ·obtain rfl:=bj h;exact (Zdc o.2).1
     ·obtain rfl:=bj h;rw [bv];exact (Zdc o.1).1
   case rest=>as_aux_lemma =>
   clear H1 H2 k l;obtain ⟨L,h1,A,h3,o⟩:=hcut;have bz:=ae h1;have bx:=ae A;have H1:=ae h3;have H2:=ae o;have bo:=ae (show L.length=mid - a from by have e1:=h1.length_eq;have e2:=U.out;have e3:=H.out;rw [ai] at e1;omega);obtain ⟨w6,rfl⟩:∃ z:World,z=wc:=⟨_,rfl⟩;clear h1 A h3 o;go_upto_region 43 with fail;go_cut [213] (fun v E=>∃ bb:Bool,v=.bool bb/\(bb=true->0<Y.length/\0<v2.length)/\(bb=false->Y.length=0∨v2.length=0)/\w6=E)
   case first=>as_aux_lemma =>
    have h1:=U.out;have A:=H.out;by_cases c1:mid<e
    ·have d1:decide (mid<e)=true:=decide_eq_true c1;by_cases c2:e<b
     ·have d2:decide (e<b)=true:=decide_eq_true c2;go_wp2_with fail;go_meet;exact ⟨true,rfl,fun _=>by omega,fun h=>Bool.noConfusion h,rfl⟩
     ·have d2:decide (e<b)=false:=decide_eq_false c2;go_wp2_with fail;go_meet;exact ⟨false,rfl,fun h=>Bool.noConfusion h,fun _=>by omega,rfl⟩
    ·have d1:decide (mid<e)=false:=decide_eq_false c1;go_wp2_with fail;go_meet;exact ⟨false,rfl,fun h=>Bool.noConfusion h,fun _=>by omega,rfl⟩
   case rest=>as_aux_lemma =>
   obtain ⟨bb,rfl,k,l,rfl⟩:=hcut;rename_i t;refine t _ _ ?_;clear t;have aq:=ae (fun (W:World) (R:List XV) (h1:R.Perm (Y++v2)) (A:Zas R) (h3:Zd4 W g (p++L++R++q) sp)=>(by
    have o:=B.out;rw [<- f.out.1,<- f.out.2] at o;obtain ⟨k1,k2⟩:=Zyn o.1 o.2 bc.out.1 bc.out.2 bz.out h1 bx.out A;rw [f.out.1,f.out.2] at k2;exact ⟨L++R,k2,k1,by simpa using h3⟩:∃ s,s.Perm (s1++s2)/\Zas s/\Zd4 W g (p++s++q) sp))
   cases bb with
   | true =>
    have C:=ae (k rfl);clear k l;have J:=ae (by
     have h1:=U.out;have A:=H.out;have h3:=HA.out;have o:=B.out;rw [<- f.out.1,<- f.out.2] at o;refine (ad.out (b - mid) (by omega) (p++L) Y v2 q mid e b w6 (by rw [ai,bo.out];omega) (by omega) (by omega) (by omega) (by omega) C.out.1 C.out.2 (Zdc o.1).2 (Zdc o.2).2 (by have:=H1.out;simpa using this) ((HC.out.step H2.out).sub (fun x M=>by
      rw [<- f.out.1,<- f.out.2];simp only [List.mem_append] at M ⊢;rcases M with M | M
      ·exact .inl (.inr M)
      ·exact .inr (.inr M)))).mono ?_
     rintro e2 T ⟨rfl,⟨R,h5,h6,h7⟩,h8⟩;exact ⟨rfl,aq.out T R h5 h6 h7,Zac H2.out h8 (fun _ e _=>e)⟩:Calls prog 180 #[G (some ⟨g,0,none⟩) N c,.int I (mid:Int),.int I (e:Int),.int I (b:Int),.func (.func 41) #[] #[]] w6 fun e T=>e=Z (O #[])/\(∃ s,s.Perm (s1++s2)/\Zas s/\Zd4 T g (p++s++q) sp)/\w.grownBy T (some g))
    go_wp2_with fail;refine J.out.mono ?_;rintro e2 w7 ⟨rfl,h1,A⟩;have H3:=ae h1;have H4:=ae A;clear h1 A J;go_wp2_with fail;go_end0;exact ⟨rfl,H3.out,H4.out⟩
   | false =>
    have am:=ae (l rfl);clear k l;go_wp2_with fail;go_end0;refine ⟨rfl,aq.out _ (Y++v2) (List.Perm.refl _) ?_ (by have:=H1.out;simpa using this),H2.out⟩;have o:=B.out;rw [<- f.out.1,<- f.out.2] at o;rcases am.out with h | h
    ·obtain rfl:=bj h;exact (Zdc o.2).2
    ·obtain rfl:=bj h;rw [bv];exact (Zdc o.1).2
theorem Zsf {c:Nat} (e:N<=100000):∀ d,Yiu g c N sp d:=by
 intro d;induction d using Nat.strongRecOn with
 | _ d ih =>
  intro p s1 s2 q a m b w j hm k f hd h1 v r o h l;by_cases c1:s1.length=1
  ·obtain ⟨x,rfl⟩:=List.length_eq_one_iff.1 c1;exact Yhs e p q s2 x a m b w j hm k f o h l
  ·by_cases c2:s2.length=1
   ·obtain ⟨x,rfl⟩:=List.length_eq_one_iff.1 c2;exact Ye3 e p q s1 x a m b w j hm (by omega) k f r h l
   ·exact Ye4 e p s1 s2 q a m b w j hm k f (by omega) (by omega) r o h l (fun s t=>ih s (by omega))
theorem Zul (p:List XV) (x y:XV) (q:List XV) (sp:List Value) :
  Zgh (Zgh (Zb7 (p++y::x::q)++sp).toArray ((p.length+1) * 19) y.v.toList) (p.length * 19) x.v.toList=(Zb7 (p++x::y::q)++sp).toArray:=by
 have d:Zb7 (p++y::x::q)++sp=(Zb7 p++y.v.toList)++x.v.toList++(Zb7 q++sp):=by
  rw [Zea,Zbu,Zbu];simp only [ay]
 have e:(p.length+1) * 19=(Zb7 p++y.v.toList).length:=by rw [ai,Zbz,XV.len];omega
 have c:(Zb7 p++y.v.toList)++y.v.toList++(Zb7 q++sp)=Zb7 p++y.v.toList++(y.v.toList++(Zb7 q++sp)):=by simp only [ay]
 have a:p.length * 19=(Zb7 p).length:=(Zbz p).symm;rw [d,e,Zfv _ _ _ _ (by rw [XV.len,XV.len]),c,a,Zfv _ _ _ _ (by rw [XV.len,XV.len]),Zea,Zbu,Zbu];simp only [ay]
theorem Zws {p q:List XV} {x:XV} {k:Nat} (h:Blk W g 48 (Zb7 (p++x::q)++sp).toArray) (c:k=p.length):W.rangeAt g (k * 19) x.v.toList:=fun j u a=>by
 subst c;refine h.cellAt _ _ ?_;have d:j<19:=by have:=Zap a;rwa [XV.len] at this
 rw [Zea,Zbu,ep,ay,ay,<- Zbz p,dg (by omega),i8,d9 (by rw [XV.len];exact d)];exact a
def Ye5 (w wr:World) (g:Nat) (p q:List XV) (sp:List Value) (m s r:List XV):Prop:=(s++r).Perm m/\Zas s/\Blk wr g 48 (Zb7 (p++(s++r)++q)++sp).toArray/\w.grownBy wr (some g)
def Znc (w wr:World) (g:Nat) (p q:List XV) (sp:List Value) (m:List XV) (x:XV) (pre post r:List XV):Prop:=(pre++x::post++r).Perm m/\Zas (pre++post)/\(∀ z∈post,Ze2 x z<0)/\Blk wr g 48 (Zb7 (p++(pre++x::post++r)++q)++sp).toArray/\w.grownBy wr (some g)
theorem Ye5.begin {p q:List XV} {m s r:List XV} {x:XV} (h:Ye5 w wr g p q sp m s (x::r)):Znc w wr g p q sp m x s [] r:=by
 obtain ⟨h1,a,e,d⟩:=h;exact ⟨by simpa using h1,by simpa using a,(fun z c=>by cases c),by simpa using e,d⟩
theorem Znc.done {p q:List XV} {m c a r:List XV} {x:XV} (h:Znc w wr g p q sp m x c a r) (d:∀ y f,c=f++[y]->¬ Ze2 x y<0):Ye5 w wr g p q sp m (c++x::a) r :=
 ⟨h.1,Zmu h.2.1 (fun z e=>Int.le_of_lt (h.2.2.1 z e)) d,h.2.2.2.1,h.2.2.2.2⟩
theorem Znc.keep {d:World} {p q:List XV} {m c a r:List XV} {x:XV} (h:Znc w wr g p q sp m x c a r) (f:Bl wr d):Znc w d g p q sp m x c a r :=
 ⟨h.1,h.2.1,h.2.2.1,h.2.2.2.1.keep f,Zac h.2.2.2.2 (Zaf (row:=none) f) (fun k e _=>by cases e)⟩
theorem Znc.swap {p q:List XV} {m c a r:List XV} {x y:XV} (h:Znc w wr g p q sp m x (c++[y]) a r) (d:Ze2 x y<0) {k:Nat} (j:k=p.length+c.length) :
  Znc w ((wr.setCells g ((k+1) * 19) y.v.toList).setCells g (k * 19) x.v.toList) g p q sp m x c (y::a) r:=by
 obtain ⟨h1,l,t,z,s⟩:=h;obtain ⟨s1,s2⟩:=Ybv l t d;refine ⟨?_,s1,s2,?_,?_⟩
 ·refine List.Perm.trans ?_ h1;simp only [ay,dx,dm];exact List.Perm.append_left c (List.Perm.swap y x _)
 ·have f:=(z.sets y.v.toList ((k+1) * 19)).sets x.v.toList (k * 19);have e:p++(c++[y]++x::a++r)++q=(p++c)++y::x::(a++r++q):=by simp
  have o:p++(c++x::(y::a)++r)++q=(p++c)++x::y::(a++r++q):=by simp
  rw [e,j,<- ai,Zul] at f;rw [o,j,<- ai];exact f
 ·exact Zac (Zac s (Zcu g _ _ wr) (fun _ e _=>e)) (Zcu g _ _ _) (fun _ e _=>e)
theorem Zsg {c:Nat} (p m q:List XV) (a b N:Nat) (ha:a=p.length) (hb:b=a+m.length) (hN:N=b+q.length) (be:N<=100000) (w:World)
  (hX:Zd4 w g (p++m++q) sp) (hC:Zib w g m) :
  Calls prog 179 #[G (some ⟨g,0,none⟩) N c,.int I (a:Int),.int I (b:Int),.func (.func 41) #[] #[]] w fun e w'=>e=Z (O #[])/\(∃ m',m'.Perm m/\Zas m'/\Zd4 w' g (p++m'++q) sp)/\w.grownBy w' (some g):=by
 unfold Zd4 at *;have bl:=hX.lt;have HC:=ae (fun (W:World) (Q:w.grownBy W (some g)) (x y:XV) (hx:x∈m) (hy:y∈m)=>hC W Q x hx y hy);have HO:=ae (fun (x:XV) (_:x∈m)=>(x.h1:x.v.all (·.oneCell')=true));have HX:=ae hX;have a7:a<=100000:=by omega
 have a8:b<=100000:=by omega
 have E:=ae (show a=p.length/\b=a+m.length/\N=b+q.length from ⟨ha,hb,hN⟩);clear hC hX ha hb hN;go_enter func179,ntmps179;go_wp2_with fail;go_loopw [8] (fun i wr=>∃ (k:Nat) (s r:List XV),i=.int I (k:Int)/\k<=b+1/\Hid (a+s.length<=k/\(r≠[]->k=a+s.length/\s≠[])/\(r=[]->b<=k))/\Hid (Ye5 w wr g p q sp m s r)) (fun i _=>b+1 - (intOf i).toNat)
 case atStart =>
  obtain ⟨ha,hb,hN⟩:=E.out;cases m with
  | nil=>exact ⟨a+1,[],[],by go_num,by simp at hb;omega,ae ⟨by simp,fun h=>absurd rfl h,fun _=>by simp at hb;omega⟩,ae ⟨List.Perm.refl _,List.Pairwise.nil,HX.out,World.grownBy.refl w _⟩⟩
  | cons x m=>exact ⟨a+1,[x],m,by go_num,by simp at hb;omega,ae ⟨by simp,fun _=>⟨rfl,by simp⟩,fun h=>by subst h;simp at hb;omega⟩,ae ⟨List.Perm.refl _,List.pairwise_singleton _ _,HX.out,World.grownBy.refl w _⟩⟩
 case round =>
  obtain ⟨k,s,r,rfl,a9,am,X⟩:=hrel;clear HX;by_cases R:r=[]
  ·have bh:=am.out.2.2 R;subst R;have hd:decide (k<b)=false:=decide_eq_false (by omega);go_wp2_with fail;go_end0;have h:=X.out;exact ⟨rfl,⟨s,by simpa using h.1,h.2.1,by simpa using h.2.2.1⟩,h.2.2.2⟩
  ·obtain ⟨a4,bn⟩:=am.out.2.1 R;have C:=ae a4;obtain ⟨x,r,rfl⟩:=List.exists_cons_of_ne_nil R;have U:=ae (show s.length+(r.length+1)=m.length from by
    have:=X.out.1.length_eq;rw [ai,au] at this;exact this)
   have a5:k<b:=by have h1:=U.out;have h2:=E.out;omega
   have hd:=decide_eq_true a5;have HJ:=ae X.out.begin;clear X am R a4;go_wp2_with fail;go_loopw [9] (fun v wr=>∃ (j:Nat) (t B:List XV),v=.int I (j:Int)/\Hid (j=a+t.length/\t.length+B.length=s.length)/\Hid (Znc w wr g p q sp m x t B r)) (fun v _=>(intOf v).toNat)
   case atStart=>exact ⟨k,s,[],rfl,ae ⟨C.out,by simp⟩,HJ⟩
   case round =>
    obtain ⟨j,t,B,rfl,l,X⟩:=hrel;clear HJ hd;have HK:=X.out;have Y:=HK.2.2.2.1.lt;have ab:x∈m:=HK.1.mem_iff.1 (by simp);have an:=ae (HO.out x ab);rcases Zfh t with rfl | ⟨t,y,rfl⟩
    ·-- at the front
     have hd:decide (a<j)=false:=decide_eq_false (by have hj:=l.out.1;simp at hj;omega);clear Y ab HK an;go_upto_region 4 with fail;go_cut [34] (fun v wx=>v=.bool false/\Bl wr wx)
     case first=>as_aux_lemma =>
      refine wp_region_held_drew (S:=(fun V=>Bl wr V)) (by kernel_rfl) ?_ (fun f=>?_)
      ·first | done | ((try dsimp only);exact (ap _ _).drew)
      have Q2:=(ap wr.heap.size wr).drew;generalize wr.drew=w2 at *;refine tq 0 18 rfl ?_;refine tq 1 19 rfl ?_;refine tq 2 20 rfl ?_;refine tq 3 21 rfl ?_;refine tz 4 22 rfl ?_;refine tz 5 23 rfl ?_;refine tz 6 24 rfl ?_;refine tz 7 25 rfl ?_;refine tz 8 26 rfl ?_;refine tz 9 27 rfl ?_;refine tz 10 28 rfl ?_;refine tz 11 29 rfl ?_;refine tz 12 30 rfl ?_;refine tz 13 31 rfl ?_;refine tz 14 32 rfl ?_;refine tz 15 33 rfl ?_;refine tq 16 34 rfl ?_;refine dn ?_;go_wp2_with fail;go_meet;exact ⟨rfl,Q2⟩
     case rest=>as_aux_lemma =>
      obtain ⟨rfl,J⟩:=hcut;have HL:=ae ((X.out.keep J).done (fun y p' e=>by simp at e));clear J X;go_wp2_with fail;go_roundw
      case rel=>exact ⟨k+1,_,r,by go_num,by omega,ae ⟨by have h1:=l.out.2;have h2:=C.out;simp at h1 ⊢;omega,fun hr=>⟨by have h1:=l.out.2;have h2:=C.out;simp at h1 ⊢;omega,by simp⟩,fun hr=>by have h1:=U.out;have h2:=C.out;have h3:=E.out;subst hr;simp at h1;omega⟩,HL⟩
      case measure=>simp [intOf];omega
    ·have aq:y∈m:=HK.1.mem_iff.1 (by simp);obtain ⟨d,rfl⟩:∃ d,j=d+1:=⟨j - 1,by have hj:=l.out.1;simp at hj;omega⟩
     have bc:d+1<N:=by have h1:=l.out.2;have h2:=l.out.1;have h3:=E.out;have h4:=U.out;simp at h1 h2;omega
     have ad:=ae (show d=p.length+t.length from by have hj:=l.out.1;have h2:=E.out;simp at hj;omega);have hd:decide (a<d+1)=true:=decide_eq_true (by have hj:=l.out.1;simp at hj;omega);have bf:decide ((a:Int)<(d:Int)+1)=true:=decide_eq_true (by have hj:=l.out.1;simp at hj;omega);have bk:IntKind.i64.wrap (d:Int)=(d:Int):=by rw [az];omega
     have jz:=decide_eq_true bc;have bg:decide (d<N)=true:=decide_eq_true (by omega);have p2:(0:Int)<=(d:Int)/\(d:Int)<(N:Int):=by omega
     have p3:(d:Int)<(N:Int):=by omega
     have p0:(0:Int)<=(d:Int)+1:=by omega
     have p1:(d:Int)+1<(N:Int):=by omega
     have e0:((d:Int)+1).toNat=d+1:=by omega
     have al:=ae (fun (W:World) (Q:Bl wr W)=>HC.out W (Zac HK.2.2.2.2 (Zaf (row:=none) Q) (fun k e _=>by cases e)) x y ab aq);have rx:wr.rangeAt g ((d+1) * 19) x.v.toList:=Zws (p:=p++t++[y]) (q:=B++r++q) (x:=x) (sp:=sp) (by have:=HK.2.2.2.1;simpa using this) (by have:=ad.out;simp;omega);have ry:wr.rangeAt g (d * 19) y.v.toList:=Zws (p:=p++t) (q:=x::(B++r++q)) (x:=y) (sp:=sp) (by have:=HK.2.2.2.1;simpa using this) (by have:=ad.out;simp;omega);have RX:=ae (fun (W:World) (Q:Bl wr W)=>(fun j' u hu=>(Q.cell (p:=⟨g,(d+1) * 19+j',none⟩) Y).trans (rx j' u hu):W.rangeAt g ((d+1) * 19) x.v.toList));have RY:=ae (fun (W:World) (Q:Bl wr W)=>(fun j' u hu=>(Q.cell (p:=⟨g,d * 19+j',none⟩) Y).trans (ry j' u hu):W.rangeAt g (d * 19) y.v.toList));have a6:=ae (HO.out y aq);have H:=x.hs;have M:=y.hs;clear HK rx ry ab aq;generalize hz:Ze2 x y=z at *;go_upto_region 4 with fail;go_cut [34] (fun v wx=>v=.bool (decide (z<0))/\Bl wr wx)
     case first=>as_aux_lemma =>
      refine wp_region_held_drew (S:=(fun V=>Bl wr V)) (by kernel_rfl) ?_ (fun f=>?_)
      ·first | done | ((try dsimp only);exact (ap _ _).drew)
      have Q2:=(ap wr.heap.size wr).drew;generalize wr.drew=w2 at *;refine tq 0 18 rfl ?_;refine tq 1 19 rfl ?_;refine tq 2 20 rfl ?_;refine tq 3 21 rfl ?_;refine tq 4 22 rfl ?_;refine tq 5 23 rfl ?_;refine tq 6 24 rfl ?_;refine tq 7 25 rfl ?_;refine ty 8 26 rfl (Zcw H _ rfl rfl (fun V h=>RX.out V h) rfl) ?_;refine tq 9 27 rfl ?_;refine tq 10 28 rfl ?_;refine tq 11 29 rfl ?_;refine tq 12 30 rfl ?_;refine ty 13 31 rfl (Zcw M _ rfl rfl (fun V h=>RY.out V h) rfl) ?_;refine rd 14 (some 32) rfl fun K A=>?_;go_simp;(refine (al.out _ Q2).mono ?_;rintro e w3 ⟨rfl,a3⟩);refine A.out _ _ (Q2.trans (a3.mono Q2.size)) fun f=>?_;clear A K;(try simp only [pS,pB,pZ,pC]);have Q3:=Q2.trans (a3.mono Q2.size);refine tq 15 33 rfl ?_;refine tq 16 34 rfl ?_;refine dn ?_;go_wp2_with fail;go_meet;exact ⟨rfl,Q3⟩
     case rest=>as_aux_lemma =>
      obtain ⟨rfl,J⟩:=hcut;have HL:=ae (X.out.keep J);have rx:=RX.out wc J;have ry:=RY.out wc J;clear J X RX RY al Y;by_cases P:z<0
      ·have T:=decide_eq_true P;rw [T];have af:=ae (fun (W:World) (Q:Bl wc W)=>(HL.out.keep Q).swap (by rw [hz];exact P) ad.out);have a2:=ae (fun (W:World) (Q:Bl wc W) (o:Nat) (ho:o+19<=N * 19)=>(Zmn (o:=o) (n:=19) (HL.out.keep Q).2.2.2.1 (by
        have h1:=HL.out.1.length_eq;have h3:=E.out;simp only [ai,au,dk] at h1;rw [ef,ai,Zbz];simp only [ai,au,dk];omega)))
       have a1:=ae (show d=a+t.length/\t.length+(y::B).length=s.length from ⟨by have h1:=l.out.1;simp at h1;omega,by have h1:=l.out.2;simp at h1 ⊢;omega⟩);go_upto_region 6 with fail;clear HC HO E U C l ad HL hz P T hd bf a7 a8 be a5 a9 jz bg;refine wp_region_held_drew (S:=(fun _=>True)) (by kernel_rfl) ?_ (fun f=>?_)
       ·first | done | ((try dsimp only);(try exact True.intro))
       have Qw:=(ap wc.heap.size wc).drew;have HS:=ae (af.out _ Qw);have aa:=ae (a2.out _ Qw);have rx:=(gu _ _ _ _).2 rx;have ry:=(gu _ _ _ _).2 ry;clear af a2 Qw;generalize wc.drew=w2 at *;refine tq 0 37 rfl ?_;refine tq 1 38 rfl ?_;refine tq 2 39 rfl ?_;refine tq 3 40 rfl ?_;refine tq 4 41 rfl ?_;refine tq 5 42 rfl ?_;refine tq 6 43 rfl ?_;refine tq 7 44 rfl ?_;refine tq 8 45 rfl ?_;refine tq 10 47 rfl ?_;refine tq 11 48 rfl ?_;refine tq 12 49 rfl ?_;refine rd2 9 (some 46) 13 (some 50) (by kernel_rfl) rfl rfl (fun K A=>?_) fun K A=>?_
       ·rw [if_pos (by rfl)];refine wp_load_mid 48 _ rfl g (d * 19) rfl y.v.toList _ ry underlying48 rfl (by rw [br,M];kernel_rfl) ?_;rw [bt];refine A.out _ _ trivial (fun f=>?_);clear A K;(try simp only [pS,pB,pZ,pC]);refine rd 13 (some 50) rfl fun K A=>?_;rw [if_pos (by rfl)];refine wp_load_mid 48 _ rfl g ((d+1) * 19) rfl x.v.toList _ rx underlying48 rfl (by rw [br,H];kernel_rfl) ?_;rw [bt];refine A.out _ _ trivial (fun f=>?_);clear A K;(try simp only [pS,pB,pZ,pC]);have a0:(w2.setCells g ((d+1) * 19) y.v.toList).there g (d * 19) x.v.size:=by
         rw [H];exact go (w:=w2) (b':=g) (o':=d * 19) (n:=19) (aa.out (d * 19) (by omega)) g ((d+1) * 19) y.v.toList
        have av:w2.there g ((d+1) * 19) y.v.size:=by
         rw [M];exact aa.out _ (by omega)
        refine tq 14 51 rfl ?_;refine rd 15 none rfl fun K A=>?_;rw [if_pos (by rfl)];refine wp_store_mid 48 _ _ rfl g ((d+1) * 19) y.v rfl rfl av (by rw [M];kernel_rfl) a6.out ?_;refine A.out _ _ trivial (fun f=>?_);clear A K;dsimp only [Act.put];generalize w2.setCells g ((d+1) * 19) y.v.toList=w3 at *;refine tq 16 52 rfl ?_;refine rd 17 none rfl fun K A=>?_;rw [if_pos (by rfl)];refine wp_store_mid 48 _ _ rfl g (d * 19) x.v rfl rfl a0 (by rw [H];kernel_rfl) an.out ?_;refine A.out _ _ trivial (fun f=>?_);clear A K;dsimp only [Act.put];generalize w3.setCells g (d * 19) x.v.toList=w4 at *;refine dn ?_;go_wp2_with fail;go_roundw
        case rel=>exact ⟨d,t,y::B,by go_num,a1,HS⟩
        case measure=>simp [intOf]
       ·rw [if_pos (by rfl)];refine wp_load_mid 48 _ rfl g ((d+1) * 19) rfl x.v.toList _ rx underlying48 rfl (by rw [br,H];kernel_rfl) ?_;rw [bt];refine A.out _ _ trivial (fun f=>?_);clear A K;(try simp only [pS,pB,pZ,pC]);refine rd 9 (some 46) rfl fun K A=>?_;rw [if_pos (by rfl)];refine wp_load_mid 48 _ rfl g (d * 19) rfl y.v.toList _ ry underlying48 rfl (by rw [br,M];kernel_rfl) ?_;rw [bt];refine A.out _ _ trivial (fun f=>?_);clear A K;(try simp only [pS,pB,pZ,pC]);have a0:(w2.setCells g ((d+1) * 19) y.v.toList).there g (d * 19) x.v.size:=by
         rw [H];exact go (w:=w2) (b':=g) (o':=d * 19) (n:=19) (aa.out (d * 19) (by omega)) g ((d+1) * 19) y.v.toList
        have av:w2.there g ((d+1) * 19) y.v.size:=by
         rw [M];exact aa.out _ (by omega)
        refine tq 14 51 rfl ?_;refine rd 15 none rfl fun K A=>?_;rw [if_pos (by rfl)];refine wp_store_mid 48 _ _ rfl g ((d+1) * 19) y.v rfl rfl av (by rw [M];kernel_rfl) a6.out ?_;refine A.out _ _ trivial (fun f=>?_);clear A K;dsimp only [Act.put];generalize w2.setCells g ((d+1) * 19) y.v.toList=w3 at *;refine tq 16 52 rfl ?_;refine rd 17 none rfl fun K A=>?_;rw [if_pos (by rfl)];refine wp_store_mid 48 _ _ rfl g (d * 19) x.v rfl rfl a0 (by rw [H];kernel_rfl) an.out ?_;refine A.out _ _ trivial (fun f=>?_);clear A K;dsimp only [Act.put];generalize w3.setCells g (d * 19) x.v.toList=w4 at *;refine dn ?_;go_wp2_with fail;go_roundw
        case rel=>exact ⟨d,t,y::B,by go_num,a1,HS⟩
        case measure=>simp [intOf]
      ·have T:=decide_eq_false P;rw [T];have HD:=ae (HL.out.done (fun y' p' e=>by
        obtain ⟨_,e2⟩:=List.append_inj' e rfl;injection e2 with e2;subst e2;rw [hz];exact P))
       clear HL T rx ry;go_wp2_with fail;go_roundw
       case rel=>exact ⟨k+1,_,r,by go_num,by omega,ae ⟨by have h1:=l.out.2;have h2:=C.out;simp at h1 ⊢;omega,fun hr=>⟨by have h1:=l.out.2;have h2:=C.out;simp at h1 ⊢;omega,by simp⟩,fun hr=>by have h1:=U.out;have h2:=C.out;have h3:=E.out;subst hr;simp at h1;omega⟩,HD⟩
       case measure=>simp [intOf];omega
def Yh9 (w wr:World) (g:Nat) (l:List XV) (sp:List Value) (bs ci:Nat):Prop:=∃ l',l'.Perm l/\(∀ c,c<ci->Zas (Zfi bs l' c))/\Zd4 wr g l' sp/\w.grownBy wr (some g)
def Yf3 (w wr:World) (g:Nat) (l:List XV) (sp:List Value) (bs:Nat):Prop:=∃ l',l'.Perm l/\(∀ c,Zas (Zfi bs l' c))/\Zd4 wr g l' sp/\w.grownBy wr (some g)
def Yf4 (w wr:World) (g:Nat) (l:List XV) (sp:List Value) (bs ci:Nat):Prop:=∃ l',l'.Perm l/\(∀ c,c<ci->Zas (Zfi (2 * bs) l' c))/\(∀ c,2 * ci<=c->Zas (Zfi bs l' c))/\Zd4 wr g l' sp/\w.grownBy wr (some g)
theorem Zmv:Zas []:=List.Pairwise.nil
theorem Yh9.all {l:List XV} (h:Yh9 w wr g l sp bs ci) (hl:l.length<=ci * bs):Yf3 w wr g l sp bs:=by
 obtain ⟨e,h1,a,f,d⟩:=h;refine ⟨e,h1,fun c=>?_,f,d⟩;by_cases hc:c<ci
 ·exact a c hc
 ·rw [Zn9 (by rw [h1.length_eq];exact aj hl (ie _ (by omega)))];exact Zmv
theorem Yf3.begin {l:List XV} (h:Yf3 w wr g l sp bs):Yf4 w wr g l sp bs 0:=by
 obtain ⟨e,h1,a,f,d⟩:=h;exact ⟨e,h1,fun c hc=>absurd hc (jf c),fun c _=>a c,f,d⟩
theorem Yf3.done {l:List XV} (h:Yf3 w wr g l sp bs) (hl:l.length<=bs):∃ a,a.Perm l/\Zas a/\Zd4 wr g a sp/\w.grownBy wr (some g):=by
 obtain ⟨a,h1,c,e,d⟩:=h;have:=c 0;rw [Yby (by rw [h1.length_eq];exact hl)] at this;exact ⟨a,h1,this,e,d⟩
theorem Zic {α:Type} (l:List α) (a b:Nat) (c:a<=b) (d:b<=l.length):∃ p m q,l=p++m++q/\p.length=a/\m.length=b - a/\q.length=l.length - b:=by
 refine ⟨l.take a,(l.drop a).take (b - a),l.drop b,?_,?_,?_,?_⟩
 ·rw [ay,show l.drop b=(l.drop a).drop (b - a) by rw [i9,show a+(b - a)=b by omega],di,di]
 ·rw [cw];omega
 ·rw [cw,dw];omega
 ·rw [dw]
theorem Zwt {c:Nat} {l:List XV} {a b:Nat} (Q:N=l.length) (o:N<=100000) (P:Zib w g l) (h:Yh9 w wr g l sp bs ci) (J:a=ci * bs) (j:a<=b) (S:b<=N) (d:b=a+bs∨(b=N/\b<=a+bs)) :
  Calls prog 179 #[G (some ⟨g,0,none⟩) N c,.int I (a:Int),.int I (b:Int),.func (.func 41) #[] #[]] wr fun e s=>e=Z (O #[])/\Yh9 w s g l sp bs (ci+1):=by
 obtain ⟨A,h1,y,C,v⟩:=h;have hl:=h1.length_eq;obtain ⟨p,m,q,rfl,M,T,R⟩:=Zic A a b j (by omega);refine (Zsg (c:=c) p m q a b N (by omega) (by omega) (by omega) o wr C ((P.step v).sub (fun x z=>h1.mem_iff.1 (by simp [z])))).mono ?_;rintro e s ⟨rfl,⟨m',t,E,H⟩,K⟩;have B:=t.length_eq;refine ⟨rfl,p++m'++q,(((List.Perm.refl p).append t).append (List.Perm.refl q)).trans h1,fun c hc=>?_,H,Zac v K (fun _ e _=>e)⟩;by_cases k:c<ci
 ·have f:(c+1) * bs<=p.length:=by rw [M,J];exact ie _ (by omega)
  have:=y c k;rw [ay,Zn8 f] at this ⊢;exact this
 ·obtain rfl:c=ci:=by omega
  rw [Zi4 (by omega) (by
   rcases d with d | ⟨d,r⟩
   ·exact .inl (by omega)
   ·exact .inr ⟨by omega,bj (by omega)⟩)]
  exact E
theorem Yb0 {c:Nat} {p s1 s2 q:List XV} (a:p.length=2 * c * bs) (h1:s1.length=bs) (d:s2.length=bs∨(s2.length<=bs/\q=[])):Zfi bs (p++(s1++s2)++q) (2 * c)=s1/\Zfi bs (p++(s1++s2)++q) (2 * c+1)=s2:=by
 constructor
 ·have:=Zi4 (bs:=bs) (c:=2 * c) (p:=p) (m:=s1) (q:=s2++q) a (.inl h1);simpa using this
 ·have:=Zi4 (bs:=bs) (c:=2 * c+1) (p:=p++s1) (m:=s2) (q:=q) (by rw [ai,a,h1,ix,Nat.one_mul]) d;simpa using this
theorem Zsh {c:Nat} {l:List XV} {a m b:Nat} (hN:N=l.length) (B:N<=100000) (hC:Zib w g l) (h:Yf4 w wr g l sp bs ci) (M:a=2 * ci * bs) (hm:m=a+bs) (Y:0<bs) (hmb:m<b) (hb:b<=N) (f:b=m+bs∨(b=N/\b<=m+bs)) :
  Calls prog 180 #[G (some ⟨g,0,none⟩) N c,.int I (a:Int),.int I (m:Int),.int I (b:Int),.func (.func 41) #[] #[]] wr fun e E=>e=Z (O #[])/\Yf4 w E g l sp bs (ci+1):=by
 obtain ⟨S,h1,R,k,U,P⟩:=h;have hl:=h1.length_eq;obtain ⟨p,s,q,rfl,Q,T,lq⟩:=Zic S a b (by omega) (by omega);obtain ⟨s1,s2,s3,rfl,v,r,V⟩:=Zic s bs s.length (by omega) (ag _);obtain rfl:s3=[]:=bj (by omega);rw [bv] at *;have r:s2.length=b - m:=by rw [ai] at T;omega
 have o:s2.length=bs∨(s2.length<=bs/\q=[]):=by
  rcases f with f | ⟨f,j⟩
  ·exact .inl (by omega)
  ·exact .inr ⟨by omega,bj (by omega)⟩
 obtain ⟨c1,c2⟩:=Yb0 (bs:=bs) (c:=ci) (p:=p) (s1:=s1) (s2:=s2) (q:=q) (by omega) v o;have H:=k (2 * ci) (ag _);have K:=k (2 * ci+1) (by omega);rw [c1] at H;rw [c2] at K;refine (Zsf (c:=c) B (b - a) p s1 s2 q a m b wr (by omega) (by omega) (by omega) (by omega) (ag _) (by omega) (by omega) H K (by simpa using U) ((hC.step P).sub (fun x C=>h1.mem_iff.1 (by simp only [List.mem_append] at C ⊢;exact .inl (.inr C))))).mono ?_;rintro e E ⟨rfl,⟨t,J,X,p3⟩,p4⟩;have y:=J.length_eq;rw [ai] at y;refine ⟨rfl,p++t++q,(((List.Perm.refl p).append J).append (List.Perm.refl q)).trans h1,fun c hc=>?_,fun c hc=>?_,p3,Zac P p4 (fun _ e _=>e)⟩
 ·by_cases A:c<ci
  ·have z:(c+1) * (2 * bs)<=p.length:=by
    rw [Q,M,Nat.mul_comm 2 ci,Nat.mul_assoc];exact ie _ (by omega)
   have:=R c A;rw [ay,Zn8 z] at this ⊢;exact this
  ·obtain rfl:c=ci:=by omega
   rw [Zi4 (by rw [Q,M,Nat.mul_comm 2 c,Nat.mul_assoc]) (by
    rcases o with f | ⟨f,j⟩
    ·exact .inl (by omega)
    ·exact .inr ⟨by omega,j⟩)]
   exact X
 ·obtain ⟨d,rfl⟩:∃ d,c=2 * ci+d:=⟨c - 2 * ci,by omega⟩;have hd:2 * bs<=d * bs:=ie _ (by omega);have:=k (2 * ci+d) (by omega)
  rwa [Zuk (m':=t) (by rw [ai];omega) (by omega) (by rw [ai];omega)] at this
theorem Yf4.last {l:List XV} (s:N=l.length) (h:Yf4 w wr g l sp bs ci) (hl:N<=2 * ci * bs+bs):Yf3 w wr g l sp (2 * bs):=by
 obtain ⟨f,h1,k,a,r,p⟩:=h;have o:=h1.length_eq;refine ⟨f,h1,fun c=>?_,r,p⟩;have j:ci * (2 * bs)=2 * ci * bs:=by rw [Nat.mul_comm 2 ci,Nat.mul_assoc]
 by_cases hc:c<ci
 ·exact k c hc
 ·by_cases d:c=ci
  ·subst d;have:=a (2 * c) (ag _);have e:Zfi (2 * bs) f c=Zfi bs f (2 * c):=by
    unfold Zfi;rw [j,et (by rw [dw];omega),et (by rw [dw];omega)]
   rw [e];exact this
  ·have q:(ci+1) * (2 * bs)<=c * (2 * bs):=ie _ (by omega);rw [ix,j] at q;rw [Zn9 (by omega)];exact Zmv
theorem Yf4.all {l:List XV} (a:N=l.length) (h:Yf4 w wr g l sp bs ci) (hl:N<=2 * ci * bs):Yf3 w wr g l sp (2 * bs):=h.last a (by omega)
theorem Zum {c N:Nat} (l:List XV) (P:N=l.length) (v:N<=100000) (w:World) (R:Zd4 w g l sp) (X:Zib w g l) :
  Calls prog 140 #[G (some ⟨g,0,none⟩) N c,.int I (N:Int),.func (.func 41) #[] #[]] w fun e T=>e=Z (O #[])/\∃ K,K.Perm l/\Zas K/\Zd4 T g K sp/\w.grownBy T (some g):=by
 have h:=ae (show Yh9 w w g l sp 20 0 from ⟨l,List.Perm.refl _,fun c hc=>absurd hc (jf c),R,World.grownBy.refl w _⟩);have J:=ae X;have x:=ae P;clear R X P;go_enter func140,ntmps140;go_wp2_with fail;go_loopw [7,8] (fun i j wr=>∃ a b ci:Nat,i=.int I (a:Int)/\j=.int I (b:Int)/\a<=N/\b=a+20/\Hid (a=ci * 20)/\Hid (Yh9 w wr g l sp 20 ci)) (fun i _ _=>N+20 - (intOf i).toNat)
 case atStart=>exact ⟨0,20,0,rfl,rfl,bi _,rfl,ae rfl,h⟩
 case round=>as_aux_lemma =>
  clear h;obtain ⟨a,b,ci,rfl,rfl,z,M,d,h⟩:=hrel;by_cases f:b<=N
  ·have d1:=decide_eq_true f;have p:=ae (Zwt (c:=c) (b:=b) x.out v J.out h.out d.out (by omega) f (.inl M));have r:=ae M;have k1:IntKind.i64.wrap ((b:Int)+20)=(b:Int)+20:=by rw [az];omega
   clear h M;go_wp2_with fail;refine p.out.mono ?_;rintro e w2 ⟨rfl,h1⟩;have t:=ae h1;clear h1 p;go_wp2_with fail;go_roundw
   case rel=>exact ⟨b,b+20,ci+1,rfl,by go_num,f,rfl,ae (by have:=d.out;have:=r.out;omega),t⟩
   case measure=>simp [intOf];have:=r.out;omega
  ·have d1:=decide_eq_false f;have p:=ae (Zwt (c:=c) (b:=N) x.out v J.out h.out d.out z (ag _) (.inr ⟨rfl,by omega⟩));have q:=ae (show l.length<=(ci+1) * 20 from by have:=d.out;have:=x.out;omega);clear h;go_wp2_with fail;refine p.out.mono ?_;rintro e w2 ⟨rfl,h1⟩;have U:=ae (h1.all q.out);clear h1 p q d;go_wp2_with fail;go_loopw [6,7,8,9] (fun s _ _ _ wr=>∃ bs:Nat,s=.int I (bs:Int)/\20<=bs/\bs<=2 * N+20/\Hid (Yf3 w wr g l sp bs)) (fun s _ _ _ _=>N - (intOf s).toNat)
   case atStart=>exact ⟨20,rfl,ag _,by omega,U⟩
   case round=>as_aux_lemma =>
    clear U;obtain ⟨bs,rfl,ad,Y,h⟩:=hrel;by_cases B:bs<N
    ·have d2:=decide_eq_true B;obtain ⟨o,H⟩:∃ o:Nat,o=2 * bs:=⟨_,rfl⟩;have k1:IntKind.i64.wrap (2 * (bs:Int))=(o:Int):=by rw [az];omega
     have k2:IntKind.i64.wrap ((bs:Int) * 2)=(o:Int):=by rw [az];omega
     have k:=ae H;have ab:o<=2 * N:=by omega
     have aa:40<=o:=by omega
     have af:bs<o:=by omega
     have C:=ae h.out.begin;clear h H d1 f;go_wp2_with fail;go_loopw [7,8] (fun i j wr=>∃ a b ci:Nat,i=.int I (a:Int)/\j=.int I (b:Int)/\a<=N/\b<=3 * N/\Hid (b=a+o)/\Hid (a=2 * ci * bs)/\Hid (Yf4 w wr g l sp bs ci)) (fun i _ _=>N+o - (intOf i).toNat)
     case atStart=>exact ⟨0,o,0,rfl,rfl,bi _,by omega,ae (by omega),ae (by simp),C⟩
     case round=>as_aux_lemma =>
      clear C d2;obtain ⟨a,b,ci,rfl,rfl,z,V,r,d,h⟩:=hrel;by_cases f:b<=N
      ·have d1:=decide_eq_true f;obtain ⟨m,hm⟩:∃ m:Nat,m=a+bs:=⟨_,rfl⟩;have p:=ae (Zsh (c:=c) (m:=m) (b:=b) x.out v J.out h.out d.out hm (by omega) (by have:=r.out;have:=k.out;omega) f (.inl (by have:=r.out;have:=k.out;omega)));have k3:IntKind.i64.wrap ((a:Int)+(bs:Int))=(m:Int):=by rw [az];omega
       obtain ⟨b',A⟩:∃ b':Nat,b'=b+o:=⟨_,rfl⟩;have k4:IntKind.i64.wrap ((b:Int)+(o:Int))=(b':Int):=by rw [az];omega
       have E:=ae A;clear h hm A;go_wp2_with fail;refine p.out.mono ?_;rintro e w3 ⟨rfl,h1⟩;have t:=ae h1;clear h1 p;go_wp2_with fail;go_roundw
       case rel=>exact ⟨b,b',ci+1,rfl,rfl,f,by have:=E.out;omega,E,ae (by have h1:=d.out;have Q:=r.out;have S:=k.out;rw [Q,h1,S,Nat.mul_add,iu,ix]),t⟩
       case measure=>simp [intOf];have:=r.out;omega
      ·have d1:=decide_eq_false f;obtain ⟨m,hm⟩:∃ m:Nat,m=a+bs:=⟨_,rfl⟩;have k3:IntKind.i64.wrap ((a:Int)+(bs:Int))=(m:Int):=by rw [az];omega
       by_cases y:m<N
       ·have d2:=decide_eq_true y;have p:=ae (Zsh (c:=c) (m:=m) (b:=N) x.out v J.out h.out d.out hm (by omega) y (ag _) (.inr ⟨rfl,by have:=r.out;have:=k.out;omega⟩));have q:=ae (show N<=2 * (ci+1) * bs from by have h1:=d.out;have Q:=r.out;have S:=k.out;rw [Nat.mul_add,iu,ix];omega);clear h hm;go_wp2_with fail;refine p.out.mono ?_;rintro e w3 ⟨rfl,h1⟩;have t:=ae (h1.all x.out q.out);rw [<- k.out] at t;clear h1 p;go_wp2_with fail;go_roundw
        case rel=>exact ⟨o,rfl,by omega,by omega,t⟩
        case measure=>simp [intOf];omega
       ·have d2:=decide_eq_false y;have t:=ae (h.out.last x.out (by have h1:=d.out;omega));rw [<- k.out] at t;clear h hm;go_wp2_with fail;go_roundw
        case rel=>exact ⟨o,rfl,by omega,by omega,t⟩
        case measure=>simp [intOf];omega
    ·have d2:=decide_eq_false B;have HD:=ae (h.out.done (by have:=x.out;omega));clear h;go_wp2_with fail;go_end0;exact ⟨rfl,HD.out⟩
def toX (x:FV):XV:=if h:x.vals.all (·.oneCell')=true then ⟨x.f.key,x.vals,FV.size x,h⟩ else ⟨x.f.key,(List.replicate 19 (Value.int I 0)).toArray,by simp,all_oneCell_toArray (fun v hv=>by rw [List.eq_of_mem_replicate hv];rfl)⟩
theorem Yhu {x:FV} (h:x.vals.all (·.oneCell')=true):(toX x).v=x.vals:=by unfold toX;rw [dif_pos h]
theorem Ye6 (x:FV):(toX x).k=x.f.key:=by unfold toX;split <;> rfl
theorem Zj1:∀ {l:List FV},(∀ x∈l,x.vals.all (·.oneCell')=true)->Zb7 (l.map toX)=Zam l
 | [],_=>rfl
 | x::l,h=>by
  rw [du,Zbu,Zcl,Yhu (h x (da ..)),Zj1 (fun y hy=>h y (dh _ hy))]
theorem Zyp {l:List FV} (h:Zas (l.map toX)):Zb4 l:=by
 unfold Zas at h;rw [List.pairwise_map] at h;refine h.imp (fun {x y} a=>?_);unfold Ze2 at a;rw [Ye6,Ye6] at a;exact a
theorem Yb1 (l:List FV) (hl:l.length<=1000) (v:Value) (w:World) (T:SlF w v l) (K:Zi1 w l) (hG:w.cell? ⟨0,0,none⟩=some (.int I 655)) (h0:0<w.heap.size) :
  Calls prog 47 #[v] w fun e r=>(∃ u t,e=Z u/\t.Perm l/\Zb4 t/\SlF r u t)/\Bl w r:=by
 have C:=ae (Zn4 l (by omega) v w T (Zfu K));have J:=ae K;have h1:∀ x∈l,x.vals.all (·.oneCell')=true:=fun x q=>Zez (Zbs.one (K x q).2);have M:=ae h1;obtain ⟨A,c,rfl,_⟩:=T.form;clear T K h1;go_enter func47,ntmps47;go_wp2_with fail;refine C.out.mono ?_;rintro e o ⟨⟨u,rfl,ho⟩,a⟩;clear C;rcases Zwh ho with ⟨rfl,rfl⟩ | ⟨g,c2,sp,rfl,aa,hg,Q⟩
 ·have H:=ae (Zd0 none 0 0 o (fun r=>r=o) (ae (Zh9 (G none 0 0) 0 (by omega) o (fun r=>r=o) (ae (Zmo o)))));clear ho;go_wp2_with fail;refine H.out.mono ?_;rintro e w2 ⟨rfl,rfl⟩;clear H;go_wp2_with fail;go_ret;exact ⟨⟨_,[],rfl,List.Perm.refl _,List.Pairwise.nil,SlF.nil _⟩,a⟩
 ·have Y:=Q.lt;have z:Zd4 o g (l.map toX) sp:=by unfold Zd4;rw [Zj1 M.out];exact Q
  have V:Zib o g (l.map toX):=by
   intro W S x' R y' P;obtain ⟨x,q,rfl⟩:=List.mem_map.1 R;obtain ⟨y,hy,rfl⟩:=List.mem_map.1 P;rw [Yhu (M.out x q),Yhu (M.out y hy)];have U:∀ p:Addr,p.block<w.heap.size->W.cell? p=w.cell? p:=fun p s=>(dc (S.block p.block (ah s a.size) (fun e=>by injection e with e;omega))).trans (a.cell s);have h:=Zo6 x y W (J.out x q).1 (J.out y hy).1 w.heap.size (by have:=S.size;have:=a.size;omega) (Zbs.keep (J.out x q).2 U (ag _)) (Zbs.keep (J.out y hy).2 U (ag _)) ((U ⟨0,0,none⟩ h0).trans hG) (by have:=S.size;omega);have e:Ze2 (toX x) (toX y)=Zf3 x.f y.f:=by unfold Ze2 Zf3;rw [Ye6,Ye6]
   rw [e];exact h
  have H:=ae (Zd0 (some ⟨g,0,none⟩) l.length c2 o _ (ae (Zum (c:=c2) (l.map toX) (by simp) (by omega) o z V)));clear ho Q z V;go_wp2_with fail;refine H.out.mono ?_;rintro e w2 ⟨rfl,m,s,hs,d,B⟩;obtain ⟨t,j,rfl⟩:=Ybz toX s l rfl;have HP:=ae j;have X:=ae (Zyp hs);have E:=j.length_eq;unfold Zd4 at d;rw [Zj1 (fun x q=>M.out x (j.mem_iff.1 q))] at d;have hR:=ae (SlF.of_blk (c:=c2) d);have P2:=a.grown B a.size (fun k e=>by injection e with e;omega);clear H s j hs d B;go_wp2_with fail;go_ret;exact ⟨⟨_,t,rfl,HP.out,X.out,by have:=hR.out;rw [E] at this;exact this⟩,P2⟩
theorem Yb2 {n:Nat} (a:2<=n) (h:n<=16):Za4 n=Zar n:=by
 have e:n=2∨n=3∨n=4∨n=5∨n=6∨n=7∨n=8∨n=9∨n=10∨n=11∨n=12∨n=13∨n=14∨n=15∨n=16:=by omega
 rcases e with rfl | rfl | rfl | rfl | rfl | rfl | rfl | rfl | rfl | rfl | rfl | rfl | rfl | rfl | rfl <;> decide
theorem Zhn (h:Nat):∀ (f i n:Nat) (ps:List Nat),1<=n->n<=16->i<n->Yaw f i n ps.length=true->Zbj (ps.length+1) i n h ps=Zg5 f i n h ps/\Zig (ps.length+1) i n ps.length=true
 | 0,_,_,_,_,_,_,hf=>by simp [Yaw] at hf
 | f+1,i,n,ps,h1,h16,hi,hf=>by
  unfold Yaw at hf;by_cases hc:n=1∨ps.length=0
  ·rw [if_pos hc] at hf;unfold Zbj Zg5 Zig;rw [if_pos hc,if_pos hc,if_pos hc];exact ⟨rfl,hf⟩
  ·rw [if_neg hc] at hf;have c:2<=n:=by omega
   have d:=Zk7 c;obtain ⟨m,hm⟩:∃ m,ps.length=m+1:=⟨ps.length - 1,by omega⟩
   have hd:ps.dropLast.length=m:=by rw [List.length_dropLast];omega
   unfold Zbj Zg5 Zig;rw [if_neg hc,if_neg hc,if_neg hc,Yb2 c h16];by_cases hl:i<Zar n
   ·rw [if_pos hl] at hf;have a:=Zhn h f i (Zar n) ps.dropLast d.1 (by omega) hl (by rw [hd];rw [hm] at hf;exact hf);rw [hd] at a;rw [if_pos hl,if_pos hl,if_pos hl,hm,jc,a.1];exact ⟨rfl,a.2⟩
   ·rw [if_neg hl] at hf;have a:=Zhn h f (i - Zar n) (n - Zar n) ps.dropLast (by omega) (by omega) (by omega) (by rw [hd];rw [hm] at hf;exact hf);rw [hd] at a;rw [if_neg hl,if_neg hl,if_neg hl,hm,jc,a.1];exact ⟨rfl,a.2⟩
def ks2:List Nat:=[Zie 5,Zie 6]
theorem Yhv {fl:List Fil} (o:Nat) (ho:o<2) (a:Zkv fl (o:Int)) {i:Nat} (hi:i<fl.length):tkE ks2 (hOf (5+o) fl fl[i].office) (Zfe i) (i:Int) (Ybq fl i) (some fl[i])=0:=by
 have hl:=a.len;have c:=a.office _ (aw hi);have d:=Yf2 hi hl;have k:=Ybr (5+o) (o:=fl[i].office) hl (by omega) a.ok (by rw [c];omega);have r:=Ybs (5+o) (o:=fl[i].office) hi;have f:=Zhn (Zbo (Zdh fl[i]) (Zfe i)) 16 i fl.length (Ybq fl i) (by omega) (by omega) hi d.2;have h:ks2.getD (fl[i].office).toNat 0=Zie (5+o):=by
  rw [c];have e:o=0∨o=1:=by omega
  rcases e with rfl | rfl <;> rfl
 have q:Yjm ks2.length (some fl[i])=0:=by
  show (if ((2:Nat):Int)<=fl[i].office then (7:Int) else 0)=0;rw [if_neg (by rw [c];omega)]
 have p:Yi7 ks2 (hOf (5+o) fl fl[i].office) (Zfe i) (i:Int) (Ybq fl i) (some fl[i])=0:=by
  show chE (ks2.getD (fl[i].office).toNat 0) _ _ _ _ _=0;rw [h];unfold chE;have t:Yh7 (hOf (5+o) fl fl[i].office) (some fl[i])=0:=Zk6 _ rfl;have s:Yi5 (hOf (5+o) fl fl[i].office) (Zfe i) (i:Int) (Ybq fl i) (some fl[i])=0:=by
   show Yhf _ _ _ _ _=0;unfold Yhf;rw [if_neg (by omega)];unfold Yfy;have j:(hOf (5+o) fl fl[i].office).size=(fl.length:Int):=rfl;have l:(hOf (5+o) fl fl[i].office).log=Zci 16 (Zd3 fl):=rfl;rw [j,l,if_neg (by omega),Int.toNat_natCast,Int.toNat_natCast];rw [if_pos ⟨by rw [f.1];exact d.1.symm,f.2⟩]
  unfold Zcq;rw [if_pos t,if_pos k,s]
 unfold tkE Zcq;rw [if_pos (show avE (some fl[i])=0 from rfl),if_pos q,p]
structure ShP (W:World) (ks:List Nat) (As:Option Addr) (cs sp mb:Nat) (L:List FV):Prop where
 hs:Blk W sp 74 #[G As ks.length cs,.map (some mb)]
 hm:W.ownsMap prog 3 Zgr mb L.length (Zdm L)
 fi:Zc9 L
 af:Zi1 W L
 rs:Zgq W As ks
section
variable {W W':World} {ks:List Nat} {As:Option Addr} {cs sp mb:Nat} {L:List FV}
theorem ShP.keep (h:ShP W ks As cs sp mb L) (a:Bl W W'):ShP W' ks As cs sp mb L :=
 ⟨h.hs.keep a,Zda h.hm a,h.fi,h.af.keep a,h.rs.keep a⟩
theorem ShP.mapint (h:ShP W ks As cs sp mb L) (i:Nat) (k:IntKind) (n:Int):W.cell? ⟨mb,i,none⟩≠some (.int k n):=by
 rw [Zfy h.hm ⟨mb,i,none⟩ rfl];intro e;cases e
theorem ShP.other {a s r:Nat} {q o:DataW Value} (h:ShP W ks As cs sp mb L) (f:mb≠a) (d:W.ownsMap prog 3 Zgr a s q) (t:W'.ownsMap prog 3 Zgr a r o) (c:W.grownBy W' (some a)):ShP W' ks As cs sp mb L:=by
 have j:∀ p:Addr,p.block<W.heap.size->p.block≠a->W'.cell? p=W.cell? p:=fun p l _=>KR.of_map c d t p l;have hn:∀ (i:Nat) (k:IntKind) (n:Int),W.cell? ⟨a,i,none⟩≠some (.int k n):=fun i k n e=>by
  rw [Zfy d ⟨a,i,none⟩ rfl] at e;cases e
 exact ⟨h.hs.grown c (fun e=>Zg8 d h.hs (Option.some.inj e)),Zsc h.hm c (fun e=>f (Option.some.inj e).symm),h.fi,h.af.turn j c.size hn,h.rs.turn j hn⟩
theorem Zwu (S:ShP W ks As cs sp mb L) {C V:Array Value} {h:Hd} {i:Int} {s:Nat} {A:Option Addr} {c:Nat} {ps:List Nat} {f:Fil} (H:CyS W C V h i s A c ps (some f))
  (t:Zbw ks) (P:W.cell? ⟨0,0,none⟩=some (.int I 655)) (hl:L.length<=900) (M:tkE ks h s i ps (some f)=0) (d:∀ y∈L,y.f.file=f.file->y.f=f) :
  Calls prog 12 #[.pointer (some ⟨sp,0,none⟩),.agg C] W fun e W'=>∃ (b:Bool) (z:List FV),e=Z (O #[.bool b,.int I 0])/\z.length<=L.length+1/\(b=false->f∈L.map (·.f))/\(b=true->f ∉ L.map (·.f))/\z.map (·.f)=(if b then L.map (·.f)++[f] else L.map (·.f))/\W.grownBy W' (some mb)/\ShP W' ks As cs sp mb z:=by
 have R:0<W.heap.size:=Nat.lt_of_le_of_lt (bi _) S.hs.lt;obtain ⟨dv,cv,ev,J,k,Q⟩:=H.act;by_cases E:∃ y∈L,y.f.file=f.file
 ·obtain ⟨y,hy,r⟩:=E;obtain ⟨v,l⟩:=S.af y hy;have q:=d y hy r;refine (Zwj H P R ks t cs As S.rs sp mb S.hs L.length L S.fi S.hm ⟨f,dv,cv,ev⟩ y J k Q hy v l r M).mono ?_;rintro e W' ⟨rfl,K⟩;have hc:Zf3 y.f f=0:=by rw [q];exact Zrk.2 rfl
  have a:f∈L.map (·.f):=List.mem_map.2 ⟨y,hy,q⟩;refine ⟨false,L,by show Ending.returned (O #[.bool false,.int I (if Zf3 y.f f=0 then 0 else 22)])=_;rw [if_pos hc],gq _,fun _=>a,fun h=>Bool.noConfusion h,rfl,Zaf K,S.keep K⟩
 ·have j:∀ y∈L,y.f.file≠(⟨f,dv,cv,ev⟩:FV).f.file:=fun y hy e=>E ⟨y,hy,e⟩;refine (Zwk H P R ks t cs As S.rs sp mb S.hs L.length (by omega) L S.hm ⟨f,dv,cv,ev⟩ J k j M).mono ?_;rintro e W' ⟨rfl,hm,o⟩;have B:∀ p:Addr,p.block<W.heap.size->p.block≠mb->W'.cell? p=W.cell? p:=fun p T _=>KR.of_map o S.hm hm p T;have hn:=S.mapint;refine ⟨true,L++[⟨f,dv,cv,ev⟩],rfl,by rw [ai];exact ag _,fun h=>Bool.noConfusion h,fun _ a=>?_,by rw [cj];rfl,o,⟨S.hs.grown o (fun e=>Zg8 S.hm S.hs (Option.some.inj e)),?_,S.fi.snoc j,?_,S.rs.turn B hn⟩⟩
  ·obtain ⟨y,hy,e⟩:=List.mem_map.1 a;exact j y hy (by show y.f.file=f.file;rw [e])
  ·rw [ai,ei];exact hm
  ·intro y hy;rcases List.mem_append.1 hy with hy | hy
   ·exact (S.af.turn B o.size hn) y hy
   ·rw [List.mem_singleton.1 hy];exact ⟨k,FV.At.turn (x:=⟨f,dv,cv,ev⟩) Q B o.size hn⟩
end
theorem Zkm {l m:List FV} (hl:Zb4 l) (hm:Zb4 m) (d:(l.map (·.f)).Perm (m.map (·.f))):l.map (fun x=>Zdh x.f)=m.map (fun x=>Zdh x.f):=by
 have e:l.map (fun x=>x.f.key)=m.map (fun x=>x.f.key):=by
  refine List.Perm.eq_of_pairwise (le:=fun a b=>Zf2 a b<=0) ?_ ?_ ?_ ?_
  ·intro a b _ _ h1 c;refine Zo2 ?_;rw [Zg1 a b] at c;omega
  ·rw [List.pairwise_map];exact hl
  ·rw [List.pairwise_map];exact hm
  ·have:=d.map Fil.key;rw [iz,iz] at this;exact this
 have c:∀ (a b:List FV),a.map (fun x=>x.f.key)=b.map (fun x=>x.f.key)->a.map (fun x=>Zdh x.f)=b.map (fun x=>Zdh x.f):=by
  intro a;induction a with
  | nil=>intro b h;cases b with
   | nil=>rfl
   | cons _ _=>cases h
  | cons x a ih=>intro b h;cases b with
   | nil=>cases h
   | cons y b =>
    simp only [du,List.cons.injEq] at h ⊢;exact ⟨Zo3.1 h.1,ih b h.2⟩
 exact c l m e
theorem Zax.set {B:Nat} {cs:List Value} (h:Zax W B cs ds) {d:D} (l:Rep W B u d):Zax W B (cs.set i u) (ds.set i d):=by
 refine ⟨by rw [iw,iw];exact h.1,fun j v e c a=>?_⟩;by_cases k:i=j
 ·subst k;have h1:=Zap c;have f:=Zap a;rw [iw] at h1 f;rw [List.getElem?_set_self h1] at c;rw [List.getElem?_set_self f] at a;cases c;cases a;exact l
 ·rw [List.getElem?_set_ne k] at c a;exact h.2 j v e c a
theorem Zsi {base:Nat} {e:TypeId} {size n c:Nat} {d:List Value} (h:w.ownsRow base e size (G (some ⟨g,0,none⟩) n c) m d):m=n:=by
 rcases h.2 with ⟨e,_⟩ | ⟨k,cap,a,e,_⟩
 ·cases e
 ·injection e with _ e _;exact e.symm
theorem Zbv.set {ts:List TypeId} {H:List Nat} {base:Nat} {e:TypeId} {size g n c:Nat} (h:Zbv ts H w base e size (G (some ⟨g,0,none⟩) n c) ds) {d:D} (p:Zdf ts (g::H) w u d):Zbv ts H (w.setCell ⟨g,i,none⟩ u) base e size (G (some ⟨g,0,none⟩) n c) (ds.set i d):=by
 obtain ⟨m,f,h1,j⟩:=h;have a:m=n:=Zsi h1;subst a;obtain ⟨o,l⟩:=h1.stored i u;refine ⟨m,f.set i u,o,?_⟩
 ·have q:Zb0 ts ((Value.slice (some ⟨g,0,none⟩) m c).ownBlock.toList++H) w (f.set i u) (ds.set i d):=Zax.set j p;exact q.step l (fun k e _=>.inr (by injection e with e;subst e;exact da ..)) (fun k r=>.inl r)
end Go.Proofs.YtglkadmfjaecmaaGreatDoor
