import Derived.Test.YtglkadmfjaecmaaGreatDoorD21
set_option maxRecDepth 100000
set_option maxHeartbeats 16000000
namespace Go.Proofs.YtglkadmfjaecmaaGreatDoor
open Go.RowKit Go.Shelf _root_.Go.Proofs.Tryz
open Go.IntKind renaming i64->I
open Go.Ending renaming returned->Z
open Go.Value renaming slice->G, pointer->X
open Go.Obj renaming cells->O
attribute [local go_sem] Oper.semAt_some
variable {K:Act->World->Prop} {Q:Exit->Act->World->Prop} {W W' w:World} {g i mb nn rp:Nat} {l:List FV} {o:Oper} {x:FV}
def RsO (w wr:World) (l s:List FV) (i:Nat) (v:Value):Prop:=s.length=i/\s.Perm (l.take i)/\Zb4 s/\wr.ownsRow w.heap.size 48 19 v i (Zam s)/\(i=0->v=G none 0 0)
def RsI (s:List FV) (x:FV) (k:Nat):Prop:=∀ z∈s.drop k,Zf3 x.f z.f<0
def RsX (s:List FV) (x:FV) (k:Nat):Prop:=RsI s x k/\∀ (_:0<k) (h2:k - 1<s.length),¬ Zf3 x.f (s[k - 1]'h2).f<0
def RsB (s:List FV) (x:FV) (k:Nat) (b:Bool):Prop:=(b=true->0<k/\RsI s x (k - 1))/\(b=false->RsX s x k)
theorem RsO.insert {wr w2:World} {s:List FV} {v v2:Value} (h:RsO w wr l s i v) (hi:i<l.length) {k:Nat} (H:k<=i) (u:RsX s l[i] k) (ho:w2.ownsRow w.heap.size 48 19 v2 (i+1) (Zam (s.take k++l[i]::s.drop k))):RsO w w2 l (s.take k++l[i]::s.drop k) (i+1) v2:=by
 obtain ⟨r,q⟩:=u;obtain ⟨h1,m,A,E,C⟩:=h;have e:s.take k++s.drop k=s:=di k s;refine ⟨?_,?_,?_,ho,fun h=>by omega⟩
 ·rw [ai,au,cw,dw];omega
 ·rw [dq,ak hi];have t:(s.take k++l[i]::s.drop k).Perm (l[i]::s):=by
   have:=List.perm_middle (a:=l[i]) (l₁:=s.take k) (l₂:=s.drop k);rw [e] at this;exact this
  refine t.trans ((List.Perm.cons _ m).trans ?_);exact (List.perm_append_singleton _ _).symm
 ·refine Zl9 (by rw [e];exact A) r (fun y p hy=>?_);have b:k=p.length+1:=by
   have:=congrArg List.length hy;rw [cw,ai,ei] at this;omega
  subst b;have c:p.length<s.length:=by omega
  have d:s[p.length]?=some y:=by
   have:=congrArg (fun z:List FV=>z[p.length]?) hy;simpa [List.getElem?_take] using this
  have B:s[p.length]=y:=by
   rw [ak c] at d;injection d
  have j:¬ Zf3 l[i].f (s[p.length]).f<0:=q (Nat.succ_pos _) c;rw [B] at j;exact j
theorem RsI.step {s:List FV} {k:Nat} (h:RsI s x k) (c:0<k) (b:k - 1<s.length) (hc:Zf3 x.f (s[k - 1]'b).f<0):RsI s x (k - 1):=fun z a=>by
 rw [ct b] at a;rcases List.mem_cons.1 a with rfl | a
 ·exact hc
 ·rw [show k - 1+1=k by omega] at a;exact h z a
theorem Zmr (s:List FV) (k:Nat):Zam (s.take k)=(Zam s).take (k * 19):=by
 by_cases a:k<=s.length
 ·have e:Zam s=Zam (s.take k)++Zam (s.drop k):=by rw [<- Zcv,di]
  have h1:(Zam (s.take k)).length=k * 19:=by rw [Zbe,cw,ik a]
  conv=>rhs;rw [e,<- h1,List.take_left]
 ·rw [et (show s.length<=k by omega),et (by rw [Zbe];omega)]
theorem Zms (s:List FV) (k:Nat) (a:k<=s.length):Zam (s.drop k)=(Zam s).drop (k * 19):=by
 have e:Zam s=Zam (s.take k)++Zam (s.drop k):=by rw [<- Zcv,di]
 have h1:(Zam (s.take k)).length=k * 19:=by rw [Zbe,cw,ik a]
 conv=>rhs;rw [e,<- h1,List.drop_left]
theorem Zyi {l:List FV} (h:∀ x∈l,x.vals.all (·.oneCell')=true):∀ u∈Zam l,u.oneCell'=true:=fun u a=>by
 obtain ⟨x,b,a⟩:=List.mem_flatMap.1 a;exact (Array.all_eq_true_iff_forall_mem.1 (h x b)) u (Array.mem_def.2 a)
theorem Yex {s:List FV} {k:Nat} (d:k<s.length) {j:Nat} {u:Value} (b:s[k].vals.toList[j]?=some u):(Zam s)[k * 19+j]?=some u:=by
 have c:=Zcd (l:=s) (f:=fun x:FV=>x.vals.toList) (k:=19) (i:=k) (a:=s[k]) (fun _ _=>rfl) (ak d);have e:j<19:=by have:=Zap b;exact this
 have h1:(((s.flatMap fun x=>x.vals.toList).drop (k * 19)).take 19)[j]?=some u:=by rw [c];exact b
 rw [gi,if_pos e,fz] at h1;exact h1
theorem Zpu {base base':Nat} {e:TypeId} {size:Nat} {v:Value} {n:Nat} {c:List Value} (h:w.ownsRow base e size v n c) (d:base'<=base):w.ownsRow base' e size v n c:=by
 refine ⟨h.1,?_⟩;rcases h.2 with hn | ⟨g,cap,b,f,a,rest⟩
 ·exact .inl hn
 ·exact .inr ⟨g,cap,b,f,aj d a,rest⟩
theorem Zds {a:Act} (x:Operand) (ho:o.op=.buildSlice 23 1 #[(0,x)]) (C:Array Value) (hs:C.size=19) (f:a.eval x=.agg C)
  (c:K (a.put o.dst (G (some ⟨w.heap.size,0,none⟩) 1 1)) (w.alloc (O C 48))):o.wp prog a w K Q:=by
 obtain ⟨d,op,ty,b,after,e⟩:=o;obtain rfl:op=_:=ho;unfold Oper.wp;rw [Zr5 d ty b after e a.eval x C hs f w,Oper.upon_value];exact c
theorem Zyj {s:List FV} (b:g<W.heap.size) (hc:∀ (j:Nat) (u:Value),(Zam s)[j]?=some u->W.cell? ⟨g,j,none⟩=some u) {k:Nat} (hi:s.length=i) (d:k<=i) (c c2:Nat):Zer W (G (some ⟨g,0,none⟩) k c) k 19 (Zam (s.take k))/\Zer W (G (some ⟨g,k * 19,none⟩) (i - k) c2) (i - k) 19 (Zam (s.drop k)):=by
 subst hi;refine ⟨⟨by rw [Zbe,cw,ik d],.inr ⟨g,0,c,rfl,b,fun j u a=>?_⟩⟩,⟨by rw [Zbe,dw],.inr ⟨g,k * 19,c2,rfl,b,fun j u a=>?_⟩⟩⟩
 ·rw [Zmr,gi] at a;by_cases e:j<k * 19
  ·rw [if_pos e] at a;rw [cz];exact hc j u a
  ·rw [if_neg e] at a;cases a
 ·rw [Zms _ _ d,fz] at a;exact hc _ u a
theorem Zmt (l:List FV) (hl:l.length<=100) (v:Value) (w:World) (hv:SlF w v l) (hA:Zi1 w l) :
  Calls prog 17 #[v] w fun e w'=>(∃ u l',e=Z u/\l'.Perm l/\Zb4 l'/\w'.ownsRow w.heap.size 48 19 u l'.length (Zam l'))/\Bl w w':=by
 have HV:=ae hv;obtain ⟨A,c,rfl,_⟩:=hv.form;have HC:=ae (fun (W:World) (C:Bl w W) (x y:FV) (hx:x∈l) (hy:y∈l)=>Zyh x y W (hA x hx).1 (hA y hy).1 w.heap.size C.size (Zbs.keep (hA x hx).2 (fun p hp=>C.cell hp) (ag _)) (Zbs.keep (hA y hy).2 (fun p hp=>C.cell hp) (ag _)));have a1:=ae (fun (x:FV) (hx:x∈l)=>FV.one (hA x hx).2);clear hv hA;go_enter func17,ntmps17;go_wp2_with fail;go_loopw [3,4] (fun v i wr=>∃ (k:Nat) (s:List FV),i=.int I (k:Int)/\k<=l.length/\Hid (RsO w wr l s k v)/\Bl w wr) (fun _ i _=>l.length - (intOf i).toNat)
 case atStart=>exact ⟨0,[],rfl,bi _,ae ⟨rfl,List.Perm.refl _,List.Pairwise.nil,d8 _ _ _ _,fun _=>rfl⟩,ap _ _⟩
 case round =>
  obtain ⟨i,s,rfl,hi,HO,hB⟩:=hrel;by_cases aq:i<l.length
  ·have hd:=decide_eq_true aq;obtain ⟨A0,c0,e0,hf⟩:=HV.out.form;injection e0 with e0 en ec;clear ec en;subst e0;obtain ⟨b,o,rfl,hr⟩:=hf i aq;have bc:=bu w _ (hr 0 _ rfl);have RX:=ae (fun (W:World) (C:Bl w W)=>(fun j u B=>(C.cell (p:=⟨b,o+i * 19+j,none⟩) bc).trans (hr j u B):W.rangeAt b (o+i * 19) l[i].vals.toList));have a4:∀ z∈s,z∈l:=fun z hz=>ed (HO.out.2.1.mem_iff.1 hz);have a6:=aw aq;have bx:=ae (fun (W:World) (C:Bl w W) (y:FV) (hy:y∈s)=>HC.out W C l[i] y a6 (a4 y hy));have a0:=ae (Zyi (fun x hx=>a1.out x (a4 x hx)));have E:∀ u∈l[i].vals.toList,u.oneCell'=true:=fun u B=>(Array.all_eq_true_iff_forall_mem.1 (a1.out _ a6)) u (Array.mem_def.2 B);have am:=ae (fun (w2:World) (v2:Value) (k:Nat) (hk:k<=i) hX ho=>HO.out.insert (w2:=w2) (v2:=v2) aq hk hX ho);have ad:=ae HO.out.1;have bg:=ae HO.out.2.2.2.2;obtain ⟨Ao,co,bp,b5,an⟩:=Zcz HO.out.2.2.2.1;subst bp;have af:=ae an;have R:=FV.size l[i];have aa:l[i].vals.size=1 * 19:=rfl;clear hr hf a4 a6 an HO;generalize l[i]=x at *;go_wp2_with fail;obtain ⟨w5,rfl⟩:∃ z:World,z=wr:=⟨_,rfl⟩;go_loopw [5] (fun kk wy=>∃ k:Nat,kk=.int I (k:Int)/\k<=i/\Hid (RsI s x k)/\Bl w5 wy) (fun kk _=>(intOf kk).toNat)
   case atStart=>exact ⟨i,rfl,ag _,ae (fun z hz=>by rw [gh (by have:=ad.out;omega)] at hz;cases hz),ap _ _⟩
   case round =>
    obtain ⟨k,rfl,hk,HI,al⟩:=hrel;go_upto_region 6 with fail;go_cut [29] (fun v wx=>∃ bb:Bool,v=.bool bb/\Hid (RsB s x k bb)/\Bl w5 wx)
    case first=>as_aux_lemma =>
     cases k with
     | zero =>
      have HZ:=ae (show RsB s x 0 false from ⟨fun h=>(by cases h),fun _=>⟨HI.out,fun h=>absurd h (Nat.lt_irrefl _)⟩⟩);refine wp_region_held_drew (S:=(fun V=>Bl wr V)) (by kernel_rfl) ?_ (fun a=>?_)
      ·first | done | ((try dsimp only);exact (ap _ _).drew)
      have Q2:=(ap wr.heap.size wr).drew;generalize wr.drew=w2 at *;refine tq 0 15 rfl ?_;refine tq 1 16 rfl ?_;refine tq 2 17 rfl ?_;refine tz 3 18 rfl ?_;refine tz 4 19 rfl ?_;refine tz 5 20 rfl ?_;refine tz 6 21 rfl ?_;refine tz 7 22 rfl ?_;refine tz 8 23 rfl ?_;refine tz 9 24 rfl ?_;refine tz 10 25 rfl ?_;refine tz 11 26 rfl ?_;refine tz 12 27 rfl ?_;refine tz 13 28 rfl ?_;refine tq 14 29 rfl ?_;refine dn ?_;go_wp2_with fail;go_meet;exact ⟨false,rfl,HZ,Zaa al Q2 al.size⟩
     | succ r =>
      have a2:r<s.length:=by have:=ad.out;omega
      obtain ⟨g,rfl,_,a3,hc⟩:=af.out (by omega);have a9:s[r]∈s:=aw a2;have b3:decide (r<i)=true:=decide_eq_true (by omega);have b6:decide ((0:Int)<(r:Int)+1)=true:=decide_eq_true (by omega);have bs:IntKind.i64.wrap (r:Int)=(r:Int):=by rw [az];omega
      have p3:(r:Int)<(i:Int):=by omega
      have b2:=hB.size;have RY:=ae (fun (W:World) (C:Bl w5 W)=>(fun j u B=>(C.cell (p:=⟨g,r * 19+j,none⟩) a3).trans (hc _ u (Yex a2 B)):W.rangeAt g (r * 19) s[r].vals.toList));have be:=ae (fun (W:World) (C:Bl w5 W)=>bx.out W (Zaa hB C hB.size) s[r] a9);have bq:=ae (fun (W:World) (C:Bl w5 W)=>RX.out W (Zaa hB C hB.size));have bh:=ae (show RsB s x (r+1) (decide (Zf3 x.f s[r].f<0)) from ⟨fun h=>⟨Nat.succ_pos _,HI.out.step (by omega) a2 (of_decide_eq_true h)⟩,fun h=>⟨HI.out,fun _ _=>of_decide_eq_false h⟩⟩);have bk:=FV.size s[r];clear hc a9;generalize s[r]=y at *;generalize hz:Zf3 x.f y.f=z at *;clear hz;refine wp_region_held_drew (S:=(fun V=>Bl w5 V)) (by kernel_rfl) ?_ (fun a=>?_)
      ·first | done | ((try dsimp only);exact al.drew)
      have Q2:=al.drew;generalize wr.drew=w2 at *;refine tq 0 15 rfl ?_;refine tq 1 16 rfl ?_;refine tq 2 17 rfl ?_;refine tq 3 18 rfl ?_;refine tq 4 19 rfl ?_;refine tq 5 20 rfl ?_;refine ty 6 21 rfl (Zcw R _ rfl rfl (fun V h=>bq.out V h) rfl) ?_;refine tq 7 22 rfl ?_;refine tq 8 23 rfl ?_;refine tq 9 24 rfl ?_;refine tq 10 25 rfl ?_;refine ty 11 26 rfl (Zcw bk _ rfl rfl (fun V h=>RY.out V h) rfl) ?_;refine rd 12 (some 27) rfl fun K d=>?_;go_simp;(refine (be.out _ Q2).mono ?_;rintro e w3 ⟨rfl,a7⟩);refine d.out _ _ (Q2.trans (a7.mono Q2.size)) fun a=>?_;clear d K;(try simp only [pS,pB,pZ,pC]);have Q3:=Q2.trans (a7.mono Q2.size);refine tq 13 28 rfl ?_;refine tq 14 29 rfl ?_;refine dn ?_;go_wp2_with fail;go_meet;exact ⟨decide (z<0),rfl,bh,Q3⟩
    case rest=>as_aux_lemma =>
     obtain ⟨bb,rfl,HT,ab⟩:=hcut;clear al HI;cases bb with
     | true =>
      obtain ⟨b1,hS⟩:=HT.out.1 rfl;obtain ⟨r,rfl⟩:∃ r,k=r+1:=⟨k - 1,by omega⟩
      have HS:=ae (show RsI s x r from hS);have bs:IntKind.i64.wrap (r:Int)=(r:Int):=by rw [az];omega
      clear hS HT;go_wp2_with fail;go_roundw
      case rel=>exact ⟨r,by go_num,by omega,HS,ab⟩
      case measure=>simp [intOf]
     | false =>
      have HI:=ae (HT.out.2 rfl);clear HT;obtain ⟨J,rfl⟩:∃ z:World,z=wc:=⟨_,rfl⟩;have Y:=Zaa hB ab hB.size;rcases Nat.eq_zero_or_pos i with h0 | a8
      ·subst h0;obtain rfl:k=0:=by omega
       have hn:=bg.out rfl;injection hn with hn1 _ hn3;subst hn1 hn3;have bo:s=[]:=bj ad.out;subst bo;have T:=ae (fun (W:World) (_:Bl J W)=>(⟨rfl,.inl ⟨rfl,rfl⟩⟩:Zer W (G none 0 0) 0 19 (Zam [])));go_upto_region 9 with fail;go_cut [6] (fun v wx=>wx.ownsRow J.heap.size 48 19 v (0+1) (Zam []++x.vals.toList)/\Bl J wx)
       case first=>as_aux_lemma =>
        refine wp_region_held_drew (S:=(fun V=>Bl J V)) (by kernel_rfl) ?_ (fun a=>?_)
        ·first | done | ((try dsimp only);exact (ap _ _).drew)
        have Q7:=(ap J.heap.size J).drew;generalize J.drew=w7 at *;refine tq 0 32 rfl ?_;refine tq 1 33 rfl ?_;refine tq 2 34 rfl ?_;refine tq 3 35 rfl ?_;refine tq 5 37 rfl ?_;refine tq 6 38 rfl ?_;refine tq 7 39 rfl ?_;refine ty 8 40 rfl (Zcw R _ rfl rfl (fun V h=>RX.out V (Zaa Y h Y.size)) rfl) ?_;refine rd2 4 (some 36) 9 (some 41) (by kernel_rfl) rfl rfl (fun K d=>?_) fun K d=>?_
        ·rw [if_pos (by rfl)];refine Zbm underlying23 info48 rfl (by omega) (by omega) (d8 w7 J.heap.size 48 19) (T.out w7 Q7) (fun u B=>by cases B) (by omega) (by omega) Q7.size _ _ rfl rfl rfl ?_;intro v1 U O1 g1 l1;have P:=Q7.grown g1 Q7.size (fun j e=>by cases e);refine d.out _ _ P (fun a=>?_);clear d K;(try simp only [pS,pB,pZ,pC]);refine rd 9 (some 41) rfl fun K d=>?_;rw [if_pos (by rfl)];refine Zds _ rfl x.vals R rfl ?_;have t:=P.alloc P.size (O x.vals 48);refine d.out _ _ t (fun a=>?_);clear d K;(try simp only [pS,pB,pZ,pC]);refine rd 10 (some 42) rfl fun K d=>?_;rw [if_pos (by rfl)];refine Zbm underlying23 info48 rfl (by omega) (by omega) (O1.alloc (O x.vals 48)) (Zer.of_new (m:=1) (c:=1) (size:=19) (Blk.new U 48 x.vals) aa) E (by omega) (by omega) t.size _ _ rfl rfl rfl ?_;intro v3 a5 O3 g3 l3;have Q3:=t.grown g3 t.size (fun j e=>(((O1.alloc (O x.vals 48))).lt j e).1);refine d.out _ _ Q3 (fun a=>?_);clear d K;(try simp only [pS,pB,pZ,pC]);refine tq 11 6 rfl ?_;refine dn ?_;go_wp2_with fail;go_meet;refine ⟨?_,Q3⟩;rw [cz,dm] at O3;exact O3
        ·rw [if_pos (by rfl)];refine Zds _ rfl x.vals R rfl ?_;have t:=Q7.alloc Q7.size (O x.vals 48);refine d.out _ _ t (fun a=>?_);clear d K;(try simp only [pS,pB,pZ,pC]);refine rd 4 (some 36) rfl fun K d=>?_;have BN:=Blk.new w7 48 x.vals;generalize hw8:w7.alloc (O x.vals 48)=U at *;clear hw8;rw [if_pos (by rfl)];refine Zbm underlying23 info48 rfl (by omega) (by omega) (d8 U J.heap.size 48 19) (T.out U t) (fun u B=>by cases B) (by omega) (by omega) t.size _ _ rfl rfl rfl ?_;intro v1 w9 O1 g1 l1;have P:=t.grown g1 t.size (fun j e=>by cases e);refine d.out _ _ P (fun a=>?_);clear d K;(try simp only [pS,pB,pZ,pC]);refine rd 10 (some 42) rfl fun K d=>?_;rw [if_pos (by rfl)];refine Zbm underlying23 info48 rfl (by omega) (by omega) O1 (Zer.of_new (m:=1) (c:=1) (size:=19) (BN.grown g1 (by simp [Value.ownBlock])) aa) E (by omega) (by omega) P.size _ _ rfl rfl rfl ?_;intro v3 a5 O3 g3 l3;have Q3:=P.grown g3 P.size (fun j e=>((O1).lt j e).1);refine d.out _ _ Q3 (fun a=>?_);clear d K;(try simp only [pS,pB,pZ,pC]);refine tq 11 6 rfl ?_;refine dn ?_;go_wp2_with fail;go_meet;refine ⟨?_,Q3⟩;rw [cz,dm] at O3;exact O3
       case rest=>as_aux_lemma =>
        obtain ⟨hO,N⟩:=hcut;have P7:=Zaa Y N Y.size;have av:=N.size;go_wp2_with (at_builtin;refine Ze8 underlying23 info48 rfl (by omega) (by omega) hO (T.out _ N) (fun u B=>by cases B) (by omega) (by omega) av rfl _ _ rfl rfl rfl ?_;intro v8 U O8 g8 l8);have P8:=P7.grown g8 P7.size (fun j e=>by have:=(hO.lt j e).1;have:=Y.size;omega);have HF:=ae (am.out U v8 0 (ag _) HI.out (Zpu (by have h:=O8;rw [show Zam []++x.vals.toList++Zam []=Zam (([]:List FV).take 0++x::([]:List FV).drop 0) from by simp [Zam]] at h;exact h) Y.size));go_roundw
        case rel=>exact ⟨1,_,by go_num,by omega,HF,P8⟩
        case measure=>simp [intOf];omega
      ·obtain ⟨g,rfl,_,a3,hc⟩:=af.out a8;have T:=ae (fun (W:World) (C:Bl J W)=>(Zyj (W:=W) (g:=g) (s:=s) (i:=i) (k:=k) (by have h1:=ab.size;have h2:=C.size;omega) (fun j u B=>((Zaa ab C ab.size).cell (p:=⟨g,j,none⟩) a3).trans (hc j u B)) ad.out hk co (co - k)));have b0:=decide_eq_true hk;have b4:k<=co:=by omega
       clear hc;go_upto_region 9 with fail;go_cut [6] (fun v wx=>wx.ownsRow J.heap.size 48 19 v (k+1) (Zam (s.take k)++x.vals.toList)/\Bl J wx)
       case first=>as_aux_lemma =>
        have q:∀ u∈Zam (s.take k),u.oneCell'=true:=fun u B=>a0.out u (by rw [Zmr] at B;exact ed B);refine wp_region_held_drew (S:=(fun V=>Bl J V)) (by kernel_rfl) ?_ (fun a=>?_)
        ·first | done | ((try dsimp only);exact (ap _ _).drew)
        have Q7:=(ap J.heap.size J).drew;generalize J.drew=w7 at *;refine tq 0 32 rfl ?_;refine tq 1 33 rfl ?_;refine tq 2 34 rfl ?_;refine tq 3 35 rfl ?_;refine tq 5 37 rfl ?_;refine tq 6 38 rfl ?_;refine tq 7 39 rfl ?_;refine ty 8 40 rfl (Zcw R _ rfl rfl (fun V h=>RX.out V (Zaa Y h Y.size)) rfl) ?_;refine rd2 4 (some 36) 9 (some 41) (by kernel_rfl) rfl rfl (fun K d=>?_) fun K d=>?_
        ·rw [if_pos (by rfl)];refine Zbm underlying23 info48 rfl (by omega) (by omega) (d8 w7 J.heap.size 48 19) ((fun W C=>(T.out W C).1) w7 Q7) q (by omega) (by omega) Q7.size _ _ rfl rfl rfl ?_;intro v1 U O1 g1 l1;have P:=Q7.grown g1 Q7.size (fun j e=>by cases e);refine d.out _ _ P (fun a=>?_);clear d K;(try simp only [pS,pB,pZ,pC]);refine rd 9 (some 41) rfl fun K d=>?_;rw [if_pos (by rfl)];refine Zds _ rfl x.vals R rfl ?_;have t:=P.alloc P.size (O x.vals 48);refine d.out _ _ t (fun a=>?_);clear d K;(try simp only [pS,pB,pZ,pC]);refine rd 10 (some 42) rfl fun K d=>?_;rw [if_pos (by rfl)];refine Zbm underlying23 info48 rfl (by omega) (by omega) (O1.alloc (O x.vals 48)) (Zer.of_new (m:=1) (c:=1) (size:=19) (Blk.new U 48 x.vals) aa) E (by omega) (by omega) t.size _ _ rfl rfl rfl ?_;intro v3 a5 O3 g3 l3;have Q3:=t.grown g3 t.size (fun j e=>(((O1.alloc (O x.vals 48))).lt j e).1);refine d.out _ _ Q3 (fun a=>?_);clear d K;(try simp only [pS,pB,pZ,pC]);refine tq 11 6 rfl ?_;refine dn ?_;go_wp2_with fail;go_meet;refine ⟨?_,Q3⟩;rw [cz,dm] at O3;exact O3
        ·rw [if_pos (by rfl)];refine Zds _ rfl x.vals R rfl ?_;have t:=Q7.alloc Q7.size (O x.vals 48);refine d.out _ _ t (fun a=>?_);clear d K;(try simp only [pS,pB,pZ,pC]);refine rd 4 (some 36) rfl fun K d=>?_;have BN:=Blk.new w7 48 x.vals;generalize hw8:w7.alloc (O x.vals 48)=U at *;clear hw8;rw [if_pos (by rfl)];refine Zbm underlying23 info48 rfl (by omega) (by omega) (d8 U J.heap.size 48 19) ((fun W C=>(T.out W C).1) U t) q (by omega) (by omega) t.size _ _ rfl rfl rfl ?_;intro v1 w9 O1 g1 l1;have P:=t.grown g1 t.size (fun j e=>by cases e);refine d.out _ _ P (fun a=>?_);clear d K;(try simp only [pS,pB,pZ,pC]);refine rd 10 (some 42) rfl fun K d=>?_;rw [if_pos (by rfl)];refine Zbm underlying23 info48 rfl (by omega) (by omega) O1 (Zer.of_new (m:=1) (c:=1) (size:=19) (BN.grown g1 (by simp [Value.ownBlock])) aa) E (by omega) (by omega) P.size _ _ rfl rfl rfl ?_;intro v3 a5 O3 g3 l3;have Q3:=P.grown g3 P.size (fun j e=>((O1).lt j e).1);refine d.out _ _ Q3 (fun a=>?_);clear d K;(try simp only [pS,pB,pZ,pC]);refine tq 11 6 rfl ?_;refine dn ?_;go_wp2_with fail;go_meet;refine ⟨?_,Q3⟩;rw [cz,dm] at O3;exact O3
       case rest=>as_aux_lemma =>
        obtain ⟨hO,N⟩:=hcut;have P7:=Zaa Y N Y.size;have av:=N.size;have q:∀ u∈Zam (s.drop k),u.oneCell'=true:=fun u B=>a0.out u (by rw [Zms _ _ (by have:=ad.out;omega)] at B;exact gg B);by_cases bl:co=k
        ·obtain rfl:i=k:=by omega
         obtain rfl:co=i:=bl;have bn:g<wc.heap.size:=by have h1:=ab.size;have h2:=N.size;omega
         have S2:Zer wc (G (some ⟨g,0,none⟩) 0 0) 0 19 []:=⟨rfl,.inr ⟨g,0,0,rfl,bn,fun j u h=>by cases h⟩⟩
         have bf:s.drop co=[]:=gh (by have:=ad.out;omega);have bz:=ae bf;clear bf q;go_wp2_with (at_builtin;refine Ze8 underlying23 info48 rfl (by omega) (by omega) hO S2 (fun u B=>by cases B) (by omega) (by omega) av rfl _ _ rfl rfl rfl ?_;intro v8 U O8 g8 l8);have P8:=P7.grown g8 P7.size (fun j e=>by have:=(hO.lt j e).1;have:=Y.size;omega);have HF:=ae (am.out U v8 co hk HI.out (Zpu (by have h:=O8;rw [show Zam (s.take co)++x.vals.toList++[]=Zam (s.take co++x::s.drop co) from by rw [bz.out,Zcv,Zcl,bv];simp [Zam]] at h;exact h) Y.size));go_roundw
         case rel=>exact ⟨co+1,_,by go_num,by omega,HF,P8⟩
         case measure=>simp [intOf];omega
        ·have S2:=(T.out _ N).2;go_wp2_with (at_builtin;refine Ze8 underlying23 info48 rfl (by omega) (by omega) hO S2 q (by omega) (by omega) av rfl _ _ rfl rfl rfl ?_;intro v8 U O8 g8 l8);have P8:=P7.grown g8 P7.size (fun j e=>by have:=(hO.lt j e).1;have:=Y.size;omega);have e1:k+1+(i - k)=i+1:=by omega
         have e2:Zam (s.take k)++x.vals.toList++Zam (s.drop k)=Zam (s.take k++x::s.drop k):=by rw [Zcv,Zcl,ay]
         rw [e1,e2] at O8;have HF:=ae (am.out U v8 k hk HI.out (Zpu O8 Y.size));clear e1 e2;go_roundw
         case rel=>exact ⟨i+1,_,by go_num,by omega,HF,P8⟩
         case measure=>simp [intOf];omega
  ·have hd:=decide_eq_false aq;obtain rfl:i=l.length:=by omega
   have H:=HO.out;have HF:=ae (show s.Perm l/\Zb4 s/\wr.ownsRow w.heap.size 48 19 _ s.length (Zam s) from ⟨by have:=H.2.1;rwa [df] at this,H.2.2.1,by rw [H.1];exact H.2.2.2.1⟩);clear H HO;go_wp2_with fail;go_ret;exact ⟨⟨_,s,rfl,HF.out.1,HF.out.2.1,HF.out.2.2⟩,hB⟩
theorem SlF.turn {v:Value} (h:SlF W v l) (r:∀ p:Addr,p.block<W.heap.size->p.block≠g->W'.cell? p=W.cell? p) (hs:W.heap.size<=W'.heap.size) (q:∀ (i:Nat) (k:IntKind) (n:Int),W.cell? ⟨g,i,none⟩≠some (.int k n)):SlF W' v l:=by
 refine ⟨h.1,?_⟩;rcases h.2 with m | ⟨b,o,c,e,a,hc⟩
 ·exact .inl m
 ·refine .inr ⟨b,o,c,e,ah a hs,fun j u f=>?_⟩;have d:b≠g:=by
   cases l with
   | nil=>cases f
   | cons x l =>
    have s:=hc 0 (.int I 0) rfl;rintro rfl;exact q _ _ _ s
  exact (r ⟨b,o+j,none⟩ a d).trans (hc j u f)
structure AQ where
 V:Array Value
 kind:Int
 file:Int
 ev:Value
 es:List (Int × Int)
structure AQ.At (W:World) (q:AQ):Prop where
 size:q.V.size=19
 one:q.V.all (·.oneCell')=true
 knd:q.V[0]?=some (.int I q.kind)
 fil:q.kind=0->q.V[3]?=some (.int I q.file)
 ear:q.V[14]?=some q.ev
 rep:Rep W W.heap.size q.ev (.s 2 (prD q.es))
 len:q.es.length<=8
 bd:∀ p∈q.es,-9223372036854775808<=p.1/\p.1<=9223372036854775807
theorem AQ.At.keep {q:AQ} (h:q.At W) (a:Bl W W'):q.At W' :=
 ⟨h.size,h.one,h.knd,h.fil,h.ear,h.rep.keep (fun _ b=>a.cell b) a.size,h.len,h.bd⟩
theorem AQ.At.turn {q:AQ} (h:q.At W) (b:∀ p:Addr,p.block<W.heap.size->p.block≠g->W'.cell? p=W.cell? p) (hs:W.heap.size<=W'.heap.size) (a:∀ (i:Nat) (k:IntKind) (n:Int),W.cell? ⟨g,i,none⟩≠some (.int k n)):q.At W' :=
 ⟨h.size,h.one,h.knd,h.fil,h.ear,h.rep.turn b hs a (Zr1 _),h.len,h.bd⟩
def Zkl (l:List AQ):List Value:=l.flatMap fun q=>q.V.toList
def SlQ (W:World) (v:Value) (l:List AQ):Prop:=Zer W v l.length 19 (Zkl l)
def Zn7 (W:World) (l:List AQ):Prop:=∀ q∈l,q.At W
theorem Zn7.keep {l:List AQ} (h:Zn7 W l) (b:Bl W W'):Zn7 W' l:=fun q a=>(h q a).keep b
theorem SlQ.keep {v:Value} {l:List AQ} (h:SlQ W v l) (a:Bl W W'):SlQ W' v l:=Zer.keep h a
theorem SlQ.form {v:Value} {l:List AQ} (h:SlQ W v l) (p:Zn7 W l):∃ A c,v=G A l.length c/\∀ (k:Nat) (d:k<l.length),∃ b o,A=some ⟨b,o,none⟩/\W.rangeAt b (o+k * 19) l[k].V.toList:=by
 rcases h.2 with ⟨e,z⟩ | ⟨b,o,c,e,y,hc⟩
 ·exact ⟨none,0,by rw [e,z],fun k d=>by omega⟩
 ·refine ⟨_,c,e,fun k d=>⟨b,o,rfl,fun j u m=>?_⟩⟩;have hl:∀ q∈l,((fun q:AQ=>q.V.toList) q).length=19:=fun q s=>by
   show q.V.toList.length=19;rw [br];exact (p q s).size
  have r:=Zcd (l:=l) (f:=fun q:AQ=>q.V.toList) (k:=19) (i:=k) (a:=l[k]) hl (ak d);have t:j<19:=by have h1:=Zap m;rw [br,(p _ (aw d)).size] at h1;exact h1
  have h1:(((l.flatMap fun q=>q.V.toList).drop (k * 19)).take 19)[j]?=some u:=by rw [r];exact m
  rw [gi,if_pos t,fz] at h1;have:=hc (k * 19+j) u h1;rw [show o+k * 19+j=o+(k * 19+j) by omega];exact this
def Zpv (l:List AQ):Prop:=∀ q∈l,q.kind=0->∀ p∈q.es,∃ q2∈l,q2.kind=0/\q2.file=p.1
theorem AQ.At.cells {q:AQ} (h:q.At W) {b o:Nat} (hr:W.rangeAt b o q.V.toList):W.cell? ⟨b,o,none⟩=some (.int I q.kind)/\(q.kind=0->W.cell? ⟨b,o+3,none⟩=some (.int I q.file))/\W.cell? ⟨b,o+14,none⟩=some q.ev :=
 ⟨hr 0 _ (by rw [dj];exact h.knd),fun a=>hr 3 _ (by rw [dj];exact h.fil a),hr 14 _ (by rw [dj];exact h.ear)⟩
theorem Ybk (q:AQ) (n day:Int) (j:Nat) (m w:World) (b:q.At m) (h:Blk w j 106 #[.int I n,.int I day]) :
  Calls prog 52 #[.agg q.V,X (some ⟨j,0,none⟩)] w fun e p=>e=Z (.bool (q.kind == 0 && q.file == n))/\Bl w p:=by
 have f:=Blk.new w 48 q.V;have c:=Zab w (O q.V 48);have t:=f.cellAt 0 _ b.knd;have a:=ae (fun (d:(q.kind == 0)=true)=>f.cellAt 3 _ (b.fil (eq_of_beq d)));have s:=(h.alloc (O q.V 48)).c2.1;clear b h;generalize q.V=V at *;cases d:(q.kind == 0) with
 | true =>
  have r:=a.out d;clear a;cases h1:(q.file == n) with
  | true =>
   generalize q.kind=k at *;generalize q.file=fl at *;go_enter func52,ntmps52;go_wp2_with fail;go_ret;exact ⟨rfl,c⟩
  | false =>
   generalize q.kind=k at *;generalize q.file=fl at *;go_enter func52,ntmps52;go_wp2_with fail;go_ret;exact ⟨rfl,c⟩
 | false =>
  clear a;generalize q.kind=k at *;go_enter func52,ntmps52;go_wp2_with fail;go_ret;exact ⟨rfl,c⟩
theorem Zyk (l:List AQ) (hl:l.length<=1000) (v:Value) (n day:Int) (z:Nat) (w:World) (R:SlQ w v l) (B:Zn7 w l) (P:Blk w z 106 #[.int I n,.int I day]) (E:∃ q∈l,q.kind=0/\q.file=n) :
  Calls prog 99 #[v,.func (.func 52) #[] #[X (some ⟨z,0,none⟩)]] w fun e w'=>(∃ k:Nat,e=Z (.int I (k:Int)))/\Bl w w':=by
 obtain ⟨A,c,rfl,m⟩:=R.form B;have HF:=ae m;have HA:=ae B;have U:=ae E;have T:=ae (fun (W:World) (Y:Bl w W)=>P.keep Y);clear R m B E P;go_enter func99,ntmps99;go_wp2_with fail;go_loopw [8] (fun i wr=>∃ k:Nat,i=.int I (k:Int)/\k<=l.length/\Hid (∃ q∈l.drop k,q.kind=0/\q.file=n)/\Bl w wr) (fun i _=>l.length - (intOf i).toNat)
 case atStart=>exact ⟨0,rfl,bi _,U,ap _ _⟩
 case round =>
  obtain ⟨k,rfl,hk,s,h⟩:=hrel;by_cases d:k<l.length
  ·have hd:=decide_eq_true d;obtain ⟨b,o,rfl,hr⟩:=HF.out k d;have a:=HA.out _ (aw d);have t:=bu w _ (hr 0 _ (by rw [dj];exact a.knd));have J:wr.rangeAt b (o+k * 19) l[k].V.toList:=fun j u hu=>(h.cell (p:=⟨b,o+k * 19+j,none⟩) t).trans (hr j u hu);have N:=ae (Ybk l[k] n day z w wr a (T.out _ h));have y:=a.size;have H:=ae (fun (m:(l[k].kind == 0 && l[k].file == n)=false)=>(show ∃ q∈l.drop (k+1),q.kind=0/\q.file=n from by
    obtain ⟨q,a,f⟩:=s.out;rw [ct d] at a;rcases List.mem_cons.1 a with rfl | a
    ·rw [f.1,f.2,beq_self_eq_true,beq_self_eq_true] at m;cases m
    ·exact ⟨q,a,f⟩))
   clear hr a s;generalize (l[k].kind == 0 && l[k].file == n)=bb at *;generalize l[k].V=V at *;go_wp2_with (refine Zel J y _ rfl rfl rfl ?_);refine N.out.mono ?_;rintro e w2 ⟨rfl,r⟩;have S:=Zaa h r h.size;clear N J r h;cases bb with
   | true =>
    go_wp2_with fail;go_ret;exact ⟨⟨k,rfl⟩,S⟩
   | false =>
    have C:=ae (H.out rfl);clear H;go_wp2_with fail;go_roundw
    case rel=>exact ⟨k+1,by go_num,by omega,C,S⟩
    case measure=>simp [intOf];omega
  ·exfalso;obtain ⟨q,a,_⟩:=s.out;rw [gh (by omega)] at a;cases a
theorem Zpw (l:List AQ) (hl:l.length<=1000) (v:Value) (n day:Int) (b:Nat) (w:World) (a:SlQ w v l) (f:Zn7 w l) (j:Blk w b 106 #[.int I n,.int I day]) (h:∃ q∈l,q.kind=0/\q.file=n) :
  Calls prog 51 #[v,.func (.func 52) #[] #[X (some ⟨b,0,none⟩)]] w fun e p=>e=Z (.bool true)/\Bl w p:=by
 have m:=ae (Zyk l hl v n day b w a f j h);obtain ⟨A,c,rfl,_⟩:=a.form f;clear a f j h;go_enter func51,ntmps51;go_wp2_with fail;refine m.out.mono ?_;rintro e w2 ⟨⟨k,rfl⟩,d⟩;have hd:decide ((0:Int)<=(k:Int))=true:=decide_eq_true (by omega);go_wp2_with fail;go_ret;exact ⟨by first | rfl | simp,d⟩
theorem Ybl (x:Int) (b:Bool) (w:World):Calls prog 54 #[.int I x,.bool b] w fun e a=>e=Z (.bool (!b))/\a=w:=by
 cases b with
 | true =>
  go_enter func54,ntmps54;go_wp2_with fail;go_ret;exact ⟨rfl,rfl⟩
 | false =>
  go_enter func54,ntmps54;go_wp2_with fail;go_ret;exact ⟨rfl,rfl⟩
def Zui (D:DataW Unit):Prop:=∀ (kl:Lit) (y:DataW Unit),(∀ zd,D.atKey kl zd=y)->y=.lit (.bool false)
theorem Zui.del {D:DataW Unit} (h:Zui D) (k:Lit):Zui (D.del k):=fun b y hy=>by
 by_cases e:b=k
 ·subst e;exfalso;have h1:=hy .nil;have a:=hy (.ptr .nil);rw [Maps.atKey_del_same] at h1 a;rw [<- h1] at a;cases a
 ·exact h b y (fun zd=>by rw [<- hy zd,Maps.atKey_del_other e])
structure BX where
 b:Bool
theorem Zsa {v:Value} {y:DataW Unit × List MemPlace} (h:Za5 v=some y):∃ c,v=.bool c/\y=(.lit (.bool c),[]):=by
 cases v <;> simp [Za5] at h;exact ⟨_,rfl,h.symm⟩
theorem Yey (mb nn:Nat) (D:DataW Unit) (w:World) (t:w.ownsMap prog 3 Za5 mb nn D) (hD:Zui D) :
  Calls prog 53 #[.map (some mb),.func (.func 54) #[] #[]] w fun e Y=>e=Z (.tuple #[])/\(∃ D',Y.ownsMap prog 3 Za5 mb nn D'/\∀ d,Maps.has D' d=false)/\w.grownBy Y (some mb):=by
 have HD:=ae hD;clear hD;go_enter func53,ntmps53;go_wp2_with (first
  | (at_range;refine wpList_range_own _ rfl _ 104 rfl 3 4 (Maps.int_keyed underlying3) underlying104 Za5 mb nn _ rfl t ?_;intro w0 u U ad)
  | go_in)
 go_frame;go_loopw [4,5] (fun _ _ wr=>∃ (left:Lit->Bool) (r:Nat) (k:DataW Unit),wr.ranges prog 3 Za5 mb w.heap.size nn k left r/\Hid ((∀ d,Maps.has k d=left d)/\Zui k)/\w.grownBy wr (some mb))
  (fun _ _ wr=>wr.rangeLeft mb w.heap.size)
 case atStart=>exact ⟨_,_,D,u,ae ⟨fun _=>rfl,HD.out⟩,U.but _⟩
 case round =>
  obtain ⟨left,r,k,m,p,E⟩:=hrel;clear HD;go_wp2_with (first
   | (at_next;refine wpList_next_ranges _ rfl _ rfl 3 (Maps.int_keyed underlying3) Za5 (Value.int I) (fun z:BX=>Value.bool z.b) (fun key d hk=>by obtain ⟨x,hx,_⟩:=Maps.keyOf_int_inv underlying3 hk;exact ⟨x,hx⟩) (fun v y H=>by obtain ⟨c,hc,_⟩:=Zsa H;exact ⟨⟨c⟩,hc⟩) mb w.heap.size nn _ _ _ rfl m ?_ ?_)
   | go_in)
  ·intro _ N;go_wp2;go_end0;exact ⟨rfl,⟨k,m.owns,fun d=>(p.out.1 d).trans (N d)⟩,E⟩
  ·intro x ⟨c⟩ d yd yp w1 aa f S H C q al A T af;obtain ⟨x',P,rfl,_⟩:=Maps.keyOf_int_inv underlying3 f;injection P with _ P;subst P;obtain ⟨c',V,J⟩:=Zsa H;injection V with V;subst V;injection J with J _;subst J;have hc:=p.out.2 _ _ C;injection hc with hc;injection hc with hc;subst hc;have s:=E.andThen A (fun j R=>by cases R;exact Or.inl (ag _));have HN:=ae (show (∀ z,Maps.has (k.del (.int I x)) z=(left z && !z.sameKey (.int I x)))/\Zui (k.del (.int I x)) from ⟨fun z=>by
    by_cases e:z=.int I x
    ·subst e;rw [Maps.has_del_same,WideAt.sameKey_self (by trivial),Bool.not_true,Bool.and_false]
    ·rw [Maps.has_del_other e,p.out.1 z,Maps.sameKey_ne e,Bool.not_false,Bool.and_true],p.out.2.del _⟩)
   have HA:=ae (fun (W:World)=>Ybl x false W);clear H C p A T S;go_wp2_with (first
    | (refine (HA.out _).mono ?_;rintro e w2 ⟨rfl,rfl⟩)
    | (at_delete;refine wpList_delete_ranges _ rfl _ _ 104 3 rfl 4 (Maps.int_keyed underlying3) underlying104 Za5 mb w.heap.size nn _ _ _ rfl q _ _ rfl f ?_;intro w3 B a ab h;go_frame)
    | go_in)
   rw [Maps.strike_twice] at a;go_roundw
   case rel=>exact ⟨_,B,_,a,HN,s.andThen h.grown (fun j R=>by cases R;exact Or.inr rfl)⟩
   case measure=>rw [a.left_eq,m.left_eq];omega
theorem Yez (D:DataW Unit) (B:∀ a,Maps.has D a=false) (F:Fence) (n:Nat) (hf:F.fn 102) (k:F.round=none) (l A b nn:Nat) (J U:List Empty->World->Prop)
  (W:World) (E:AbidesFrom W.heap.size J) (hm:W.cell? ⟨A,0,none⟩=some (.map (some b))) (f:W.ownsMap prog 3 Za5 b nn D) (h0:J [] W) :
  CallsIn F n prog 102 #[.func (.yield l) #[] #[],X (some ⟨A,0,none⟩)] W fun e W'=>(∃ v,e=Z v) /\
   ((∃ R,True/\J R W')∨(∃ s,True/\U s W')):=by
 have T:=ae B;clear B;refine callsIn_of_wp func102 rfl hf ?_ k;simp only [ntmps102,ef,au,dk,Nat.reduceAdd,Nat.reduceSub,ff,ew,fp,fj,dm,dx];gi_wp2_with (first
  | (gi_at_range;refine wpListIn_range_own _ rfl _ 104 rfl 3 4 (Maps.int_keyed underlying3) underlying104 _ b nn _ rfl f ?_;intro w0 h q V)
  | gi_in)
 go_frame;gi_loopw [3] (fun _ wr=>∃ (left:Lit->Bool) (d:Nat),wr.ranges prog 3 Za5 b W.heap.size nn D left d/\Hid (∀ a,left a=false)/\J [] wr)
  (fun _ wr=>wr.rangeLeft b W.heap.size)
 case atStart =>
  exact ⟨_,_,h,T,E [] W w0 none h0 q (fun r e=>by cases e)⟩
 case round =>
  obtain ⟨left,d,m,C,j⟩:=hrel;gi_wp2_with (first
   | (gi_at_next;refine wpListIn_next_ranges _ rfl _ rfl 3 (Maps.int_keyed underlying3) Za5 (Value.int I) id (fun key a hk=>by obtain ⟨x,H,_⟩:=Maps.keyOf_int_inv underlying3 hk;exact ⟨x,H⟩) (fun v y _=>⟨v,rfl⟩) b W.heap.size nn _ _ _ rfl m ?_ ?_)
   | gi_in)
  ·intro S P;gi_wp2;go_end0;exact ⟨⟨_,rfl⟩,.inl ⟨[],trivial,j⟩⟩
  ·intro x c a yd yp w2 u z p hv ad t ab Y N aa;exfalso;have:=C.out a;rw [p] at this;cases this
theorem Zyl (D:DataW Unit) (k:∀ r,Maps.has D r=false) (F:Fence) (n:Nat) (t:F.fn 102) (f:F.round=none) (e b nn:Nat) (w:World) (h:e<w.heap.size)
  (hm:w.cell? ⟨e,0,none⟩=some (.map (some b))) (a:w.ownsMap prog 3 Za5 b nn D) :
  SeqStopsK F n prog 102 #[X (some ⟨e,0,none⟩)] (fun _:Empty=>#[.int I 0]) KeepsWalks (fun _=>True) (fun _=>True) 0 w:=fun l J z W m q _ _ s=>by
 have d:W.ownsMap prog 3 Za5 b nn D:=by
  have j:=a.lt;obtain ⟨es,c,u,y,hs,k⟩:=a;exact ⟨es,c,(m.block b j).trans u,y,hs,k⟩
 exact Yez D k F n t f l e b nn J z W q ((m.cell (p:=⟨e,0,none⟩) h).trans hm) d s
theorem Yhn (D:DataW Unit) (H:∀ C,Maps.has D C=false) (j b nn:Nat) (w:World) (r:j<w.heap.size) (hm:w.cell? ⟨j,0,none⟩=some (.map (some b))) (d:w.ownsMap prog 3 Za5 b nn D) :
  Calls prog 141 #[G none 0 0,.func (.func 102) #[] #[X (some ⟨j,0,none⟩)]] w fun e B=>e=Z (G none 0 0)/\Bl w B:=by
 refine (callsIn_wide (n:=5)).1 ?_;refine callsIn_of_wp_marks func141 rfl trivial ?_ rfl;simp only [ntmps141,ef,au,dk,Nat.reduceAdd,Nat.reduceSub,ff,ew,fp,fj,dm,dx];gi_wp2;have u:=Boxed.new w 22 (G none 0 0);have f:=Zab w (O #[G none 0 0] 22);have q:(w.alloc (O #[G none 0 0] 22)).heap.size=w.heap.size+1:=by simp
 have k:=(f.cell (p:=⟨j,0,none⟩) r).trans hm;have m:=d.alloc (O #[G none 0 0] 22);generalize w.alloc _=wr at *;refine wpIn_rangeFunc_ownH rfl (by omega) (gf:=102) (lb:=#[X (some ⟨j,0,none⟩)]) rfl trivial (enters_of func102 (by kernel_rfl) rfl)
  (Zyl D H Fence.wide (5 - 1) trivial rfl j b nn wr (by omega) k m) walksK_t walksK_b (ap _ _) (fun _=>rfl)
  (fun a W=>(∃ v,Boxed W w.heap.size 22 v/\W.ownsRow w.heap.size 3 1 v a.length []/\v=G none 0 0)/\Bl w W)
  (fun _ _ _=>False)
  (OwnFrom.and (Own.from (holdsRow_own w.heap.size w.heap.size 22 3 1 (fun (a:List Empty)=>a.length) (fun _=>[]) (fun _ v=>v=G none 0 0)) _) (ownFrom_below (ag _) (by rw [q];omega)))
  (fun _ _ _ _ _ hs _ _=>hs)
  ⟨⟨_,u,d8 _ _ _ _,rfl⟩,f⟩
  (fun y N W=>False)
  (fun y=>y.elim)
  ?assign ?body ?done ?stop
 case assign=>exact fun _ _ z=>z.elim
 case body=>exact fun _ _ z=>z.elim
 case done =>
  rintro K J W A P ⟨⟨v,t,hr,rfl⟩,E⟩ s;have hc:=t.cell;have R:=t.frozen;clear u f k m hm d;gi_wp2;refine ⟨by simp,.inl ⟨_,_,rfl,run_takeDeferred s,?_⟩⟩;exact ⟨_,results_tmp rfl _ _ _,rfl,E.trans (belowK_b (w:=w) (ag _) W K _ _ (by omega) s rfl rfl)⟩
 case stop =>
  rintro D c a W _ _ h _;exact h.elim
theorem Ybm (mb:Nat) (w:World):Calls prog 56 #[.map (some mb)] w fun e a=>e=Z (.func (.func 102) #[] #[X (some ⟨w.heap.size,0,none⟩)])/\a=w.alloc (O #[.map (some mb)] 104):=by
 go_enter func56,ntmps56;go_wp2_with fail;go_ret;exact ⟨rfl,rfl⟩
theorem Ye0 (w:World):Calls prog 181 #[G none 0 0,.int I 0,.int I 0] w fun e a=>e=Z (.tuple #[])/\a=w:=by
 go_enter func181,ntmps181;go_wp2_with fail;go_loopw [6] (fun i wr=>i=.int I 1/\wr=w) (fun _ _=>0)
 case atStart=>exact ⟨rfl,rfl⟩
 case round =>
  obtain ⟨rfl,rfl⟩:=hrel;go_wp2_with fail;go_end0;exact ⟨rfl,rfl⟩
theorem Yho (w:World):Calls prog 191 #[.int .u64 0] w fun e a=>e=Z (.int I 0)/\a=w:=by
 go_enter func191,ntmps191;go_wp2_with fail;go_ret;exact ⟨by kernel_rfl,rfl⟩
theorem Yjn (w:World):Calls prog 143 #[.int .u64 0] w fun e a=>e=Z (.int I 0)/\a=w:=by
 have H:=ae (Yho w);go_enter func143,ntmps143;go_wp2_with fail;refine H.out.mono ?_;rintro e b ⟨rfl,rfl⟩;go_wp2_with fail;go_ret;exact ⟨rfl,rfl⟩
theorem Yj4 (w:World):Calls prog 142 #[G none 0 0,.int I 0,.int I 0,.int I 0] w fun e a=>e=Z (.tuple #[])/\a=w:=by
 have H:=ae (Ye0 w);go_enter func142,ntmps142;go_wp2_with fail;go_loopw [1,2] (fun i j wr=>i=.int I 0/\j=.int I 0/\wr=w) (fun _ _ _=>0)
 case atStart=>exact ⟨rfl,rfl,rfl⟩
 case round =>
  obtain ⟨rfl,rfl,rfl⟩:=hrel;go_wp2_with fail;refine H.out.mono ?_;rintro e b ⟨rfl,rfl⟩;go_wp2_with fail;refine bodyPost_ret (results_none rfl _ _ _) rfl ?_;exact ⟨rfl,rfl⟩
theorem Yjo (w:World):Calls prog 101 #[G none 0 0] w fun e c=>e=Z (.tuple #[])/\c=w:=by
 have H:=ae (Yj4 w);have a:=ae (Yjn w);go_enter func101,ntmps101;go_wp2_with fail;refine a.out.mono ?_;rintro e b ⟨rfl,rfl⟩;go_wp2_with fail;refine H.out.mono ?_;rintro e b ⟨rfl,rfl⟩;go_wp2_with fail;go_end0;exact ⟨rfl,rfl⟩
theorem Ye1 (D:DataW Unit) (h:∀ j,Maps.has D j=false) (c b nn:Nat) (w:World) (d:c<w.heap.size) (hm:w.cell? ⟨c,0,none⟩=some (.map (some b))) (a:w.ownsMap prog 3 Za5 b nn D) :
  Calls prog 100 #[.func (.func 102) #[] #[X (some ⟨c,0,none⟩)]] w fun e m=>e=Z (G none 0 0)/\Bl w m:=by
 have f:=ae (Yhn D h c b nn w d hm a);clear h hm a;go_enter func100,ntmps100;go_wp2_with fail;refine f.out.mono ?_;rintro e p ⟨rfl,k⟩;clear f;go_wp2_with fail;go_ret;exact ⟨rfl,k⟩
theorem Yhp (D:DataW Unit) (j:∀ k,Maps.has D k=false) (c b nn:Nat) (w:World) (d:c<w.heap.size) (hm:w.cell? ⟨c,0,none⟩=some (.map (some b))) (a:w.ownsMap prog 3 Za5 b nn D) :
  Calls prog 55 #[.func (.func 102) #[] #[X (some ⟨c,0,none⟩)]] w fun e q=>e=Z (G none 0 0)/\Bl w q:=by
 have f:=ae (Ye1 D j c b nn w d hm a);clear j hm a;go_enter func55,ntmps55;go_wp2_with fail;refine f.out.mono ?_;rintro e p ⟨rfl,m⟩;clear f;have h:=ae (Yjo p);go_wp2_with fail;refine h.out.mono ?_;rintro e w2 ⟨rfl,rfl⟩;clear h;go_wp2_with fail;go_ret;exact ⟨rfl,m⟩
theorem Ybn {n:Int} (a:-9223372036854775808<=n) (h1:n<=9223372036854775807):keyOf prog 3 (.int I n)=some (.int I n):=Maps.keyOf_int_mk underlying3 (WalkArith.wf_i64 ⟨by omega,by omega⟩)
theorem Yjp {L:List FV} (hn:Zc9 L) (m:Zi1 w L) {n:Int} (p:-9223372036854775808<=n) (h1:n<=9223372036854775807) (c:w.ownsMap prog 3 Zgr mb nn (Zdm L)) :
  ∃ (V:Array Value) (ok:Bool),V.size=19/\V.all (·.oneCell')=true/\∀ W,Bl w W->(Instr.lookup 72 (.map (some mb)) (.int I n) true).run prog W=.ok (.tuple #[.agg V,.bool ok]) W:=by
 by_cases d:∃ x∈L,x.f.file=n
 ·obtain ⟨x,d,rfl⟩:=d;exact ⟨x.vals,true,FV.size x,FV.one (m x d).2,fun W k=>Zn6 hn d (m x d).1 (Zda c k)⟩
 ·have h:∀ x∈L,x.f.file≠n:=fun x j e=>d ⟨x,j,e⟩;refine ⟨Zch,false,rfl,Zr6,fun W k=>?_⟩;obtain ⟨v,ps,a,b⟩:=(Zda c k).look_ok (Maps.int_keyed underlying3) underlying72 (Zpp _) (zd:=.held (.agg Zch)) (zp:=[]) rfl (Ybn p h1);rw [Zmp h] at a;rw [Zhm h] at b;have b:some (DataW.held v,([]:List MemPlace))=some (.held (.agg Zch),ps):=b;injection b with b;injection b with b _;injection b with b;rw [b] at a;exact a
theorem Zfx {D:DataW Unit} (h:w.ownsMap prog 3 Za5 mb nn D) {n:Nat} (hn:mb<n) (c:Below n w W):W.ownsMap prog 3 Za5 mb nn D:=by
 obtain ⟨es,a,b,d,hs,e⟩:=h;exact ⟨es,a,(c.block mb hn).trans b,d,hs,e⟩
def Zsb (D:DataW Unit):Prop:=Maps.IsMap D/\Zui D
theorem Zsb.nil:Zsb (.map []):=⟨⟨[],rfl⟩,fun b y hy=>by
 have h1:=hy .nil;have a:=hy (.ptr .nil);simp [DataW.atKey] at h1 a;rw [<- h1] at a;cases a⟩
theorem Zsb.put {D:DataW Unit} (h:Zsb D) (n:Int):Zsb (D.put (.int I n) (.lit (.bool false))):=⟨h.1.put _ _,fun a y hy=>by
 by_cases e:a=.int I n
 ·subst e;have h1:=hy .nil;rw [Maps.atKey_put_same h.1 (by trivial)] at h1;exact h1.symm
 ·exact h.2 a y (fun zd=>by rw [<- hy zd,Maps.atKey_put_other e])⟩
theorem Ybo {a:Act} (m x v:Operand) (f:o.op=Op.mapUpdate 104 m x v) (D:DataW Unit) (n:Int) (r:-9223372036854775808<=n) (h1:n<=9223372036854775807) (mb nn:Nat) (hm:a.eval m=.map (some mb)) (c:w.ownsMap prog 3 Za5 mb nn D) (hn:nn<1000) (h:a.eval x=.int I n) (j:a.eval v=.bool false)
  (q:∀ e,e.ownsMap prog 3 Za5 mb (nn+1) (D.put (.int I n) (.lit (.bool false)))->w.grownBy e (some mb)->K (a.put o.dst undef) e):o.wp prog a w K Q:=by
 obtain ⟨e,b,k,p⟩:=c.store (Maps.int_keyed underlying3) underlying104 (by unfold maxLen;omega) (key:=.int I n) (val:=.bool false) (Ybn r h1) (d:=.lit (.bool false)) (ps:=[]) rfl;unfold Oper.wp;simp [execOp,f,hm,h,j,b,Result.andThen];exact q e k p.grown
theorem Ze1 (L:List FV) (hn:Zc9 L) (sp mb nn:Nat) (vk:Value) (l:List AQ) (hl:l.length<=100) (v:Value) (w:World) (hS:Blk w sp 74 #[vk,.map (some mb)]) (al:w.ownsMap prog 3 Zgr mb nn (Zdm L)) (a8:Zi1 w L) (hv:SlQ w v l) (hA:Zn7 w l) (an:Zpv l) :
  Calls prog 19 #[X (some ⟨sp,0,none⟩),v] w fun e w'=>e=Z (G none 0 0)/\Bl w w':=by
 have bc:=ae (fun (W:World) (hW:Bl w W) (n day:Int) (eb:Nat) (he:Blk W eb 106 #[.int I n,.int I day]) (hx:∃ q∈l,q.kind=0/\q.file=n)=>Zpw l (by omega) v n day eb W (hv.keep hW) (hA.keep hW) he hx);have bo:=ae (fun (n:Int) (h0:-9223372036854775808<=n) (h1:n<=9223372036854775807)=>Yjp hn a8 h0 h1 al);obtain ⟨A,c,rfl,hf⟩:=hv.form hA;have HF:=ae hf;have HA:=ae hA;have HK:=ae an;have bs:=hS.c2.2;have ad:=hS.lt;clear hv hf hA an a8 al hS hn;have bz:=run_makeMap (P:=prog) 104 w;go_enter func19,ntmps19;go_wp2_with fail;have M0:(w.alloc (.map #[] 0)).ownsMap prog 3 Za5 w.heap.size 0 (.map []):=iv w prog 3 Za5;have B0:=Zab w (.map #[] 0);clear bz;generalize w.alloc (.map #[] 0)=w1 at *;go_loopw [15] (fun i wr=>∃ (k:Nat) (m:Nat) (D:DataW Unit),i=.int I (k:Int)/\k<=l.length/\m<=k * 8/\wr.ownsMap prog 3 Za5 w.heap.size m D/\Hid (Zsb D)/\Bl w wr) (fun i _=>l.length - (intOf i).toNat)
 case atStart=>exact ⟨0,0,_,rfl,bi _,bi _,M0,ae Zsb.nil,B0⟩
 case round =>
  clear M0 B0;obtain ⟨k,m,D,rfl,hk,hm,z,B,r⟩:=hrel;by_cases H:k<l.length
  ·have hd:=decide_eq_true H;obtain ⟨b,o,rfl,hr⟩:=HF.out k H;have hq:=HA.out _ (aw H);have b1:=bu w _ (hr 0 _ (by rw [dj];exact hq.knd));have hR:wr.rangeAt b (o+k * 19) l[k].V.toList:=fun j u hu=>(r.cell (p:=⟨b,o+k * 19+j,none⟩) b1).trans (hr j u hu);have ab:=hq.size;have af:=hq.one;have aa:=hq.knd;have T:=hq.ear;have am:=aw H;have HQ:=ae (fun (h0:l[k].kind=0) (j:Nat) (hj:j<l[k].es.length)=>HK.out _ am h0 _ (aw hj));have b6:=ae (fun (j:Nat) (hj:j<l[k].es.length)=>hq.bd _ (aw hj));obtain ⟨Ae,ce,bx,b9,E⟩:=hq.rep.pairs;rw [bx] at T;have HC:=ae E;have cb:=hq.len;clear hr hq bx E am;generalize l[k].kind=kd at *;generalize l[k].es=es at *;generalize l[k].V=V at *;have R:=ae (fun (w3:World) (g3:(wr.alloc (O Zch 48)).grownBy w3 (some wr.heap.size))=>(show Bl wr w3 from (Zab wr (O Zch 48)).grown g3 (by simp) (fun j e=>by injection e with e;omega)));unfold Zch at R;by_cases J:kd=0
   ·have h0:(kd != 0)=false:=by rw [J];rfl
    have b0:=ae (HQ.out J);clear HQ J;go_wp2_with (first
     | (refine Zel hR ab _ rfl rfl rfl ?_)
     | (refine Zae (Blk.new _ _ _) rfl _ _ rfl rfl rfl V rfl ab af ?_;intro w3 X3 g3;have Q3:=R.out w3 g3;have c0:=X3.cellAt 0 _ aa;have a4:=X3.cellAt 14 _ T))
    have M3:=Zfx z z.lt Q3;have B3:=Zaa r Q3 r.size;clear R g3 X3 Q3 c0 a4 aa T z r hR;generalize wr.heap.size=b7;clear wr;go_loopw [25] (fun i wy=>∃ (q:Nat) (m:Nat) (D:DataW Unit),i=.int I (q:Int)/\q<=es.length/\m<=k * 8+q/\wy.ownsMap prog 3 Za5 w.heap.size m D/\Hid (Zsb D)/\Bl w wy) (fun i _=>es.length - (intOf i).toNat)
    case atStart=>exact ⟨0,m,D,rfl,bi _,hm,M3,B,B3⟩
    case round =>
     clear M3 B3 B hm;obtain ⟨q,m,D,rfl,hq,hm,z,B,r⟩:=hrel;by_cases C:q<es.length
     ·have b5:=decide_eq_true C;obtain ⟨b2,o2,rfl,bp,e1,e2⟩:=HC.out q C;have e3:=(r.cell (p:=⟨b2,o2+q * 2,none⟩) bp).trans e1;have e4:=(r.cell (p:=⟨b2,o2+q * 2+1,none⟩) bp).trans e2;have HX:=ae (b0.out q C);obtain ⟨a5,a3⟩:=b6.out q C;have bn:=ae (bo.out _ a5 a3);clear e1 e2;generalize es[q].1=n at *;generalize es[q].2=day at *;go_upto_region 9 with fail;have XE:=Blk.new wr 106 #[.int I n,.int I day];have B8:=Zaa r (Zab wr (O #[.int I n,.int I day] 106)) r.size;have M8:(wr.alloc (O #[.int I n,.int I day] 106)).ownsMap prog 3 Za5 w.heap.size m D:=z.alloc _;have cc:w.heap.size<wr.heap.size:=z.lt;have ge:wr.heap.size≠w.heap.size:=by omega
      clear e3 e4 z r;generalize wr.alloc _=w8 at *;generalize wr.heap.size=be at *;obtain ⟨V2,ok,bh,bf,bg⟩:=bn.out;have HL:=ae bg;clear bg bn;have m2:=(B8.cell (p:=⟨sp,1,none⟩) ad).trans bs;have m3:=XE.c2.1;have l2:=ah ad B8.size;have l3:=XE.lt;refine wp_region_held_drew (S:=(fun V=>Bl w8 V)) (by kernel_rfl) ?_ (fun a=>?_)
      ·first | done | ((try dsimp only);exact (ap _ _).drew)
      have Q5:=(ap w8.heap.size w8).drew;generalize w8.drew=w5 at *;refine tq 0 30 rfl ?_;refine tq 1 31 rfl ?_;refine tq 2 32 rfl ?_;refine tq 3 33 rfl ?_ (hy:=by intro w' d;(try dsimp only at d);have h1:=(d.cell (p:=⟨sp,1,none⟩) l2).trans m2;go_simp;try (with_reducible rfl));refine tq 4 34 rfl ?_;refine tq 5 35 rfl ?_ (hy:=by intro w' d;(try dsimp only at d);have h1:=(d.cell (p:=⟨be,0,none⟩) l3).trans m3;go_simp;try (with_reducible rfl));refine tq 6 36 rfl ?_ (hy:=by intro w' d;(try dsimp only at d);have h1:=HL.out w' (Zaa B8 d B8.size);go_simp;try (with_reducible rfl));refine tq 7 29 rfl ?_;refine tq 8 37 rfl ?_;refine tq 9 38 rfl ?_;have BN:=Blk.new w5 48 Zch;have Q6:=Q5.alloc Q5.size (O Zch 48);unfold Zch at Q6;refine rd 10 (some 10) rfl fun K t=>?_;go_simp;skip;refine t.out _ _ (Q6) fun a=>?_;clear t K;(try simp only [pS,pB,pZ,pC]);refine rd 11 none rfl fun K t=>?_;rw [if_pos (by rfl)];refine Zcr BN rfl _ _ rfl rfl V2 rfl bh bf ?_;intro y X9 g9;have Q9:=Q6.grown g9 Q6.size (fun j e=>by injection e with e;have:=Q5.size;omega);refine t.out _ _ Q9 (fun a=>?_);clear t K;dsimp only [Act.put];refine tq 12 11 rfl ?_;refine dn ?_;have B9:=Zaa B8 Q9 B8.size;have E9:=XE.keep Q9;have M9:=Zfx M8 M8.lt Q9;clear X9 g9 Q9 Q6 BN Q5 a m2 m3 l2 l3 XE B8 M8 HL bh bf;have RK:=ae (fun (U:World) (hU:y.grownBy U (some w.heap.size))=>(E9.grown hU (fun e=>ge (Option.some.inj e))).c2.1);have a0:=ae (fun (U:World) (hU:y.grownBy U (some w.heap.size))=>bc.out U (B9.grown hU B9.size (fun j e=>by injection e with e;omega)) n day be (E9.grown hU (fun e=>ge (Option.some.inj e))) HX.out);clear E9;generalize w8.heap.size=b8 at *;go_upto_region 10 with fail;cases ok with
      | true =>
       refine wp_region_held_drew (S:=(fun V=>y.grownBy V (some w.heap.size))) (by kernel_rfl) ?_ (fun a=>?_)
       ·first | done | ((try dsimp only);exact Zat y _)
       have f:=Zat y (some w.heap.size);have h:y.drew.ownsMap prog 3 Za5 w.heap.size m D:=M9.drew;generalize y.drew=b4 at *;refine tq 0 39 rfl ?_;refine tq 1 40 rfl ?_;refine tq 2 41 rfl ?_ (hy:=by intro w' d;(try dsimp only at d);have h1:=RK.out w' d;go_simp;try (with_reducible rfl));refine tq 3 42 rfl ?_;refine tq 4 43 rfl ?_;refine tq 5 44 rfl ?_;refine tz 6 45 rfl ?_;refine tz 7 46 rfl ?_;refine tz 8 47 rfl ?_;refine tz 9 48 rfl ?_;refine tq 10 49 rfl ?_;refine rd 11 none rfl fun K t=>?_;rw [if_pos (by rfl)];refine Ybo _ _ _ rfl D n a5 a3 w.heap.size m rfl h (by omega) rfl rfl ?_;intro b3 aq N;have s:=Zac f N (fun k e _=>e);refine t.out _ _ s (fun a=>?_);clear t K;dsimp only [Act.put];refine dn ?_;have av:=B9.grown s B9.size (fun j e=>by injection e with e;omega);clear RK a0 s f a N M9 h B9;have a1:=ae (B.out.put n);clear B;go_wp2_with fail;go_roundw
       case rel=>exact ⟨q+1,m+1,_,by go_num,by omega,by omega,aq,a1,av⟩
       case measure=>simp [intOf];omega
      | false =>
       refine wp_region_held_drew (S:=(fun V=>y.grownBy V (some w.heap.size))) (by kernel_rfl) ?_ (fun a=>?_)
       ·first | done | ((try dsimp only);exact Zat y _)
       have f:=Zat y (some w.heap.size);have h:y.drew.ownsMap prog 3 Za5 w.heap.size m D:=M9.drew;generalize y.drew=b4 at *;refine tq 0 39 rfl ?_;refine tq 1 40 rfl ?_;refine tq 2 41 rfl ?_ (hy:=by intro w' d;(try dsimp only at d);have h1:=RK.out w' d;go_simp;try (with_reducible rfl));refine tq 3 42 rfl ?_;refine tq 4 43 rfl ?_;refine tq 5 44 rfl ?_;refine tq 6 45 rfl ?_;refine tq 7 46 rfl ?_;refine rd 8 (some 47) rfl fun K t=>?_;go_simp;(refine (a0.out _ f).mono ?_;rintro e ca ⟨rfl,Y⟩);refine t.out _ _ (Zac f (Zaf Y) (fun k e _=>e)) fun a=>?_;clear t K;(try simp only [pS,pB,pZ,pC]);replace f:=Zac f (Zaf (row:=some w.heap.size) Y) (fun k e _=>e);replace h:=Zfx h h.lt Y;refine tq 9 48 rfl ?_;refine tq 10 49 rfl ?_;refine rd 11 none rfl fun K t=>?_;rw [if_pos (by rfl)];refine Ybo _ _ _ rfl D n a5 a3 w.heap.size m rfl h (by omega) rfl rfl ?_;intro b3 aq N;have s:=Zac f N (fun k e _=>e);refine t.out _ _ s (fun a=>?_);clear t K;dsimp only [Act.put];refine dn ?_;have av:=B9.grown s B9.size (fun j e=>by injection e with e;omega);clear RK a0 s f a N M9 h B9;have a1:=ae (B.out.put n);clear B;go_wp2_with fail;go_roundw
       case rel=>exact ⟨q+1,m+1,_,by go_num,by omega,by omega,aq,a1,av⟩
       case measure=>simp [intOf];omega
     ·have b5:=decide_eq_false C;go_wp2_with fail;go_roundw
      case rel=>exact ⟨k+1,m,D,by go_num,by omega,by omega,z,B,r⟩
      case measure=>simp [intOf];omega
   ·have h0:(kd != 0)=true:=by rw [bne_iff_ne];exact J
    clear HQ J;go_wp2_with (first
     | (refine Zel hR ab _ rfl rfl rfl ?_)
     | (refine Zae (Blk.new _ _ _) rfl _ _ rfl rfl rfl V rfl ab af ?_;intro w3 X3 g3;have Q3:=R.out w3 g3;have c0:=X3.cellAt 0 _ aa;have a4:=X3.cellAt 14 _ T))
    have M3:=Zfx z z.lt Q3;have B3:=Zaa r Q3 r.size;clear R g3 X3 Q3 c0 a4 aa T hR;go_roundw
    case rel=>exact ⟨k+1,m,D,by go_num,by omega,by omega,M3,B,B3⟩
    case measure=>simp [intOf];omega
  ·have hd:=decide_eq_false H;clear bo bc HF HA HK;have bk:=ae (Yey w.heap.size m D wr z B.out.2);clear B;go_wp2_with fail;refine bk.out.mono ?_;rintro e w2 ⟨rfl,⟨D2,a2,a9⟩,bl⟩;have B2:=r.grown bl r.size (fun j e=>by injection e with e;omega);clear bk z r bl;have bq:=ae (Ybm w.heap.size w2);have Bx:=Zab w2 (O #[.map (some w.heap.size)] 104);have X2:=Blk.new w2 104 #[.map (some w.heap.size)];have a7:=ae (Yhp D2 a9 w2.heap.size w.heap.size m _ X2.lt X2.c1.1 (Zfx a2 a2.lt Bx));clear X2 a2 a9;go_wp2_with fail;refine bq.out.mono ?_;rintro e w3 ⟨rfl,rfl⟩;clear bq;generalize w2.alloc _=w3 at *;have B3:=Zaa B2 Bx B2.size;go_wp2_with fail;refine a7.out.mono ?_;rintro e w4 ⟨rfl,a6⟩;have B4:=Zaa B3 a6 B3.size;clear a7 B3 a6 Bx B2;go_wp2_with fail;go_ret;exact ⟨rfl,B4⟩
theorem SlQ.turn {v:Value} {l:List AQ} (h:SlQ W v l) (t:Zn7 W l) (y:∀ p:Addr,p.block<W.heap.size->p.block≠g->W'.cell? p=W.cell? p) (hs:W.heap.size<=W'.heap.size) (s:∀ (i:Nat) (k:IntKind) (n:Int),W.cell? ⟨g,i,none⟩≠some (.int k n)):SlQ W' v l:=by
 refine ⟨h.1,?_⟩;rcases h.2 with r | ⟨b,o,c,e,a,hc⟩
 ·exact .inl r
 ·refine .inr ⟨b,o,c,e,ah a hs,fun j u m=>?_⟩;have d:b≠g:=by
   cases l with
   | nil=>cases m
   | cons q l =>
    have f:=t q (da ..);have h1:(Zkl (q::l))[0]?=some (.int I q.kind):=by
     show (q.V.toList++Zkl l)[0]?=_;rw [d9 (by rw [br,f.size];omega),dj];exact f.knd
    have z:=hc 0 _ h1;rintro rfl;exact s _ _ _ z
  exact (y ⟨b,o+j,none⟩ a d).trans (hc j u m)
theorem Zn7.turn {l:List AQ} (h:Zn7 W l) (c:∀ p:Addr,p.block<W.heap.size->p.block≠g->W'.cell? p=W.cell? p) (hs:W.heap.size<=W'.heap.size) (a:∀ (i:Nat) (k:IntKind) (n:Int),W.cell? ⟨g,i,none⟩≠some (.int k n)):Zn7 W' l:=fun q b=>(h q b).turn c hs a
def BdF (f:Fil):Prop:=f.e.length<=2/\∀ p∈f.e,0<=p.1/\p.1<=4095
def Yhq (fl:List Fil):Prop:=∀ f∈fl,∀ p∈f.e,∃ g∈fl,g.file=p.1
theorem Zpx {fl:List Fil} (h:Yi4 fl):Yhq fl/\∀ f∈fl,BdF f:=by
 refine ⟨fun f b p a=>?_,fun f b=>?_⟩
 ·obtain ⟨i,hi,rfl⟩:=ee b;obtain ⟨⟨j,e,d⟩,_⟩:=(h.2 i hi).1.2.2.2.2.2.2.1 p a;exact ⟨fl[j]'(by omega),aw _,((h.2 j (by omega)).1.1).trans d.symm⟩
 ·obtain ⟨i,hi,rfl⟩:=ee b;have c:=(h.2 i hi).1.2.2.2.2.2;refine ⟨c.1,fun p a=>?_⟩;obtain ⟨⟨j,e,d⟩,_⟩:=c.2.1 p a;have:=h.1;omega
theorem Zg9 (ks:List Nat) (hl:ks.length<=1000) (base:Nat) (v:Value) (w:World) (h:w.ownsRow base 26 1 v ks.length (us ks)) :
  Calls prog 7 #[v] w fun e f=>(∃ sp mb A c,e=Z (X (some ⟨sp,0,none⟩))/\Blk f sp 74 #[G A ks.length c,.map (some mb)]/\Zgq f A ks/\f.ownsMap prog 3 Zgr mb 0 (Zdm [])/\w.heap.size<=sp/\w.heap.size<=mb)/\Bl w f:=by
 have m:=ae (Ya6 base v ks hl w h);clear h;go_enter func7,ntmps7;go_wp2_with fail;refine m.out.mono ?_;rintro e a ⟨t,rfl,ho,b⟩;obtain ⟨A,c,rfl,_,_⟩:=Zcz ho;have hr:=Zmm ho;have s:=run_makeMap (P:=prog) 72 a;have r:(a.alloc (.map #[] 0)).ownsMap prog 3 Zgr a.heap.size 0 (Zdm []):=iv a prog 3 Zgr;have q:=Zaa b (Zab a (.map #[] 0)) b.size;have k:=hr.keep (Zab a (.map #[] 0));have d:(a.alloc (.map #[] 0)).heap.size=a.heap.size+1:=ax ..;have j:=b.size;clear hr ho m b;go_wp2_with fail;go_ret;have B:=Blk.new (a.alloc (.map #[] 0)) 74 #[G A ks.length c,.map (some a.heap.size)];have p:=Zab (a.alloc (.map #[] 0)) (O #[G A ks.length c,.map (some a.heap.size)] 74);rw [d] at B;exact ⟨⟨a.heap.size+1,a.heap.size,A,c,by first | rfl | rw [d],B,k.keep p,r.alloc _,by omega,j⟩,Zaa q p q.size⟩
def KR (rp:Nat) (w W:World):Prop:=w.heap.size<=W.heap.size/\∀ p:Addr,p.block<w.heap.size->p.block≠rp->W.cell? p=w.cell? p
theorem KR.refl (rp:Nat) (w:World):KR rp w w:=⟨ag _,fun _ _ _=>rfl⟩
theorem KR.trans {a b c:World} (h:KR rp a b) (g:KR rp b c):KR rp a c:=⟨aj h.1 g.1,fun p e d=>(g.2 p (ah e h.1) d).trans (h.2 p e d)⟩
theorem KR.of_below (h:Bl w W):KR rp w W:=⟨h.size,fun _ a _=>h.cell a⟩
theorem Zfy {H:Type} {k:TypeId} {R:Value->Option (DataW H × List MemPlace)} {D:DataW H} (h:W.ownsMap prog k R mb nn D) (p:Addr) (b:p.block=mb):W.cell? p=none:=by
 obtain ⟨es,a,c,_⟩:=h;subst b;unfold World.cell?;rw [c]
theorem KR.of_map {a:Nat} {D d:DataW Value} (h:w.grownBy W (some mb)) (h1:w.ownsMap prog 3 Zgr mb nn D) (b:W.ownsMap prog 3 Zgr mb a d):∀ p:Addr,p.block<w.heap.size->W.cell? p=w.cell? p:=fun p c=>by
 by_cases e:p.block=mb
 ·rw [Zfy h1 p e,Zfy b p e]
 ·exact dc (h.block p.block c (fun f=>e (by injection f)))
theorem Zgq.turn {A:Option Addr} {ps:List Nat} (h:Zgq W A ps) (f:∀ p:Addr,p.block<W.heap.size->p.block≠g->W'.cell? p=W.cell? p) (c:∀ (i:Nat) (k:IntKind) (n:Int),W.cell? ⟨g,i,none⟩≠some (.int k n)):Zgq W' A ps:=fun k a=>by
 obtain ⟨b,o,e,hc⟩:=h k a;exact ⟨b,o,e,(f _ (bu _ _ hc) (fun d=>c _ _ _ (by rw [<- d];exact hc))).trans hc⟩
theorem Zsc {D:DataW Value} {row:Option Nat} (h:W.ownsMap prog 3 Zgr mb nn D) (d:W.grownBy W' row) (b:row≠some mb):W'.ownsMap prog 3 Zgr mb nn D:=by
 have c:=h.lt;obtain ⟨es,a,f,j,hs,k⟩:=h;exact ⟨es,a,(d.block mb c (fun e=>b e.symm)).trans f,j,hs,k⟩
structure Zsd (W:World) (ks:List Nat) (As:Option Addr) (cs sp mb:Nat) (Ar:Option Addr) (cr rp:Nat) (vL:Value) (L M:List FV):Prop where
 hs:Blk W sp 74 #[G As ks.length cs,.map (some mb)]
 hm:W.ownsMap prog 3 Zgr mb L.length (Zdm L)
 hr:Blk W rp 33 #[G Ar ks.length cr,vL]
 hl:SlF W vL M
 fi:Zc9 L
 fm:Zc9 M
 af:Zi1 W L
 am:Zi1 W M
 rs:Zgq W As ks
 rr:Zgq W Ar ks
section
variable {W W':World} {ks:List Nat} {As:Option Addr} {cs sp mb:Nat} {Ar:Option Addr} {cr rp:Nat} {vL:Value} {L M:List FV}
theorem Zsd.keep (h:Zsd W ks As cs sp mb Ar cr rp vL L M) (a:Bl W W'):Zsd W' ks As cs sp mb Ar cr rp vL L M :=
 ⟨h.hs.keep a,Zda h.hm a,h.hr.keep a,Zer.keep h.hl a,h.fi,h.fm,h.af.keep a,h.am.keep a,h.rs.keep a,h.rr.keep a⟩
theorem Zsd.mapint (h:Zsd W ks As cs sp mb Ar cr rp vL L M) (i:Nat) (k:IntKind) (n:Int):W.cell? ⟨mb,i,none⟩≠some (.int k n):=by
 rw [Zfy h.hm ⟨mb,i,none⟩ rfl];intro e;cases e
theorem Zsd.put (h:Zsd W ks As cs sp mb Ar cr rp vL L M) (j:Zby x.f) (c:x.At W) (k:∀ y∈L,y.f.file≠x.f.file) (hm:W'.ownsMap prog 3 Zgr mb (L.length+1) (Zdm (L++[x]))) (a:W.grownBy W' (some mb)) :
  Zsd W' ks As cs sp mb Ar cr rp vL (L++[x]) M/\x.At W'/\KR rp W W':=by
 have b:∀ p:Addr,p.block<W.heap.size->p.block≠mb->W'.cell? p=W.cell? p:=fun p d _=>KR.of_map a h.hm hm p d;have hn:=h.mapint;refine ⟨⟨h.hs.grown a (fun e=>Zg8 h.hm h.hs (Option.some.inj e)),?_,h.hr.grown a (fun e=>Zg8 h.hm h.hr (Option.some.inj e)),h.hl.turn b a.size hn,h.fi.snoc k,h.fm,?_,h.am.turn b a.size hn,h.rs.turn b hn,h.rr.turn b hn⟩,c.turn b a.size hn,a.size,fun p d _=>KR.of_map a h.hm hm p d⟩
 ·rw [ai,ei];exact hm
 ·intro y hy;rcases List.mem_append.1 hy with hy | hy
  ·exact (h.af.turn b a.size hn) y hy
  ·rw [List.mem_singleton.1 hy];exact ⟨j,c.turn b a.size hn⟩
end
end Go.Proofs.YtglkadmfjaecmaaGreatDoor
