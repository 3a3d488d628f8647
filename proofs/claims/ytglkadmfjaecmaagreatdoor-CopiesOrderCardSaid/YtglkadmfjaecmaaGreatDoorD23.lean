import Derived.Test.YtglkadmfjaecmaaGreatDoorD20
set_option maxRecDepth 100000
set_option maxHeartbeats 16000000
namespace Go.Proofs.YtglkadmfjaecmaaGreatDoor
open Go.RowKit Go.Shelf _root_.Go.Proofs.Tryz
open Go.Value renaming int->I, slice->O, tuple->U
open Go.IntKind renaming i64->Z
open Go.Ending renaming returned->G
attribute [local go_sem] Oper.semAt_some
variable {N bs g i j:Nat} {W w wr:World} {fl:List Fil} {o:Int} {sp:List Value}
theorem Zse (l:List Nat) (x:Nat):(l++[x]).getD ((l++[x]).length - 1) 0=x/\(l++[x]).dropLast=l:=by
 simp [List.getD]
theorem Zym (f:Nat):∀ (l:List Nat) (i:Nat) (hi:i<l.length),l.length<=f->Zg5 f i l.length l[i] (Zdq f l i)=Zci f l/\Yaw f i l.length (Zdq f l i).length=true:=by
 induction f with
 | zero=>intro l i hi r;omega
 | succ f ih =>
  intro l i hi r;by_cases h1:l.length=1
  ·have s:i=0:=by omega
   subst s;have q:l.getD 0 0=l[0]:=by simp [List.getD,hi]
   unfold Zg5 Zci Yaw Zdq;rw [if_pos (.inl h1),if_neg (by omega),if_pos h1,if_pos (.inl h1),if_pos h1,q];exact ⟨rfl,by simp [h1]⟩
  ·have t:=Zk7 (n:=l.length) (by omega);have p:Zdq (f+1) l i=if i<Zar l.length then Zdq f (l.take (Zar l.length)) i++[Zci f (l.drop (Zar l.length))] else Zdq f (l.drop (Zar l.length)) (i - Zar l.length)++[Zci f (l.take (Zar l.length))]:=by
    rw [Zdq];rw [if_neg h1]
   have m:Zci (f+1) l=Zjg (Zci f (l.take (Zar l.length))) (Zci f (l.drop (Zar l.length))):=by
    rw [Zci];rw [if_neg (by omega),if_neg h1]
   have c:(l.take (Zar l.length)).length=Zar l.length:=by rw [cw];omega
   have b:(l.drop (Zar l.length)).length=l.length - Zar l.length:=dw;by_cases a:i<Zar l.length
   ·rw [p,if_pos a,m];obtain ⟨e,d⟩:=ih (l.take (Zar l.length)) i (by omega) (by omega);have k:(l.take (Zar l.length))[i]'(by omega)=l[i]:=i4;rw [k,c] at e;rw [c] at d;obtain ⟨s1,s2⟩:=Zse (Zdq f (l.take (Zar l.length)) i) (Zci f (l.drop (Zar l.length)));refine ⟨?_,?_⟩
    ·rw [Zg5,if_neg (by simp;omega),if_pos a,s1,s2,e]
    ·rw [Yaw,if_neg (by simp;omega),if_pos a];simpa using d
   ·rw [p,if_neg a,m];obtain ⟨e,d⟩:=ih (l.drop (Zar l.length)) (i - Zar l.length) (by omega) (by omega);have h:(l.drop (Zar l.length))[i - Zar l.length]'(by omega)=l[i]:=by
     rw [List.getElem_drop];congr 1;omega
    rw [h,b] at e;rw [b] at d;obtain ⟨s1,s2⟩:=Zse (Zdq f (l.drop (Zar l.length)) (i - Zar l.length)) (Zci f (l.take (Zar l.length)));refine ⟨?_,?_⟩
    ·rw [Zg5,if_neg (by simp;omega),if_neg a,s1,s2,e]
    ·rw [Yaw,if_neg (by simp;omega),if_neg a];simpa using d
theorem Zuj:∀ (l:List Fil) (t:Int),t<=l.foldl (fun t f=>if t<f.known then f.known else t) t/\∀ f∈l,f.known<=l.foldl (fun t f=>if t<f.known then f.known else t) t
 | [],t=>⟨Int.le_refl _,fun f b=>by cases b⟩
 | a::l,t=>by
  rw [jg];obtain ⟨h1,c⟩:=Zuj l (if t<a.known then a.known else t);have e:t<=(if t<a.known then a.known else t)/\a.known<=(if t<a.known then a.known else t):=by split <;> omega
  generalize (if t<a.known then a.known else t)=d at *;refine ⟨by omega,fun f b=>?_⟩;rcases List.mem_cons.1 b with rfl | b
  ·omega
  ·exact c f b
theorem Ybp {b:Int}:∀ (l:List Fil) (t:Int),t<=b->(∀ f∈l,f.known<=b)->l.foldl (fun t f=>if t<f.known then f.known else t) t<=b
 | [],t,h,_=>h
 | a::l,t,h,hl=>by
  rw [jg];refine Ybp l _ ?_ (fun f c=>hl f (dh _ c));have:=hl a da;split <;> omega
def Ybq (fl:List Fil) (i:Nat):List Nat:=Zdq 16 (Zd3 fl) i
def hOf (sec:Nat) (fl:List Fil) (o:Int):Hd:=Zqe sec fl o fl.length (Zci 16 (Zd3 fl))
theorem Yhr (hi:i<fl.length):(Zd3 fl)[i]'(by rw [Zc6];exact hi)=Zbo (Zdh fl[i]) (Zfe i):=by
 unfold Zd3;rw [List.getElem_mapIdx];rfl
theorem Yf2 (hi:i<fl.length) (hl:fl.length<=14):Zg5 16 i fl.length (Zbo (Zdh fl[i]) (Zfe i)) (Ybq fl i)=Zci 16 (Zd3 fl)/\Yaw 16 i fl.length (Ybq fl i).length=true:=by
 have h:=Zym 16 (Zd3 fl) i (by rw [Zc6];exact hi) (by rw [Zc6];omega);rw [Yhr hi,Zc6] at h;exact h
theorem Ybr (a:Nat) (hl:fl.length<=14) (h1:1<=fl.length) (c:∀ f∈fl,Zby f) (ho:0<=o/\o<=11):hdC (Zie a) (hOf a fl o)=0:=by
 have h:Zgn (fl.take fl.length)=Zgn fl:=by rw [df]
 have k:=(Zuj fl 0).1;have l:=Ybp (b:=1099511627776) fl 0 (by omega) (fun f d=>(c f d).2.1.2);have e:hdB (hOf a fl o).office (hOf a fl o).tick (hOf a fl o).day (hOf a fl o).size (hOf a fl o).sld=true:=by
  show hdB o (Zgn (fl.take fl.length)) 9 (fl.length:Int) 0=true;rw [h];unfold hdB inB Zgn;simp only [gv,decide_eq_true_eq];omega
 unfold hdC;rw [if_pos e];exact if_pos (Yat a fl o fl.length (Zci 16 (Zd3 fl)))
theorem Ybs (a:Nat) (hi:i<fl.length):fl[i].known<=(hOf a fl o).tick:=by
 show fl[i].known<=Zgn (fl.take fl.length);rw [df];exact (Zuj fl 0).2 _ (aw hi)
structure XV where
 k:List Int
 v:Array Value
 hs:v.size=19
 h1:v.all (·.oneCell')=true
theorem XV.len (x:XV):x.v.toList.length=19:=by rw [br,x.hs]
def Ze2 (x y:XV):Int:=Zf2 x.k y.k
def Zas (l:List XV):Prop:=l.Pairwise fun x y=>Ze2 x y<=0
theorem Ybt (x:XV):Ze2 x x=0:=Zl8 _
theorem Zfz (x y:XV):Ze2 y x=- Ze2 x y:=Zg1 _ _
theorem Zde {x y z:XV} (h:Ze2 x y<=0) (g:Ze2 y z<=0):Ze2 x z<=0:=Zju h g
def Zb7:List XV->List Value
 | []=>[]
 | x::l=>x.v.toList++Zb7 l
theorem Zbu (x:XV) (l:List XV):Zb7 (x::l)=x.v.toList++Zb7 l:=rfl
theorem Zea:∀ l m:List XV,Zb7 (l++m)=Zb7 l++Zb7 m
 | [],_=>rfl
 | x::l,m=>by rw [dx,Zbu,Zbu,Zea l m,ay]
theorem Zbz:∀ l:List XV,(Zb7 l).length=l.length * 19
 | []=>rfl
 | x::l=>by rw [Zbu,ai,x.len,Zbz l,au];omega
def Zd4 (W:World) (g:Nat) (l:List XV) (sp:List Value):Prop:=Blk W g 48 (Zb7 l++sp).toArray
theorem Zd4.keep {W':World} {l:List XV} (h:Zd4 W g l sp) (a:Bl W W'):Zd4 W' g l sp:=Blk.keep h a
theorem Zwq {α:Type} {l:List α} {x:α} (h:l[i]?=some x):∃ p q,l=p++x::q/\p.length=i:=by
 obtain ⟨hi,rfl⟩:=List.getElem?_eq_some_iff.1 h;refine ⟨l.take i,l.drop (i+1),?_,by rw [cw];omega⟩;rw [<- ct hi,di]
theorem Zd4.at {l:List XV} {x:XV} (h:Zd4 W g l sp) (b:l[i]?=some x):W.rangeAt g (i * 19) x.v.toList:=fun j u a=>by
 obtain ⟨p,q,rfl,rfl⟩:=Zwq b;refine Blk.cellAt h _ _ ?_;have c:j<19:=by have:=Zap a;rw [x.len] at this;exact this
 rw [Zea,Zbu,ep,ay,ay,<- Zbz p,dg (by omega),i8,d9 (by rw [x.len];exact c)];exact a
theorem Zd4.set {l:List XV} (h:Zd4 W g l sp) (hi:i<l.length) (y:XV):Zd4 (W.setCells g (i * 19) y.v.toList) g (l.set i y) sp:=by
 obtain ⟨p,q,e,b⟩:=Zwq (ak hi);generalize l[i]=x at e;subst e;subst b;have a:=Blk.sets y.v.toList (p.length * 19) h;have d:(p++x::q).set p.length y=p++y::q:=by simp
 have c:Zb7 (p++x::q)++sp=Zb7 p++x.v.toList++(Zb7 q++sp):=by rw [Zea,Zbu];simp only [ay]
 have f:Zb7 (p++y::q)++sp=Zb7 p++y.v.toList++(Zb7 q++sp):=by rw [Zea,Zbu];simp only [ay]
 rw [c,<- Zbz p,Zfv _ _ _ _ (by rw [x.len,y.len]),<- f] at a;rw [d,<- Zbz p];exact a
theorem Zd4.there {l:List XV} (h:Zd4 W g l sp) (hi:i<l.length):W.there g (i * 19) 19 :=
 Zmn h (by rw [ef,ai,Zbz];omega)
theorem Zpy {α:Type} (p:List α) (x:α) (m:List α) (y:α) (q:List α) (hi:i=p.length) (a:j=p.length+1+m.length):((p++x::(m++y::q)).set i y).set j x=p++y::(m++x::q):=by
 subst hi a;rw [ji _ _ (ag _),ic,List.set_cons_zero,ji _ _ (by omega),show p.length+1+m.length - p.length=m.length+1 by omega,List.set_cons_succ,ji _ _ (ag _),ic,List.set_cons_zero]
theorem Ybu {α:Type} (p:List α) (x:α) (m:List α) (y:α) (q:List α) (hi:i=p.length) (a:j=p.length+1+m.length):((p++x::(m++y::q)).set j x).set i y=p++y::(m++x::q):=by
 rw [List.set_comm _ _ (by omega),Zpy p x m y q hi a]
theorem Zd4.swap {l:List XV} (h:Zd4 W g l sp) (hi:i<l.length) (a:j<l.length) (x y:XV) :
  Zd4 ((W.setCells g (i * 19) y.v.toList).setCells g (j * 19) x.v.toList) g ((l.set i y).set j x) sp/\W.grownBy ((W.setCells g (i * 19) y.v.toList).setCells g (j * 19) x.v.toList) (some g) :=
 ⟨(h.set hi y).set (by rw [iw];exact a) x,Zac (Zcu g _ _ W) (Zcu g _ _ _) (fun _ e _=>e)⟩
theorem Zmu {c d:List XV} {x:XV} (hs:Zas (c++d)) (r:∀ y∈d,Ze2 x y<=0) (q:∀ y p,c=p++[y]->¬ Ze2 x y<0):Zas (c++x::d):=by
 unfold Zas at *;rw [iy] at hs ⊢;obtain ⟨h1,m,t⟩:=hs;have e:∀ y∈c,Ze2 y x<=0:=by
  intro y hy;obtain ⟨p,z,l⟩:∃ p z,c=p++[z]:=⟨c.dropLast,c.getLast (List.ne_nil_of_mem hy),(List.dropLast_concat_getLast _).symm⟩;have s:=q z p l;have f:Ze2 z x<=0:=by
   have:=Zfz z x;omega
  rw [l] at hy h1;rcases List.mem_append.1 hy with hy | hy
  ·rw [iy] at h1;exact Zde (h1.2.2 y hy z (by simp)) f
  ·simp only [jd] at hy;rw [hy];exact f
 refine ⟨h1,?_,?_⟩
 ·rw [List.pairwise_cons];exact ⟨r,m⟩
 ·intro a k b h;rcases List.mem_cons.1 h with rfl | h
  ·exact e a k
  ·exact t a k b h
theorem Ybv {b a:List XV} {x y:XV} (hs:Zas (b++[y]++a)) (d:∀ z∈a,Ze2 x z<0) (hy:Ze2 x y<0):Zas (b++(y::a))/\(∀ z∈y::a,Ze2 x z<0):=by
 refine ⟨by simpa using hs,fun z c=>?_⟩;rcases List.mem_cons.1 c with rfl | c
 ·exact hy
 ·exact d z c
theorem Zdb {l:List XV} (h:Zas l) (a:i<=j) {x y:XV} (c:l[i]?=some x) (hy:l[j]?=some y):Ze2 x y<=0:=by
 obtain ⟨hi,rfl⟩:=List.getElem?_eq_some_iff.1 c;obtain ⟨d,rfl⟩:=List.getElem?_eq_some_iff.1 hy;rcases Nat.lt_or_eq_of_le a with b | rfl
 ·exact (List.pairwise_iff_getElem.1 h) i j hi d b
 ·rw [Ybt];exact Int.le_refl _
theorem Ye2 {s:List XV} (h:Zas s) (x:XV) (hi:i<=s.length) (h1:i=0∨∃ y,s[i - 1]?=some y/\Ze2 y x<0) (b:i=s.length∨∃ y,s[i]?=some y/\¬ Ze2 y x<0):Zas (s.take i++x::s.drop i):=by
 refine Zmu (by rw [di];exact h) (fun y hy=>?_) (fun y p e=>?_)
 ·rcases b with b | ⟨z,k,c⟩
  ·rw [b,List.drop_length] at hy;cases hy
  ·obtain ⟨j,a⟩:=i5 hy;rw [fz] at a;have d:=Zdb h (Nat.le_add_right i j) k a;have l:=Zfz z x;exact Zde (by omega) d
 ·rcases h1 with h1 | ⟨z,k,c⟩
  ·rw [h1,List.take_zero] at e;simp at e
  ·have hy:y∈s.take i:=by rw [e];simp
   obtain ⟨j,a⟩:=i5 hy;have f:=Zap a;rw [cw] at f;rw [List.getElem?_take_of_lt (by omega)] at a;have d:=Zdb h (show j<=i - 1 by omega) a k;have l:=Zfz y x;have m:Ze2 y x<=0:=Zde d (by omega);omega
theorem Ybw {s:List XV} (h:Zas s) (x:XV) (hi:i<=s.length) (h1:i=0∨∃ y,s[i - 1]?=some y/\¬ Ze2 x y<0) (b:i=s.length∨∃ y,s[i]?=some y/\Ze2 x y<0):Zas (s.take i++x::s.drop i):=by
 refine Zmu (by rw [di];exact h) (fun y hy=>?_) (fun y p e=>?_)
 ·rcases b with b | ⟨z,f,c⟩
  ·rw [b,List.drop_length] at hy;cases hy
  ·obtain ⟨j,a⟩:=i5 hy;rw [fz] at a;exact Zde (by omega) (Zdb h (Nat.le_add_right i j) f a)
 ·rcases h1 with h1 | ⟨z,f,c⟩
  ·rw [h1,List.take_zero] at e;simp at e
  ·have hy:y∈s.take i:=by rw [e];simp
   obtain ⟨j,a⟩:=i5 hy;have d:=Zap a;rw [cw] at d;rw [List.getElem?_take_of_lt (by omega)] at a;have k:=Zdb h (show j<=i - 1 by omega) a f;have q:=Zfz y x;have l:=Zfz z x;have m:Ze2 y x<=0:=Zde k (by omega);omega
theorem Ybx {s1 s2:List XV} (h1:Zas s1) (z:Zas s2) {s t:Nat}
  (u:s=s1.length∨t=0∨∃ x y,s2[t - 1]?=some x/\s1[s]?=some y/\Ze2 x y<0)
  (f:s=0∨t=s2.length∨∃ x y,s2[t]?=some x/\s1[s - 1]?=some y/\¬ Ze2 x y<0) :
  (∀ x∈s2.take t,∀ y∈s1.drop s,Ze2 x y<=0)/\(∀ x∈s1.take s,∀ y∈s2.drop t,Ze2 x y<=0):=by
 have B:∀ (l:List XV) (i:Nat) (x:XV),x∈l.take i->∃ j,j<i/\l[j]?=some x:=fun l i x d=>by
  obtain ⟨j,c⟩:=i5 d;have q:=Zap c;rw [cw] at q;rw [List.getElem?_take_of_lt (by omega)] at c;exact ⟨j,by omega,c⟩
 have A:∀ (l:List XV) (i:Nat) (x:XV),x∈l.drop i->∃ j,i<=j/\l[j]?=some x:=fun l i x d=>by
  obtain ⟨j,c⟩:=i5 d;rw [fz] at c;exact ⟨i+j,by omega,c⟩
 refine ⟨fun x d y hy=>?_,fun x d y hy=>?_⟩
 ·obtain ⟨j,c,p⟩:=B _ _ _ d;obtain ⟨k,v,e⟩:=A _ _ _ hy;rcases u with u | u | ⟨a,b,m,r,h⟩
  ·have:=Zap e;omega
  ·omega
  ·exact Zde (Zdb z (by omega) p m) (Zde (by omega) (Zdb h1 v r e))
 ·obtain ⟨j,c,p⟩:=B _ _ _ d;obtain ⟨k,v,e⟩:=A _ _ _ hy;rcases f with f | f | ⟨a,b,m,r,h⟩
  ·omega
  ·have:=Zap e;omega
  ·have C:=Zfz a b;exact Zde (Zdb h1 (by omega) p r) (Zde (by omega) (Zdb z v m e))
theorem Zyn {d b c v2 L R:List XV} (h1:Zas (d++c)) (e:Zas (b++v2)) (c1:∀ x∈b,∀ y∈c,Ze2 x y<=0) (c2:∀ x∈d,∀ y∈v2,Ze2 x y<=0) (h:L.Perm (d++b)) (f:R.Perm (c++v2)) (l:Zas L) (k:Zas R):Zas (L++R)/\(L++R).Perm ((d++c)++(b++v2)):=by
 constructor
 ·unfold Zas at *;rw [iy] at h1 e ⊢;refine ⟨l,k,fun x a y hy=>?_⟩;rcases List.mem_append.1 (h.mem_iff.1 a) with a | a <;> rcases List.mem_append.1 (f.mem_iff.1 hy) with hy | hy
  ·exact h1.2.2 x a y hy
  ·exact c2 x a y hy
  ·exact c1 x a y hy
  ·exact e.2.2 x a y hy
 ·refine (h.append f).trans ?_;rw [ay,ay,<- ay b c v2,<- ay c b v2];exact List.Perm.append_left d (List.Perm.append_right v2 List.perm_append_comm)
theorem Zdc {a b:List XV} (h:Zas (a++b)):Zas a/\Zas b:=by
 unfold Zas at *;rw [iy] at h;exact ⟨h.1,h.2.1⟩
def Zfi (bs:Nat) (l:List XV) (c:Nat):List XV:=(l.drop (c * bs)).take bs
theorem Zn8 {c:Nat} {p r:List XV} (h:(c+1) * bs<=p.length):Zfi bs (p++r) c=Zfi bs p c:=by
 unfold Zfi;have e:(c+1) * bs=c * bs+bs:=by rw [ix,Nat.one_mul]
 rw [List.drop_append_of_le_length (by omega),List.take_append_of_le_length (by rw [dw];omega)]
theorem Zi4 {c:Nat} {p m q:List XV} (a:p.length=c * bs) (hm:m.length=bs∨(m.length<=bs/\q=[])):Zfi bs (p++m++q) c=m:=by
 unfold Zfi;rw [<- a,ay,List.drop_left']
 ·rcases hm with hm | ⟨hm,rfl⟩
  ·rw [<- hm,List.take_left'];rfl
  ·rw [bv,et hm]
 ·rfl
theorem Zwr {α:Type} {a b:List α} {n:Nat} (h:a.length<=n):(a++b).drop n=b.drop (n - a.length):=by
 rw [List.drop_append,List.drop_of_length_le h,dm]
theorem Zuk {c d:Nat} {p m m' q:List XV} (hm:m.length=m'.length) (b:p.length=c * bs) (hl:m.length<=d * bs):Zfi bs (p++m++q) (c+d)=Zfi bs (p++m'++q) (c+d):=by
 unfold Zfi;have e:(c+d) * bs=p.length+d * bs:=by rw [ix,b]
 rw [Zwr (a:=p++m) (by rw [ai];omega),Zwr (a:=p++m') (by rw [ai];omega),ai,ai,hm]
theorem Zn9 {c:Nat} {l:List XV} (h:l.length<=c * bs):Zfi bs l c=[]:=by
 unfold Zfi;rw [List.drop_of_length_le h,List.take_nil]
theorem Yby {l:List XV} (h:l.length<=bs):Zfi bs l 0=l:=by
 unfold Zfi;rw [io,List.drop_zero,et h]
theorem Ybz {α β:Type} (f:α->β):∀ {a b:List β},a.Perm b->∀ l:List α,b=l.map f->∃ m:List α,m.Perm l/\a=m.map f:=by
 intro a b h;induction h with
 | nil=>intro l e;exact ⟨l,List.Perm.refl _,e⟩
 | cons x h ih =>
  intro l e;cases l with
  | nil=>cases e
  | cons y l =>
   injection e with e1 e2;obtain ⟨m,hm,c⟩:=ih l e2;exact ⟨y::m,hm.cons y,by rw [du,<- c,<- e1]⟩
 | swap x y t =>
  intro l e;cases l with
  | nil=>cases e
  | cons u l =>
   cases l with
   | nil=>cases e
   | cons v l =>
    injection e with e1 e2;injection e2 with e2 e3;exact ⟨v::u::l,List.Perm.swap ..,by rw [du,du,<- e1,<- e2,<- e3]⟩
 | trans h1 h2 ih1 ih2 =>
  intro l e;obtain ⟨m,hm,c⟩:=ih2 l e;obtain ⟨n,hn,d⟩:=ih1 m c;exact ⟨n,hn.trans hm,d⟩
def Zib (w:World) (g:Nat) (M:List XV):Prop:=∀ W,w.grownBy W (some g)->∀ x∈M,∀ y∈M,Calls prog 41 #[.agg x.v,.agg y.v] W fun e w'=>e=G (I Z (Ze2 x y))/\Bl W w'
theorem Zib.step {M:List XV} (h:Zib w g M) (a:w.grownBy W (some g)):Zib W g M:=fun V b=>h V (Zac a b (fun _ e _=>e))
theorem Zib.sub {M a:List XV} (h:Zib w g M) (hs:∀ x∈a,x∈M):Zib w g a:=fun V c x b y hy=>h V c x (hs x b) y (hs y hy)
def Yh8 (w wr:World) (g:Nat) (P A M B Q:List XV) (sp:List Value) (k:Nat):Prop:=∃ A1 A2 B1 B2:List XV,A=A1++A2/\B=B1++B2/\A1.length=k/\B1.length=k/\Zd4 wr g (P++(B1++A2)++M++(A1++B2)++Q) sp/\w.grownBy wr (some g)
theorem Yh8.done {P A M B Q:List XV} {k:Nat} (h:Yh8 w wr g P A M B Q sp k) (d:k=A.length) (f:k=B.length):Zd4 wr g (P++B++M++A++Q) sp/\w.grownBy wr (some g):=by
 obtain ⟨m,b,p,e,rfl,rfl,h1,l,a,c⟩:=h;rw [ai] at d f;obtain rfl:b=[]:=bj (by omega);obtain rfl:e=[]:=bj (by omega);simp only [bv] at a ⊢;exact ⟨a,c⟩
theorem Yh8.next {P A M B Q:List XV} {k:Nat} (h:Yh8 w wr g P A M B Q sp k) (z:k<A.length) (u:k<B.length):∃ x y l,Zd4 wr g l sp/\l.length=P.length+A.length+M.length+B.length+Q.length/\l[P.length+k]?=some x/\l[P.length+A.length+M.length+k]?=some y/\∀ W,Zd4 W g ((l.set (P.length+k) y).set (P.length+A.length+M.length+k) x) sp->wr.grownBy W (some g)->Yh8 w W g P A M B Q sp (k+1):=by
 obtain ⟨c,a,b,d,rfl,rfl,h1,r,p,v⟩:=h;rw [ai] at z u;obtain ⟨x,a,rfl⟩:=List.exists_cons_of_length_pos (l:=a) (by omega);obtain ⟨y,d,rfl⟩:=List.exists_cons_of_length_pos (l:=d) (by omega);have e:P++(b++x::a)++M++(c++y::d)++Q=(P++b)++x::((a++M++c)++y::(d++Q)):=by simp
 have m:P.length+k=(P++b).length:=by rw [ai];omega
 have f:P.length+(c++x::a).length+M.length+k=(P++b).length+1+(a++M++c).length:=by simp only [ai,au];omega
 rw [e] at p;refine ⟨x,y,_,p,by simp only [ai,au];omega,?_,?_,?_⟩
 ·rw [m,dg (ag _),ic];rfl
 ·rw [f,dg (by omega),show (P++b).length+1+(a++M++c).length - (P++b).length=(a++M++c).length+1 by omega,List.getElem?_cons_succ,dg (ag _),ic];rfl
 ·intro W q s;rw [Zpy _ _ _ _ _ m f] at q;refine ⟨c++[x],a,b++[y],d,by simp,by simp,by simp [h1],by simp [r],?_,Zac v s (fun _ e _=>e)⟩;have t:P++(b++[y]++a)++M++(c++[x]++d)++Q=(P++b)++y::((a++M++c)++x::(d++Q)):=by simp
  rw [t];exact q
theorem Zgj {c:Nat} (P A M B Q:List XV) (a b n N:Nat) (ha:a=P.length) (hb:b=P.length+A.length+M.length) (hn:n=A.length) (R:n=B.length) (hN:N=P.length+A.length+M.length+B.length+Q.length) (al:N<=100000) (w:World) (vc:Value)
  (hX:Zd4 w g (P++A++M++B++Q) sp) :
  Calls prog 223 #[O (some ⟨g,0,none⟩) N c,I Z (a:Int),I Z (b:Int),I Z (n:Int),vc] w fun e w'=>e=G (U #[])/\Zd4 w' g (P++B++M++A++Q) sp/\w.grownBy w' (some g):=by
 have HX:=ae hX;have V:=ae (show a=P.length/\b=P.length+A.length+M.length/\n=A.length/\n=B.length/\N=P.length+A.length+M.length+B.length+Q.length from ⟨ha,hb,hn,R,hN⟩);have af:a+n<=N:=by omega
 have ab:b+n<=N:=by omega
 clear hX ha hb hn R hN;go_enter func223,ntmps223;go_wp2_with fail;go_loopw [10] (fun i wr=>∃ k:Nat,i=I Z (k:Int)/\k<=n/\Hid (Yh8 w wr g P A M B Q sp k)) (fun i _=>n - (intOf i).toNat)
 case atStart=>exact ⟨0,rfl,by omega,ae ⟨[],A,[],B,rfl,rfl,rfl,rfl,by have:=HX.out;simpa using this,World.grownBy.refl w _⟩⟩
 case round =>
  obtain ⟨k,rfl,hk,HI⟩:=hrel;clear HX;by_cases E:k<n
  ·have hd:=decide_eq_true E;obtain ⟨x,y,l,hl,C,hx,hy,q⟩:=HI.out.next (by have:=V.out;omega) (by have:=V.out;omega);obtain ⟨ea,eb,_,_,eN⟩:=V.out;rw [<- eb] at hy q;rw [<- ea] at hx q;have aa:l.length=N:=C.trans eN.symm;clear C ea eb eN HI;have m:a+k<l.length:=by omega
   have p:b+k<l.length:=by omega
   have T:=hl.at hx;have Y:=hl.at hy;have L:=ae (fun (W:World) (t:Bl wr W)=>q _ ((hl.keep t).swap m p x y).1 (Zac (Zaf (row:=some g) t) ((hl.keep t).swap m p x y).2 (fun _ e _=>e)));have H:=ae (fun (W:World) (t:Bl wr W)=>(hl.keep t).there m);have J:=ae (fun (W:World) (t:Bl wr W)=>(hl.keep t).there p);have w1:IntKind.i64.wrap ((a:Int)+(k:Int))=(a:Int)+(k:Int):=by rw [az];omega
   have ad:IntKind.i64.wrap ((b:Int)+(k:Int))=(b:Int)+(k:Int):=by rw [az];omega
   have p0:(0:Int)<=(a:Int)+(k:Int):=by omega
   have p1:(a:Int)+(k:Int)<(N:Int):=by omega
   have p2:(0:Int)<=(b:Int)+(k:Int):=by omega
   have p3:(b:Int)+(k:Int)<(N:Int):=by omega
   have e0:((a:Int)+(k:Int)).toNat=a+k:=by omega
   have e1:((b:Int)+(k:Int)).toNat=b+k:=by omega
   clear hl hx hy q m p aa;go_upto_region 3 with fail;refine wp_region_held_drew (S:=(fun _=>True)) (by kernel_rfl) ?_ (fun d=>?_)
   ·first | done | ((try dsimp only);(try exact True.intro))
   have X:=(ap wr.heap.size wr).drew;have HS:=ae (L.out _ X);have s:=H.out _ X;have r:=J.out _ X;have T:=(gu _ _ _ _).2 T;have Y:=(gu _ _ _ _).2 Y;clear L H J X;generalize wr.drew=w2 at *;refine tq 0 16 rfl ?_;refine tq 1 17 rfl ?_;refine tq 2 18 rfl ?_;refine tq 3 19 rfl ?_;refine tq 4 20 rfl ?_;refine tq 5 21 rfl ?_;refine tq 6 22 rfl ?_;refine tq 7 23 rfl ?_;refine tq 8 24 rfl ?_;refine tq 9 25 rfl ?_;refine tq 10 26 rfl ?_;refine tq 11 27 rfl ?_;refine tq 12 28 rfl ?_;refine tq 14 30 rfl ?_;refine tq 15 31 rfl ?_;refine tq 16 32 rfl ?_;refine tq 17 33 rfl ?_;refine tq 18 34 rfl ?_;refine rd2 13 (some 29) 19 (some 35) (by kernel_rfl) rfl rfl (fun K f=>?_) fun K f=>?_
   ·rw [if_pos (by rfl)];refine wp_load_mid 48 _ rfl g ((b+k) * 19) rfl y.v.toList _ Y underlying48 rfl (by rw [br,y.hs];kernel_rfl) ?_;rw [bt];refine f.out _ _ trivial (fun d=>?_);clear f K;(try simp only [pS,pB,pZ,pC]);refine rd 19 (some 35) rfl fun K f=>?_;rw [if_pos (by rfl)];refine wp_load_mid 48 _ rfl g ((a+k) * 19) rfl x.v.toList _ T underlying48 rfl (by rw [br,x.hs];kernel_rfl) ?_;rw [bt];refine f.out _ _ trivial (fun d=>?_);clear f K;(try simp only [pS,pB,pZ,pC]);have u:(w2.setCells g ((a+k) * 19) y.v.toList).there g ((b+k) * 19) x.v.size:=by
     rw [x.hs];exact go (w:=w2) (b':=g) (o':=(b+k) * 19) (n:=19) r g ((a+k) * 19) y.v.toList
    have z:w2.there g ((a+k) * 19) y.v.size:=by
     rw [y.hs];exact s
    refine tq 20 36 rfl ?_;refine rd 21 none rfl fun K f=>?_;rw [if_pos (by rfl)];refine wp_store_mid 48 _ _ rfl g ((a+k) * 19) y.v rfl rfl z (by rw [y.hs];kernel_rfl) y.h1 ?_;refine f.out _ _ trivial (fun d=>?_);clear f K;dsimp only [Act.put];generalize w2.setCells g ((a+k) * 19) y.v.toList=w3 at *;refine tq 22 37 rfl ?_;refine rd 23 none rfl fun K f=>?_;rw [if_pos (by rfl)];refine wp_store_mid 48 _ _ rfl g ((b+k) * 19) x.v rfl rfl u (by rw [x.hs];kernel_rfl) x.h1 ?_;refine f.out _ _ trivial (fun d=>?_);clear f K;dsimp only [Act.put];generalize w3.setCells g ((b+k) * 19) x.v.toList=w4 at *;refine dn ?_;go_wp2_with fail;go_roundw
    case rel=>exact ⟨k+1,by go_num,by omega,HS⟩
    case measure=>simp [intOf];omega
   ·rw [if_pos (by rfl)];refine wp_load_mid 48 _ rfl g ((a+k) * 19) rfl x.v.toList _ T underlying48 rfl (by rw [br,x.hs];kernel_rfl) ?_;rw [bt];refine f.out _ _ trivial (fun d=>?_);clear f K;(try simp only [pS,pB,pZ,pC]);refine rd 13 (some 29) rfl fun K f=>?_;rw [if_pos (by rfl)];refine wp_load_mid 48 _ rfl g ((b+k) * 19) rfl y.v.toList _ Y underlying48 rfl (by rw [br,y.hs];kernel_rfl) ?_;rw [bt];refine f.out _ _ trivial (fun d=>?_);clear f K;(try simp only [pS,pB,pZ,pC]);have u:(w2.setCells g ((a+k) * 19) y.v.toList).there g ((b+k) * 19) x.v.size:=by
     rw [x.hs];exact go (w:=w2) (b':=g) (o':=(b+k) * 19) (n:=19) r g ((a+k) * 19) y.v.toList
    have z:w2.there g ((a+k) * 19) y.v.size:=by
     rw [y.hs];exact s
    refine tq 20 36 rfl ?_;refine rd 21 none rfl fun K f=>?_;rw [if_pos (by rfl)];refine wp_store_mid 48 _ _ rfl g ((a+k) * 19) y.v rfl rfl z (by rw [y.hs];kernel_rfl) y.h1 ?_;refine f.out _ _ trivial (fun d=>?_);clear f K;dsimp only [Act.put];generalize w2.setCells g ((a+k) * 19) y.v.toList=w3 at *;refine tq 22 37 rfl ?_;refine rd 23 none rfl fun K f=>?_;rw [if_pos (by rfl)];refine wp_store_mid 48 _ _ rfl g ((b+k) * 19) x.v rfl rfl u (by rw [x.hs];kernel_rfl) x.h1 ?_;refine f.out _ _ trivial (fun d=>?_);clear f K;dsimp only [Act.put];generalize w3.setCells g ((b+k) * 19) x.v.toList=w4 at *;refine dn ?_;go_wp2_with fail;go_roundw
    case rel=>exact ⟨k+1,by go_num,by omega,HS⟩
    case measure=>simp [intOf];omega
  ·have hd:=decide_eq_false E;go_wp2_with fail;go_end0;have h:=V.out;exact ⟨rfl,HI.out.done (by omega) (by omega)⟩
def Yi8 (w wr:World) (g N m:Nat) (T:List XV) (sp:List Value) (i j:Nat):Prop:=∃ P A B Q:List XV,T=P++B++A++Q/\P.length+A.length=m/\A.length=i/\B.length=j/\m+B.length+Q.length=N/\Zd4 wr g (P++A++B++Q) sp/\w.grownBy wr (some g)
theorem Zyo {c:Nat} (P A B Q:List XV) (a m b N:Nat) (ha:a=P.length) (hm:m=P.length+A.length) (hb:b=m+B.length) (hN:N=b+Q.length) (v:N<=100000) (y:0<A.length) (z:0<B.length) (w:World) (p:Value)
  (hX:Zd4 w g (P++A++B++Q) sp) :
  Calls prog 205 #[O (some ⟨g,0,none⟩) N c,I Z (a:Int),I Z (m:Int),I Z (b:Int),p] w fun e k=>e=G (U #[])/\Zd4 k g (P++B++A++Q) sp/\w.grownBy k (some g):=by
 have r:=ae (show Yi8 w w g N m (P++B++A++Q) sp A.length B.length from ⟨P,A,B,Q,rfl,hm.symm,rfl,rfl,by omega,hX,World.grownBy.refl w _⟩);have J:m+B.length<=N:=by omega
 have C:A.length<=m:=by omega
 have s1:IntKind.i64.wrap ((m:Int) - (a:Int))=(A.length:Int):=by rw [az];omega
 have s2:IntKind.i64.wrap ((b:Int) - (m:Int))=(B.length:Int):=by rw [az];omega
 have aq:m<=N:=by omega
 have an:a<=N:=by omega
 have av:b<=N:=by omega
 generalize P++B++A++Q=T at *;clear hX ha hm hb hN;generalize A.length=i0 at *;generalize B.length=j0 at *;clear P A B Q;go_enter func205,ntmps205;go_wp2_with fail;go_loopw [10,11] (fun i j wr=>∃ R V:Nat,i=I Z (R:Int)/\j=I Z (V:Int)/\0<R/\0<V/\R<=m/\m+V<=N/\Hid (Yi8 w wr g N m T sp R V)) (fun i j _=>(intOf i).toNat+(intOf j).toNat)
 case atStart=>exact ⟨i0,j0,rfl,rfl,y,z,C,J,r⟩
 case round =>
  clear r s1 s2 C J y z;obtain ⟨i,j,rfl,rfl,al,X,ad,ab,r⟩:=hrel;obtain ⟨d,hd⟩:∃ d,d=m - i:=⟨_,rfl⟩;have s1:IntKind.i64.wrap ((m:Int) - (i:Int))=(d:Int):=by rw [az];omega
  by_cases q:i=j
  ·have e1:((i:Int) != (j:Int))=false:=by simp [q]
   have u:=ae (fun (p:Value)=>(by
    obtain ⟨P,A,B,Q,e,h1,x,h3,h4,L,H⟩:=r.out;refine (Zgj (c:=c) P A [] B Q d m i N (by omega) (by simp;omega) (by omega) (by omega) (by simp;omega) v wr p (by simpa using L)).mono ?_;rintro S k ⟨rfl,E,K⟩;exact ⟨rfl,by rw [e];simpa using E,Zac H K (fun _ e _=>e)⟩:Calls prog 223 #[O (some ⟨g,0,none⟩) N c,I Z (d:Int),I Z (m:Int),I Z (i:Int),p] wr fun e k=>e=G (U #[])/\Zd4 k g T sp/\w.grownBy k (some g)))
   clear q hd r;go_wp2_with fail;refine (u.out _).mono ?_;rintro e w2 ⟨rfl,h1,x⟩;have M:=ae h1;have H2:=ae x;clear h1 x u;go_wp2_with fail;go_end0;exact ⟨rfl,M.out,H2.out⟩
  ·have e1:((i:Int) != (j:Int))=true:=by simp;omega
   by_cases s:j<i
   ·have S:=decide_eq_true s;obtain ⟨t,am⟩:∃ t,t=i - j:=⟨_,rfl⟩;have s3:IntKind.i64.wrap ((i:Int) - (j:Int))=(t:Int):=by rw [az];omega
    have u:=ae (fun (p:Value)=>(by
     obtain ⟨P,A,B,Q,e,h1,x,h3,h4,L,H⟩:=r.out;have l1:(A.take j).length=j:=by rw [cw];omega
     have l2:(A.drop j).length=t:=by rw [dw];omega
     have Y:=di j A;generalize A.take j=A1 at *;generalize A.drop j=A2 at *;subst Y;rw [ai] at h1 x;refine (Zgj (c:=c) P A1 A2 B Q d m j N (by omega) (by omega) (by omega) (by omega) (by omega) v wr p (by simpa using L)).mono ?_;rintro S k ⟨rfl,E,K⟩;exact ⟨rfl,P++B,A2,A1,Q,by rw [e];simp,by rw [ai];omega,l2,l1,by omega,by simpa using E,Zac H K (fun _ e _=>e)⟩:Calls prog 223 #[O (some ⟨g,0,none⟩) N c,I Z (d:Int),I Z (m:Int),I Z (j:Int),p] wr fun e k=>e=G (U #[])/\Yi8 w k g N m T sp t j))
    have af:t+j<i+j:=by omega
    have l:0<t/\t<=m:=by omega
    clear q hd r am s;go_wp2_with fail;refine (u.out _).mono ?_;rintro e w2 ⟨rfl,h1⟩;have M:=ae h1;clear h1 u;go_wp2_with fail;go_roundw
    case rel=>exact ⟨t,j,rfl,rfl,l.1,X,l.2,ab,M⟩
    case measure=>simp [intOf];omega
   ·have S:=decide_eq_false s;obtain ⟨h,aa⟩:∃ h,h=j - i:=⟨_,rfl⟩;have s3:IntKind.i64.wrap ((j:Int) - (i:Int))=(h:Int):=by rw [az];omega
    obtain ⟨f,hf⟩:∃ f,f=m+j - i:=⟨_,rfl⟩;have s4:IntKind.i64.wrap ((m:Int)+(j:Int))=(m:Int)+(j:Int):=by rw [az];omega
    have s5:IntKind.i64.wrap ((m:Int)+(j:Int) - (i:Int))=(f:Int):=by rw [az];omega
    have u:=ae (fun (p:Value)=>(by
     obtain ⟨P,A,B,Q,e,h1,x,h3,h4,L,H⟩:=r.out;have l1:(B.take h).length=h:=by rw [cw];omega
     have l2:(B.drop h).length=i:=by rw [dw];omega
     have Y:=di h B;generalize B.take h=B1 at *;generalize B.drop h=B2 at *;subst Y;rw [ai] at h3 h4;refine (Zgj (c:=c) P A B1 B2 Q d f i N (by omega) (by omega) (by omega) (by omega) (by omega) v wr p (by simpa using L)).mono ?_;rintro S k ⟨rfl,E,K⟩;exact ⟨rfl,P,B2,B1,A++Q,by rw [e];simp,by omega,l2,l1,by rw [ai];omega,by simpa using E,Zac H K (fun _ e _=>e)⟩:Calls prog 223 #[O (some ⟨g,0,none⟩) N c,I Z (d:Int),I Z (f:Int),I Z (i:Int),p] wr fun e k=>e=G (U #[])/\Yi8 w k g N m T sp i h))
    have af:i+h<i+j:=by omega
    have l:0<h/\m+h<=N:=by omega
    clear q hd r aa s hf;go_wp2_with fail;refine (u.out _).mono ?_;rintro e w2 ⟨rfl,h1⟩;have M:=ae h1;clear h1 u;go_wp2_with fail;go_roundw
    case rel=>exact ⟨i,h,rfl,rfl,al,l.1,ad,l.2,M⟩
    case measure=>simp [intOf];omega
set_option linter.unusedVariables false
def Yi9 (s:List XV) (x:XV) (m i j:Nat):Prop:=m<=i/\i<=j/\j<=m+s.length/\(i=m∨∃ y,s[i - m - 1]?=some y/\Ze2 y x<0)/\(j=m+s.length∨∃ y,s[j - m]?=some y/\¬ Ze2 y x<0)
def Yja (s:List XV) (x:XV) (m i j:Nat):Prop:=m<=i/\i<=j/\j<=m+s.length/\(i=m∨∃ y,s[i - m - 1]?=some y/\¬ Ze2 x y<0)/\(j=m+s.length∨∃ y,s[j - m]?=some y/\Ze2 x y<0)
def Yis (w wr:World) (g:Nat) (p u v:List XV) (x:XV) (sp:List Value) (k:Nat):Prop:=∃ u1 u2,u=u1++u2/\u1.length=k/\Zd4 wr g (p++u1++x::(u2++v)) sp/\w.grownBy wr (some g)
theorem Yis.next {p u v:List XV} {x:XV} {k:Nat} (h:Yis w wr g p u v x sp k) (s:k<u.length):∃ y l,Zd4 wr g l sp/\l.length=p.length+u.length+1+v.length/\l[p.length+k]?=some x/\l[p.length+k+1]?=some y/\∀ W,Zd4 W g ((l.set (p.length+k) y).set (p.length+k+1) x) sp->wr.grownBy W (some g)->Yis w W g p u v x sp (k+1):=by
 obtain ⟨a,b,rfl,h1,c,r⟩:=h;rw [ai] at s;obtain ⟨y,b,rfl⟩:=List.exists_cons_of_length_pos (l:=b) (by omega);have e:p++a++x::(y::b++v)=(p++a)++x::([]++y::(b++v)):=by simp
 have f:p.length+k=(p++a).length:=by rw [ai];omega
 have d:p.length+k+1=(p++a).length+1+([]:List XV).length:=by rw [ai];simp;omega
 rw [e] at c;refine ⟨y,_,c,by simp only [ai,au,dk];omega,?_,?_,?_⟩
 ·rw [f,dg (ag _),ic];rfl
 ·rw [d,dg (by omega),show (p++a).length+1+([]:List XV).length - (p++a).length=1 by rw [dk];omega];rfl
 ·intro W m q;rw [Zpy _ _ _ _ _ f d] at m;exact ⟨a++[y],b,by simp,by simp [h1],by simpa using m,Zac r q (fun _ e _=>e)⟩
def Yit (w wr:World) (g:Nat) (u v q:List XV) (x:XV) (sp:List Value) (k:Nat):Prop:=∃ v1 v2,v=v1++v2/\v1.length=k/\Zd4 wr g (u++v1++x::(v2++q)) sp/\w.grownBy wr (some g)
theorem Yit.next {u v q:List XV} {x:XV} {k:Nat} (h:Yit w wr g u v q x sp (k+1)):∃ y l,Zd4 wr g l sp/\l.length=u.length+v.length+1+q.length/\l[u.length+k]?=some y/\l[u.length+k+1]?=some x/\∀ W,Zd4 W g ((l.set (u.length+k+1) y).set (u.length+k) x) sp->wr.grownBy W (some g)->Yit w W g u v q x sp k:=by
 obtain ⟨a,v2,rfl,h1,b,p⟩:=h;obtain ⟨a,y,rfl⟩:∃ t z,a=t++[z]:=by
  rcases Zfh a with rfl | h
  ·cases h1
  ·exact h
 have h1:a.length=k:=by simpa using h1
 have e:u++(a++[y])++x::(v2++q)=(u++a)++y::([]++x::(v2++q)):=by simp
 have d:u.length+k=(u++a).length:=by rw [ai];omega
 have c:u.length+k+1=(u++a).length+1+([]:List XV).length:=by rw [ai];simp;omega
 rw [e] at b;refine ⟨y,_,b,by simp only [ai,au,dk];omega,?_,?_,?_⟩
 ·rw [d,dg (ag _),ic];rfl
 ·rw [c,dg (by omega),show (u++a).length+1+([]:List XV).length - (u++a).length=1 by rw [dk];omega];rfl
 ·intro W f m;rw [Ybu _ _ _ _ _ d c] at f;exact ⟨a,y::v2,by simp,h1,by simpa using f,Zac p m (fun _ e _=>e)⟩
theorem Yhs {c:Nat} (bn:N<=100000) (p q s2:List XV) (x:XV) (a m b:Nat) (w:World) (ha:a=p.length) (hm:m=a+1) (hb:b=m+s2.length) (hN:N=b+q.length) (hs:Zas s2) (hX:Zd4 w g (p++[x]++s2++q) sp) (hC:Zib w g (x::s2)) :
  Calls prog 180 #[O (some ⟨g,0,none⟩) N c,I Z (a:Int),I Z (m:Int),I Z (b:Int),.func (.func 41) #[] #[]] w fun e w'=>e=G (U #[])/\(∃ s,s.Perm (x::s2)/\Zas s/\Zd4 w' g (p++s++q) sp)/\w.grownBy w' (some g):=by
 have a3:(p++[x]++s2++q)[a]?=some x:=by rw [ha,ay,ay,dg (ag _),ic];rfl
 have af:=ae (fun (h:Nat) (y:XV) (h1:m<=h) (hy:s2[h - m]?=some y)=>(by
  have:=Zap hy;rw [ay,dg (by simp;omega),show h - (p++[x]).length=h - m by simp;omega,d9 this];exact hy:(p++[x]++s2++q)[h]?=some y))
 have HR:=ae (fun (W:World) (r:Bl w W)=>(hX.keep r));have HC:=ae hC;have HA:=ae (show a=p.length/\m=a+1/\b=m+s2.length/\N=b+q.length from ⟨ha,hm,hb,hN⟩);have aa:=ae a3;have Y:=ae hs;have e1:IntKind.i64.wrap ((m:Int) - (a:Int))=1:=by rw [az];omega
 have bg:b<=N:=by omega
 have hmb:m<=b:=by omega
 have a4:a<N:=by omega
 have Q:=ae (show Yi9 s2 x m m b from ⟨ag _,hmb,by omega,.inl rfl,.inl (by omega)⟩);clear a3 hX hC ha hm hb hN hs;go_enter func180,ntmps180;go_wp2_with fail;go_loopw [10,11,12] (fun i j _ wr=>∃ i' j':Nat,i=I Z (i':Int)/\j=I Z (j':Int)/\m<=i'/\i'<=j'/\j'<=b/\Hid (Yi9 s2 x m i' j')/\Bl w wr) (fun i j _ _=>(intOf j).toNat - (intOf i).toNat)
 case atStart=>exact ⟨m,b,rfl,rfl,ag _,hmb,ag _,Q,ap _ _⟩
 case round=>as_aux_lemma =>
  clear Q e1 hmb;obtain ⟨i,j,rfl,rfl,a2,a8,am,C,A⟩:=hrel;by_cases ab:i<j
  ·have d1:=decide_eq_true ab;obtain ⟨h,hh⟩:∃ h:Nat,h=(i+j) / 2:=⟨_,rfl⟩;have be:i<=h:=by omega
   have bz:h<j:=by omega
   have k1:IntKind.i64.wrap ((i:Int)+(j:Int))=(i:Int)+(j:Int):=by rw [az];omega
   have k2:IntKind.u64.wrap ((i:Int)+(j:Int))=(i:Int)+(j:Int):=by rw [fu];omega
   have k3:((i:Int)+(j:Int)) / 2=(h:Int):=by omega
   have k4:IntKind.i64.wrap (h:Int)=(h:Int):=by rw [az];omega
   obtain ⟨y,hy⟩:∃ y,s2[h - m]?=some y:=⟨_,ak (by have:=HA.out;omega)⟩
   have HY:=ae hy;have hz:∃ z,z=Ze2 y x:=⟨_,rfl⟩;obtain ⟨z,hz⟩:=hz;have RX:=ae (fun (W:World) (r:Bl wr W)=>((HR.out W (Zaa A r A.size)).at aa.out));have RY:=ae (fun (W:World) (r:Bl wr W)=>((HR.out W (Zaa A r A.size)).at (af.out h y (by omega) HY.out)));have B:=ae (fun (W:World) (r:Bl wr W)=>HC.out W (Zaf (Zaa A r A.size)) y (dh _ (iq HY.out)) x (da ..));rw [<- hz] at B;have HZ:=ae hz;have p0:(0:Int)<=(h:Int)/\(h:Int)<(N:Int):=by omega
   have p1:(h:Int)<(N:Int):=by omega
   have p2:(0:Int)<=(a:Int)/\(a:Int)<(N:Int):=by omega
   have p3:(a:Int)<(N:Int):=by omega
   have jz:decide (h<N)=true:=decide_eq_true (by omega);have bl:=decide_eq_true a4;clear hy hz hh;go_upto_region 5 with fail;go_cut [50] (fun v wx=>v=.bool (decide (z<0))/\Bl wr wx)
   case first=>as_aux_lemma =>
    clear HC HA C aa af Y HR HZ HY A;refine wp_region_held_drew (S:=(fun V=>Bl wr V)) (by kernel_rfl) ?_ (fun d=>?_)
    ·first | done | ((try dsimp only);exact (ap _ _).drew)
    have Q2:=(ap wr.heap.size wr).drew;generalize wr.drew=w2 at *;refine tq 0 40 rfl ?_;refine tq 1 41 rfl ?_;refine tq 2 42 rfl ?_;refine tq 3 43 rfl ?_;refine ty 4 44 rfl (Zcw y.hs _ rfl rfl (fun V h=>RY.out V h) rfl) ?_;refine tq 5 45 rfl ?_;refine tq 6 46 rfl ?_;refine tq 7 47 rfl ?_;refine ty 8 48 rfl (Zcw x.hs _ rfl rfl (fun V h=>RX.out V h) rfl) ?_;refine rd 9 (some 49) rfl fun K f=>?_;go_simp;(refine (B.out _ Q2).mono ?_;rintro e w3 ⟨rfl,aq⟩);refine f.out _ _ (Q2.trans (aq.mono Q2.size)) fun d=>?_;clear f K;(try simp only [pS,pB,pZ,pC]);have Q3:=Q2.trans (aq.mono Q2.size);refine tq 10 50 rfl ?_;refine dn ?_;go_wp2_with fail;go_meet;exact ⟨rfl,Q3⟩
   case rest=>as_aux_lemma =>
    obtain ⟨rfl,av⟩:=hcut;have P2:=Zaa A av A.size;clear A av RX RY B;by_cases t:z<0
    ·have dz:=decide_eq_true t;rw [dz];have T:=ae (show Yi9 s2 x m (h+1) j from by
      obtain ⟨b1,b2,b3,b4,b5⟩:=C.out;exact ⟨by omega,by omega,b3,.inr ⟨y,by rw [show h+1 - m - 1=h - m by omega];exact HY.out,by rw [<- HZ.out];exact t⟩,b5⟩)
     clear C HY HZ dz t;go_wp2_with fail;go_roundw
     case rel=>exact ⟨h+1,j,by go_num,rfl,by omega,by omega,am,T,P2⟩
     case measure=>simp [intOf];omega
    ·have dz:=decide_eq_false t;rw [dz];have T:=ae (show Yi9 s2 x m i h from by
      obtain ⟨b1,b2,b3,b4,b5⟩:=C.out;exact ⟨b1,by omega,by omega,b4,.inr ⟨y,HY.out,by rw [<- HZ.out];exact t⟩⟩)
     clear C HY HZ dz t;go_wp2_with fail;go_roundw
     case rel=>exact ⟨i,h,rfl,rfl,a2,be,by omega,T,P2⟩
     case measure=>simp [intOf];omega
  ·have d1:=decide_eq_false ab;obtain rfl:i=j:=by omega
   have HT:=ae (show Zas (s2.take (i - m)++x::s2.drop (i - m)) from by
    obtain ⟨b1,b2,b3,b4,b5⟩:=C.out;refine Ye2 Y.out x (by omega) ?_ ?_
    ·rcases b4 with h | h
     ·exact .inl (by omega)
     ·exact .inr h
    ·rcases b5 with h | h
     ·exact .inl (by omega)
     ·exact .inr h)
   have HW:=ae (show Yis w wr g p (s2.take (i - m)) (s2.drop (i - m)++q) x sp 0 from ⟨[],_,rfl,rfl,by
    have:=HR.out wr A;rw [<- ay,di];simpa using this,Zaf A⟩)
   have bf:(s2.take (i - m)).length=i - m:=by rw [cw];have:=HA.out;omega
   have a7:(s2.drop (i - m)).length=s2.length - (i - m):=by rw [dw]
   have HE:=ae (show s2.take (i - m)++s2.drop (i - m)=s2 from di _ _);generalize s2.take (i - m)=u at *;generalize s2.drop (i - m)=v at *;have L:=ae (show u.length+m=i/\a+1=m/\a=p.length/\p.length+u.length+1+(v++q).length=N from by have:=HA.out;simp;omega);obtain ⟨P,bq⟩:∃ P:Nat,P+1=i:=⟨i - 1,by have:=HA.out;omega⟩
   have s1:IntKind.i64.wrap ((i:Int) - 1)=(P:Int):=by rw [az];omega
   have a9:a<=P:=by have:=HA.out;omega
   have bo:P<N:=by omega
   clear C HR aa af Y HC bf a7 A a2 a8 am d1 ab;go_wp2_with fail;go_loopw [13] (fun kv wr=>∃ k:Nat,kv=I Z (k:Int)/\a<=k/\k<=P/\Hid (Yis w wr g p u (v++q) x sp (k - a))) (fun kv _=>P - (intOf kv).toNat)
   case atStart=>exact ⟨a,rfl,ag _,a9,by rw [ic];exact HW⟩
   case round=>as_aux_lemma =>
    clear HW;obtain ⟨k,rfl,bh,bx,HI⟩:=hrel;by_cases al:k<P
    ·have hd:=decide_eq_true al;obtain ⟨y,l,hl,a5,hx,hy,J⟩:=HI.out.next (by have:=L.out;omega);have ea:p.length+(k - a)=k:=by have:=L.out;omega
     rw [ea] at hx hy J;have a6:l.length=N:=by have:=L.out;omega
     have ek:k - a+1=k+1 - a:=by omega
     rw [ek] at J;clear a5 ea ek HI;have E:k<l.length:=by omega
     have H:k+1<l.length:=by omega
     have rx:=hl.at hx;have ry:=hl.at hy;have a1:=ae (fun (W:World) (r:Bl wr W)=>J _ ((hl.keep r).swap E H x y).1 (Zac (Zaf (row:=some g) r) ((hl.keep r).swap E H x y).2 (fun _ e _=>e)));have an:=ae (fun (W:World) (r:Bl wr W)=>(hl.keep r).there E);have a0:=ae (fun (W:World) (r:Bl wr W)=>(hl.keep r).there H);have p0:(0:Int)<=(k:Int)+1:=by omega
     have bk:IntKind.i64.wrap ((k:Int)+1)=(k:Int)+1:=by rw [az];omega
     have p1:(k:Int)+1<(N:Int):=by omega
     have p2:(0:Int)<=(k:Int)/\(k:Int)<(N:Int):=by omega
     have p3:(k:Int)<(N:Int):=by omega
     have e0:((k:Int)+1).toNat=k+1:=by omega
     have jz:decide (k+1<N)=true:=decide_eq_true (by omega);have bp:decide (k<N)=true:=decide_eq_true (by omega);clear hl hx hy J E H a6;go_upto_region 11 with fail;refine wp_region_held_drew (S:=(fun _=>True)) (by kernel_rfl) ?_ (fun d=>?_)
     ·first | done | ((try dsimp only);(try exact True.intro))
     have Qw:=(ap wr.heap.size wr).drew;have C:=ae (a1.out _ Qw);have R:=an.out _ Qw;have M:=a0.out _ Qw;have rx:=(gu _ _ _ _).2 rx;have ry:=(gu _ _ _ _).2 ry;clear a1 an a0 Qw;generalize wr.drew=w2 at *;refine tq 0 61 rfl ?_;refine tq 1 62 rfl ?_;refine tq 2 63 rfl ?_;refine tq 3 64 rfl ?_;refine tq 4 65 rfl ?_;refine tq 5 66 rfl ?_;refine tq 6 67 rfl ?_;refine tq 7 68 rfl ?_;refine tq 8 69 rfl ?_;refine tq 10 71 rfl ?_;refine tq 11 72 rfl ?_;refine tq 12 73 rfl ?_;refine rd2 9 (some 70) 13 (some 74) (by kernel_rfl) rfl rfl (fun K f=>?_) fun K f=>?_
     ·rw [if_pos (by rfl)];refine wp_load_mid 48 _ rfl g ((k+1) * 19) rfl y.v.toList _ ry underlying48 rfl (by rw [br,y.hs];kernel_rfl) ?_;rw [bt];refine f.out _ _ trivial (fun d=>?_);clear f K;(try simp only [pS,pB,pZ,pC]);refine rd 13 (some 74) rfl fun K f=>?_;rw [if_pos (by rfl)];refine wp_load_mid 48 _ rfl g (k * 19) rfl x.v.toList _ rx underlying48 rfl (by rw [br,x.hs];kernel_rfl) ?_;rw [bt];refine f.out _ _ trivial (fun d=>?_);clear f K;(try simp only [pS,pB,pZ,pC]);have ad:(w2.setCells g (k * 19) y.v.toList).there g ((k+1) * 19) x.v.size:=by
       rw [x.hs];exact go (w:=w2) (b':=g) (o':=(k+1) * 19) (n:=19) M g (k * 19) y.v.toList
      have X:w2.there g (k * 19) y.v.size:=by
       rw [y.hs];exact R
      refine tq 14 75 rfl ?_;refine rd 15 none rfl fun K f=>?_;rw [if_pos (by rfl)];refine wp_store_mid 48 _ _ rfl g (k * 19) y.v rfl rfl X (by rw [y.hs];kernel_rfl) y.h1 ?_;refine f.out _ _ trivial (fun d=>?_);clear f K;dsimp only [Act.put];generalize w2.setCells g (k * 19) y.v.toList=w3 at *;refine tq 16 76 rfl ?_;refine rd 17 none rfl fun K f=>?_;rw [if_pos (by rfl)];refine wp_store_mid 48 _ _ rfl g ((k+1) * 19) x.v rfl rfl ad (by rw [x.hs];kernel_rfl) x.h1 ?_;refine f.out _ _ trivial (fun d=>?_);clear f K;dsimp only [Act.put];generalize w3.setCells g ((k+1) * 19) x.v.toList=w4 at *;refine dn ?_;go_wp2_with fail;go_roundw
      case rel=>exact ⟨k+1,by go_num,by omega,by omega,C⟩
      case measure=>simp [intOf];omega
     ·rw [if_pos (by rfl)];refine wp_load_mid 48 _ rfl g (k * 19) rfl x.v.toList _ rx underlying48 rfl (by rw [br,x.hs];kernel_rfl) ?_;rw [bt];refine f.out _ _ trivial (fun d=>?_);clear f K;(try simp only [pS,pB,pZ,pC]);refine rd 9 (some 70) rfl fun K f=>?_;rw [if_pos (by rfl)];refine wp_load_mid 48 _ rfl g ((k+1) * 19) rfl y.v.toList _ ry underlying48 rfl (by rw [br,y.hs];kernel_rfl) ?_;rw [bt];refine f.out _ _ trivial (fun d=>?_);clear f K;(try simp only [pS,pB,pZ,pC]);have ad:(w2.setCells g (k * 19) y.v.toList).there g ((k+1) * 19) x.v.size:=by
       rw [x.hs];exact go (w:=w2) (b':=g) (o':=(k+1) * 19) (n:=19) M g (k * 19) y.v.toList
      have X:w2.there g (k * 19) y.v.size:=by
       rw [y.hs];exact R
      refine tq 14 75 rfl ?_;refine rd 15 none rfl fun K f=>?_;rw [if_pos (by rfl)];refine wp_store_mid 48 _ _ rfl g (k * 19) y.v rfl rfl X (by rw [y.hs];kernel_rfl) y.h1 ?_;refine f.out _ _ trivial (fun d=>?_);clear f K;dsimp only [Act.put];generalize w2.setCells g (k * 19) y.v.toList=w3 at *;refine tq 16 76 rfl ?_;refine rd 17 none rfl fun K f=>?_;rw [if_pos (by rfl)];refine wp_store_mid 48 _ _ rfl g ((k+1) * 19) x.v rfl rfl ad (by rw [x.hs];kernel_rfl) x.h1 ?_;refine f.out _ _ trivial (fun d=>?_);clear f K;dsimp only [Act.put];generalize w3.setCells g ((k+1) * 19) x.v.toList=w4 at *;refine dn ?_;go_wp2_with fail;go_roundw
      case rel=>exact ⟨k+1,by go_num,by omega,by omega,C⟩
      case measure=>simp [intOf];omega
    ·have hd:=decide_eq_false al;go_wp2_with fail;refine bodyPost_ret (results_none rfl _ _ _) rfl ?_;obtain ⟨u1,u2,e,h1,h2,h3⟩:=HI.out;have bc:u2=[]:=bj (by have:=L.out;rw [e,ai] at this;omega);subst bc;rw [bv] at e;subst e;refine ⟨rfl,⟨u++x::v,?_,HT.out,by simpa using h2⟩,h3⟩;rw [<- HE.out];exact List.perm_middle
theorem Ye3 {c:Nat} (bo:N<=100000) (p q s1:List XV) (x:XV) (a m b:Nat) (w:World) (ha:a=p.length) (hm:m=a+s1.length) (be:2<=s1.length) (hb:b=m+1) (hN:N=b+q.length) (hs:Zas s1) (hX:Zd4 w g (p++s1++[x]++q) sp) (hC:Zib w g (s1++[x])) :
  Calls prog 180 #[O (some ⟨g,0,none⟩) N c,I Z (a:Int),I Z (m:Int),I Z (b:Int),.func (.func 41) #[] #[]] w fun e w'=>e=G (U #[])/\(∃ s,s.Perm (s1++[x])/\Zas s/\Zd4 w' g (p++s++q) sp)/\w.grownBy w' (some g):=by
 have a2:(p++s1++[x]++q)[m]?=some x:=by rw [ay,dg (by simp;omega),show m - (p++s1).length=0 by simp;omega];rfl
 have al:=ae (fun (h:Nat) (y:XV) (h1:a<=h) (hy:s1[h - a]?=some y)=>(by
  have:=Zap hy;rw [ay,ay,dg (by omega),show h - p.length=h - a by omega,d9 this];exact hy:(p++s1++[x]++q)[h]?=some y))
 have HR:=ae (fun (W:World) (t:Bl w W)=>(hX.keep t));have HC:=ae hC;have HA:=ae (show a=p.length/\m=a+s1.length/\b=m+1/\N=b+q.length from ⟨ha,hm,hb,hN⟩);have ab:=ae a2;have X:=ae hs;obtain ⟨n1,a8⟩:∃ n1:Nat,n1=s1.length:=⟨_,rfl⟩;have e1:IntKind.i64.wrap ((m:Int) - (a:Int))=(n1:Int):=by rw [az];omega
 have e2:((n1:Int) == 1)=false:=by rw [beq_eq_false_iff_ne];omega
 have e3:IntKind.i64.wrap ((b:Int) - (m:Int))=1:=by rw [az];omega
 have bh:b<=N:=by omega
 have ham:a<=m:=by omega
 have bg:m<N:=by omega
 have M:=ae (show Yja s1 x a a m from ⟨ag _,ham,by omega,.inl rfl,.inl (by omega)⟩);clear a2 hX hC ha hm hb hN hs a8 be;go_enter func180,ntmps180;go_wp2_with fail;go_loopw [14,15,16] (fun i j _ wr=>∃ i' j':Nat,i=I Z (i':Int)/\j=I Z (j':Int)/\a<=i'/\i'<=j'/\j'<=m/\Hid (Yja s1 x a i' j')/\Bl w wr) (fun i j _ _=>(intOf j).toNat - (intOf i).toNat)
 case atStart=>exact ⟨a,m,rfl,rfl,ag _,ham,ag _,M,ap _ _⟩
 case round=>as_aux_lemma =>
  clear M e1 e2 e3 ham;obtain ⟨i,j,rfl,rfl,bf,a7,a6,E,B⟩:=hrel;by_cases ad:i<j
  ·have d1:=decide_eq_true ad;obtain ⟨h,hh⟩:∃ h:Nat,h=(i+j) / 2:=⟨_,rfl⟩;have a9:i<=h:=by omega
   have bz:h<j:=by omega
   have k1:IntKind.i64.wrap ((i:Int)+(j:Int))=(i:Int)+(j:Int):=by rw [az];omega
   have k2:IntKind.u64.wrap ((i:Int)+(j:Int))=(i:Int)+(j:Int):=by rw [fu];omega
   have k3:((i:Int)+(j:Int)) / 2=(h:Int):=by omega
   have k4:IntKind.i64.wrap (h:Int)=(h:Int):=by rw [az];omega
   obtain ⟨y,hy⟩:∃ y,s1[h - a]?=some y:=⟨_,ak (by have:=HA.out;omega)⟩
   have Y:=ae hy;have hz:∃ z,z=Ze2 x y:=⟨_,rfl⟩;obtain ⟨z,hz⟩:=hz;have RX:=ae (fun (W:World) (t:Bl wr W)=>((HR.out W (Zaa B t B.size)).at ab.out));have RY:=ae (fun (W:World) (t:Bl wr W)=>((HR.out W (Zaa B t B.size)).at (al.out h y (by omega) Y.out)));have C:=ae (fun (W:World) (t:Bl wr W)=>HC.out W (Zaf (Zaa B t B.size)) x (by simp) y (List.mem_append.2 (.inl (iq Y.out))));rw [<- hz] at C;have HZ:=ae hz;have p0:(0:Int)<=(h:Int)/\(h:Int)<(N:Int):=by omega
   have p1:(h:Int)<(N:Int):=by omega
   have p2:(0:Int)<=(m:Int)/\(m:Int)<(N:Int):=by omega
   have p3:(m:Int)<(N:Int):=by omega
   have jz:decide (h<N)=true:=decide_eq_true (by omega);have bn:=decide_eq_true bg;clear hy hz hh;go_upto_region 17 with fail;go_cut [103] (fun v wx=>v=.bool (!decide (z<0))/\Bl wr wx)
   case first=>as_aux_lemma =>
    clear HC HA E ab al X HR HZ Y B;refine wp_region_held_drew (S:=(fun V=>Bl wr V)) (by kernel_rfl) ?_ (fun f=>?_)
    ·first | done | ((try dsimp only);exact (ap _ _).drew)
    have Q2:=(ap wr.heap.size wr).drew;generalize wr.drew=w2 at *;refine tq 0 92 rfl ?_;refine tq 1 93 rfl ?_;refine tq 2 94 rfl ?_;refine tq 3 95 rfl ?_;refine ty 4 96 rfl (Zcw x.hs _ rfl rfl (fun V h=>RX.out V h) rfl) ?_;refine tq 5 97 rfl ?_;refine tq 6 98 rfl ?_;refine tq 7 99 rfl ?_;refine ty 8 100 rfl (Zcw y.hs _ rfl rfl (fun V h=>RY.out V h) rfl) ?_;refine rd 9 (some 101) rfl fun K r=>?_;go_simp;(refine (C.out _ Q2).mono ?_;rintro e w3 ⟨rfl,an⟩);refine r.out _ _ (Q2.trans (an.mono Q2.size)) fun f=>?_;clear r K;(try simp only [pS,pB,pZ,pC]);have Q3:=Q2.trans (an.mono Q2.size);refine tq 10 102 rfl ?_;refine tq 11 103 rfl ?_;refine dn ?_;go_wp2_with fail;go_meet;exact ⟨rfl,Q3⟩
   case rest=>as_aux_lemma =>
    obtain ⟨rfl,aq⟩:=hcut;have P2:=Zaa B aq B.size;clear B aq RX RY C;by_cases A:z<0
    ·have dz:(!decide (z<0))=false:=by rw [decide_eq_true A];rfl
     rw [dz];have R:=ae (show Yja s1 x a i h from by
      obtain ⟨b1,b2,b3,b4,b5⟩:=E.out;exact ⟨b1,by omega,by omega,b4,.inr ⟨y,Y.out,by rw [<- HZ.out];exact A⟩⟩)
     clear E Y HZ dz A;go_wp2_with fail;go_roundw
     case rel=>exact ⟨i,h,rfl,rfl,bf,a9,by omega,R,P2⟩
     case measure=>simp [intOf];omega
    ·have dz:(!decide (z<0))=true:=by rw [decide_eq_false A];rfl
     rw [dz];have R:=ae (show Yja s1 x a (h+1) j from by
      obtain ⟨b1,b2,b3,b4,b5⟩:=E.out;exact ⟨by omega,by omega,b3,.inr ⟨y,by rw [show h+1 - a - 1=h - a by omega];exact Y.out,by rw [<- HZ.out];exact A⟩,b5⟩)
     clear E Y HZ dz A;go_wp2_with fail;go_roundw
     case rel=>exact ⟨h+1,j,by go_num,rfl,by omega,by omega,a6,R,P2⟩
     case measure=>simp [intOf];omega
  ·have d1:=decide_eq_false ad;obtain rfl:i=j:=by omega
   have HT:=ae (show Zas (s1.take (i - a)++x::s1.drop (i - a)) from by
    obtain ⟨b1,b2,b3,b4,b5⟩:=E.out;refine Ybw X.out x (by omega) ?_ ?_
    ·rcases b4 with h | h
     ·exact .inl (by omega)
     ·exact .inr h
    ·rcases b5 with h | h
     ·exact .inl (by omega)
     ·exact .inr h)
   have a5:(s1.drop (i - a)).length+i=m:=by rw [dw];have:=HA.out;omega
   have HW:=ae (show Yit w wr g (p++s1.take (i - a)) (s1.drop (i - a)) q x sp (m - i) from ⟨s1.drop (i - a),[],(bv _).symm,by omega,by
    have:=HR.out wr B;rw [ay p,di];simpa using this,Zaf B⟩)
   have bc:(s1.take (i - a)).length=i - a:=by rw [cw];have:=HA.out;omega
   have HE:=ae (show s1.take (i - a)++s1.drop (i - a)=s1 from di _ _);generalize s1.take (i - a)=u at *;generalize s1.drop (i - a)=v at *;have a1:=ae (show (p++u).length=i/\v.length+i=m/\(p++u).length+v.length+1+q.length=N from by have:=HA.out;simp;omega);clear E HR ab al X HC bc a5 B a7 d1 ad;go_wp2_with fail;go_loopw [17] (fun kv wr=>∃ k:Nat,kv=I Z (k:Int)/\i<=k/\k<=m/\Hid (Yit w wr g (p++u) v q x sp (k - i))) (fun kv _=>(intOf kv).toNat)
   case atStart=>exact ⟨m,rfl,by omega,ag _,HW⟩
   case round=>as_aux_lemma =>
    clear HW;obtain ⟨k,rfl,bk,bx,HI⟩:=hrel;by_cases Q:i<k
    ·have hd:=decide_eq_true Q;obtain ⟨d,rfl⟩:∃ d,k=d+1:=⟨k - 1,by omega⟩
     have hd:=decide_eq_true Q;have bp:decide ((i:Int)<(d:Int)+1)=true:=decide_eq_true (by omega);rw [show d+1 - i=d - i+1 by omega] at HI;obtain ⟨y,l,hl,a3,hy,hx,aa⟩:=HI.out.next;have ea:(p++u).length+(d - i)=d:=by have:=a1.out;omega
     rw [ea] at hx hy aa;have a4:l.length=N:=by have:=a1.out;omega
     clear a3 ea HI;have H:d<l.length:=by omega
     have J:d+1<l.length:=by omega
     have rx:=hl.at hx;have ry:=hl.at hy;have a0:=ae (fun (W:World) (t:Bl wr W)=>aa _ ((hl.keep t).swap J H x y).1 (Zac (Zaf (row:=some g) t) ((hl.keep t).swap J H x y).2 (fun _ e _=>e)));have am:=ae (fun (W:World) (t:Bl wr W)=>(hl.keep t).there J);have av:=ae (fun (W:World) (t:Bl wr W)=>(hl.keep t).there H);have bl:IntKind.i64.wrap (d:Int)=(d:Int):=by rw [az];omega
     have p0:(0:Int)<=(d:Int)+1:=by omega
     have p1:(d:Int)+1<(N:Int):=by omega
     have p2:(0:Int)<=(d:Int)/\(d:Int)<(N:Int):=by omega
     have p3:(d:Int)<(N:Int):=by omega
     have e0:((d:Int)+1).toNat=d+1:=by omega
     have jz:decide (d+1<N)=true:=decide_eq_true (by omega);have bq:decide (d<N)=true:=decide_eq_true (by omega);clear hl hx hy aa H J a4;go_upto_region 23 with fail;refine wp_region_held_drew (S:=(fun _=>True)) (by kernel_rfl) ?_ (fun f=>?_)
     ·first | done | ((try dsimp only);(try exact True.intro))
     have Qw:=(ap wr.heap.size wr).drew;have E:=ae (a0.out _ Qw);have P:=am.out _ Qw;have L:=av.out _ Qw;have rx:=(gu _ _ _ _).2 rx;have ry:=(gu _ _ _ _).2 ry;clear a0 am av Qw;generalize wr.drew=w2 at *;refine tq 0 113 rfl ?_;refine tq 1 114 rfl ?_;refine tq 2 115 rfl ?_;refine tq 3 116 rfl ?_;refine tq 4 117 rfl ?_;refine tq 5 118 rfl ?_;refine tq 6 119 rfl ?_;refine tq 7 120 rfl ?_;refine tq 8 121 rfl ?_;refine tq 10 123 rfl ?_;refine tq 11 124 rfl ?_;refine tq 12 125 rfl ?_;refine rd2 9 (some 122) 13 (some 126) (by kernel_rfl) rfl rfl (fun K r=>?_) fun K r=>?_
     ·rw [if_pos (by rfl)];refine wp_load_mid 48 _ rfl g (d * 19) rfl y.v.toList _ ry underlying48 rfl (by rw [br,y.hs];kernel_rfl) ?_;rw [bt];refine r.out _ _ trivial (fun f=>?_);clear r K;(try simp only [pS,pB,pZ,pC]);refine rd 13 (some 126) rfl fun K r=>?_;rw [if_pos (by rfl)];refine wp_load_mid 48 _ rfl g ((d+1) * 19) rfl x.v.toList _ rx underlying48 rfl (by rw [br,x.hs];kernel_rfl) ?_;rw [bt];refine r.out _ _ trivial (fun f=>?_);clear r K;(try simp only [pS,pB,pZ,pC]);have af:(w2.setCells g ((d+1) * 19) y.v.toList).there g (d * 19) x.v.size:=by
       rw [x.hs];exact go (w:=w2) (b':=g) (o':=d * 19) (n:=19) L g ((d+1) * 19) y.v.toList
      have T:w2.there g ((d+1) * 19) y.v.size:=by
       rw [y.hs];exact P
      refine tq 14 127 rfl ?_;refine rd 15 none rfl fun K r=>?_;rw [if_pos (by rfl)];refine wp_store_mid 48 _ _ rfl g ((d+1) * 19) y.v rfl rfl T (by rw [y.hs];kernel_rfl) y.h1 ?_;refine r.out _ _ trivial (fun f=>?_);clear r K;dsimp only [Act.put];generalize w2.setCells g ((d+1) * 19) y.v.toList=w3 at *;refine tq 16 128 rfl ?_;refine rd 17 none rfl fun K r=>?_;rw [if_pos (by rfl)];refine wp_store_mid 48 _ _ rfl g (d * 19) x.v rfl rfl af (by rw [x.hs];kernel_rfl) x.h1 ?_;refine r.out _ _ trivial (fun f=>?_);clear r K;dsimp only [Act.put];generalize w3.setCells g (d * 19) x.v.toList=w4 at *;refine dn ?_;go_wp2_with fail;go_roundw
      case rel=>exact ⟨d,by go_num,by omega,by omega,E⟩
      case measure=>simp [intOf]
     ·rw [if_pos (by rfl)];refine wp_load_mid 48 _ rfl g ((d+1) * 19) rfl x.v.toList _ rx underlying48 rfl (by rw [br,x.hs];kernel_rfl) ?_;rw [bt];refine r.out _ _ trivial (fun f=>?_);clear r K;(try simp only [pS,pB,pZ,pC]);refine rd 9 (some 122) rfl fun K r=>?_;rw [if_pos (by rfl)];refine wp_load_mid 48 _ rfl g (d * 19) rfl y.v.toList _ ry underlying48 rfl (by rw [br,y.hs];kernel_rfl) ?_;rw [bt];refine r.out _ _ trivial (fun f=>?_);clear r K;(try simp only [pS,pB,pZ,pC]);have af:(w2.setCells g ((d+1) * 19) y.v.toList).there g (d * 19) x.v.size:=by
       rw [x.hs];exact go (w:=w2) (b':=g) (o':=d * 19) (n:=19) L g ((d+1) * 19) y.v.toList
      have T:w2.there g ((d+1) * 19) y.v.size:=by
       rw [y.hs];exact P
      refine tq 14 127 rfl ?_;refine rd 15 none rfl fun K r=>?_;rw [if_pos (by rfl)];refine wp_store_mid 48 _ _ rfl g ((d+1) * 19) y.v rfl rfl T (by rw [y.hs];kernel_rfl) y.h1 ?_;refine r.out _ _ trivial (fun f=>?_);clear r K;dsimp only [Act.put];generalize w2.setCells g ((d+1) * 19) y.v.toList=w3 at *;refine tq 16 128 rfl ?_;refine rd 17 none rfl fun K r=>?_;rw [if_pos (by rfl)];refine wp_store_mid 48 _ _ rfl g (d * 19) x.v rfl rfl af (by rw [x.hs];kernel_rfl) x.h1 ?_;refine r.out _ _ trivial (fun f=>?_);clear r K;dsimp only [Act.put];generalize w3.setCells g (d * 19) x.v.toList=w4 at *;refine dn ?_;go_wp2_with fail;go_roundw
      case rel=>exact ⟨d,by go_num,by omega,by omega,E⟩
      case measure=>simp [intOf]
    ·have hd:=decide_eq_false Q;obtain rfl:i=k:=by omega
     rw [ic] at HI;go_wp2_with fail;refine bodyPost_ret (results_none rfl _ _ _) rfl ?_;obtain ⟨u1,u2,e,h1,h2,h3⟩:=HI.out;obtain rfl:u1=[]:=bj h1;rw [dm] at e;subst e;refine ⟨rfl,⟨u++x::v,?_,HT.out,by simpa using h2⟩,h3⟩;rw [<- HE.out,ay];exact (List.perm_append_comm (l₁:=[x]) (l₂:=v)).append_left u
end Go.Proofs.YtglkadmfjaecmaaGreatDoor
