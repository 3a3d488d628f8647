import Derived.Test.YtglkadmfjaecmaaGreatDoorD24
set_option maxRecDepth 100000
set_option maxHeartbeats 16000000
namespace Go.Proofs.YtglkadmfjaecmaaGreatDoor
open Go.RowKit Go.Shelf _root_.Go.Proofs.Tryz
open Go.Value renaming slice->I
attribute [local go_sem] Oper.semAt_some
variable {A:Option Addr} {B B' i j o:Nat} {W W' w:World} {fl:List Fil} {l:List FV}
def Zja (f:Fil):Fil:={ f with file:=f.file+1,other:=-1,e:=[] }
def Zwv (k:Nat) (fl:List Fil):List Fil:=(fl.take k).map Zja++fl.drop k
theorem Ye7 (fl:List Fil):Zwv fl.length fl=fl.map Zja:=by
 unfold Zwv;rw [df,List.drop_length,bv]
theorem Zeb (l:List Fil):(l.flatMap Fil.cells).length=l.length * 19:=Zai (fun _ _=>rfl)
theorem Yb3 {k:Nat} (a:k<fl.length):∃ p q:List Fil,p.length=k/\Zwv k fl=p++fl[k]::q/\Zwv (k+1) fl=p++Zja fl[k]::q:=by
 refine ⟨(fl.take k).map Zja,fl.drop (k+1),by rw [ba,cw];omega,?_,?_⟩
 ·unfold Zwv;rw [ct a]
 ·unfold Zwv;rw [List.take_succ_eq_append_getElem a,cj,ay];rfl
theorem Zun {α:Type} {a m b:List α} {x:α} (hi:i=a.length+j) (c:j<m.length):(a++(m++b)).set i x=a++(m.set j x++b):=by
 subst hi;rw [ji _ _ (by omega),i8,List.set_append_left _ _ c]
theorem Yhw {k:Nat} (c:k<fl.length):((((Zwv k fl).flatMap Fil.cells).set (k * 19+3) (.v (.int .i64 (fl[k].file+1)))).set (k * 19+6) (.v (.int .i64 (-1)))).set (k * 19+14) (.s 2 (prD []))=(Zwv (k+1) fl).flatMap Fil.cells:=by
 obtain ⟨p,q,b,e,d⟩:=Yb3 c;have a:(p.flatMap Fil.cells).length=k * 19:=by rw [Zeb,b]
 rw [e,d,bm,bm,de,de];rw [Zun (j:=3) (by rw [a]) (by rw [Fil.cells_length];omega),Zun (j:=6) (by rw [a]) (by rw [iw,Fil.cells_length];omega),Zun (j:=14) (by rw [a]) (by rw [iw,iw,Fil.cells_length];omega)];rfl
theorem Zpz {k:Nat} (d:k<fl.length) (e:j<19):((Zwv k fl).flatMap Fil.cells)[k * 19+j]?=fl[k].cells[j]?:=by
 obtain ⟨p,q,b,c,_⟩:=Yb3 d;have a:(p.flatMap Fil.cells).length=k * 19:=by rw [Zeb,b]
 rw [c,bm,de,dg (by omega),a,i8,d9 (by rw [Fil.cells_length];exact e)]
theorem Zbv.cell {ts:List TypeId} {H:List Nat} {base:Nat} {e:TypeId} {size g n c:Nat} {ds:List D} (h:Zbv ts H w base e size (I (some ⟨g,0,none⟩) n c) ds) {d:D} (hd:ds[i]?=some d):∃ u,w.cell? ⟨g,i,none⟩=some u/\(∀ x,d=.v x->u=x)/\w.frozen? ⟨g,i,none⟩=false:=by
 obtain ⟨m,p,h1,k⟩:=h;have f:m=n:=Zsi h1;subst f;have hi:i<p.length:=by rw [k.1];exact Zap hd
 refine ⟨p[i],?_,fun x q=>?_,h1.frozenAt i⟩
 ·have hs:=Zer.of_own h1;rcases hs.2 with ⟨a,_⟩ | ⟨b,o,r,a,_,hc⟩
  ·cases a
  ·injection a with a;injection a with a;injection a with e1 e2;subst e1 e2;have:=hc i _ (ak hi)
   rwa [cz] at this
 ·subst q;exact (k.2 i _ _ (ak hi) hd).plain
theorem Yiv {o:Int} (h:Zkv fl o) (r:∀ i (hi:i<fl.length),fl[i].file=5 * (i:Int)):Zkv (fl.map Zja) o:=by
 have hl:=h.len;have c:∀ f∈fl,0<=f.file/\f.file<=70:=fun f hm=>by
  obtain ⟨i,hi,rfl⟩:=ee hm;have:=r i hi;omega
 refine ⟨by rw [ba];exact hl,fun f hm=>?_,fun f hm=>?_,fun f hm=>?_,fun f hm=>?_,fun f hm=>?_⟩ <;> obtain ⟨b,a,rfl⟩:=List.mem_map.1 hm
 ·obtain ⟨q,e,v,m,g,u,s,t,x,k⟩:=h.ok b a;have:=c b a;exact ⟨q,e,⟨by show 0<=b.file+1;omega,by show b.file+1<=4095;omega⟩,m,g,⟨by show (-1:Int)<=-1;omega,by show (-1:Int)<=4095;omega,by show (-1:Int)≠b.file+1;omega⟩,s,by show 0<=8;omega,(fun p d=>by cases d),List.nodup_nil⟩
 ·exact h.office b a
 ·exact h.day b a
 ·show 0<=2;omega
 ·exact h.some b a
structure LGF (W:World) (B o:Nat) (A:Option Addr) (c:Nat) (l:List FV):Prop where
 cap:l.length<=c
 ok:Zkv (l.map (·.f)) (o:Int)
 row:Zes W B A (l.map (·.f))
 sl:SlF W (I A l.length c) l
 af:Zi1 W l
theorem LGF.keep {c:Nat} (h:LGF W B o A c l) (e:B<=W.heap.size) (a:B<=B') (b:Bl W W'):LGF W' B' o A c l :=
 ⟨h.cap,h.ok,h.row.keep (fun _ d=>b.cell (ah d e)) a,h.sl.keep b,h.af.keep b⟩
def KA (w W:World):Prop:=w.heap.size<=W.heap.size/\∀ p:Addr,p.block<w.heap.size->W.cell? p=w.cell? p
theorem KA.refl (w:World):KA w w:=⟨ag _,fun _ _=>rfl⟩
theorem KA.trans {a b c:World} (h:KA a b) (g:KA b c):KA a c:=⟨aj h.1 g.1,fun p d=>(g.2 p (ah d h.1)).trans (h.2 p d)⟩
theorem KA.of_below (h:Bl w W):KA w W:=⟨h.size,fun _ a=>h.cell a⟩
theorem Rep.all (a:∀ p:Addr,p.block<B->W'.cell? p=W.cell? p) (b:B<=B') {v:Value} {d:D} (h:Rep W B v d):Rep W' B' v d:=Rep.keep a b h
theorem Zer.all {v:Value} {n s:Nat} {cs:List Value} (h:Zer W v n s cs) (d:KA W W'):Zer W' v n s cs:=by
 refine ⟨h.1,?_⟩;rcases h.2 with f | ⟨b,o,c,e,a,hc⟩
 ·exact .inl f
 ·exact .inr ⟨b,o,c,e,ah a d.1,fun j u g=>(d.2 ⟨b,o+j,none⟩ a).trans (hc j u g)⟩
theorem Zi1.all (h:Zi1 W l) (a:KA W W'):Zi1 W' l:=fun x b=>⟨(h x b).1,Zbs.keep (h x b).2 (fun p c=>a.2 p c) a.1⟩
theorem LGF.all {c:Nat} (h:LGF W B o A c l) (d:B<=W.heap.size) (a:KA W W'):LGF W' B o A c l :=
 ⟨h.cap,h.ok,h.row.keep (fun p b=>a.2 p (ah b d)) (ag _),Zer.all h.sl a,h.af.all a⟩
theorem Yf5 {W:World}:∀ (fl:List Fil) (a:List Value),Zax W W.heap.size a (fl.flatMap Fil.cells)->∃ l:List FV,l.map (·.f)=fl/\Zam l=a/\∀ x∈l,x.At W
 | [],a,h=>by
  have e:=h.inv_nil;subst e;exact ⟨[],rfl,rfl,fun _ b=>by cases b⟩
 | f::fl,a,h=>by
  have h:Zax W W.heap.size a (f.cells++fl.flatMap Fil.cells):=h;have h1:=h.take 19;have c:=h.drop 19;rw [List.take_left' (Fil.cells_length f)] at h1;rw [List.drop_left' (Fil.cells_length f)] at c;obtain ⟨l,g,d,p⟩:=Yf5 fl (a.drop 19) c;obtain ⟨dv,cv,ev,k,m,r,q⟩:=Zg3.inv h1;refine ⟨⟨f,dv,cv,ev⟩::l,by rw [du,g],?_,?_⟩
  ·rw [Zcl,d];show (f.vals dv cv ev).toList++a.drop 19=a;rw [<- k,di]
  ·intro x b;rcases List.mem_cons.1 b with rfl | b
   ·exact ⟨m,r,q⟩
   ·exact p x b
theorem Yb4 {base o:Nat} {v:Value} (h:Zbv TA [] w base 48 19 v (fl.flatMap Fil.cells)) (b:Zkv fl (o:Int)):∃ A c l,v=I A l.length c/\l.map (·.f)=fl/\LGF w w.heap.size o A c l:=by
 have hr:=Zdf.out (ts:=[]) (H:=[]) (Zbv.rep h (fun _ h=>by cases h) (by simp) (fun _ h=>by cases h));obtain ⟨A,c,rfl,hc,d⟩:=Rep.filRow hr;obtain ⟨n,q,h1,m⟩:=h;obtain ⟨l,a,p,s⟩:=Yf5 fl q m.out;have hs:=Zer.of_own h1;have hl:fl.length=l.length:=by rw [<- a,ba]
 have hn:n=l.length:=by
  rcases h1.2 with ⟨e,t⟩ | ⟨g,cap,r,e,_⟩
  ·injection e with _ e _;omega
  ·injection e with _ e _;omega
 subst hn;rw [hl] at hs hc ⊢;refine ⟨A,c,l,rfl,a,hc,by rw [a];exact b,by rw [a];exact d,by unfold SlF;rw [p];exact hs,fun x k=>⟨?_,s x k⟩⟩;exact b.ok _ (by rw [<- a];exact List.mem_map.2 ⟨x,k,rfl⟩)
def qOf (x:FV):AQ:=⟨x.vals,0,x.f.file,x.ev,x.f.e⟩
theorem Yjq {v:Value} (hs:SlF W v l) (g:Zi1 W l):SlQ W v (l.map qOf)/\Zn7 W (l.map qOf):=by
 have e:Zkl (l.map qOf)=Zam l:=by unfold Zkl Zam;rw [List.flatMap_map];rfl
 refine ⟨by unfold SlQ;rw [e,ba];exact hs,fun q c=>?_⟩;obtain ⟨x,f,rfl⟩:=List.mem_map.1 c;obtain ⟨a,b⟩:=g x f;exact ⟨FV.size x,Zez (Zbs.one b),rfl,fun _=>rfl,rfl,b.2.2,a.2.2.2.2.2.2.2.1,fun p d=>by have:=(a.2.2.2.2.2.2.2.2.1 p d).1;show -9223372036854775808<=p.1/\p.1<=9223372036854775807;omega⟩
theorem Ye8 (h:Yhq (l.map (·.f))):Zpv (l.map qOf):=fun q b _ p a=>by
 obtain ⟨x,c,rfl⟩:=List.mem_map.1 b;obtain ⟨g,d,e⟩:=h x.f (List.mem_map.2 ⟨x,c,rfl⟩) p a;obtain ⟨y,hy,rfl⟩:=List.mem_map.1 d;exact ⟨qOf y,List.mem_map.2 ⟨y,hy,rfl⟩,rfl,e⟩
theorem Yb5 (A:Option Addr) (n c:Nat) (o:Int) (ho:0<=o/\o<=11) (w:World) (C:Zb9 w A n) (h:∀ a,A=some a->a.block<w.heap.size) :
  Calls prog 5 #[I A n c,.int .i64 o] w fun e t=>(∃ v fl base,e=.returned v/\w.heap.size<=base/\Zbv TA [] t base 48 19 v (fl.flatMap Fil.cells)/\Zkv fl o/\Yhq fl/\∀ i (hi:i<fl.length),fl[i].file=5 * (i:Int))/\Bl w t:=by
 have z:=ae (Zn0 A n c w C h);clear C h;go_enter func5,ntmps5;go_wp2_with fail;refine z.out.mono ?_;rintro e K ⟨u,l,rfl,h1,d,b⟩;have y:=ae (Zmj u l d o K w.heap.size h1);have E:=ae (Zwa d ho);have x:=Zpx d.2.2;have J:=ae (show Yhq ((Zav l).map (Zv9 o))/\∀ i (hi:i<((Zav l).map (Zv9 o)).length),((Zav l).map (Zv9 o))[i].file=5 * (i:Int) from ⟨fun f M p G=>by
  obtain ⟨L,k,rfl⟩:=List.mem_map.1 M;obtain ⟨g,m,q⟩:=x.1 L k p G;exact ⟨Zv9 o g,List.mem_map.2 ⟨g,m,rfl⟩,q⟩,fun i hi=>by
  rw [ba] at hi;rw [ig];exact (d.2.2.2 i hi).1.1⟩)
 clear h1 d z x;go_wp2_with fail;refine y.out.mono ?_;rintro e w2 ⟨v,rfl,s,r⟩;have H:=Zaa b r b.size;have N:=b.size;have O:=ae s;clear y s;generalize (Zav l).map (Zv9 o)=fl at *;go_wp2_with fail;go_ret;exact ⟨⟨v,fl,_,rfl,N,O.out,E.out,J.out⟩,H⟩
theorem Yb6 {c:List Fil} (k:∀ i (hi:i<fl.length),fl[i].file=5 * (i:Int)) (g:∀ i (hi:i<c.length),c[i].file=5 * (i:Int)):((fl++c.map Zja).map (·.file)).Nodup:=by
 have one:∀ (d:Int) (l:List Int),(∀ i (hi:i<l.length),l[i]=5 * (i:Int)+d)->l.Nodup:=fun d l h=>by
  rw [List.nodup_iff_pairwise_ne,List.pairwise_iff_getElem];intro i j hi f m;rw [h i hi,h j f];omega
 rw [cj,List.nodup_append];refine ⟨one 0 _ (fun i hi=>?_),one 1 _ (fun i hi=>?_),fun a p b q e=>?_⟩
 ·rw [ba] at hi;rw [ig,k i hi];omega
 ·rw [ba,ba] at hi;rw [ig,ig];show c[i].file+1=_;rw [g i hi]
 ·obtain ⟨i,hi,rfl⟩:=ee p;obtain ⟨j,f,rfl⟩:=ee q;rw [ba] at hi;rw [ba,ba] at f;rw [ig,ig,ig,k i hi] at e;have e:5 * (i:Int)=c[j].file+1:=e;rw [g j f] at e;omega
theorem Zoa {l:List Fil} (h:(l.map (·.file)).Nodup) {f g:Fil} (b:f∈l) (a:g∈l) (e:f.file=g.file):f=g:=by
 induction l with
 | nil=>cases b
 | cons x l ih =>
  rw [du,List.nodup_cons] at h;obtain ⟨h1,c⟩:=h;have k1:∀ y∈l,y.file≠x.file:=fun y hy e=>h1 (List.mem_map.2 ⟨y,hy,e⟩);rcases List.mem_cons.1 b with rfl | b
  ·rcases List.mem_cons.1 a with rfl | a
   ·rfl
   ·exact absurd e.symm (k1 g (by assumption))
  ·rcases List.mem_cons.1 a with rfl | a
   ·exact absurd e (k1 f (by assumption))
   ·exact ih c b a
theorem Zsj {α:Type}:∀ {l m:List α},l.Nodup->m.Nodup->(∀ x,x∈l↔x∈m)->l.Perm m
 | [],m,_,_,h=>by
  have:m=[]:=List.eq_nil_iff_forall_not_mem.2 (fun x b=>by have:=(h x).2 b;cases this);rw [this]
 | x::l,m,hl,hm,h=>by
  obtain ⟨p,q,rfl⟩:=List.append_of_mem ((h x).1 (da ..));rw [List.nodup_cons] at hl;have a:=List.perm_middle.nodup_iff.1 hm;rw [List.nodup_cons] at a;refine ((Zsj hl.2 a.2 (fun y=>?_)).cons x).trans List.perm_middle.symm;constructor
  ·intro hy;have h1:=List.perm_middle.mem_iff.1 ((h y).1 (dh _ hy));rcases List.mem_cons.1 h1 with rfl | h1
   ·exact absurd hy hl.1
   ·exact h1
  ·intro hy;have h1:=(h y).2 (List.perm_middle.mem_iff.2 (dh _ hy));rcases List.mem_cons.1 h1 with rfl | h1
   ·exact absurd hy a.1
   ·exact h1
theorem Zob (L:List FV) (hn:Zc9 L) (K:L.length<=900) (sp b G:Nat) (A:Option Addr) (n c:Nat) (w:World) (M:Blk w sp 74 #[I A n c,.map (some b)]) (a:w.ownsMap prog 3 Zgr b G (Zdm L)) (y:Zi1 w L) (X:w.cell? ⟨0,0,none⟩=some (.int .i64 655)) (O:0<w.heap.size) :
  Calls prog 16 #[.pointer (some ⟨sp,0,none⟩)] w fun e C=>(∃ u q,e=.returned u/\q.Perm L/\Zb4 q/\SlF C u q)/\Bl w C:=by
 have J:=Zab w (.cells #[.map (some b)] 72);have r:=Blk.new w 72 #[.map (some b)];have H:=ae (Zki L (fun x S=>FV.one (y x S).2) hn (by omega) w.heap.size b G _ r.lt r.c1.1 (a.alloc (.cells #[.map (some b)] 72)));have U:=ae y;have s:=M.c2;have z:=ae (Zn5 b w);clear y a M r;go_enter func16,ntmps16;go_wp2_with fail;refine z.out.mono ?_;rintro e V ⟨rfl,rfl⟩;clear z s;generalize w.alloc _=V at *;go_wp2_with fail;refine H.out.mono ?_;rintro e w2 ⟨⟨u,T,rfl,m,ho⟩,h⟩;have k:=Zaa J h J.size;have v:=m.length_eq;have E:=ae m;have N:=ae (Yb1 T (by omega) u w2 (SlF.of_own ho) ((U.out.keep k).perm m) ((k.cell (p:=⟨0,0,none⟩) O).trans X) (ah O k.size));clear H m ho h v;go_wp2_with fail;refine N.out.mono ?_;rintro e w3 ⟨⟨u2,R,rfl,f,d,g⟩,t⟩;have P:=ae (f.trans E.out);have Q:=ae d;have Y:=ae g;have Z:=Zaa k t k.size;clear N E f d g;go_wp2_with fail;go_ret;exact ⟨⟨_,R,rfl,P.out,Q.out,Y.out⟩,Z⟩
theorem Zww (o:Nat) (ho:o<2) (fl:List Fil) (d:Zkv fl (o:Int)) (A:Option Addr) (c:Nat) (hc:fl.length<=c) (w:World) (B:Nat) (r:B<=w.heap.size) (K:Zes w B A fl) (i:Nat) (hi:i<fl.length) :
  Calls prog 10 #[.int .u64 ((5+o:Nat):Int),I A fl.length c,.int .i64 (i:Int),.int .i64 (fl.length:Int)] w fun e J=>(∃ C V h R s L O ps,e=.returned (.agg C)/\C.all (·.oneCell')=true/\C.size=30/\Zh7 C h R V s (I L ps.length O)/\tkE ks2 h s R ps (some fl[i])=0 /\
   ∀ g W,(B<=g/\g<w.heap.size∨J.heap.size<=g)->J.grownBy W (some g)->CyS W C V h R s L O ps (some fl[i]))/\Bl w J:=by
 have hl:=d.len;have y:fl.take fl.length=fl:=df;have ab:=Zc6 fl;refine (Zv7 (5+o) (by omega) fl (by omega) d.ok A c hc w B r K i fl.length hi (ag _) (Zci 16 (Zd3 fl)) (Zff _ _) (fun W v=>∃ base,w.heap.size<base/\Zi8 W base v (Ybq fl i))
  (fun W v hr=>?_) (fun W v U hr=>?_) (fun W W' v Q hg=>?_)).mono ?_
 ·rw [y] at hr;obtain ⟨A2,c2,rfl,q,a⟩:=Rep.row hr;rw [Zc7] at q ⊢;obtain ⟨b,o,rfl,_,_⟩:=a 0 (.int .u64 ((Zd3 fl)[0]'(by omega):Int)) (by simp [us,show 0<(Zd3 fl).length by omega]);exact Ze7 16 (Zd3 fl) b o c2 W (by omega) (by omega) (by omega) q (Zfs fl) (fun k N=>by
   obtain ⟨b2,o2,e,_,P⟩:=a k (.int .u64 ((Zd3 fl)[k]:Int)) (by simp [us,N]);injection e with e;injection e with e1 e2;subst e1 e2;exact P)
 ·rw [y] at hr;obtain ⟨A2,c2,rfl,q,a⟩:=Rep.row hr;rw [Zc7] at q ⊢;obtain ⟨b,o,rfl,_,_⟩:=a 0 (.int .u64 ((Zd3 fl)[0]'(by omega):Int)) (by simp [us,show 0<(Zd3 fl).length by omega]);refine (Zh6 16 (Zd3 fl) i b o c2 W (by omega) (by omega) (by omega) (by omega) q (Zfs _) (fun k N=>by
   obtain ⟨b2,o2,e,_,P⟩:=a k (.int .u64 ((Zd3 fl)[k]:Int)) (by simp [us,N]);injection e with e;injection e with e1 e2;subst e1 e2;exact P)).mono ?_
  rintro e J ⟨u,rfl,Z,z⟩;obtain ⟨X,nu,Y,rfl,_,_⟩:=Zbv.slice Z;exact ⟨X,nu,Y,rfl,⟨_,U,Z⟩,z⟩
 ·obtain ⟨base,z,ho⟩:=Q;obtain ⟨X,nu,Y,rfl,_,_⟩:=Zbv.slice ho;exact ⟨base,z,ho.far hg z⟩
 ·rintro e J ⟨dv,cv,ev,L,np,O,rfl,T,⟨base,z,G⟩,m⟩;obtain ⟨rfl,x⟩:=G.row;have S:=d.ok _ (aw hi);have M:=d.office _ (aw hi);have E:=Yf2 hi hl;have ad:=Ybr (5+o) (o:=fl[i].office) hl (by omega) d.ok (by rw [M];omega);have aa:=Ybs (5+o) (o:=fl[i].office) hi;have af:(Ybq fl i).length<=16:=Zk8 16 (Zd3 fl) i;have al:=Zhn (Zbo (Zdh fl[i]) (Zfe i)) 16 i fl.length (Ybq fl i) (by omega) (by omega) hi E.2;have f:=(Zkg (hOf (5+o) fl fl[i].office) (i:Int) fl[i] dv cv ev (Zfe i) (I L (Ybq fl i).length O));refine ⟨⟨_,_,_,(i:Int),Zfe i,L,O,Ybq fl i,rfl,?_,f.size,f.copV,Yhv o ho d hi,fun g W hg t=>⟨f.copV,⟨dv,cv,ev,rfl,S,?_⟩,by omega,Zwb x,Zjy _ _ _,Zcn _ _,Zff _ _,by show 5<18446744073709551616;omega,?_,Zez T.one⟩⟩,m⟩
  ·exact (congrArg (fun C:Array Value=>C.all (·.oneCell')=true) f.copV.eq).mpr (Zdn (Zez T.one))
  ·refine T.keep (fun p Q=>?_) (aj (aj r m.size) t.size);have H:=ah Q r;exact (dc (t.block p.block (ah H m.size) (fun e=>by injection e with e;have:=m.size;omega))).trans (m.cell H)
  ·have N:=x.kept t (.inr (fun e=>by have h1:=x.lt _ e;have:=m.size;omega));exact Zmm N
end Go.Proofs.YtglkadmfjaecmaaGreatDoor
