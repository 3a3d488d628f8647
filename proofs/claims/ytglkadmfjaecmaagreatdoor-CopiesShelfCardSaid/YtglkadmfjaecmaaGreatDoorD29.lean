import Derived.Test.YtglkadmfjaecmaaGreatDoorD28
set_option maxRecDepth 100000
set_option maxHeartbeats 16000000
namespace Go.Proofs.YtglkadmfjaecmaaGreatDoor
open Go.RowKit Go.Shelf _root_.Go.Proofs.Tryz
open Go.Value renaming slice->I, int->G, agg->R, bool->M, pointer->E
open Go.Ending renaming returned->Z
open Go.IntKind renaming i64->O
open Go.Obj renaming cells->J
attribute [local go_sem] Oper.semAt_some
variable {tv:Int} {w:World}
theorem Znf (day known file office party other number amount sn sd fo fn:Int) (d Ac g f:Option Addr) (nd j m i nl l ne k:Nat) (C:Prop) (w:World)
  (z:Hid (∀ W,Bl w W->Calls prog 127 #[R #[iI 0,iI day,iI known,iI file,iI office,iI party,iI other,iI number,iI amount,iI sn,iI sd,I d nd j,I Ac m i,I g nl l,I f ne k,iI fo,iI fn,nN,nN]] W fun e B=>(∃ b:Bool,e=Z (M b)/\(b=true↔C))/\Bl W B)) :
  Calls prog 86 #[R #[iI 0,iI day,iI known,iI file,iI office,iI party,iI other,iI number,iI amount,iI sn,iI sd,I d nd j,I Ac m i,I g nl l,I f ne k,iI fo,iI fn,nN,nN]] w fun e B=>(∃ b:Bool,e=Z (M b)/\(b=true↔C))/\Bl w B:=by
 have K:=ae (fun W=>Za6 party 1 4095 W);have H:=ae (fun W=>Za6 other 1 4095 W);have A:=ae (fun W=>Za6 number day 131072 W);generalize inR party 1 4095=N at *;generalize inR other 1 4095=L at *;generalize inR number day 131072=P at *;have o:=Blk.new w 48 #[iI 0,iI day,iI known,iI file,iI office,iI party,iI other,iI number,iI amount,iI sn,iI sd,I d nd j,I Ac m i,I g nl l,I f ne k,iI fo,iI fn,nN,nN];have h:=Zab w (J #[iI 0,iI day,iI known,iI file,iI office,iI party,iI other,iI number,iI amount,iI sn,iI sd,I d nd j,I Ac m i,I g nl l,I f ne k,iI fo,iI fn,nN,nN] 48);have q:(w.alloc (J #[iI 0,iI day,iI known,iI file,iI office,iI party,iI other,iI number,iI amount,iI sn,iI sd,I d nd j,I Ac m i,I g nl l,I f ne k,iI fo,iI fn,nN,nN] 48)).cell? ⟨w.heap.size,0,none⟩=some (G O 0):=o.cell 0;have r:(w.alloc (J #[iI 0,iI day,iI known,iI file,iI office,iI party,iI other,iI number,iI amount,iI sn,iI sd,I d nd j,I Ac m i,I g nl l,I f ne k,iI fo,iI fn,nN,nN] 48)).cell? ⟨w.heap.size,1,none⟩=some (G O day):=o.cell 1;have s:(w.alloc (J #[iI 0,iI day,iI known,iI file,iI office,iI party,iI other,iI number,iI amount,iI sn,iI sd,I d nd j,I Ac m i,I g nl l,I f ne k,iI fo,iI fn,nN,nN] 48)).cell? ⟨w.heap.size,5,none⟩=some (G O party):=o.cell 5;have t:(w.alloc (J #[iI 0,iI day,iI known,iI file,iI office,iI party,iI other,iI number,iI amount,iI sn,iI sd,I d nd j,I Ac m i,I g nl l,I f ne k,iI fo,iI fn,nN,nN] 48)).cell? ⟨w.heap.size,6,none⟩=some (G O other):=o.cell 6;have u:(w.alloc (J #[iI 0,iI day,iI known,iI file,iI office,iI party,iI other,iI number,iI amount,iI sn,iI sd,I d nd j,I Ac m i,I g nl l,I f ne k,iI fo,iI fn,nN,nN] 48)).cell? ⟨w.heap.size,7,none⟩=some (G O number):=o.cell 7;go_enter func86,ntmps86;go_upto_region 1 with fail;generalize w.alloc _=w0 at *;go_wp2_with fail;refine (K.out _).mono ?_;rintro e v ⟨rfl,a⟩;have a:=a.symm;subst a;cases N with
 | false =>
  go_wp2_with fail;refine (A.out _).mono ?_;rintro e v ⟨rfl,a⟩;have a:=a.symm;subst a;clear r s t u;go_wp2_with (refine Zad o rfl _ rfl rfl rfl ?_);refine (z.out _ h).mono ?_;rintro e v ⟨⟨b,rfl,p⟩,c⟩;have x:=ae p;have y:=Zaa h c h.size;clear q p;go_wp2_with fail;go_ret;exact ⟨⟨b,rfl,x.out⟩,y⟩
 | true =>
  go_wp2_with fail;refine (H.out _).mono ?_;rintro e v ⟨rfl,a⟩;have a:=a.symm;subst a;cases L with
  | false =>
   go_wp2_with fail;refine (A.out _).mono ?_;rintro e v ⟨rfl,a⟩;have a:=a.symm;subst a;clear r s t u;go_wp2_with (refine Zad o rfl _ rfl rfl rfl ?_);refine (z.out _ h).mono ?_;rintro e v ⟨⟨b,rfl,p⟩,c⟩;have x:=ae p;have y:=Zaa h c h.size;clear q p;go_wp2_with fail;go_ret;exact ⟨⟨b,rfl,x.out⟩,y⟩
  | true =>
   generalize hpo:(party != other)=Q at *;go_wp2_with fail;clear hpo;refine (A.out _).mono ?_;rintro e v ⟨rfl,a⟩;have a:=a.symm;subst a;clear r s t u;go_wp2_with (refine Zad o rfl _ rfl rfl rfl ?_);refine (z.out _ h).mono ?_;rintro e v ⟨⟨b,rfl,p⟩,c⟩;have x:=ae p;have y:=Zaa h c h.size;clear q p;go_wp2_with fail;go_ret;exact ⟨⟨b,rfl,x.out⟩,y⟩
theorem Zhv (kn day known file office party other number amount sn sd fo fn:Int) (l Ac o m:Option Addr) (nd u A t nl x ne v:Nat) (s r:Bool) (X a:Prop) (y:inR kn 0 21=s) (p:Hid (a↔(s=true/\inR day 0 131072=true/\inR known 0 1099511627776=true/\inR file 0 4095=true/\r=true/\X))) (w:World)
  (H:Hid (∀ W,Calls prog 84 #[R #[iI kn,iI day,iI known,iI file,iI office,iI party,iI other,iI number,iI amount,iI sn,iI sd,I l nd u,I Ac A t,I o nl x,I m ne v,iI fo,iI fn,nN,nN]] W fun e B=>(∃ V,e=Z (R V)/\∀ U,Calls prog 83 #[R V] U fun e u'=>e=Z (M r)/\Bl U u')/\Bl W B))
  (HF:Hid (s=true->r=true->∀ W,Bl w W->Calls prog 86 #[R #[iI kn,iI day,iI known,iI file,iI office,iI party,iI other,iI number,iI amount,iI sn,iI sd,I l nd u,I Ac A t,I o nl x,I m ne v,iI fo,iI fn,nN,nN]] W fun e B=>(∃ b:Bool,e=Z (M b)/\(b=true↔X))/\Bl W B)) :
  Calls prog 43 #[R #[iI kn,iI day,iI known,iI file,iI office,iI party,iI other,iI number,iI amount,iI sn,iI sd,I l nd u,I Ac A t,I o nl x,I m ne v,iI fo,iI fn,nN,nN]] w fun e B=>(∃ c:Int,e=Z (G O c)/\((c=0/\a)∨(c=1/\¬ a)))/\Bl w B:=by
 have HK:=ae (fun W=>Za6 kn 0 21 W);have HD:=ae (fun W=>Za6 day 0 131072 W);have HN:=ae (fun W=>Za6 known 0 1099511627776 W);have N:=ae (fun W=>Za6 file 0 4095 W);rw [y] at HK;clear y;generalize inR day 0 131072=b1 at *;generalize inR known 0 1099511627776=b2 at *;generalize inR file 0 4095=b3 at *;have bad:∀ (wx:World),Bl w wx->¬ (s=true/\b1=true/\b2=true/\b3=true/\r=true/\X)->(∃ c:Int,(Ending.returned (G O 1))=Z (G O c)/\((c=0/\a)∨(c=1/\¬ a)))/\Bl w wx:=fun _ P h=>⟨⟨1,rfl,.inr ⟨rfl,fun g=>h (p.out.1 g)⟩⟩,P⟩
 have f:=ae bad;clear bad;have T:=Blk.new w 48 #[iI kn,iI day,iI known,iI file,iI office,iI party,iI other,iI number,iI amount,iI sn,iI sd,I l nd u,I Ac A t,I o nl x,I m ne v,iI fo,iI fn,nN,nN];have Q:=Zab w (J #[iI kn,iI day,iI known,iI file,iI office,iI party,iI other,iI number,iI amount,iI sn,iI sd,I l nd u,I Ac A t,I o nl x,I m ne v,iI fo,iI fn,nN,nN] 48);go_enter func43,ntmps43;go_wp2_with (refine Zad T rfl _ rfl rfl rfl ?_);refine (H.out _).mono ?_;rintro e w1 ⟨⟨V,rfl,z⟩,j⟩;have K:=ae z;have X1:=T.keep j;have S:=Zaa Q j Q.size;clear T Q j z;go_wp2_with fail;refine (K.out _).mono ?_;rintro e w2 ⟨rfl,k⟩;have q:=X1.keep k;have i:=Zaa S k S.size;clear X1 S k;have aa:w2.cell? ⟨w.heap.size,0,none⟩=some (G O kn):=q.cell 0;have ab:w2.cell? ⟨w.heap.size,1,none⟩=some (G O day):=q.cell 1;have ad:w2.cell? ⟨w.heap.size,2,none⟩=some (G O known):=q.cell 2;have af:w2.cell? ⟨w.heap.size,3,none⟩=some (G O file):=q.cell 3;go_wp2_with fail;refine (HK.out _).mono ?_;rintro e C ⟨rfl,d⟩;have d:=d.symm;subst d;cases s with
 | false =>
  go_wp2_with fail;go_ret;exact f.out _ i (fun h=>by cases h.1)
 | true =>
  go_wp2_with fail;refine (HD.out _).mono ?_;rintro e C ⟨rfl,d⟩;have d:=d.symm;subst d;cases b1 with
  | false =>
   go_wp2_with fail;go_ret;exact f.out _ i (fun h=>by cases h.2.1)
  | true =>
   go_wp2_with fail;refine (HN.out _).mono ?_;rintro e C ⟨rfl,d⟩;have d:=d.symm;subst d;cases b2 with
   | false =>
    go_wp2_with fail;go_ret;exact f.out _ i (fun h=>by cases h.2.2.1)
   | true =>
    go_wp2_with fail;refine (N.out _).mono ?_;rintro e C ⟨rfl,d⟩;have d:=d.symm;subst d;cases b3 with
    | false =>
     go_wp2_with fail;go_ret;exact f.out _ i (fun h=>by cases h.2.2.2.1)
    | true =>
     cases r with
     | false =>
      go_wp2_with fail;go_ret;exact f.out _ i (fun h=>by cases h.2.2.2.2.1)
     | true =>
      have L:=ae (HF.out (by trivial) (by trivial));go_wp2_with (refine Zad q rfl _ rfl rfl rfl ?_);refine (L.out _ i).mono ?_;rintro e C ⟨⟨b,rfl,hb⟩,Y⟩;have HB:=ae hb;have P3:=Zaa i Y i.size;clear aa ab ad af hb;cases b with
      | false =>
       go_wp2_with fail;go_ret;exact f.out _ P3 (fun h=>by have:=HB.out.2 h.2.2.2.2.2;first | cases this | exact this)
      | true =>
       go_wp2_with fail;go_ret;exact ⟨⟨0,rfl,.inl ⟨rfl,p.out.2 ⟨by trivial,by trivial,by trivial,by trivial,by trivial,HB.out.1 (by trivial)⟩⟩⟩,P3⟩
theorem Yhx {op:Int} (h:Zet op=true):OkF (Zdr op):=by
 unfold Zet at h;simp only [jh,beq_iff_eq] at h;refine ⟨by simp [Zdr,F.size,Zbr],by simp [Zdr,F.deep,Zdd],fun y hy=>?_⟩;have e:y=Zdr op:=by simpa [Zdr,F.nodes,Zhr] using hy
 subst e;unfold Zeg Zdr F.op F.n F.ins F.kids;dsimp only;rcases h with (((h | h) | h) | h) | h
 ·exact .inl ⟨h,rfl,rfl,rfl⟩
 ·exact .inr (.inl ⟨h,by omega,rfl,rfl⟩)
 ·exact .inr (.inr (.inl ⟨h,by omega,⟨by simp,by simp⟩,rfl⟩))
 ·exact .inr (.inr (.inr (.inr ⟨.inl h,rfl,rfl⟩)))
 ·exact .inr (.inr (.inr (.inr ⟨.inr h,rfl,rfl⟩)))
section
variable (A1 A2:Option Addr) (c1 c2:Nat) (w:World)
theorem Yju:Calls prog 154 #[R #[G O 3,G O 0,I A1 0 c1,I A2 0 c2]] w fun e a=>e=Z (M false)/\Bl w a:=by
 go_enter func154,ntmps154;go_wp2;go_ret;exact ⟨rfl,Zab _ _⟩
theorem Yjv:Calls prog 154 #[R #[G O 6,G O 0,I A1 0 c1,I A2 0 c2]] w fun e a=>e=Z (M false)/\Bl w a:=by
 go_enter func154,ntmps154;go_wp2;go_ret;exact ⟨rfl,Zab _ _⟩
theorem Zyz (op:Int) (a:(op == 0)=false) (b:(op == 1)=false) (c:(op == 2)=false) (d:(op == 3)=false) (f:(op == 4)=false) (g:(op == 5)=false) (h:(op == 6)=false):Calls prog 154 #[R #[G O op,G O 0,I A1 0 c1,I A2 0 c2]] w fun e i=>e=Z (M false)/\Below w.heap.size w i:=by
 have j:(op != 0)=true:=by simpa using a
 have k:(op != 1)=true:=by simpa using b
 have l:(op != 2)=true:=by simpa using c
 have m:(op != 3)=true:=by simpa using d
 have o:(op != 4)=true:=by simpa using f
 have p:(op != 5)=true:=by simpa using g
 have q:(op != 6)=true:=by simpa using h
 go_enter func154,ntmps154;go_wp2;go_ret;exact ⟨rfl,Zab _ _⟩
end
theorem Yfa {op:Int} (h:Zet op=false) (A1 A2:Option Addr) (c1 c2:Nat) (w:World):Calls prog 154 #[R #[G O op,G O 0,I A1 0 c1,I A2 0 c2]] w fun e j=>e=Z (M false)/\Below w.heap.size w j:=by
 unfold Zet at h;simp only [Bool.or_eq_false_iff] at h;obtain ⟨⟨⟨⟨c,d⟩,f⟩,g⟩,i⟩:=h;by_cases a:op=3
 ·subst a;exact Yju A1 A2 c1 c2 w
 ·by_cases b:op=6
  ·subst b;exact Yjv A1 A2 c1 c2 w
  ·exact Zyz A1 A2 c1 c2 w op c d f (by simpa using a) g i (by simpa using b)
theorem Zy0 (w:World) (B:Nat) (f:B<=w.heap.size) (x:Zan w B) (op:Int) (S:x.t=Zdr op) (P:Zet op=false) :
  Calls prog 114 #[R #[x.a,x.b,x.c,x.d]] w fun e w'=>e=Z (G O 1)/\Bl w w':=by
 have af:x.t.size=1:=by rw [S];simp [Zdr,F.size,Zbr]
 have ad:x.t.deep=1:=by rw [S];simp [Zdr,F.deep,Zdd]
 have g:x.t.nodes=[x.t]:=by rw [S];simp [Zdr,F.nodes,Zhr]
 have HO:=ae (show x.t=Zdr op from S);have a1:(x.t.size:Int)<=96:=by omega
 have av:(x.t.deep:Int)<=8:=by omega
 have H:x.t.size<=1000000:=by omega
 have g1:decide ((96:Int)<(x.t.size:Int))=false:=by simp;omega
 have g2:decide ((8:Int)<(x.t.deep:Int))=false:=by simp;omega
 have HN:=ae g;have aa:=ae P;clear af ad g S P;refine (callsIn_wide (n:=5)).1 ?_;refine callsIn_of_wp_marks func114 rfl trivial ?_ rfl;simp only [ntmps114,ef,au,dk,Nat.reduceAdd,Nat.reduceSub,ff,ew,fp,fj,dm,dx];have B0:=(Blk.new w 46 #[x.a,x.b,x.c,x.d]).alloc (J #[G O 0] 53);have R0:=Blk.new (w.alloc (J #[x.a,x.b,x.c,x.d] 46)) 53 #[G O 0];rw [ax] at R0;have j:=(Zab w (J #[x.a,x.b,x.c,x.d] 46)).alloc (by simp) (J #[G O 0] 53);gi_wp2_with fail;generalize (w.alloc (J #[x.a,x.b,x.c,x.d] 46)).alloc (J #[G O 0] 53)=W0 at *;have HK:∀ W,Bl w W->∀ p:Addr,p.block<B->W.cell? p=w.cell? p:=fun W hW p hp=>hW.cell (ah hp f);have N:=ae HK;clear HK;refine ⟨trivial,?_⟩;refine (callsIn_wide.2 (Zzw x W0 (N.out _ j) (aj f j.size) H)).mono ?_;rintro e w1 ⟨rfl,q⟩;have m:=j.trans (q.mono j.size);have B1:=B0.keep q;have R1:=R0.keep q;have c1:=B1.c4;clear B0 R0 j q;gi_wp2_with fail;refine ⟨trivial,?_⟩;refine (callsIn_wide.2 (Zzx x w1 (N.out _ m) (aj f m.size) H)).mono ?_;rintro e w2 ⟨rfl,s⟩;have z:=m.trans (s.mono m.size);have B2:=B1.keep s;have R2:=R1.keep s;have c2:=B2.c4;clear B1 R1 m s c1;gi_wp2_with (refine ⟨trivial,?_⟩;gi_at_call 153;refine (callsIn_wide.2 (Zio _ _ _ _ _)).mono ?_;rintro e w' ⟨rfl,rfl⟩);have R3:=R2.alloc (J #[x.a,x.b,x.c,x.d] 46);have B3:=Blk.new w2 46 #[x.a,x.b,x.c,x.d];have i:=z.alloc z.size (J #[x.a,x.b,x.c,x.d] 46);have hz:=ax w2 (J #[x.a,x.b,x.c,x.d] 46);generalize w2.alloc _=w3 at *;clear R2 B2 c2;have a2:=z.size;generalize w2.heap.size=H2 at *;refine wpIn_rangeFunc_ownH rfl (by omega) (gf:=195) (lb:=#[E (some ⟨H2,0,none⟩)]) rfl trivial (enters_of func195 (by kernel_rfl) rfl)
  (Zf6 (fun t=>t=Zdr op) (fun t ht k hk=>by subst ht;simp [Zdr,F.kids] at hk) (5 - 1) w B f x HO.out H H2 w3 B3 (Za1.below i f)) Za1.trans (Za1.put (aj f i.size)) (ap _ _) (fun _=>rfl)
  (fun v W=>(v=[]/\Blk W (w.heap.size+1) 53 #[G O 0])/\Bl w W)
  (fun c _ W=>(c=.ret/\Blk W (w.heap.size+1) 53 #[G O 1])/\Bl w W)
  (OwnFrom.and (OwnFrom.and (ownFrom_pure _ _) (Own.from (Zd7 _ _ (fun _=>#[G O 0])) _)) (ownFrom_below (ag _) i.size))
  (fun c=>OwnFrom.and (OwnFrom.and (ownFrom_pure _ _) (Own.from (Zd7 _ _ (fun _=>#[G O 1])) _)) (ownFrom_below (ag _) i.size))
  ⟨⟨rfl,R3⟩,i⟩
  (fun y a' W=>∃ L,Blk W L 46 #[y.1.a,y.1.b,y.1.c,y.1.d]/\a'={ tmps:=#[R #[x.a,x.b,x.c,x.d],E (some ⟨w.heap.size,0,none⟩),E (some ⟨w.heap.size+1,0,none⟩),E (some ⟨L,0,none⟩),R #[x.a,x.b,x.c,x.d],G O (x.t.size:Int),M false,M false,R #[x.a,x.b,x.c,x.d],G O (x.t.deep:Int),M false,M false,R #[x.a,x.b,x.c,x.d],.func (.func 195) #[] #[E (some ⟨H2,0,none⟩)],R #[y.1.a,y.1.b,y.1.c,y.1.d],undef,undef,undef],defers:=[] })
  (fun y a' _ X Y row hs hg hr=>by obtain ⟨L,h2,h3⟩:=hs;exact ⟨L,Zd7 L 46 (fun (_:Unit)=>#[y.1.a,y.1.b,y.1.c,y.1.d]) () X Y row h2 hg (fun r e=>(hr r e).2),h3⟩)
  ?assign ?body ?done ?stop
 case assign =>
  rintro l v y W K ⟨⟨hp,u⟩,o⟩ A;obtain ⟨A1,n1,q1,A2,n2,q2,e1,e2,e3,e4⟩:=Zaq y.1.h;gi_wp2_with fail;rw [<- e1,<- e2,<- e3,<- e4];exact A _ _ ((KeepsOthers.alloc _ _).from _) (Za1.alloc W (aj f o.size) _) ⟨⟨hp,u.alloc _⟩,o.alloc o.size _⟩ ⟨W.heap.size,Blk.new W _ _,rfl⟩
 case body =>
  rintro l v y a' W hl ⟨r,hr⟩ ⟨⟨hp,u⟩,o⟩ ⟨L,bX,rfl⟩ a0;have U:y.1.t=Zdr op:=y.2;obtain ⟨V,f2,r3,r4⟩:=y.1.parts;obtain ⟨A1,q1,f3,_,_⟩:=r3.ivs;obtain ⟨A2,q2,f4,_,_⟩:=r4.formulas;rw [U] at V f2 f3 f4;rw [V,f2,f3,f4] at bX;have hc:=bX.c4;have aq:=u.c1;have HF:=ae (Yfa aa.out A1 A2 q1 q2 W);rw [V,f2,f3,f4];clear V f2 f3 f4 r3 r4 U;unfold Zdr F.op F.n F.ins F.kids at *;dsimp only [dk] at *;gi_wp2_with (refine ⟨trivial,?_⟩;gi_at_call 154;refine (CallsIn.inRound l (callsIn_wide.2 HF.out)).mono ?_;rintro e w' ⟨rfl,C⟩;have Q:=u.keep C;have am:=Q.c1);exact ⟨((Za3.others (Za3.below C (ag _) o.size)).trans (KeepsOthers.setCell _ _ _)).from _,⟨rfl,Q.set1 (G O 1)⟩,(o.trans (C.mono o.size)).setCell (p:=⟨w.heap.size+1,0,none⟩) (by simp) (G O 1)⟩
 case done =>
  rintro D ys W hD T ⟨⟨rfl,u⟩,o⟩ A;rw [HN.out] at T;cases T
 case stop =>
  rintro D c v W hD an ⟨⟨rfl,u⟩,o⟩ A;gi_wp2_with fail;have al:=u.grown (grownBy_putObj' _ D (.deferred none)) (fun e=>by
   cases e;unfold Blk at u;rw [u] at A;cases A)
  refine ⟨by simp,.inl ⟨_,_,rfl,run_takeDeferred A,?_⟩⟩;refine ⟨G O 1,?_,rfl,o.trans (belowK_b (w:=w) (ag _) _ D _ _ (aj i.size hD) A rfl rfl)⟩;have ab:=al.c1;simp [results,f114,go_sem,ab.1]
section
variable (A1 A2:Option Addr) (c1 c2:Nat) (w:World)
theorem Yfb:Calls prog 201 #[R #[G O 3,G O 0,I A1 0 c1,I A2 0 c2]] w fun e a=>e=Z (M false)/\Bl w a:=by
 go_enter func201,ntmps201;go_wp2;go_ret;exact ⟨rfl,Zab _ _⟩
theorem Yfc:Calls prog 201 #[R #[G O 6,G O 0,I A1 0 c1,I A2 0 c2]] w fun e a=>e=Z (M false)/\Bl w a:=by
 go_enter func201,ntmps201;go_wp2;go_ret;exact ⟨rfl,Zab _ _⟩
theorem Zp4 (op:Int) (a:(op == 0)=false) (b:(op == 1)=false) (c:(op == 2)=false) (d:(op == 3)=false) (f:(op == 4)=false) (g:(op == 5)=false) (h:(op == 6)=false):Calls prog 201 #[R #[G O op,G O 0,I A1 0 c1,I A2 0 c2]] w fun e i=>e=Z (M false)/\Below w.heap.size w i:=by
 have j:(op != 0)=true:=by simpa using a
 have k:(op != 1)=true:=by simpa using b
 have l:(op != 2)=true:=by simpa using c
 have m:(op != 3)=true:=by simpa using d
 have o:(op != 4)=true:=by simpa using f
 have p:(op != 5)=true:=by simpa using g
 have q:(op != 6)=true:=by simpa using h
 go_enter func201,ntmps201;go_wp2;go_ret;exact ⟨rfl,Zab _ _⟩
end
theorem Zu2 {op:Int} (h:Zet op=false) (A1 A2:Option Addr) (c1 c2:Nat) (w:World):Calls prog 201 #[R #[G O op,G O 0,I A1 0 c1,I A2 0 c2]] w fun e j=>e=Z (M false)/\Below w.heap.size w j:=by
 unfold Zet at h;simp only [Bool.or_eq_false_iff] at h;obtain ⟨⟨⟨⟨c,d⟩,f⟩,g⟩,i⟩:=h;by_cases a:op=3
 ·subst a;exact Yfb A1 A2 c1 c2 w
 ·by_cases b:op=6
  ·subst b;exact Yfc A1 A2 c1 c2 w
  ·exact Zp4 A1 A2 c1 c2 w op c d f (by simpa using a) g i (by simpa using b)
theorem Zy1 {op:Int} (h:Zet op=false) (A1 A2:Option Addr) (c1 c2:Nat) (w:World):Calls prog 173 #[R #[G O op,G O 0,I A1 0 c1,I A2 0 c2]] w fun e f=>e=Z (M false)/\Bl w f:=by
 have c:=ae (fun W=>Zu2 h A1 A2 c1 c2 W);have b:=Zab w (J #[G O op,G O 0,I A1 0 c1,I A2 0 c2] 46);clear h;go_enter func173,ntmps173;go_wp2_with fail;refine (c.out _).mono ?_;rintro e g ⟨rfl,a⟩;have d:=Zaa b a b.size;go_wp2_with fail;go_ret;exact ⟨rfl,d⟩
theorem Zp5 (w:World) (B:Nat) (f:B<=w.heap.size) (x:Zan w B) (op:Int) (v:x.t=Zdr op) (k:Zet op=false) :
  Calls prog 131 #[R #[x.a,x.b,x.c,x.d]] w fun e X=>e=Z (G O 1)/\Bl w X:=by
 have l:x.t.size=1:=by rw [v];simp [Zdr,F.size,Zbr]
 have j:x.t.deep=1:=by rw [v];simp [Zdr,F.deep,Zdd]
 have H:=ae (fun (W:World) (i:Bl w W)=>Zls x.t.size W B (x.up (B':=B) (fun p u=>i.cell (ah u f)) (ag _)) (aj f i.size) (ag _) (by omega));have C:=ae (fun (W:World) (i:Bl w W)=>Zlr x.t.size W B (x.up (B':=B) (fun p u=>i.cell (ah u f)) (ag _)) (aj f i.size) (ag _) (by omega));obtain ⟨L,f2,P,Q⟩:=x.parts;obtain ⟨A1,y,N,_,_⟩:=P.ivs;obtain ⟨A2,z,f4,_,_⟩:=Q.formulas;obtain ⟨xa,xb,xc,xd,xt,Y⟩:=x;dsimp only [Zan.up] at *;subst v;clear P Q Y;have T:=ae (fun (W:World)=>Zy1 k A1 A2 y z W);simp only [Zdr,F.op,F.n,F.ins,F.kids,dk] at L f2 N f4;subst L f2 N f4;rw [l] at H;rw [j] at C;clear k l j;have A:=Blk.new w 46 #[G O op,G O 0,I A1 0 y,I A2 0 z];have m:=Zab w (J #[G O op,G O 0,I A1 0 y,I A2 0 z] 46);go_enter func131,ntmps131;go_wp2_with fail;refine (H.out _ m).mono ?_;rintro e w1 ⟨rfl,g⟩;have q:=A.keep g;have o:=Zaa m g m.size;have s:=q.c4;clear A m g;go_wp2_with fail;refine (C.out _ o).mono ?_;rintro e w2 ⟨rfl,h⟩;have S:=q.keep h;have K:=Zaa o h o.size;have V:=S.c4;clear q o h s;go_wp2_with fail;refine (T.out _).mono ?_;rintro e w3 ⟨rfl,r⟩;have U:=Zaa K r K.size;go_wp2_with fail;go_ret;exact ⟨rfl,U⟩
theorem Zoe {B:Nat} {dv:Value} {op:Int} (hd:Rep w B dv (.s 4 ([Zdr op].flatMap F.cells))):∃ (b o q:Nat) (y:Zan w B),dv=I (some ⟨b,o,none⟩) 1 q/\b<B/\y.t=Zdr op/\w.cell? ⟨b,o,none⟩=some y.a/\w.cell? ⟨b,o+1,none⟩=some y.b/\w.cell? ⟨b,o+2,none⟩=some y.c/\w.cell? ⟨b,o+3,none⟩=some y.d:=by
 obtain ⟨A,q,rfl,_,e⟩:=hd.formulas;obtain ⟨b,o,y,rfl,h,hy,f,c1,c2,g⟩:=e 0 (by simp);simp only [io,Nat.add_zero] at f c1 c2 g;exact ⟨b,o,q,y,rfl,h,hy,f,c1,c2,g⟩
theorem Zng (op:Int) (f:Zet op=false) (dv:Value) (A2:Option Addr) (v x:Nat) (w:World) (B:Nat) (c:B<=w.heap.size) (hd:Rep w B dv (.s 4 ([Zdr op].flatMap F.cells))) :
  Calls prog 192 #[R #[dv,I A2 v x]] w fun e w'=>∃ u,e=Z (.tuple #[u,G O 1])/\Bl w w':=by
 obtain ⟨b,o,q,y,rfl,U,hy,z,c1,c2,A⟩:=Zoe hd;have g:=ae (fun (W:World) (N:Bl w W)=>Zy0 W B (aj c N.size) (y.up (fun p V=>N.cell (ah V c)) (ag _)) op hy f);have a:b<w.heap.size:=ah U c;have d:=Zab w (J #[I (some ⟨b,o,none⟩) 1 q,I A2 v x] 42);have C:=(d.cell (p:=⟨b,o,none⟩) a).trans z;have H:=(d.cell (p:=⟨b,o+1,none⟩) a).trans c1;have K:=(d.cell (p:=⟨b,o+2,none⟩) a).trans c2;have L:=(d.cell (p:=⟨b,o+3,none⟩) a).trans A;obtain ⟨P,X,q3,Q,Y,q4,k,f2,l,f4⟩:=Zaq y.h;dsimp only [Zan.up] at g;rw [k,f2,l,f4] at g;rw [k] at C;rw [f2] at H;rw [l] at K;rw [f4] at L;clear z c1 c2 A k f2 l f4 hy f hd;generalize y.t.op=op at *;generalize y.t.n=nn at *;have T:=Blk.new w 42 #[I (some ⟨b,o,none⟩) 1 q,I A2 v x];have r:=T.c2;go_enter func192,ntmps192;go_wp2_with fail;clear r;generalize w.alloc _=w0 at *;go_loopw [19] (fun i wr=>i=G O 0/\wr=w0) (fun i _=>1 - (intOf i).toNat)
 case atStart=>exact ⟨rfl,rfl⟩
 case round =>
  obtain ⟨rfl,rfl⟩:=hrel;have j:=d.alloc d.size (J #[G O op,G O nn,I P X q3,I Q Y q4] 46);go_wp2_with fail;refine (g.out _ j).mono ?_;rintro e w2 ⟨rfl,m⟩;have S:=Zaa j m j.size;clear C H K L;go_wp2_with fail;exact bodyPost_ret (results_tmp2 rfl _ _ _) rfl ⟨_,rfl,S⟩
theorem Znh (op:Int) (b:Zet op=false) (dv:Value) (A2:Option Addr) (f g:Nat) (w:World) (B:Nat) (a:B<=w.heap.size) (hd:Rep w B dv (.s 4 ([Zdr op].flatMap F.cells))) :
  Calls prog 146 #[R #[dv,I A2 f g]] w fun e l=>e=Z (G O 1)/\Bl w l:=by
 have h:=ae (fun (W:World) (i:Bl w W)=>Zng op b dv A2 f g W B (aj a i.size) (hd.keep (fun p k=>i.cell (ah k a)) (ag _)));obtain ⟨A,q,rfl,_,_⟩:=hd.formulas;simp only [ei] at h ⊢;have c:=Zab w (J #[I A 1 q,I A2 f g] 42);clear hd b;go_enter func146,ntmps146;go_wp2_with fail;refine (h.out _ c).mono ?_;rintro e w2 ⟨u,rfl,d⟩;have j:=Zaa c d c.size;go_wp2_with fail;go_ret;exact ⟨rfl,j⟩
theorem Zj4 (op:Int) (g:Zet op=false) (dv:Value) (A2:Option Addr) (r v:Nat) (w:World) (B:Nat) (d:B<=w.heap.size) (hd:Rep w B dv (.s 4 ([Zdr op].flatMap F.cells))) :
  Calls prog 175 #[R #[dv,I A2 r v]] w fun e T=>∃ u,e=Z (.tuple #[u,G O 1])/\Bl w T:=by
 obtain ⟨b,o,q,y,rfl,Q,hy,z,c1,c2,A⟩:=Zoe hd;have j:=ae (fun (W:World) (N:Bl w W)=>Zp5 W B (aj d N.size) (y.up (fun p S=>N.cell (ah S d)) (ag _)) op hy g);have a:b<w.heap.size:=ah Q d;have c:=Zab w (J #[I (some ⟨b,o,none⟩) 1 q,I A2 r v] 42);have C:=(c.cell (p:=⟨b,o,none⟩) a).trans z;have H:=(c.cell (p:=⟨b,o+1,none⟩) a).trans c1;have K:=(c.cell (p:=⟨b,o+2,none⟩) a).trans c2;have L:=(c.cell (p:=⟨b,o+3,none⟩) a).trans A;obtain ⟨U,X,q3,V,Y,q4,k,f2,l,f4⟩:=Zaq y.h;dsimp only [Zan.up] at j;rw [k,f2,l,f4] at j;rw [k] at C;rw [f2] at H;rw [l] at K;rw [f4] at L;clear z c1 c2 A k f2 l f4 hy g hd;generalize y.t.op=op at *;generalize y.t.n=nn at *;have x:=Blk.new w 42 #[I (some ⟨b,o,none⟩) 1 q,I A2 r v];have f:=x.c2;go_enter func175,ntmps175;go_wp2_with fail;clear f;generalize w.alloc _=w0 at *;go_loopw [4,5] (fun u i wr=>u=I none 0 0/\i=G O 0/\wr=w0) (fun _ i _=>1 - (intOf i).toNat)
 case atStart=>exact ⟨rfl,rfl,rfl⟩
 case round =>
  obtain ⟨rfl,rfl,rfl⟩:=hrel;have f:=x.c2;go_wp2_with fail;refine (j.out _ c).mono ?_;rintro e w2 ⟨rfl,m⟩;have P:=Zaa c m c.size;clear C H K L f;go_wp2_with fail;exact bodyPost_ret (results_tmp2 rfl _ _ _) rfl ⟨_,rfl,P⟩
theorem Zj5 (op:Int) (b:Zet op=false) (dv:Value) (A2:Option Addr) (f g:Nat) (w:World) (B:Nat) (a:B<=w.heap.size) (hd:Rep w B dv (.s 4 ([Zdr op].flatMap F.cells))) :
  Calls prog 136 #[R #[dv,I A2 f g]] w fun e l=>e=Z (G O 1)/\Bl w l:=by
 have h:=ae (fun (W:World) (i:Bl w W)=>Zj4 op b dv A2 f g W B (aj a i.size) (hd.keep (fun p k=>i.cell (ah k a)) (ag _)));obtain ⟨A,q,rfl,_,_⟩:=hd.formulas;simp only [ei] at h ⊢;have c:=Zab w (J #[I A 1 q,I A2 f g] 42);clear hd b;go_enter func136,ntmps136;go_wp2_with fail;refine (h.out _ c).mono ?_;rintro e w2 ⟨u,rfl,d⟩;have j:=Zaa c d c.size;go_wp2_with fail;go_ret;exact ⟨rfl,j⟩
theorem Zu3 (day known file office party other number amount sn sd fo fn:Int) (d Ac l:Option Addr) (nd g k f nl m:Nat) (el:List (Int × Int)) (ev:Value) (h:el.length<=8) (j:-9223372036854775808<=file/\file<=9223372036854775807) (i:∀ p∈el,-9223372036854775808<=p.1/\p.1<=9223372036854775807) (tv:Int) (w:World) (B:Nat) (a:B<=w.heap.size) (y:Rep w B ev (.s 2 (prD el)))
  (u:Hid (∀ W,Bl w W->Calls prog 146 #[R #[I d nd g,I Ac k f]] W fun e t=>e=Z (G O tv)/\Bl W t)) :
  Calls prog 74 #[R (Zzb 0 day known file office party other number amount sn sd (I d nd g) (I Ac k f) (I l nl m) ev fo fn)] w fun e t=>(∃ b:Bool,e=Z (M b)/\(b=true↔Zid file other tv el))/\Bl w t:=by
 have A:=ae (fun (W:World) (o:Bl w W)=>Zu1 0 day known file office party other number amount sn sd fo fn d Ac l nd g k f nl m el ev h j i tv W B (aj a o.size) (y.keep (fun p K=>o.cell (ah K a)) (ag _)) (ae (fun V H=>u.out V (o.trans (H.mono o.size)))));clear y a u h j i;unfold Zzb at *;generalize Zid file other tv el=L at *;have v:=Blk.new w 48 #[iI 0,iI day,iI known,iI file,iI office,iI party,iI other,iI number,iI amount,iI sn,iI sd,I d nd g,I Ac k f,I l nl m,ev,iI fo,iI fn,nN,nN];have q:=Zab w (J #[iI 0,iI day,iI known,iI file,iI office,iI party,iI other,iI number,iI amount,iI sn,iI sd,I d nd g,I Ac k f,I l nl m,ev,iI fo,iI fn,nN,nN] 48);have c:=v.cell 0;go_enter func74,ntmps74;go_wp2_with (refine Zad v rfl _ rfl rfl rfl ?_);refine (A.out _ q).mono ?_;rintro e N ⟨⟨b,rfl,x⟩,r⟩;have C:=Zaa q r q.size;have z:=ae x;clear c x;go_wp2_with fail;go_ret;exact ⟨⟨b,rfl,z.out⟩,C⟩
def Zj6 (day known file office party:Int) (bb:Bool) (fg:Prop):Prop:=inR day 0 131072=true/\inR known 0 1099511627776=true/\bb=true/\inR file 0 4095=true/\inR office 0 11=true/\inR party 1 4095=true/\fg
theorem Zu4 (day known file office party other number amount sn sd fo fn:Int) (dv cv r ev:Value) (bb:Bool) (q:Prop) (w:World) (T:Zkw w)
  (u:Hid (∀ W,Bl w W->Calls prog 72 #[R #[iI 0,iI day,iI known,iI file,iI office,iI party,iI other,iI number,iI amount,iI sn,iI sd,dv,cv,r,ev,iI fo,iI fn,nN,nN]] W fun e s=>e=Z (M bb)/\Bl W s))
  (Y:Hid (∀ W,Bl w W->Calls prog 74 #[R #[iI 0,iI day,iI known,iI file,iI office,iI party,iI other,iI number,iI amount,iI sn,iI sd,dv,cv,r,ev,iI fo,iI fn,nN,nN]] W fun e s=>(∃ b:Bool,e=Z (M b)/\(b=true↔q))/\Bl W s)) :
  Calls prog 38 #[R #[iI 0,iI day,iI known,iI file,iI office,iI party,iI other,iI number,iI amount,iI sn,iI sd,dv,cv,r,ev,iI fo,iI fn,nN,nN]] w fun e s=>(∃ c:Int,e=Z (G O c)/\((c=0/\Zj6 day known file office party bb q)∨(c=1/\¬ Zj6 day known file office party bb q)))/\Bl w s:=by
 obtain ⟨i,f⟩:∃ p:Prop,p=Zj6 day known file office party bb q:=⟨_,rfl⟩;rw [<- f];have j:=ae f;clear f;have hG:=T.zero;have h0:=T.2;have HK:=ae (fun W=>Zbc 0 0 21 (by omega) (by omega) W);have X:=ae (fun W=>Zb5 day 0 131072 W);have HN:=ae (fun W=>Zb5 known 0 1099511627776 W);have v:=ae (fun W=>Zb5 file 0 4095 W);have x:=ae (fun W=>Zb5 office 0 11 W);have y:=ae (fun W=>Zb5 party 1 4095 W);unfold Zj6 at j;generalize inR day 0 131072=K at *;generalize inR known 0 1099511627776=L at *;generalize inR file 0 4095=N at *;generalize inR office 0 11=Q at *;generalize inR party 1 4095=S at *;have t:=Blk.new w 48 #[iI 0,iI day,iI known,iI file,iI office,iI party,iI other,iI number,iI amount,iI sn,iI sd,dv,cv,r,ev,iI fo,iI fn,nN,nN];have o:=Zab w (J #[iI 0,iI day,iI known,iI file,iI office,iI party,iI other,iI number,iI amount,iI sn,iI sd,dv,cv,r,ev,iI fo,iI fn,nN,nN] 48);have d:=t.c19;have bad:∀ (V:World),Bl w V->¬ (K=true/\L=true/\bb=true/\N=true/\Q=true/\S=true/\q)->(∃ c:Int,(Ending.returned (G O 1))=Z (G O c)/\((c=0/\i)∨(c=1/\¬ i)))/\Bl w V:=fun _ P h=>⟨⟨1,rfl,.inr ⟨rfl,by rw [j.out];exact h⟩⟩,P⟩
 have a:=ae bad;clear bad;go_enter func38,ntmps38;go_wp2_with fail;refine (HK.out _).mono ?_;rintro e B ⟨rfl,rfl⟩;go_wp2_with fail;refine (X.out _).mono ?_;rintro e B ⟨rfl,rfl⟩;cases K with
 | false =>
  go_wp2_with fail;go_ret;exact a.out _ o (fun h=>by cases h.1)
 | true =>
  go_wp2_with fail;refine (HN.out _).mono ?_;rintro e w2 ⟨rfl,rfl⟩;cases L with
  | false =>
   go_wp2_with fail;go_ret;exact a.out _ o (fun h=>by cases h.2.1)
  | true =>
   go_wp2_with (refine Zad t rfl _ rfl rfl rfl ?_);refine (u.out _ o).mono ?_;rintro e B ⟨rfl,m⟩;have z:=t.keep m;have g:=Zaa o m o.size;clear d t o m;have d:=z.c19;have l:=ae (fun k (hk:k=1∨k=2∨k=4)=>Yae k hk w.heap.size B (z.cell 0) ((g.cell (p:=⟨0,0,none⟩) h0).trans hG));cases bb with
   | false =>
    go_wp2_with fail;go_ret;exact a.out _ g (fun h=>by cases h.2.2.1)
   | true =>
    go_wp2_with fail;refine (l.out 1 (by omega)).mono ?_;rintro e w2 ⟨rfl,rfl⟩;go_wp2_with fail;refine (v.out _).mono ?_;rintro e w2 ⟨rfl,rfl⟩;cases N with
    | false =>
     go_wp2_with fail;go_ret;exact a.out _ g (fun h=>by cases h.2.2.2.1)
    | true =>
     go_wp2_with fail;refine (l.out 2 (by omega)).mono ?_;rintro e w2 ⟨rfl,rfl⟩;go_wp2_with fail;refine (x.out _).mono ?_;rintro e w2 ⟨rfl,rfl⟩;cases Q with
     | false =>
      go_wp2_with fail;go_ret;exact a.out _ g (fun h=>by cases h.2.2.2.2.1)
     | true =>
      go_wp2_with fail;refine (l.out 4 (by omega)).mono ?_;rintro e w2 ⟨rfl,rfl⟩;go_wp2_with fail;refine (y.out _).mono ?_;rintro e w2 ⟨rfl,rfl⟩;cases S with
      | false =>
       go_wp2_with fail;go_ret;exact a.out _ g (fun h=>by cases h.2.2.2.2.2.1)
      | true =>
       go_wp2_with (refine Zad z rfl _ rfl rfl rfl ?_);refine (Y.out _ g).mono ?_;rintro e w3 ⟨⟨b,rfl,U⟩,A⟩;have C:=ae U;have H:=Zaa g A g.size;clear d U;cases b with
       | false =>
        go_wp2_with fail;go_ret;exact a.out _ H (fun h=>by have:=C.out.2 h.2.2.2.2.2.2;first | cases this | exact this)
       | true =>
        go_wp2_with fail;go_ret;exact ⟨⟨0,rfl,.inl ⟨rfl,by rw [j.out];refine ⟨?_,?_,?_,?_,?_,?_,C.out.1 (by first | rfl | trivial)⟩ <;> first | rfl | trivial⟩⟩,H⟩
theorem Zy2 (kn day known file office party other number amount sn sd fo fn:Int) (d:inR kn 0 21=false) (dv cv b ev:Value) (w:World) :
  Calls prog 38 #[R #[iI kn,iI day,iI known,iI file,iI office,iI party,iI other,iI number,iI amount,iI sn,iI sd,dv,cv,b,ev,iI fo,iI fn,nN,nN]] w fun e h=>e=Z (G O 1)/\Bl w h:=by
 have c:=ae (fun W=>Zb5 kn 0 21 W);rw [d] at c;clear d;have g:=Blk.new w 48 #[iI kn,iI day,iI known,iI file,iI office,iI party,iI other,iI number,iI amount,iI sn,iI sd,dv,cv,b,ev,iI fo,iI fn,nN,nN];have f:=Zab w (J #[iI kn,iI day,iI known,iI file,iI office,iI party,iI other,iI number,iI amount,iI sn,iI sd,dv,cv,b,ev,iI fo,iI fn,nN,nN] 48);have a:=g.c19;go_enter func38,ntmps38;go_wp2_with fail;refine (c.out _).mono ?_;rintro e i ⟨rfl,rfl⟩;go_wp2_with fail;go_ret;exact ⟨rfl,f⟩
theorem Zu5 (kn day known file office party other number amount sn sd fo fn:Int) (k:inR kn 0 21=true) (dv cv c ev:Value) (w:World)
  (d:Hid (∀ W,Bl w W->Calls prog 72 #[R #[iI kn,iI day,iI known,iI file,iI office,iI party,iI other,iI number,iI amount,iI sn,iI sd,dv,cv,c,ev,iI fo,iI fn,nN,nN]] W fun e g=>e=Z (M false)/\Bl W g)) :
  Calls prog 38 #[R #[iI kn,iI day,iI known,iI file,iI office,iI party,iI other,iI number,iI amount,iI sn,iI sd,dv,cv,c,ev,iI fo,iI fn,nN,nN]] w fun e g=>e=Z (G O 1)/\Bl w g:=by
 have i:=ae (fun W=>Zb5 kn 0 21 W);rw [k] at i;clear k;have l:=ae (fun W=>Zb5 day 0 131072 W);have m:=ae (fun W=>Zb5 known 0 1099511627776 W);generalize inR day 0 131072=p at *;generalize inR known 0 1099511627776=q at *;have j:=Blk.new w 48 #[iI kn,iI day,iI known,iI file,iI office,iI party,iI other,iI number,iI amount,iI sn,iI sd,dv,cv,c,ev,iI fo,iI fn,nN,nN];have b:=Zab w (J #[iI kn,iI day,iI known,iI file,iI office,iI party,iI other,iI number,iI amount,iI sn,iI sd,dv,cv,c,ev,iI fo,iI fn,nN,nN] 48);have a:=j.c19;go_enter func38,ntmps38;go_wp2_with fail;refine (i.out _).mono ?_;rintro e h ⟨rfl,rfl⟩;go_wp2_with fail;refine (l.out _).mono ?_;rintro e h ⟨rfl,rfl⟩;cases p with
 | false =>
  go_wp2_with fail;go_ret;exact ⟨rfl,b⟩
 | true =>
  go_wp2_with fail;refine (m.out _).mono ?_;rintro e h ⟨rfl,rfl⟩;cases q with
  | false =>
   go_wp2_with fail;go_ret;exact ⟨rfl,b⟩
  | true =>
   go_wp2_with (refine Zad j rfl _ rfl rfl rfl ?_);refine (d.out _ b).mono ?_;rintro e h ⟨rfl,f⟩;have o:=Zaa b f b.size;clear a;go_wp2_with fail;go_ret;exact ⟨rfl,o⟩
theorem Zp6 {d:List F} {c:List Cl} (h:TxG d c tv) (dv cv:Value) (w:World) (B:Nat) (a:B<=w.heap.size) (hd:Rep w B dv (.s 4 (d.flatMap F.cells))) (hc:Rep w B cv (.s 5 (c.flatMap Cl.cells))) :
  Calls prog 146 #[R #[dv,cv]] w fun e b=>e=Z (G O tv)/\Bl w b:=by
 rcases h with ⟨rfl,h⟩ | ⟨rfl,op,ho,rfl,rfl⟩
 ·exact Zgb d c h dv cv w B a hd hc
 ·obtain ⟨A,q,rfl,_,_⟩:=hc.claims;exact Znh op ho dv A _ q w B a hd
theorem Zkz {d:List F} {c:List Cl} (h:TxG d c tv) (dv cv:Value) (w:World) (B:Nat) (a:B<=w.heap.size) (hd:Rep w B dv (.s 4 (d.flatMap F.cells))) (hc:Rep w B cv (.s 5 (c.flatMap Cl.cells))) :
  Calls prog 136 #[R #[dv,cv]] w fun e b=>e=Z (G O tv)/\Bl w b:=by
 rcases h with ⟨rfl,h⟩ | ⟨rfl,op,ho,rfl,rfl⟩
 ·exact Zep d c h dv cv w B a hd hc
 ·obtain ⟨A,q,rfl,_,_⟩:=hc.claims;exact Zj5 op ho dv A _ q w B a hd
theorem Zfj {x lo hi:Int}:inR x lo hi=true↔lo<=x/\x<=hi:=by
 unfold inR;rw [gv,decide_eq_true_eq,decide_eq_true_eq]
theorem Yhy {file:Int} {e:List (Int × Int)} (h:¬ Zu0 file e):(∀ p∈e,(0<=p.1/\p.1<=4095)/\(0<=p.2/\p.2<=131072)/\p.1≠file)/\(e.map Prod.fst).Nodup:=by
 have f:∀ (k:Nat) (a:k<e.length),Zed (Zcg file e k) e[k].1 e[k].2=false:=fun k a=>by
  cases m:Zed (Zcg file e k) e[k].1 e[k].2 with
  | false=>rfl
  | true=>exact absurd ⟨k,a,m⟩ h
 refine ⟨fun p o=>?_,?_⟩
 ·obtain ⟨k,a,rfl⟩:=List.mem_iff_getElem.1 o;have:=f k a;unfold Zed at this;simp only [Bool.or_eq_false_iff,Bool.not_eq_false',decide_eq_false_iff_not] at this;obtain ⟨⟨h1,g⟩,l⟩:=this;exact ⟨Zfj.1 g,Zfj.1 l,fun b=>h1 ((Zhp (Nat.le_of_lt a)).2 (.inl b))⟩
 ·rw [List.nodup_iff_pairwise_ne,List.pairwise_iff_getElem];intro i j hi d c b;rw [ba] at hi d;rw [ig,ig] at b;have:=f j d;rw [Zmw (Nat.le_of_lt d) c b] at this;cases this
def Ac.Good (x:Ac) (tv:Int):Prop:=x.kn=0/\Zj6 x.day x.known x.file x.office x.party x.bb (Zid x.file x.other tv x.e)
theorem Ac.good_fil {x:Ac} (q:x.Good tv) (a:TxG x.d x.c tv) (p:x.e.length<=8):Zby x.fil:=by
 obtain ⟨_,h1,i,_,j,k,l,b,m,r,o⟩:=q;obtain ⟨f,g⟩:=Yhy o;rcases a with ⟨_,a⟩ | ⟨h,_⟩
 ·exact ⟨Zfj.1 h1,Zfj.1 i,Zfj.1 j,Zfj.1 k,Zfj.1 l,⟨(Zfj.1 b).1,(Zfj.1 b).2,m⟩,a,p,f,g⟩
 ·omega
theorem Ac.good_vals {x:Ac} (k:x.Good tv) {dv cv b ev:Value} (hl:Yfz b x.nl):x.vals dv cv b ev=x.fil.vals dv cv ev:=by
 obtain ⟨j,_,_,a,_⟩:=k;unfold Ac.bb at a;simp only [gv,beq_iff_eq] at a;obtain ⟨⟨⟨⟨c,d⟩,e,f⟩,l⟩,g,i⟩:=a;rcases hl with ⟨rfl,_⟩ | ⟨_,_,_,h⟩
 ·unfold Ac.vals Zzb Fil.vals Ac.fil;rw [j,c,d,e,f,g,i]
 ·omega
theorem Yfd (w:World) (kn:Nat) (F:Int) (b:kn<22) (q:w.cell? ⟨0,kn,none⟩=some (G O F)) (p:0<w.heap.size) (x:Ac) (c:x.kn=(kn:Int)) (g i j h:Option Addr) (nd l a k nl o ne m:Nat) (f:nd<=1000000) (d:a<=1000000) :
  Calls prog 72 #[R (x.vals (I g nd l) (I i a k) (I j nl o) (I h ne m))] w
   fun e r=>e=Z (M (Zsq (x.file != 0) (x.office != 0) (x.party != 0) (x.other != 0) (x.number != 0) (x.amount != 0) (!(x.sn == 0 && x.sd == 0)) (decide (0<nd+a)) (decide (0<nl)) (decide (0<ne)) (x.fo != 0 || x.fn != 0) F))/\Bl w r:=by
 unfold Ac.vals Zzb Zsq;rw [c];exact Yiw w kn F b q p x.day x.known x.file x.office x.party x.other x.number x.amount x.sn x.sd x.fo x.fn g i j h nd l a k nl o ne m f d _ _ _ _ _ _ _ _ _ _ _ rfl rfl rfl rfl rfl rfl rfl rfl rfl rfl rfl
theorem Yhz (x:Ac) (b c d f g a:Bool):Zsq b c d f (x.number != 0) (x.amount != 0) (!(x.sn == 0 && x.sd == 0)) g (decide (0<x.nl)) a (x.fo != 0 || x.fn != 0) 655=x.bb:=by
 rw [Zsr];have e:decide (0<x.nl)=!(x.nl == 0):=by
  rcases Nat.eq_zero_or_pos x.nl with h | h
  ·rw [h];rfl
  ·rw [decide_eq_true h,beq_false_of_ne (by omega)];rfl
 unfold Ac.bb;rw [e];simp only [bne,Bool.not_not,Bool.not_or]
theorem Yiy (x:Ac):(Yix true true true true (x.number == 0) (x.amount == 0) (x.sn == 0) (x.sd == 0) && ((x.fo == 0) && (x.fn == 0)) && true && true && ((x.nl:Int) == 0) && true)=x.bb:=by
 have e:((x.nl:Int) == 0)=(x.nl == 0):=by
  rcases Nat.eq_zero_or_pos x.nl with h | h
  ·rw [h];rfl
  ·rw [beq_false_of_ne (by omega),beq_false_of_ne (by omega)]
 unfold Ac.bb Yix;rw [e];generalize (x.number == 0)=a;generalize (x.amount == 0)=b;generalize (x.sn == 0)=c;generalize (x.sd == 0)=d;generalize (x.fo == 0)=f;generalize (x.fn == 0)=g;generalize (x.nl == 0)=i
 revert a b c d f g i
 decide
theorem Zy3 {x:Ac} (V:¬ x.Good tv) (Y:TxG x.d x.c tv) (b:Ya9 x) (dv cv P ev:Value) (w:World) (t:Zkw w) (B:Nat) (f:B<=w.heap.size) (hd:Rep w B dv (.s 4 (x.d.flatMap F.cells))) (hc:Rep w B cv (.s 5 (x.c.flatMap Cl.cells))) (hl:Yfz P x.nl) (N:Rep w B ev (.s 2 (prD x.e))) :
  Calls prog 38 #[R (x.vals dv cv P ev)] w fun e l=>e=Z (G O 1)/\Bl w l:=by
 obtain ⟨m,r,rfl,_,_⟩:=hd.formulas;obtain ⟨o,q,rfl,_,_⟩:=hc.claims;obtain ⟨v,z,rfl,_,_⟩:=N.pairs;obtain ⟨y,A,rfl⟩:=hl.slice;cases H:inR x.kn 0 21 with
 | false=>exact Zy2 x.kn x.day x.known x.file x.office x.party x.other x.number x.amount x.sn x.sd x.fo x.fn H _ _ _ _ w
 | true =>
  have X:=Zfj.1 H;obtain ⟨k,K⟩:∃ k:Nat,x.kn=(k:Int):=⟨x.kn.toNat,by omega⟩
  have L:∀ W,Bl w W->Calls prog 72 #[R (x.vals (I m x.d.length r) (I o x.c.length q) (I y x.nl A) (I v x.e.length z))] W fun e l=>e=Z (M (Zsq (x.file != 0) (x.office != 0) (x.party != 0) (x.other != 0) (x.number != 0) (x.amount != 0) (!(x.sn == 0 && x.sd == 0)) (decide (0<x.d.length+x.c.length)) (decide (0<x.nl)) (decide (0<x.e.length)) (x.fo != 0 || x.fn != 0) (Zgy.getD k 0)))/\Bl W l:=fun W a =>
   Yfd W k _ (by omega) ((t.keep a t.2).1 k (by omega)) (t.keep a t.2).2 x K m o y v _ r _ q _ A _ z b.dlen b.clen
  by_cases i:x.kn=0
  ·obtain rfl:k=0:=by omega
   have Q:∀ W,Bl w W->Calls prog 146 #[R #[I m x.d.length r,I o x.c.length q]] W fun e l=>e=Z (G O tv)/\Bl W l:=fun W a =>
    Zp6 Y _ _ W B (aj f a.size) (hd.keep (fun p u=>a.cell (ah u f)) (ag _)) (hc.keep (fun p u=>a.cell (ah u f)) (ag _))
   have h:=Zu4 x.day x.known x.file x.office x.party x.other x.number x.amount x.sn x.sd x.fo x.fn (I m x.d.length r) (I o x.c.length q) (I y x.nl A) (I v x.e.length z) x.bb (Zid x.file x.other tv x.e) w t
    (ae fun W a=>by
     have j:=L W a;unfold Ac.vals Zzb at j;rw [i,show Zgy.getD 0 0=(655:Int) from rfl,Yhz] at j;exact j)
    (ae fun W a=>Zu3 x.day x.known x.file x.office x.party x.other x.number x.amount x.sn x.sd x.fo x.fn m o y _ r _ q _ A x.e (I v x.e.length z) b.elen b.file b.earl tv W B (aj f a.size) (N.keep (fun p u=>a.cell (ah u f)) (ag _)) (ae fun U S=>Q U (a.trans (S.mono a.size))))
   unfold Ac.vals Zzb;rw [i];refine h.mono ?_;rintro e l ⟨⟨c,rfl,C⟩,T⟩;rcases C with ⟨_,g⟩ | ⟨rfl,_⟩
   ·exact absurd ⟨i,g⟩ V
   ·exact ⟨rfl,T⟩
  ·refine Zu5 x.kn x.day x.known x.file x.office x.party x.other x.number x.amount x.sn x.sd x.fo x.fn H _ _ _ _ w (ae fun W a=>?_);have j:=L W a;rw [decide_eq_true (show 0<x.d.length+x.c.length by have:=b.some;omega),Zyw _ _ _ _ _ _ _ _ _ _ k (by omega) (by omega)] at j;exact j
theorem Zp7 {x:Ac} (hg:¬ x.Good tv) (ht:TxG x.d x.c tv) (z:Ya9 x) (dv cv lv ev:Value) (w:World) (B:Nat) (a:B<=w.heap.size) (hd:Rep w B dv (.s 4 (x.d.flatMap F.cells))) (hc:Rep w B cv (.s 5 (x.c.flatMap Cl.cells))) (hl:Yfz lv x.nl) (he:Rep w B ev (.s 2 (prD x.e))) :
  Calls prog 43 #[R (x.vals dv cv lv ev)] w fun e i=>e=Z (G O 1)/\Bl w i:=by
 obtain ⟨j,m,rfl,_,_⟩:=hd.formulas;obtain ⟨k,l,rfl,_,_⟩:=hc.claims;obtain ⟨t,u,rfl,_,_⟩:=he.pairs;obtain ⟨o,q,rfl⟩:=hl.slice;have v:∀ {e:Ending} {i:World},(∃ c:Int,e=Z (G O c)/\((c=0/\x.Good tv)∨(c=1/\¬ x.Good tv)))/\Bl w i->e=Z (G O 1)/\Bl w i:=by
  rintro e i ⟨⟨c,rfl,aa⟩,y⟩;rcases aa with ⟨_,r⟩ | ⟨rfl,_⟩
  ·exact absurd r hg
  ·exact ⟨rfl,y⟩
 by_cases g:x.kn=0
 ·have HV:∀ W,Bl w W->Calls prog 136 #[R #[I j x.d.length m,I k x.c.length l]] W fun e i=>e=Z (G O tv)/\Bl W i:=fun W b =>
   Zkz ht _ _ W B (aj a b.size) (hd.keep (fun p A=>b.cell (ah A a)) (ag _)) (hc.keep (fun p A=>b.cell (ah A a)) (ag _))
  have h:=Zhv 0 x.day x.known x.file x.office x.party x.other x.number x.amount x.sn x.sd x.fo x.fn j k o t x.d.length m x.c.length l x.nl q x.e.length u true x.bb (Zyy x.file x.office x.party x.other tv x.e) (x.Good tv) rfl
   (ae (by
    unfold Ac.Good Zj6 Zyy;constructor
    ·rintro ⟨_,h1,f,P,Q,S,T,X⟩;exact ⟨rfl,h1,f,Q,P,S,T,X⟩
    ·rintro ⟨_,h1,f,Q,P,S,T,X⟩;exact ⟨g,h1,f,P,Q,S,T,X⟩)) w
   (ae fun W=>by
    refine (Ych x.day x.known x.file x.office x.party x.other x.number x.amount x.sn x.sd x.fo x.fn j k o t x.d.length m x.c.length l x.nl q x.e.length u W).mono ?_;rintro e i ⟨rfl,y⟩;refine ⟨⟨_,rfl,fun U=>?_⟩,y⟩;have f:=Zkn 0 x.day x.known 0 0 0 0 x.number x.amount x.sn x.sd x.fo x.fn none none o none 0 0 0 0 x.nl q 0 0 true true true true _ _ _ _ _ _ true true _ true rfl rfl rfl rfl rfl rfl rfl rfl rfl rfl rfl rfl rfl rfl U;rw [Yiy] at f;exact f)
   (ae fun _ _ W b=>Znf x.day x.known x.file x.office x.party x.other x.number x.amount x.sn x.sd x.fo x.fn j k o t x.d.length m x.c.length l x.nl q x.e.length u _ W
    (ae fun U C=>Zp3 0 x.day x.known x.file x.office x.party x.other x.number x.amount x.sn x.sd x.fo x.fn j k o x.d.length m x.c.length l x.nl q x.e (I t x.e.length u) z.elen tv U B (aj a (aj b.size C.size)) (he.keep (fun p A=>(b.trans (C.mono b.size)).cell (ah A a)) (ag _)) (ae fun U2 Y=>HV U2 ((b.trans (C.mono b.size)).trans (Y.mono (aj b.size C.size))))))
  unfold Ac.vals Zzb;rw [g];exact h.mono fun _ _ h=>v h
 ·have h:=Zhv x.kn x.day x.known x.file x.office x.party x.other x.number x.amount x.sn x.sd x.fo x.fn j k o t x.d.length m x.c.length l x.nl q x.e.length u _ false True (x.Good tv) rfl
   (ae (iff_of_false (fun h=>g h.1) (fun h=>by cases h.2.2.2.2.1))) w
   (ae fun W=>by
    refine (Zss x.kn x.day x.known x.file x.office x.party x.other x.number x.amount x.sn x.sd x.fo x.fn g j k o t x.d.length m x.c.length l x.nl q x.e.length u W).mono ?_;rintro e i ⟨⟨V,rfl,⟨file,office,party,other,number,amount,sn,sd,fo,fn,K,H,ad,N,ab,L,rfl⟩⟩,y⟩;refine ⟨⟨_,rfl,fun U=>?_⟩,y⟩;have f:=Zkn x.kn x.day x.known file office party other number amount sn sd fo fn j k K H x.d.length m x.c.length l ad N ab L _ _ _ _ _ _ _ _ _ _ false _ _ _ rfl rfl rfl rfl rfl rfl rfl rfl rfl rfl (beq_false_of_ne (by have:=z.some;omega)) rfl rfl rfl U;rw [Bool.and_false,Bool.false_and,Bool.false_and,Bool.false_and] at f;exact f)
   (ae fun _ h=>by cases h)
  exact h.mono fun _ _ h=>v h
theorem Yci {V:Array Value} {x:Ac} (h:Zkw w) (d:Ya9 x) (j:Yf0 w w.heap.size V x):∃ a,Zud w V a:=by
 obtain ⟨dv,cv,i,ev,rfl,hd,hc,hl,f⟩:=j;obtain ⟨tv,g⟩:=d.text;by_cases e:x.Good tv
 ·exact ⟨some x.fil,dv,cv,ev,Ac.good_vals e hl,Ac.good_fil e g d.elen,hd,hc,f⟩
 ·exact ⟨none,rfl,fun W c=>Zy3 e g d dv cv i ev W (h.keep c h.2) w.heap.size c.size (hd.keep (fun p b=>c.cell b) (ag _)) (hc.keep (fun p b=>c.cell b) (ag _)) hl (f.keep (fun p b=>c.cell b) (ag _)),
   fun W c=>Zp7 e g d dv cv i ev W w.heap.size c.size (hd.keep (fun p b=>c.cell b) (ag _)) (hc.keep (fun p b=>c.cell b) (ag _)) hl (f.keep (fun p b=>c.cell b) (ag _))⟩
end Go.Proofs.YtglkadmfjaecmaaGreatDoor
