import Derived.Test.YtglkadmfjaecmaaGreatDoorD27
set_option maxRecDepth 100000
set_option maxHeartbeats 16000000
namespace Go.Proofs.YtglkadmfjaecmaaGreatDoor
open Go.RowKit Go.Shelf _root_.Go.Proofs.Tryz
open Go.IntKind renaming i64->I
open Go.Value renaming slice->Z, agg->U
open Go.Ending renaming returned->G
open Go.Obj renaming cells->O
attribute [local go_sem] Oper.semAt_some
variable {l:List Int} {x y:Int}
def inR (x lo hi:Int):Bool:=decide (lo<=x) && decide (x<=hi)
theorem Zb5 (x lo hi:Int) (w:World):Calls prog 71 #[.int I x,.int I lo,.int I hi] w fun e c=>e=G (.bool (inR x lo hi))/\c=w:=by
 unfold inR;by_cases b:lo<=x
 ·by_cases h1:x<=hi
  ·have a:=decide_eq_true b;have d1:=decide_eq_true h1;rw [a,d1];exact Zbc x lo hi b h1 w
  ·have a:=decide_eq_true b;have d1:=decide_eq_false h1;rw [a,d1];go_enter func71,ntmps71;go_wp2_with fail;go_ret;exact ⟨rfl,rfl⟩
 ·have a:=decide_eq_false b;rw [a];go_enter func71,ntmps71;go_wp2_with fail;go_ret;exact ⟨rfl,rfl⟩
theorem Zod (x:Int) (zd:DataW Unit):∀ (l:List Int),x∈l->(Zca (seen l)).atKey (.int I x) zd=.lit (.bool true)
 | y::l,h=>by
  by_cases e:y=x
  ·subst e;exact Maps.atKey_put_same (Zgz _) (by trivial) _ _
  ·show ((Zca (seen l)).put (.int I y) (.lit (.bool true))).atKey (.int I x) zd=_;rw [Maps.atKey_put_other (fun a=>e (by injection a with _ a;exact a.symm))];rcases List.mem_cons.1 h with h | h
   ·exact absurd h.symm e
   ·exact Zod x zd l h
def Zed (l:List Int) (x day:Int):Bool:=decide (x∈l) || !inR x 0 4095 || !inR day 0 131072
theorem Yce (x day:Int) (r:-9223372036854775808<=x/\x<=9223372036854775807) (s c:Nat) (l:List Int) (hl:l.length<=100) (W:World) (o:Blk W s 104 #[.map (some c)]) (hm:Zvx W c l) :
  Calls prog 148 #[U #[.int I x,.int I day],.pointer (some ⟨s,0,none⟩)] W fun e t=>e=G (.bool (Zed l x day))/\Zvx t c (x::l)/\W.grownBy t (some c):=by
 unfold Zed;have u:=ae (fun W=>Zb5 x 0 4095 W);have w:=ae (fun W=>Zb5 day 0 131072 W);have hc:=(o.alloc (O #[.int I x,.int I day] 106)).c1;have j:=Blk.new W 106 #[.int I x,.int I day];have i:Zvx (W.alloc (O #[.int I x,.int I day] 106)) c l:=hm.kept (ao W _ none) (by simp);have hmb:c<W.heap.size:=hm.lt;have d:keyOf prog 3 (.int I x)=some (.int I x):=Maps.keyOf_int_mk underlying3 (WalkArith.wf_i64 r);obtain ⟨v,ps,q,h⟩:=i.lookup (Maps.int_keyed underlying3) underlying104 (Zri _) (zd:=.lit (.bool false)) (zp:=[]) rfl d;obtain rfl:v=.bool (decide (x∈l)):=by
  by_cases g:x∈l
  ·rw [Zod x _ l g] at h;rw [decide_eq_true g];cases v with
   | bool b=>simp [Za5] at h;rw [h.1]
   | _=>simp [Za5] at h
  ·rw [Zjs x _ (seen l) (fun p E=>by
    obtain ⟨y,hy,rfl⟩:=List.mem_map.1 E;exact fun e=>g (e ▸ hy))] at h
   rw [decide_eq_false g];cases v with
   | bool b=>simp [Za5] at h;rw [h.1]
   | _=>simp [Za5] at h
 have m:=ae i;clear h hm i o r;have C:=j.c2;generalize decide (x∈l)=H at *;generalize inR x 0 4095=A at *;generalize inR day 0 131072=B at *;cases H with
 | true =>
  go_enter func148,ntmps148;go_wp2_with (at_mapUpdate;refine wpList_mapUpdate_own _ rfl _ _ _ 104 rfl 3 4 (Maps.int_keyed underlying3) underlying104 Za5 c l.length (Zca (seen l)) rfl m.out (by unfold maxLen;omega) (.int I x) (.bool true) (.int I x) rfl rfl d (.lit (.bool true)) [] rfl ?_;intro J f a;have z:=(j.grown a (fun e=>by injection e with e;omega)).c2);go_ret;exact ⟨rfl,f,Zac (ao W _ (some c)) a (fun k e _=>e)⟩
 | false =>
  go_enter func148,ntmps148;go_wp2_with (at_mapUpdate;refine wpList_mapUpdate_own _ rfl _ _ _ 104 rfl 3 4 (Maps.int_keyed underlying3) underlying104 Za5 c l.length (Zca (seen l)) rfl m.out (by unfold maxLen;omega) (.int I x) (.bool true) (.int I x) rfl rfl d (.lit (.bool true)) [] rfl ?_;intro J f a;have z:=(j.grown a (fun e=>by injection e with e;omega)).c2);refine (u.out _).mono ?_;rintro e K ⟨rfl,rfl⟩;cases A with
  | false =>
   go_wp2_with fail;go_ret;exact ⟨rfl,f,Zac (ao W _ (some c)) a (fun k e _=>e)⟩
  | true =>
   go_wp2_with fail;refine (w.out _).mono ?_;rintro e K ⟨rfl,rfl⟩;cases B with
   | false =>
    go_wp2_with fail;go_ret;exact ⟨rfl,f,Zac (ao W _ (some c)) a (fun k e _=>e)⟩
   | true =>
    go_wp2_with fail;go_ret;exact ⟨rfl,f,Zac (ao W _ (some c)) a (fun k e _=>e)⟩
def Zcg (file:Int) (e:List (Int × Int)) (k:Nat):List Int:=(file::(e.take k).map Prod.fst).reverse
theorem Zuz {file:Int} {e:List (Int × Int)} {k:Nat} (h:k<e.length):e[k].1::Zcg file e k=Zcg file e (k+1):=by
 unfold Zcg;rw [dq,ak h,Option.toList_some,cj,du,fq,<- dx,List.reverse_append];rfl
theorem Zyu (file:Int) (e:List (Int × Int)) (k:Nat):(Zcg file e k).length<=e.length+1:=by
 unfold Zcg;rw [List.length_reverse,au,ba,cw];omega
def Zu0 (file:Int) (e:List (Int × Int)):Prop:=∃ (k:Nat) (h:k<e.length),Zed (Zcg file e k) e[k].1 e[k].2=true
theorem Zyv (w:World) (e:List (Int × Int)) (v:Value) (B:Nat) (hr:Rep w B v (.s 2 (prD e))) (he:e.length<=8) (J:∀ p∈e,-9223372036854775808<=p.1/\p.1<=9223372036854775807) (file:Int)
  (K r:Nat) (E:B<=K) (hmb:B<=r) (X:K≠r) (Q:Blk w K 104 #[.map (some r)]) (hm:Zvx w r [file]) :
  Calls prog 193 #[v,.func (.func 148) #[] #[.pointer (some ⟨K,0,none⟩)]] w fun x Y=>(∃ i:Int,x=G (.int I i)/\((i=-1/\¬ Zu0 file e)∨(0<=i/\Zu0 file e)))/\w.grownBy Y (some r):=by
 obtain ⟨A,c,rfl,hc,f⟩:=hr.pairs;clear hr;have t:=ae f;have P:=ae J;clear f J;go_enter func193,ntmps193;go_wp2;go_loopw [8] (fun i wr=>∃ k:Nat,i=.int I (k:Int)/\k<=e.length/\(∀ (q:Nat) (h:q<e.length),q<k->Zed (Zcg file e q) e[q].1 e[q].2=false)/\Zvx wr r (Zcg file e k)/\w.grownBy wr (some r)) (fun i _=>e.length - (intOf i).toNat)
 case atStart=>exact ⟨0,rfl,bi _,fun _ _ h=>by omega,hm,World.grownBy.refl w _⟩
 case round =>
  obtain ⟨k,rfl,m,g,V,u⟩:=hrel;have z:=ae g;clear g;by_cases d:k<e.length
  ·obtain ⟨b,o,rfl,j,T,c1⟩:=t.out k d;have W:=P.out e[k] (aw d);have d0:=(dc (a:=⟨b,o+k * 2,none⟩) (u.block b (Nat.lt_trans (ah j E) Q.lt) (fun e=>by injection e with e;omega))).trans T;have d1:=(dc (a:=⟨b,o+k * 2+1,none⟩) (u.block b (Nat.lt_trans (ah j E) Q.lt) (fun e=>by injection e with e;omega))).trans c1;have H:=Q.grown u (fun e=>by injection e with e;omega);have S:=Zyu file e k;have M:=ae (Yce e[k].1 e[k].2 W K r _ (by omega) wr H V);rw [Zuz d] at M;have L:=ae (fun (j:Zed (Zcg file e k) e[k].1 e[k].2=true)=>(⟨k,d,j⟩:Zu0 file e));have N:=ae (fun (j:Zed (Zcg file e k) e[k].1 e[k].2=false) (q:Nat) (h:q<e.length) (hq:q<k+1)=>(by
    by_cases R:q=k
    ·subst R;exact j
    ·exact z.out q h (by omega):Zed (Zcg file e q) e[q].1 e[q].2=false))
   clear T c1 H V W S;generalize Zed (Zcg file e k) e[k].1 e[k].2=bb at *;generalize e[k].1=x at *;generalize e[k].2=y at *;cases bb with
   | true =>
    go_wp2_with (refine M.out.mono ?_;rintro x2 w2 ⟨rfl,C,m⟩);go_ret;exact ⟨⟨(k:Int),rfl,.inr ⟨by omega,L.out (by first | rfl | trivial)⟩⟩,Zac u m (fun _ e _=>e)⟩
   | false =>
    go_wp2_with (refine M.out.mono ?_;rintro x2 w2 ⟨rfl,C,m⟩);go_roundw
    case rel=>exact ⟨k+1,by go_num,by omega,N.out (by first | rfl | trivial),C,Zac u m (fun _ e _=>e)⟩
    case measure=>simp [intOf];omega
  ·obtain rfl:k=e.length:=by omega
   go_wp2_with fail;go_ret;exact ⟨⟨-1,rfl,.inl ⟨rfl,fun ⟨q,h,j⟩=>by rw [z.out q h h] at j;cases j⟩⟩,u⟩
theorem Zp2 (w:World) (e:List (Int × Int)) (v:Value) (B:Nat) (hr:Rep w B v (.s 2 (prD e))) (z:e.length<=8) (f:∀ p∈e,-9223372036854775808<=p.1/\p.1<=9223372036854775807) (file:Int)
  (g d:Nat) (k:B<=g) (hmb:B<=d) (m:g≠d) (o:Blk w g 104 #[.map (some d)]) (hm:Zvx w d [file]) :
  Calls prog 147 #[v,.func (.func 148) #[] #[.pointer (some ⟨g,0,none⟩)]] w fun x C=>(∃ b:Bool,x=G (.bool b)/\(b=true↔Zu0 file e))/\w.grownBy C (some d):=by
 have q:=ae (Zyv w e v B hr z f file g d k hmb m o hm);obtain ⟨A,c,rfl,hc,a⟩:=hr.pairs;clear hr a f o hm;go_enter func147,ntmps147;go_wp2_with (go_at_call 193;refine q.out.mono ?_;rintro x w2 ⟨⟨i,rfl,hi⟩,j⟩;have h:=ae hi;clear hi;have u:decide (0<=i)=decide (0<=i):=rfl);go_ret;refine ⟨⟨_,rfl,?_⟩,j⟩;rcases h.out with ⟨rfl,hn⟩ | ⟨r,t⟩
 ·simp [hn]
 ·simp [r,t]
open Go.ChangeShapes Go.WideShapes Go.ChangeAt Go.RowKit Go.Shelf
def Zsq (b1 b2 b3 b4 b5 b6 b7 b8 b9 b10 b11:Bool) (F:Int):Bool:=(Zgl b1 b2 b3 b4 b5 b6 b7 b8 b9 b10 b11).all fun p=>!p.2 || (BitVec.ofInt 64 p.1 &&& ~~~(BitVec.ofInt 64 F) == 0#64)
theorem Zsr (g h i j c d e k f b a:Bool):Zsq g h i j c d e k f b a 655=(!c && !d && !e && !f && !a):=by
 unfold Zsq Zgl;simp only [List.all_cons,List.all_nil,show (BitVec.ofInt 64 1 &&& ~~~(BitVec.ofInt 64 655) == 0#64)=true by decide,show (BitVec.ofInt 64 2 &&& ~~~(BitVec.ofInt 64 655) == 0#64)=true by decide,show (BitVec.ofInt 64 4 &&& ~~~(BitVec.ofInt 64 655) == 0#64)=true by decide,show (BitVec.ofInt 64 8 &&& ~~~(BitVec.ofInt 64 655) == 0#64)=true by decide,show (BitVec.ofInt 64 16 &&& ~~~(BitVec.ofInt 64 655) == 0#64)=false by decide,show (BitVec.ofInt 64 32 &&& ~~~(BitVec.ofInt 64 655) == 0#64)=false by decide,show (BitVec.ofInt 64 64 &&& ~~~(BitVec.ofInt 64 655) == 0#64)=false by decide,show (BitVec.ofInt 64 128 &&& ~~~(BitVec.ofInt 64 655) == 0#64)=true by decide,show (BitVec.ofInt 64 256 &&& ~~~(BitVec.ofInt 64 655) == 0#64)=false by decide,show (BitVec.ofInt 64 512 &&& ~~~(BitVec.ofInt 64 655) == 0#64)=true by decide,show (BitVec.ofInt 64 1024 &&& ~~~(BitVec.ofInt 64 655) == 0#64)=false by decide];cases c <;> cases d <;> cases e <;> cases f <;> cases a <;> simp
theorem Zyw (c d f g h i j m a b:Bool) (k:Nat) (o:k<22) (h1:1<=k):Zsq c d f g h i j true m a b (Zgy.getD k 0)=false:=by
 unfold Zsq;rw [List.all_eq_false];refine ⟨(128,true),by simp [Zgl],?_⟩;have e:k=1∨k=2∨k=3∨k=4∨k=5∨k=6∨k=7∨k=8∨k=9∨k=10∨k=11∨k=12∨k=13∨k=14∨k=15∨k=16∨k=17∨k=18∨k=19∨k=20∨k=21:=by omega
 rcases e with rfl | rfl | rfl | rfl | rfl | rfl | rfl | rfl | rfl | rfl | rfl | rfl | rfl | rfl | rfl | rfl | rfl | rfl | rfl | rfl | rfl <;> (clear o h1;decide)
def Zid (file other tv:Int) (e:List (Int × Int)):Prop:=inR other (-1) 4095=true/\other≠file/\tv=0/\¬ Zu0 file e
theorem Zu1 (kn day known file office party other number amount sn sd fo fn:Int) (N Ac V:Option Addr) (nd S T R nl cl:Nat) (el:List (Int × Int)) (ev:Value) (C:el.length<=8) (ab:-9223372036854775808<=file/\file<=9223372036854775807) (E:∀ p∈el,-9223372036854775808<=p.1/\p.1<=9223372036854775807) (M:Int) (w:World) (B:Nat) (aa:B<=w.heap.size) (he:Rep w B ev (.s 2 (prD el)))
  (HV:Hid (∀ W,Below w.heap.size w W->Calls prog 146 #[U #[Z N nd S,Z Ac T R]] W fun e w'=>e=G (.int I M)/\Below W.heap.size W w')) :
  Calls prog 112 #[U (Zzb kn day known file office party other number amount sn sd (Z N nd S) (Z Ac T R) (Z V nl cl) ev fo fn)] w fun e w'=>(∃ b:Bool,e=G (.bool b)/\(b=true↔Zid file other M el))/\Below w.heap.size w w':=by
 unfold Zzb;obtain ⟨fg,m⟩:∃ p:Prop,p=Zid file other M el:=⟨_,rfl⟩;rw [<- m];have f:=ae m;clear m;have HC:=ae (fun (W:World) (hW:Below w.heap.size w W)=>Zp2 W el ev B (he.keep (fun p hp=>hW.cell (ah hp aa)) (ag _)) C E file);have HO:=ae (fun W=>Zb5 other (-1) 4095 W);obtain ⟨Ae,ce,rfl,x5,x6⟩:=he.pairs;clear he E x5 x6;obtain ⟨ne,r⟩:∃ n,el.length=n:=⟨_,rfl⟩;rw [r] at C HC;rw [r];clear r;have al:decide (8<(ne:Int))=false:=by simp;omega
 have H:keyOf prog 3 (.int I file)=some (.int I file):=Maps.keyOf_int_mk underlying3 (WalkArith.wf_i64 ab);have X0:=Blk.new w 48 #[iI kn,iI day,iI known,iI file,iI office,iI party,iI other,iI number,iI amount,iI sn,iI sd,Z N nd S,Z Ac T R,Z V nl cl,Z Ae ne ce,iI fo,iI fn,nN,nN];have u:=Zab w (O #[iI kn,iI day,iI known,iI file,iI office,iI party,iI other,iI number,iI amount,iI sn,iI sd,Z N nd S,Z Ac T R,Z V nl cl,Z Ae ne ce,iI fo,iI fn,nN,nN] 48);have a:=X0.c19;obtain ⟨bo,k⟩:∃ b,inR other (-1) 4095=b:=⟨_,rfl⟩;rw [k] at HO;have z:=ae k;clear k;go_enter func112,ntmps112;go_wp2_with fail;refine (HO.out _).mono ?_;rintro e c ⟨rfl,rfl⟩;cases bo with
 | false =>
  go_wp2_with fail;go_ret;exact ⟨⟨false,rfl,iff_of_false (by decide) (by rw [f.out];intro h;have:=h.1;rw [z.out] at this;cases this)⟩,u⟩
 | true =>
  by_cases g:other=file
  ·subst g;have K:(other == other)=true:=by simp
   go_wp2_with fail;go_ret;exact ⟨⟨false,rfl,iff_of_false (by decide) (by rw [f.out];intro h;exact h.2.1 rfl)⟩,u⟩
  ·have K:(other == file)=false:=by simpa using g
   go_wp2_with fail;refine (HV.out _ u).mono ?_;rintro e c ⟨rfl,j⟩;have X1:=X0.keep j;have Q:=Zaa u j u.size;clear a X0 u j HV;by_cases ht:M=0
   ·subst ht;have a:=(X1.alloc (.map #[] 0)).c19;have af:=run_makeMap (P:=prog) 104 c;have Y:(c.alloc (.map #[] 0)).ownsMap prog 3 Za5 c.heap.size 0 (Zca []):=iv c prog 3 Za5;obtain ⟨t,L,J,i⟩:=Y.store (Maps.int_keyed underlying3) underlying104 (by unfold maxLen;omega) (key:=.int I file) (val:=.bool true) H (d:=.lit (.bool true)) (ps:=[]) rfl;have o:=i.grown;have am:=X1.lt;have X4:=(X1.alloc (.map #[] 0)).grown o (fun e=>by injection e with e;omega);have P4:=(Q.alloc Q.size (.map #[] 0)).grown o (aj Q.size (by simp)) (fun q e=>by injection e with e;omega);have an:c.heap.size<t.heap.size:=ah (by simp) o.size;have K5:=Blk.new t 104 #[.map (some c.heap.size)];have g5:t.grownBy (t.alloc (O #[.map (some c.heap.size)] 104)) none:=ao t _ none;have X5:=(X4.grown g5 (by simp)).c19;have P5:=P4.grown g5 P4.size (fun _ e=>by cases e);have S5:Zvx (t.alloc (O #[.map (some c.heap.size)] 104)) c.heap.size [file]:=J.kept g5 (by simp);have HM:=ae Y;have HS:=ae S5;clear Y J i S5;go_wp2_with fail;refine (HC.out _ P5 t.heap.size c.heap.size ?_ ?_ ?_ K5 HS.out).mono ?_
    ·omega
    ·omega
    ·omega
    rintro e w6 ⟨⟨bb,rfl,A⟩,ad⟩;have v:=ae A;have P6:=P5.grown ad P5.size (fun q e=>by injection e with e;omega);have X:=ae g;clear L af X5 a A g;go_wp2_with fail;go_ret;refine ⟨⟨!bb,rfl,?_⟩,P6⟩;rw [f.out];cases bb with
    | true=>exact iff_of_false (by decide) (fun h=>h.2.2.2 (v.out.1 rfl))
    | false=>exact iff_of_true (by decide) ⟨z.out,X.out,rfl,fun h=>by have:=v.out.2 h;cases this⟩
   ·have aq:(M != 0)=true:=by simpa using ht
    go_wp2_with fail;go_ret;exact ⟨⟨false,rfl,iff_of_false (by decide) (by rw [f.out];intro h;exact ht h.2.2.1)⟩,Q⟩
theorem Za6 (x lo hi:Int) (w:World) :
  Calls prog 85 #[.int I x,.int I lo,.int I hi] w fun e a=>e=G (.bool (inR x lo hi))/\a=w:=Zjv x lo hi w
theorem Zhp {file:Int} {e:List (Int × Int)} {k:Nat} (c:k<=e.length):x∈Zcg file e k↔x=file∨∃ (j:Nat) (h:j<k),(e[j]'(by omega)).1=x:=by
 unfold Zcg;rw [List.mem_reverse,dt,List.mem_map];constructor
 ·rintro (h | ⟨p,b,rfl⟩)
  ·exact .inl h
  ·obtain ⟨j,a,rfl⟩:=List.mem_iff_getElem.1 b;rw [cw] at a;exact .inr ⟨j,by omega,by rw [i4]⟩
 ·rintro (h | ⟨j,a,rfl⟩)
  ·exact .inl h
  ·refine .inr ⟨e[j]'(by omega),?_,rfl⟩;refine List.mem_iff_getElem.2 ⟨j,by rw [cw];omega,by rw [i4]⟩
theorem Zyx {file:Int} {e:List (Int × Int)} {k:Nat} (a:k<=e.length):Zed (Zcg file e k) file y=true:=by
 unfold Zed;rw [decide_eq_true ((Zhp a).2 (.inl rfl))];rfl
theorem Zmw {file:Int} {e:List (Int × Int)} {k j:Nat} (b:k<=e.length) (a:j<k) (h:(e[j]'(by omega)).1=x):Zed (Zcg file e k) x y=true:=by
 unfold Zed;rw [decide_eq_true ((Zhp b).2 (.inr ⟨j,a,h⟩))];rfl
theorem Ye9 (h:inR x 0 4095=false):Zed l x y=true:=by
 unfold Zed;rw [h];simp
theorem Ycf (h:inR y 0 131072=false):Zed l x y=true:=by
 unfold Zed;rw [h];simp
theorem Ycg {file:Int} {e:List (Int × Int)} {k:Nat} (f:k<=e.length) (b:x≠file) (h1:inR x 0 4095=true) (c:inR y 0 131072=true) (d:∀ (j:Nat) (a:j<k),(e[j]'(by omega)).1≠x):Zed (Zcg file e k) x y=false:=by
 unfold Zed;rw [h1,c,decide_eq_false (fun h=>by
  rcases (Zhp f).1 h with h | ⟨j,a,h⟩
  ·exact b h
  ·exact d j a h)]
 rfl
def Zyy (file office party other tv:Int) (e:List (Int × Int)):Prop:=inR office 0 11=true/\inR party 1 4095=true/\Zid file other tv e
theorem Zp3 (kn day known file office party other number amount sn sd fo fn:Int) (Q Ac Al:Option Addr) (nd cd nc cc nl cl:Nat) (el:List (Int × Int)) (ev:Value) (bl:el.length<=8) (N:Int) (w:World) (B:Nat) (bc:B<=w.heap.size) (he:Rep w B ev (.s 2 (prD el)))
  (HV:Hid (∀ W,Below w.heap.size w W->Calls prog 136 #[U #[Z Q nd cd,Z Ac nc cc]] W fun e w'=>e=G (.int I N)/\Below W.heap.size W w')) :
  Calls prog 127 #[U (Zzb kn day known file office party other number amount sn sd (Z Q nd cd) (Z Ac nc cc) (Z Al nl cl) ev fo fn)] w fun e w'=>(∃ b:Bool,e=G (.bool b)/\(b=true↔Zyy file office party other N el))/\Below w.heap.size w w':=by
 unfold Zzb;obtain ⟨fg,L⟩:∃ p:Prop,p=Zyy file office party other N el:=⟨_,rfl⟩;rw [<- L];have S:=ae L;clear L;have HO:=ae (fun W=>Za6 office 0 11 W);have Y:=ae (fun W=>Za6 party 1 4095 W);have X:=ae (fun W=>Za6 other (-1) 4095 W);obtain ⟨b1,h1⟩:∃ b,inR office 0 11=b:=⟨_,rfl⟩;obtain ⟨b2,m⟩:∃ b,inR party 1 4095=b:=⟨_,rfl⟩;obtain ⟨b3,h3⟩:∃ b,inR other (-1) 4095=b:=⟨_,rfl⟩;rw [h1] at HO;rw [m] at Y;rw [h3] at X;have H1:=ae h1;have H2:=ae m;have H3:=ae h3;clear h1 m h3;obtain ⟨Ae,ce,rfl,x5,af⟩:=he.pairs;have R:=ae af;clear he x5 af;have al:decide (8<(el.length:Int))=false:=by simp;omega
 have E:=Blk.new w 48 #[iI kn,iI day,iI known,iI file,iI office,iI party,iI other,iI number,iI amount,iI sn,iI sd,Z Q nd cd,Z Ac nc cc,Z Al nl cl,Z Ae el.length ce,iI fo,iI fn,nN,nN];have t:=Zab w (O #[iI kn,iI day,iI known,iI file,iI office,iI party,iI other,iI number,iI amount,iI sn,iI sd,Z Q nd cd,Z Ac nc cc,Z Al nl cl,Z Ae el.length ce,iI fo,iI fn,nN,nN] 48);have K:=E.c19;have bad:∀ (wx:World),Below w.heap.size w wx->¬ Zyy file office party other N el->(∃ b:Bool,(Ending.returned (.bool false))=G (.bool b)/\(b=true↔fg))/\Below w.heap.size w wx:=fun _ P h=>⟨⟨false,rfl,iff_of_false (by decide) (by rw [S.out];exact h)⟩,P⟩
 have a:=ae bad;clear bad;go_enter func127,ntmps127;go_wp2_with fail;refine (HO.out _).mono ?_;rintro e w1 ⟨rfl,rfl⟩;cases b1 with
 | false =>
  go_wp2_with fail;go_ret;exact a.out _ t (fun h=>by have:=h.1;rw [H1.out] at this;cases this)
 | true =>
  go_wp2_with fail;refine (Y.out _).mono ?_;rintro e w1 ⟨rfl,rfl⟩;cases b2 with
  | false =>
   go_wp2_with fail;go_ret;exact a.out _ t (fun h=>by have:=h.2.1;rw [H2.out] at this;cases this)
  | true =>
   go_wp2_with fail;refine (X.out _).mono ?_;rintro e w1 ⟨rfl,rfl⟩;cases b3 with
   | false =>
    go_wp2_with fail;go_ret;exact a.out _ t (fun h=>by have:=h.2.2.1;rw [H3.out] at this;cases this)
   | true =>
    by_cases r:other=file
    ·subst r;have z:(other == other)=true:=by simp
     go_wp2_with fail;go_ret;exact a.out _ t (fun h=>h.2.2.2.1 rfl)
    ·have z:(other == file)=false:=by simpa using r
     have a6:=ae r;clear r;go_wp2_with fail;refine (HV.out _ t).mono ?_;rintro e w1 ⟨rfl,J⟩;have X1:=E.keep J;have P1:=Zaa t J t.size;clear K E t J HV;by_cases ht:N=0
     ·subst ht;go_wp2_with fail;clear al z;go_loopw [3] (fun j wr=>∃ k:Nat,j=.int I (k:Int)/\k<=el.length/\(∀ (q:Nat) (h:q<el.length),q<k->Zed (Zcg file el q) el[q].1 el[q].2=false)/\Below w.heap.size w wr/\Blk wr w.heap.size 48 #[iI kn,iI day,iI known,iI file,iI office,iI party,iI other,iI number,iI amount,iI sn,iI sd,Z Q nd cd,Z Ac nc cc,Z Al nl cl,Z Ae el.length ce,iI fo,iI fn,nN,nN]) (fun j _=>el.length - (intOf j).toNat)
      case atStart=>exact ⟨0,rfl,bi _,fun _ _ h=>by omega,P1,X1⟩
      case round =>
       obtain ⟨k,rfl,hk,f,hB,hX⟩:=hrel;have T:=ae f;clear f;have v:wr.cell? ⟨w.heap.size,14,none⟩=some (Z Ae el.length ce):=hX.cell 14;have be:wr.cell? ⟨w.heap.size,3,none⟩=some (.int I file):=hX.cell 3;by_cases am:k<el.length
       ·obtain ⟨b,o,rfl,u,c0,c1⟩:=R.out k am;have H:b<w.heap.size:=ah u bc;have e0:=(hB.cell (p:=⟨b,o+k * 2,none⟩) H).trans c0;have e1:=(hB.cell (p:=⟨b,o+k * 2+1,none⟩) H).trans c1;have g:=ae (fun (u:Zed (Zcg file el k) el[k].1 el[k].2=true) (h:Zyy file office party other 0 el)=>h.2.2.2.2.2 (⟨k,am,u⟩:Zu0 file el));have a1:=ae (fun (h:el[k].1=file)=>(by rw [h];exact Zyx hk:Zed (Zcg file el k) el[k].1 el[k].2=true));have a2:=ae (fun (hi:inR el[k].1 0 4095=false)=>Ye9 (l:=Zcg file el k) (x:=el[k].1) (y:=el[k].2) hi);have a0:=ae (fun (hi:inR el[k].2 0 131072=false)=>Ycf (l:=Zcg file el k) (x:=el[k].1) (y:=el[k].2) hi);have a4:=ae (fun (j:Nat) (hj:j<k) (h:(el[j]'(by omega)).1=el[k].1)=>Zmw (file:=file) (y:=el[k].2) hk hj h);have a3:=ae (fun (h0:el[k].1≠file) (h1:inR el[k].1 0 4095=true) (m:inR el[k].2 0 131072=true) (h3:∀ (j:Nat) (hj:j<k),(el[j]'(by omega)).1≠el[k].1)=>Ycg (file:=file) (x:=el[k].1) (y:=el[k].2) hk h0 h1 m h3);have a5:=ae (fun (u:Zed (Zcg file el k) el[k].1 el[k].2=false) (q:Nat) (h:q<el.length) (hq:q<k+1)=>(by
         by_cases bh:q=k
         ·subst bh;exact u
         ·exact T.out q h (by omega):Zed (Zcg file el q) el[q].1 el[q].2=false))
        have aa:=ae (fun W=>Za6 el[k].1 0 4095 W);have ab:=ae (fun W=>Za6 el[k].2 0 131072 W);clear c0 c1;generalize Zed (Zcg file el k) el[k].1 el[k].2=bq at *;generalize el[k].1=x at *;generalize el[k].2=y at *;obtain ⟨d1,h1⟩:∃ b,inR x 0 4095=b:=⟨_,rfl⟩;obtain ⟨d2,m⟩:∃ b,inR y 0 131072=b:=⟨_,rfl⟩;rw [h1] at aa;rw [m] at ab;have D1:=ae h1;have D2:=ae m;clear h1 m;have M:=hB.alloc hB.size (O #[.int I x,.int I y] 106);have E:=hX.alloc (O #[.int I x,.int I y] 106);have Y0:=Blk.new wr 106 #[.int I x,.int I y];have bk:=Y0.c2;have ad:(wr.alloc (O #[.int I x,.int I y] 106)).cell? ⟨w.heap.size,3,none⟩=some (.int I file):=E.cell 3;clear X1 P1;go_wp2_with fail;refine (aa.out _).mono ?_;rintro e w2 ⟨rfl,rfl⟩;cases d1 with
        | false =>
         go_wp2_with fail;go_ret;exact a.out _ M (g.out (a2.out D1.out))
        | true =>
         by_cases c:x=file
         ·have C:=ae c;have h5:(x == file)=true:=by simp [c]
          clear c;go_wp2_with fail;go_ret;exact a.out _ M (g.out (a1.out C.out))
         ·have C:=ae c;have h5:(x == file)=false:=by simpa using c
          clear c;go_wp2_with fail;refine (ab.out _).mono ?_;rintro e w2 ⟨rfl,rfl⟩;cases d2 with
          | false =>
           go_wp2_with fail;go_ret;exact a.out _ M (g.out (a0.out D2.out))
          | true =>
           clear v be;go_wp2_with fail;clear h5 e0 e1 ad;generalize hwy:wr.alloc (O #[.int I x,.int I y] 106)=wy at *;generalize hyb:wr.heap.size=yb at *;go_loopw [5] (fun j wq=>∃ i:Nat,j=.int I (i:Int)/\i<=k/\(∀ (q:Nat) (hq:q<i) (av:q<el.length),(el[q]'av).1≠x)/\∃ n,wq=wy.drewN n) (fun j _=>k - (intOf j).toNat)
           case atStart=>exact ⟨0,rfl,bi _,fun _ h=>by omega,0,rfl⟩
           case round =>
            obtain ⟨i,rfl,hi,aq,n,rfl⟩:=hrel;have V:=ae aq;clear aq;by_cases bf:i<k
            ·obtain ⟨b2,o2,a9,_,d0,_⟩:=R.out i (by omega);cases a9;have f0:wy.cell? ⟨b,o+i * 2,none⟩=some (.int I (el[i]'(by omega)).1):=(M.cell (p:=⟨b,o+i * 2,none⟩) H).trans d0;have v:wy.cell? ⟨w.heap.size,14,none⟩=some (Z (some ⟨b,o,none⟩) el.length ce):=E.cell 14;have a7:=ae (fun (h:(el[i]'(by omega)).1=x)=>g.out (a4.out i bf h));have a8:=ae (fun (h:(el[i]'(by omega)).1≠x) (q:Nat) (hq:q<i+1) (av:q<el.length)=>(by
              by_cases bg:q=i
              ·subst bg;exact h
              ·exact V.out q (by omega) av:(el[q]'av).1≠x))
             clear d0;generalize (el[i]'(by omega)).1=xi at *;by_cases d:xi=x
             ·have A:=ae d;have an:(xi == x)=true:=by simp [d]
              clear d;go_wp2_with fail;go_quiet (fail);go_wp2;go_ret;exact a.out _ (Zag (Zag M _) _) (a7.out A.out)
             ·have A:=ae d;have an:(xi == x)=false:=by simpa using d
              clear d;go_wp2_with fail;go_quiet (fail);go_wp2;go_roundw
              case rel=>exact ⟨i+1,by go_num,by omega,a8.out A.out,_,rfl⟩
              case measure=>simp [intOf];omega
            ·obtain rfl:i=k:=by omega
             go_wp2_with fail;go_roundw
             case rel=>exact ⟨i+1,by go_num,by omega,a5.out (a3.out C.out D1.out D2.out (fun j hj=>V.out j hj (by omega))),Zag M n,E.drewN n⟩
             case measure=>simp [intOf];omega
       ·obtain rfl:k=el.length:=by omega
        go_wp2_with fail;go_ret;exact ⟨⟨true,rfl,iff_of_true rfl (by rw [S.out];exact ⟨H1.out,H2.out,H3.out,a6.out,rfl,fun ⟨q,h,u⟩=>by rw [T.out q h h] at u;cases u⟩)⟩,hB⟩
     ·have bn:(N != 0)=true:=by simpa using ht
      have HT:=ae ht;clear ht;go_wp2_with fail;go_ret;exact a.out _ P1 (fun h=>HT.out h.2.2.2.2.1)
def Yix (b_file b_office b_party b_other b_number b_amount b_sn b_sd:Bool):Bool:=(b_file && b_office && b_party && b_other && b_number && b_amount && (b_sn && b_sd))
theorem Zkn (kn day known file office party other number amount sn sd fo fn:Int) (W Ac Y X:Option Addr) (nd cd V cc nl cl ne ce:Nat) (i c f d b a q p o m z u B A:Bool) (J:(file == 0)=i) (t:(office == 0)=c) (E:(party == 0)=f) (C:(other == 0)=d) (s:(number == 0)=b) (r:(amount == 0)=a) (T:(sn == 0)=q) (S:(sd == 0)=p) (L:(fo == 0)=o) (K:(fn == 0)=m) (N:((nd:Int) == 0)=z) (M:((V:Int) == 0)=u) (Q:((nl:Int) == 0)=B) (P:((ne:Int) == 0)=A) (w:World) :
  Calls prog 83 #[U #[iI kn,iI day,iI known,iI file,iI office,iI party,iI other,iI number,iI amount,iI sn,iI sd,Z W nd cd,Z Ac V cc,Z Y nl cl,Z X ne ce,iI fo,iI fn,nN,nN]] w
   fun e w'=>e=G (.bool (Yix i c f d b a q p && (o && m) && z && u && B && A))/\Bl w w':=by
 have j:=Blk.new w 48 #[iI kn,iI day,iI known,iI file,iI office,iI party,iI other,iI number,iI amount,iI sn,iI sd,Z W nd cd,Z Ac V cc,Z Y nl cl,Z X ne ce,iI fo,iI fn,nN,nN];have H:=Zab w (O #[iI kn,iI day,iI known,iI file,iI office,iI party,iI other,iI number,iI amount,iI sn,iI sd,Z W nd cd,Z Ac V cc,Z Y nl cl,Z X ne ce,iI fo,iI fn,nN,nN] 48);go_enter func83,ntmps83;go_upto_region 1 with fail;generalize w.alloc _=k at *;have c3:k.cell? ⟨w.heap.size,3,none⟩=some (.int I file):=j.cell 3;have c4:k.cell? ⟨w.heap.size,4,none⟩=some (.int I office):=j.cell 4;have c5:k.cell? ⟨w.heap.size,5,none⟩=some (.int I party):=j.cell 5;have c6:k.cell? ⟨w.heap.size,6,none⟩=some (.int I other):=j.cell 6;have c7:k.cell? ⟨w.heap.size,7,none⟩=some (.int I number):=j.cell 7;have c8:k.cell? ⟨w.heap.size,8,none⟩=some (.int I amount):=j.cell 8;have c9:k.cell? ⟨w.heap.size,9,none⟩=some (.int I sn):=j.cell 9;have aa:k.cell? ⟨w.heap.size,10,none⟩=some (.int I sd):=j.cell 10;go_cut [3] (fun v wx=>v=.bool (Yix i c f d b a q p)/\wx=k)
 case first=>as_aux_lemma =>
  clear j H L K N M Q P;cases i with
  | false =>
   go_wp2_with fail;go_meet;exact ⟨rfl,rfl⟩
  | true =>
   cases c with
   | false =>
    go_wp2_with fail;go_meet;exact ⟨rfl,rfl⟩
   | true =>
    cases f with
    | false =>
     go_wp2_with fail;go_meet;exact ⟨rfl,rfl⟩
    | true =>
     cases d with
     | false =>
      go_wp2_with fail;go_meet;exact ⟨rfl,rfl⟩
     | true =>
      cases b with
      | false =>
       go_wp2_with fail;go_meet;exact ⟨rfl,rfl⟩
      | true =>
       cases a with
       | false =>
        go_wp2_with fail;go_meet;exact ⟨rfl,rfl⟩
       | true =>
        cases q with
        | false =>
         go_wp2_with fail;go_meet;exact ⟨rfl,rfl⟩
        | true =>
         cases p with
         | false =>
          go_wp2_with fail;go_meet;exact ⟨rfl,rfl⟩
         | true =>
          go_wp2_with fail;go_meet;exact ⟨rfl,rfl⟩
 case rest=>as_aux_lemma =>
  obtain ⟨rfl,R⟩:=hcut;have R:=R.symm;subst R;clear c3 c4 c5 c6 c7 c8 c9 aa J t E C s r T S;generalize hbn:Yix i c f d b a q p=bn at *;have h:=ae hbn;clear hbn;have ab:k.cell? ⟨w.heap.size,15,none⟩=some (.int I fo):=j.cell 15;have ad:k.cell? ⟨w.heap.size,16,none⟩=some (.int I fn):=j.cell 16;have af:k.cell? ⟨w.heap.size,17,none⟩=some (Z none 0 0):=j.cell 17;have al:k.cell? ⟨w.heap.size,18,none⟩=some (Z none 0 0):=j.cell 18;go_upto_region 2 with fail;go_cut [4] (fun v wx=>v=.bool (o && m)/\wx=k)
  case first=>as_aux_lemma =>
   clear j H N M Q P;cases o with
   | false =>
    go_wp2_with fail;go_meet;exact ⟨rfl,rfl⟩
   | true =>
    cases m with
    | false =>
     go_wp2_with fail;go_meet;exact ⟨rfl,rfl⟩
    | true =>
     go_wp2_with fail;go_meet;exact ⟨rfl,rfl⟩
  case rest=>as_aux_lemma =>
   obtain ⟨rfl,R⟩:=hcut;have R:=R.symm;subst R;clear ab ad af al L K;generalize hbf:(o && m)=bf at *;have g:=ae hbf;clear hbf;have am:k.cell? ⟨w.heap.size,11,none⟩=some (Z W nd cd):=j.cell 11;have an:k.cell? ⟨w.heap.size,12,none⟩=some (Z Ac V cc):=j.cell 12;have aq:k.cell? ⟨w.heap.size,13,none⟩=some (Z Y nl cl):=j.cell 13;have av:k.cell? ⟨w.heap.size,14,none⟩=some (Z X ne ce):=j.cell 14;clear j;cases bn with
   | false =>
    go_wp2_with fail;go_ret;exact ⟨by first | rfl | (rw [h.out,g.out];rfl) | (rw [h.out];rfl) | (rw [g.out];rfl),H⟩
   | true =>
    cases bf with
    | false =>
     go_wp2_with fail;go_ret;exact ⟨by first | rfl | (rw [h.out,g.out];rfl) | (rw [h.out];rfl) | (rw [g.out];rfl),H⟩
    | true =>
     cases z with
     | false =>
      go_wp2_with fail;go_ret;exact ⟨by first | rfl | (rw [h.out,g.out];rfl) | (rw [h.out];rfl) | (rw [g.out];rfl),H⟩
     | true =>
      cases u with
      | false =>
       go_wp2_with fail;go_ret;exact ⟨by first | rfl | (rw [h.out,g.out];rfl) | (rw [h.out];rfl) | (rw [g.out];rfl),H⟩
      | true =>
       cases B with
       | false =>
        go_wp2_with fail;go_ret;exact ⟨by first | rfl | (rw [h.out,g.out];rfl) | (rw [h.out];rfl) | (rw [g.out];rfl),H⟩
       | true =>
        cases A with
        | false =>
         go_wp2_with fail;go_ret;exact ⟨by first | rfl | (rw [h.out,g.out];rfl) | (rw [h.out];rfl) | (rw [g.out];rfl),H⟩
        | true =>
         go_wp2_with fail;go_ret;exact ⟨by first | rfl | (rw [h.out,g.out];rfl) | (rw [h.out];rfl) | (rw [g.out];rfl),H⟩
def Yjs (kn day known:Int) (dv cv:Value) (V:Array Value):Prop:=∃ (file office party other number amount sn sd fo fn:Int) (Al Ae:Option Addr) (nl cl ne ce:Nat),V=#[iI kn,iI day,iI known,iI file,iI office,iI party,iI other,iI number,iI amount,iI sn,iI sd,dv,cv,Z Al nl cl,Z Ae ne ce,iI fo,iI fn,nN,nN]
def Yjt (kn day known:Int) (dv cv:Value) (e:Ending):Prop:=∃ V,e=G (U V)/\Yjs kn day known dv cv V
theorem Zcb (kn:Int) (f:(kn != 5)=true) (a:(kn != 19)=true) (b:(kn != 20)=true) (c:(kn != 21)=true) (w:World):Calls prog 63 #[.int I kn] w fun e d=>e=G (.bool true)/\w=d:=by
 go_enter func63,ntmps63;go_wp2_with fail;go_ret;exact ⟨rfl,rfl⟩
theorem Zlb (kn:Int) (h:kn=5∨kn=19∨kn=20∨kn=21) (w:World):Calls prog 63 #[.int I kn] w fun e a=>e=G (.bool false)/\w=a:=by
 rcases h with rfl | rfl | rfl | rfl;all_goals
  go_enter func63,ntmps63;go_wp2_with fail;go_ret;exact ⟨rfl,rfl⟩
theorem Ych (day known file office party other number amount sn sd fo fn:Int) (f Ac b g:Option Addr) (nd i m h nl c ne j:Nat) (w:World) :
  Calls prog 84 #[U #[iI 0,iI day,iI known,iI file,iI office,iI party,iI other,iI number,iI amount,iI sn,iI sd,Z f nd i,Z Ac m h,Z b nl c,Z g ne j,iI fo,iI fn,nN,nN]] w
   fun e J=>e=G (U #[iI 0,iI day,iI known,iI 0,iI 0,iI 0,iI 0,iI number,iI amount,iI sn,iI sd,nN,nN,Z b nl c,nN,iI fo,iI fn,nN,nN])/\Bl w J:=by
 have E:=Blk.new w 48 #[iI 0,iI day,iI known,iI file,iI office,iI party,iI other,iI number,iI amount,iI sn,iI sd,Z f nd i,Z Ac m h,Z b nl c,Z g ne j,iI fo,iI fn,nN,nN];have o:=Zab w (O #[iI 0,iI day,iI known,iI file,iI office,iI party,iI other,iI number,iI amount,iI sn,iI sd,Z f nd i,Z Ac m h,Z b nl c,Z g ne j,iI fo,iI fn,nN,nN] 48);generalize hw1:w.alloc (O #[iI 0,iI day,iI known,iI file,iI office,iI party,iI other,iI number,iI amount,iI sn,iI sd,Z f nd i,Z Ac m h,Z b nl c,Z g ne j,iI fo,iI fn,nN,nN] 48)=A at *;have d:A.heap.size=w.heap.size+1:=by rw [<- hw1,ax]
 go_enter func84,ntmps84;go_upto_region 1 with fail;have a:=E.alloc (O #[iI 0,iI 0,iI 0,iI 0,iI 0,iI 0,iI 0,iI 0,iI 0,iI 0,iI 0,nN,nN,nN,nN,iI 0,iI 0,nN,nN] 48);have q:=Blk.new A 48 #[iI 0,iI 0,iI 0,iI 0,iI 0,iI 0,iI 0,iI 0,iI 0,iI 0,iI 0,nN,nN,nN,nN,iI 0,iI 0,nN,nN];have B:=o.alloc o.size (O #[iI 0,iI 0,iI 0,iI 0,iI 0,iI 0,iI 0,iI 0,iI 0,iI 0,iI 0,nN,nN,nN,nN,iI 0,iI 0,nN,nN] 48);rw [d] at q;clear E o hw1 d;generalize A.alloc _=w2 at *;have T:=a.cell 0;have M:=a.cell 3;have P:=a.frozen 3;have c4:=a.cell 4;have f4:=a.frozen 4;have c5:=a.cell 5;have Q:=a.frozen 5;have N:=a.cell 6;have R:=a.frozen 6;have r:=a.cell 11;have u:=a.frozen 11;have s:=a.cell 12;have v:=a.frozen 12;have t:=a.cell 14;have z:=a.frozen 14;go_upto_region 54 with (go_at_call 63;refine (Zcb 0 rfl rfl rfl rfl _).mono ?_;rintro e J ⟨rfl,rfl⟩)
 have H:=(((((((a.set 3 (.int I 0)).set 4 (.int I 0)).set 5 (.int I 0)).set 6 (.int I 0)).set 11 (Z none 0 0)).set 12 (Z none 0 0)).set 14 (Z none 0 0));have K:=(((((((q.far (p:=⟨w.heap.size,3,none⟩) (ar _) (.int I 0)).far (p:=⟨w.heap.size,4,none⟩) (ar _) (.int I 0)).far (p:=⟨w.heap.size,5,none⟩) (ar _) (.int I 0)).far (p:=⟨w.heap.size,6,none⟩) (ar _) (.int I 0)).far (p:=⟨w.heap.size,11,none⟩) (ar _) (Z none 0 0)).far (p:=⟨w.heap.size,12,none⟩) (ar _) (Z none 0 0)).far (p:=⟨w.heap.size,14,none⟩) (ar _) (Z none 0 0));have C:=(((((((B.setCell (p:=⟨w.heap.size,3,none⟩) (ag _) (.int I 0)).setCell (p:=⟨w.heap.size,4,none⟩) (ag _) (.int I 0)).setCell (p:=⟨w.heap.size,5,none⟩) (ag _) (.int I 0)).setCell (p:=⟨w.heap.size,6,none⟩) (ag _) (.int I 0)).setCell (p:=⟨w.heap.size,11,none⟩) (ag _) (Z none 0 0)).setCell (p:=⟨w.heap.size,12,none⟩) (ag _) (Z none 0 0)).setCell (p:=⟨w.heap.size,14,none⟩) (ag _) (Z none 0 0));simp only [pB,pZ,pC] at H;clear a q B T M P c4 f4 c5 Q N R r u s v t z;generalize (((((((w2.setCell ⟨w.heap.size,3,none⟩ (.int I 0)).setCell ⟨w.heap.size,4,none⟩ (.int I 0)).setCell ⟨w.heap.size,5,none⟩ (.int I 0)).setCell ⟨w.heap.size,6,none⟩ (.int I 0)).setCell ⟨w.heap.size,11,none⟩ (Z none 0 0)).setCell ⟨w.heap.size,12,none⟩ (Z none 0 0)).setCell ⟨w.heap.size,14,none⟩ (Z none 0 0))=V at *;go_wp2_with (first | (refine Zad H rfl _ rfl rfl rfl ?_) | (refine Zae K rfl _ _ rfl rfl rfl _ rfl rfl (by kernel_rfl) ?_;intro W L S));exact bodyPost_ret (Zah rfl _ rfl L rfl) rfl ⟨rfl,C.grown S C.size (fun k e=>by injection e with e;omega)⟩
theorem Zss (kn day known file office party other number amount sn sd fo fn:Int) (B:kn≠0) (Ad Ac Al Ae:Option Addr) (nd cd nc cc nl cl ne ce:Nat) (w:World) :
  Calls prog 84 #[U #[iI kn,iI day,iI known,iI file,iI office,iI party,iI other,iI number,iI amount,iI sn,iI sd,Z Ad nd cd,Z Ac nc cc,Z Al nl cl,Z Ae ne ce,iI fo,iI fn,nN,nN]] w
   fun e u=>Yjt kn day known (Z Ad nd cd) (Z Ac nc cc) e/\Below w.heap.size w u:=by
 have X0:=Blk.new w 48 #[iI kn,iI day,iI known,iI file,iI office,iI party,iI other,iI number,iI amount,iI sn,iI sd,Z Ad nd cd,Z Ac nc cc,Z Al nl cl,Z Ae ne ce,iI fo,iI fn,nN,nN];have P0:=Zab w (O #[iI kn,iI day,iI known,iI file,iI office,iI party,iI other,iI number,iI amount,iI sn,iI sd,Z Ad nd cd,Z Ac nc cc,Z Al nl cl,Z Ae ne ce,iI fo,iI fn,nN,nN] 48);generalize hw1:w.alloc (O #[iI kn,iI day,iI known,iI file,iI office,iI party,iI other,iI number,iI amount,iI sn,iI sd,Z Ad nd cd,Z Ac nc cc,Z Al nl cl,Z Ae ne ce,iI fo,iI fn,nN,nN] 48)=w1 at *;have ad:w1.heap.size=w.heap.size+1:=by rw [<- hw1,ax]
 go_enter func84,ntmps84;go_upto_region 1 with fail;have a:=X0.alloc (O #[iI 0,iI 0,iI 0,iI 0,iI 0,iI 0,iI 0,iI 0,iI 0,iI 0,iI 0,nN,nN,nN,nN,iI 0,iI 0,nN,nN] 48);have d:=Blk.new w1 48 #[iI 0,iI 0,iI 0,iI 0,iI 0,iI 0,iI 0,iI 0,iI 0,iI 0,iI 0,nN,nN,nN,nN,iI 0,iI 0,nN,nN];have f:=P0.alloc P0.size (O #[iI 0,iI 0,iI 0,iI 0,iI 0,iI 0,iI 0,iI 0,iI 0,iI 0,iI 0,nN,nN,nN,nN,iI 0,iI 0,nN,nN] 48);rw [ad] at d;clear X0 P0 hw1 ad;generalize w1.alloc _=w2 at *;by_cases A:kn=3
 ·subst A;clear B;have j:=a.cell 0;have m:=a.cell 3;have o:=a.frozen 3;have T:=a.cell 13;have V:=a.frozen 13;go_upto_region 54 with (go_at_call 63;refine (Zcb 3 rfl rfl rfl rfl _).mono ?_;rintro e u ⟨rfl,rfl⟩)
  have c:=((a.set 3 (.int I 0)).set 13 (Z none 0 0));have g:=((d.far (p:=⟨w.heap.size,3,none⟩) (ar _) (.int I 0)).far (p:=⟨w.heap.size,13,none⟩) (ar _) (Z none 0 0));have b:=((f.setCell (p:=⟨w.heap.size,3,none⟩) (ag _) (.int I 0)).setCell (p:=⟨w.heap.size,13,none⟩) (ag _) (Z none 0 0));simp only [pB,pZ,pC] at c;clear a d f j m o T V;generalize ((w2.setCell ⟨w.heap.size,3,none⟩ (.int I 0)).setCell ⟨w.heap.size,13,none⟩ (Z none 0 0))=H at *;go_wp2_with (first | (refine Zad c rfl _ rfl rfl rfl ?_) | (refine Zae g rfl _ _ rfl rfl rfl _ rfl rfl (by kernel_rfl) ?_;intro J h i));exact bodyPost_ret (Zah rfl _ rfl h rfl) rfl ⟨⟨_,rfl,_,_,_,_,_,_,_,_,_,_,_,_,_,_,_,_,rfl⟩,b.grown i b.size (fun k e=>by injection e with e;omega)⟩
 by_cases C:kn=4
 ·subst C;clear B A;have j:=a.cell 0;have m:=a.cell 3;have o:=a.frozen 3;have c5:=a.cell 5;have X:=a.frozen 5;have c6:=a.cell 6;have f6:=a.frozen 6;have v:=a.cell 7;have r:=a.frozen 7;have c8:=a.cell 8;have f8:=a.frozen 8;go_upto_region 54 with (go_at_call 63;refine (Zcb 4 rfl rfl rfl rfl _).mono ?_;rintro e u ⟨rfl,rfl⟩)
  have c:=(((((a.set 3 (.int I 0)).set 5 (.int I 0)).set 6 (.int I 0)).set 7 (.int I 0)).set 8 (.int I 0));have g:=(((((d.far (p:=⟨w.heap.size,3,none⟩) (ar _) (.int I 0)).far (p:=⟨w.heap.size,5,none⟩) (ar _) (.int I 0)).far (p:=⟨w.heap.size,6,none⟩) (ar _) (.int I 0)).far (p:=⟨w.heap.size,7,none⟩) (ar _) (.int I 0)).far (p:=⟨w.heap.size,8,none⟩) (ar _) (.int I 0));have b:=(((((f.setCell (p:=⟨w.heap.size,3,none⟩) (ag _) (.int I 0)).setCell (p:=⟨w.heap.size,5,none⟩) (ag _) (.int I 0)).setCell (p:=⟨w.heap.size,6,none⟩) (ag _) (.int I 0)).setCell (p:=⟨w.heap.size,7,none⟩) (ag _) (.int I 0)).setCell (p:=⟨w.heap.size,8,none⟩) (ag _) (.int I 0));simp only [pB,pZ,pC] at c;clear a d f j m o c5 X c6 f6 v r c8 f8;generalize (((((w2.setCell ⟨w.heap.size,3,none⟩ (.int I 0)).setCell ⟨w.heap.size,5,none⟩ (.int I 0)).setCell ⟨w.heap.size,6,none⟩ (.int I 0)).setCell ⟨w.heap.size,7,none⟩ (.int I 0)).setCell ⟨w.heap.size,8,none⟩ (.int I 0))=H at *;go_wp2_with (first | (refine Zad c rfl _ rfl rfl rfl ?_) | (refine Zae g rfl _ _ rfl rfl rfl _ rfl rfl (by kernel_rfl) ?_;intro J h i));exact bodyPost_ret (Zah rfl _ rfl h rfl) rfl ⟨⟨_,rfl,_,_,_,_,_,_,_,_,_,_,_,_,_,_,_,_,rfl⟩,b.grown i b.size (fun k e=>by injection e with e;omega)⟩
 by_cases E:kn=5
 ·subst E;clear B A C;have j:=a.cell 0;have c5:=a.cell 5;have X:=a.frozen 5;have v:=a.cell 7;have r:=a.frozen 7;go_upto_region 54 with (go_at_call 63;refine (Zlb 5 (by decide) _).mono ?_;rintro e u ⟨rfl,rfl⟩)
  have c:=((a.set 5 (.int I 0)).set 7 (.int I 0));have g:=((d.far (p:=⟨w.heap.size,5,none⟩) (ar _) (.int I 0)).far (p:=⟨w.heap.size,7,none⟩) (ar _) (.int I 0));have b:=((f.setCell (p:=⟨w.heap.size,5,none⟩) (ag _) (.int I 0)).setCell (p:=⟨w.heap.size,7,none⟩) (ag _) (.int I 0));simp only [pB,pZ,pC] at c;clear a d f j c5 X v r;generalize ((w2.setCell ⟨w.heap.size,5,none⟩ (.int I 0)).setCell ⟨w.heap.size,7,none⟩ (.int I 0))=H at *;go_wp2_with (first | (refine Zad c rfl _ rfl rfl rfl ?_) | (refine Zae g rfl _ _ rfl rfl rfl _ rfl rfl (by kernel_rfl) ?_;intro J h i));exact bodyPost_ret (Zah rfl _ rfl h rfl) rfl ⟨⟨_,rfl,_,_,_,_,_,_,_,_,_,_,_,_,_,_,_,_,rfl⟩,b.grown i b.size (fun k e=>by injection e with e;omega)⟩
 by_cases L:kn=6
 ·subst L;clear B A C E;have j:=a.cell 0;have m:=a.cell 3;have o:=a.frozen 3;have v:=a.cell 7;have r:=a.frozen 7;go_upto_region 54 with (go_at_call 63;refine (Zcb 6 rfl rfl rfl rfl _).mono ?_;rintro e u ⟨rfl,rfl⟩)
  have c:=((a.set 3 (.int I 0)).set 7 (.int I 0));have g:=((d.far (p:=⟨w.heap.size,3,none⟩) (ar _) (.int I 0)).far (p:=⟨w.heap.size,7,none⟩) (ar _) (.int I 0));have b:=((f.setCell (p:=⟨w.heap.size,3,none⟩) (ag _) (.int I 0)).setCell (p:=⟨w.heap.size,7,none⟩) (ag _) (.int I 0));simp only [pB,pZ,pC] at c;clear a d f j m o v r;generalize ((w2.setCell ⟨w.heap.size,3,none⟩ (.int I 0)).setCell ⟨w.heap.size,7,none⟩ (.int I 0))=H at *;go_wp2_with (first | (refine Zad c rfl _ rfl rfl rfl ?_) | (refine Zae g rfl _ _ rfl rfl rfl _ rfl rfl (by kernel_rfl) ?_;intro J h i));exact bodyPost_ret (Zah rfl _ rfl h rfl) rfl ⟨⟨_,rfl,_,_,_,_,_,_,_,_,_,_,_,_,_,_,_,_,rfl⟩,b.grown i b.size (fun k e=>by injection e with e;omega)⟩
 by_cases N:kn=7
 ·subst N;clear B A C E L;have j:=a.cell 0;have m:=a.cell 3;have o:=a.frozen 3;have v:=a.cell 7;have r:=a.frozen 7;go_upto_region 54 with (go_at_call 63;refine (Zcb 7 rfl rfl rfl rfl _).mono ?_;rintro e u ⟨rfl,rfl⟩)
  have c:=((a.set 3 (.int I 0)).set 7 (.int I 0));have g:=((d.far (p:=⟨w.heap.size,3,none⟩) (ar _) (.int I 0)).far (p:=⟨w.heap.size,7,none⟩) (ar _) (.int I 0));have b:=((f.setCell (p:=⟨w.heap.size,3,none⟩) (ag _) (.int I 0)).setCell (p:=⟨w.heap.size,7,none⟩) (ag _) (.int I 0));simp only [pB,pZ,pC] at c;clear a d f j m o v r;generalize ((w2.setCell ⟨w.heap.size,3,none⟩ (.int I 0)).setCell ⟨w.heap.size,7,none⟩ (.int I 0))=H at *;go_wp2_with (first | (refine Zad c rfl _ rfl rfl rfl ?_) | (refine Zae g rfl _ _ rfl rfl rfl _ rfl rfl (by kernel_rfl) ?_;intro J h i));exact bodyPost_ret (Zah rfl _ rfl h rfl) rfl ⟨⟨_,rfl,_,_,_,_,_,_,_,_,_,_,_,_,_,_,_,_,rfl⟩,b.grown i b.size (fun k e=>by injection e with e;omega)⟩
 by_cases P:kn=8
 ·subst P;clear B A C E L N;have j:=a.cell 0;have m:=a.cell 3;have o:=a.frozen 3;have v:=a.cell 7;have r:=a.frozen 7;have c8:=a.cell 8;have f8:=a.frozen 8;go_upto_region 54 with (go_at_call 63;refine (Zcb 8 rfl rfl rfl rfl _).mono ?_;rintro e u ⟨rfl,rfl⟩)
  have c:=(((a.set 3 (.int I 0)).set 7 (.int I 0)).set 8 (.int I 0));have g:=(((d.far (p:=⟨w.heap.size,3,none⟩) (ar _) (.int I 0)).far (p:=⟨w.heap.size,7,none⟩) (ar _) (.int I 0)).far (p:=⟨w.heap.size,8,none⟩) (ar _) (.int I 0));have b:=(((f.setCell (p:=⟨w.heap.size,3,none⟩) (ag _) (.int I 0)).setCell (p:=⟨w.heap.size,7,none⟩) (ag _) (.int I 0)).setCell (p:=⟨w.heap.size,8,none⟩) (ag _) (.int I 0));simp only [pB,pZ,pC] at c;clear a d f j m o v r c8 f8;generalize (((w2.setCell ⟨w.heap.size,3,none⟩ (.int I 0)).setCell ⟨w.heap.size,7,none⟩ (.int I 0)).setCell ⟨w.heap.size,8,none⟩ (.int I 0))=H at *;go_wp2_with (first | (refine Zad c rfl _ rfl rfl rfl ?_) | (refine Zae g rfl _ _ rfl rfl rfl _ rfl rfl (by kernel_rfl) ?_;intro J h i));exact bodyPost_ret (Zah rfl _ rfl h rfl) rfl ⟨⟨_,rfl,_,_,_,_,_,_,_,_,_,_,_,_,_,_,_,_,rfl⟩,b.grown i b.size (fun k e=>by injection e with e;omega)⟩
 by_cases S:kn=9
 ·subst S;clear B A C E L N P;have j:=a.cell 0;have m:=a.cell 3;have o:=a.frozen 3;have v:=a.cell 7;have r:=a.frozen 7;go_upto_region 54 with (go_at_call 63;refine (Zcb 9 rfl rfl rfl rfl _).mono ?_;rintro e u ⟨rfl,rfl⟩)
  have c:=((a.set 3 (.int I 0)).set 7 (.int I 0));have g:=((d.far (p:=⟨w.heap.size,3,none⟩) (ar _) (.int I 0)).far (p:=⟨w.heap.size,7,none⟩) (ar _) (.int I 0));have b:=((f.setCell (p:=⟨w.heap.size,3,none⟩) (ag _) (.int I 0)).setCell (p:=⟨w.heap.size,7,none⟩) (ag _) (.int I 0));simp only [pB,pZ,pC] at c;clear a d f j m o v r;generalize ((w2.setCell ⟨w.heap.size,3,none⟩ (.int I 0)).setCell ⟨w.heap.size,7,none⟩ (.int I 0))=H at *;go_wp2_with (first | (refine Zad c rfl _ rfl rfl rfl ?_) | (refine Zae g rfl _ _ rfl rfl rfl _ rfl rfl (by kernel_rfl) ?_;intro J h i));exact bodyPost_ret (Zah rfl _ rfl h rfl) rfl ⟨⟨_,rfl,_,_,_,_,_,_,_,_,_,_,_,_,_,_,_,_,rfl⟩,b.grown i b.size (fun k e=>by injection e with e;omega)⟩
 by_cases q:kn=12
 ·subst q;clear B A C E L N P S;have j:=a.cell 0;have m:=a.cell 3;have o:=a.frozen 3;have c5:=a.cell 5;have X:=a.frozen 5;go_upto_region 54 with (go_at_call 63;refine (Zcb 12 rfl rfl rfl rfl _).mono ?_;rintro e u ⟨rfl,rfl⟩)
  have c:=((a.set 3 (.int I 0)).set 5 (.int I 0));have g:=((d.far (p:=⟨w.heap.size,3,none⟩) (ar _) (.int I 0)).far (p:=⟨w.heap.size,5,none⟩) (ar _) (.int I 0));have b:=((f.setCell (p:=⟨w.heap.size,3,none⟩) (ag _) (.int I 0)).setCell (p:=⟨w.heap.size,5,none⟩) (ag _) (.int I 0));simp only [pB,pZ,pC] at c;clear a d f j m o c5 X;generalize ((w2.setCell ⟨w.heap.size,3,none⟩ (.int I 0)).setCell ⟨w.heap.size,5,none⟩ (.int I 0))=H at *;go_wp2_with (first | (refine Zad c rfl _ rfl rfl rfl ?_) | (refine Zae g rfl _ _ rfl rfl rfl _ rfl rfl (by kernel_rfl) ?_;intro J h i));exact bodyPost_ret (Zah rfl _ rfl h rfl) rfl ⟨⟨_,rfl,_,_,_,_,_,_,_,_,_,_,_,_,_,_,_,_,rfl⟩,b.grown i b.size (fun k e=>by injection e with e;omega)⟩
 by_cases s:kn=13
 ·subst s;clear B A C E L N P S q;by_cases h2:number=2
  ·subst h2;have j:=a.cell 0;have ab:=a.cell 7;have m:=a.cell 3;have o:=a.frozen 3;have c6:=a.cell 6;have f6:=a.frozen 6;have r:=a.frozen 7;have T:=a.cell 13;have V:=a.frozen 13;go_upto_region 54 with (go_at_call 63;refine (Zcb 13 rfl rfl rfl rfl _).mono ?_;rintro e u ⟨rfl,rfl⟩)
   have c:=((((a.set 3 (.int I 0)).set 6 (.int I 0)).set 13 (Z none 0 0)).set 7 (.int I 0));have g:=((((d.far (p:=⟨w.heap.size,3,none⟩) (ar _) (.int I 0)).far (p:=⟨w.heap.size,6,none⟩) (ar _) (.int I 0)).far (p:=⟨w.heap.size,13,none⟩) (ar _) (Z none 0 0)).far (p:=⟨w.heap.size,7,none⟩) (ar _) (.int I 0));have b:=((((f.setCell (p:=⟨w.heap.size,3,none⟩) (ag _) (.int I 0)).setCell (p:=⟨w.heap.size,6,none⟩) (ag _) (.int I 0)).setCell (p:=⟨w.heap.size,13,none⟩) (ag _) (Z none 0 0)).setCell (p:=⟨w.heap.size,7,none⟩) (ag _) (.int I 0));simp only [pB,pZ,pC] at c;clear a d f j m o c6 f6 r T V ab;generalize ((((w2.setCell ⟨w.heap.size,3,none⟩ (.int I 0)).setCell ⟨w.heap.size,6,none⟩ (.int I 0)).setCell ⟨w.heap.size,13,none⟩ (Z none 0 0)).setCell ⟨w.heap.size,7,none⟩ (.int I 0))=H at *;go_wp2_with (first | (refine Zad c rfl _ rfl rfl rfl ?_) | (refine Zae g rfl _ _ rfl rfl rfl _ rfl rfl (by kernel_rfl) ?_;intro J h i));exact bodyPost_ret (Zah rfl _ rfl h rfl) rfl ⟨⟨_,rfl,_,_,_,_,_,_,_,_,_,_,_,_,_,_,_,_,rfl⟩,b.grown i b.size (fun k e=>by injection e with e;omega)⟩
  ·have e2:(number == 2)=false:=by simpa using h2
   clear h2;have j:=a.cell 0;have ab:=a.cell 7;have m:=a.cell 3;have o:=a.frozen 3;have c6:=a.cell 6;have f6:=a.frozen 6;have r:=a.frozen 7;go_upto_region 54 with (go_at_call 63;refine (Zcb 13 rfl rfl rfl rfl _).mono ?_;rintro e u ⟨rfl,rfl⟩)
   have c:=(((a.set 3 (.int I 0)).set 6 (.int I 0)).set 7 (.int I 0));have g:=(((d.far (p:=⟨w.heap.size,3,none⟩) (ar _) (.int I 0)).far (p:=⟨w.heap.size,6,none⟩) (ar _) (.int I 0)).far (p:=⟨w.heap.size,7,none⟩) (ar _) (.int I 0));have b:=(((f.setCell (p:=⟨w.heap.size,3,none⟩) (ag _) (.int I 0)).setCell (p:=⟨w.heap.size,6,none⟩) (ag _) (.int I 0)).setCell (p:=⟨w.heap.size,7,none⟩) (ag _) (.int I 0));simp only [pB,pZ,pC] at c;clear a d f j m o c6 f6 r ab;generalize (((w2.setCell ⟨w.heap.size,3,none⟩ (.int I 0)).setCell ⟨w.heap.size,6,none⟩ (.int I 0)).setCell ⟨w.heap.size,7,none⟩ (.int I 0))=H at *;go_wp2_with (first | (refine Zad c rfl _ rfl rfl rfl ?_) | (refine Zae g rfl _ _ rfl rfl rfl _ rfl rfl (by kernel_rfl) ?_;intro J h i));exact bodyPost_ret (Zah rfl _ rfl h rfl) rfl ⟨⟨_,rfl,_,_,_,_,_,_,_,_,_,_,_,_,_,_,_,_,rfl⟩,b.grown i b.size (fun k e=>by injection e with e;omega)⟩
 by_cases t:kn=14
 ·subst t;clear B A C E L N P S q s;have j:=a.cell 0;have m:=a.cell 3;have o:=a.frozen 3;have c5:=a.cell 5;have X:=a.frozen 5;go_upto_region 54 with (go_at_call 63;refine (Zcb 14 rfl rfl rfl rfl _).mono ?_;rintro e u ⟨rfl,rfl⟩)
  have c:=((a.set 3 (.int I 0)).set 5 (.int I 0));have g:=((d.far (p:=⟨w.heap.size,3,none⟩) (ar _) (.int I 0)).far (p:=⟨w.heap.size,5,none⟩) (ar _) (.int I 0));have b:=((f.setCell (p:=⟨w.heap.size,3,none⟩) (ag _) (.int I 0)).setCell (p:=⟨w.heap.size,5,none⟩) (ag _) (.int I 0));simp only [pB,pZ,pC] at c;clear a d f j m o c5 X;generalize ((w2.setCell ⟨w.heap.size,3,none⟩ (.int I 0)).setCell ⟨w.heap.size,5,none⟩ (.int I 0))=H at *;go_wp2_with (first | (refine Zad c rfl _ rfl rfl rfl ?_) | (refine Zae g rfl _ _ rfl rfl rfl _ rfl rfl (by kernel_rfl) ?_;intro J h i));exact bodyPost_ret (Zah rfl _ rfl h rfl) rfl ⟨⟨_,rfl,_,_,_,_,_,_,_,_,_,_,_,_,_,_,_,_,rfl⟩,b.grown i b.size (fun k e=>by injection e with e;omega)⟩
 by_cases z:kn=15
 ·subst z;clear B A C E L N P S q s t;have j:=a.cell 0;have m:=a.cell 3;have o:=a.frozen 3;have T:=a.cell 13;have V:=a.frozen 13;go_upto_region 54 with (go_at_call 63;refine (Zcb 15 rfl rfl rfl rfl _).mono ?_;rintro e u ⟨rfl,rfl⟩)
  have c:=((a.set 3 (.int I 0)).set 13 (Z none 0 0));have g:=((d.far (p:=⟨w.heap.size,3,none⟩) (ar _) (.int I 0)).far (p:=⟨w.heap.size,13,none⟩) (ar _) (Z none 0 0));have b:=((f.setCell (p:=⟨w.heap.size,3,none⟩) (ag _) (.int I 0)).setCell (p:=⟨w.heap.size,13,none⟩) (ag _) (Z none 0 0));simp only [pB,pZ,pC] at c;clear a d f j m o T V;generalize ((w2.setCell ⟨w.heap.size,3,none⟩ (.int I 0)).setCell ⟨w.heap.size,13,none⟩ (Z none 0 0))=H at *;go_wp2_with (first | (refine Zad c rfl _ rfl rfl rfl ?_) | (refine Zae g rfl _ _ rfl rfl rfl _ rfl rfl (by kernel_rfl) ?_;intro J h i));exact bodyPost_ret (Zah rfl _ rfl h rfl) rfl ⟨⟨_,rfl,_,_,_,_,_,_,_,_,_,_,_,_,_,_,_,_,rfl⟩,b.grown i b.size (fun k e=>by injection e with e;omega)⟩
 by_cases K:kn=16
 ·subst K;clear B A C E L N P S q s t z;have j:=a.cell 0;have m:=a.cell 3;have o:=a.frozen 3;have c5:=a.cell 5;have X:=a.frozen 5;have c6:=a.cell 6;have f6:=a.frozen 6;have c9:=a.cell 9;have f9:=a.frozen 9;have al:=a.cell 10;have a0:=a.frozen 10;go_upto_region 54 with (go_at_call 63;refine (Zcb 16 rfl rfl rfl rfl _).mono ?_;rintro e u ⟨rfl,rfl⟩)
  have c:=(((((a.set 3 (.int I 0)).set 5 (.int I 0)).set 6 (.int I 0)).set 9 (.int I 0)).set 10 (.int I 0));have g:=(((((d.far (p:=⟨w.heap.size,3,none⟩) (ar _) (.int I 0)).far (p:=⟨w.heap.size,5,none⟩) (ar _) (.int I 0)).far (p:=⟨w.heap.size,6,none⟩) (ar _) (.int I 0)).far (p:=⟨w.heap.size,9,none⟩) (ar _) (.int I 0)).far (p:=⟨w.heap.size,10,none⟩) (ar _) (.int I 0));have b:=(((((f.setCell (p:=⟨w.heap.size,3,none⟩) (ag _) (.int I 0)).setCell (p:=⟨w.heap.size,5,none⟩) (ag _) (.int I 0)).setCell (p:=⟨w.heap.size,6,none⟩) (ag _) (.int I 0)).setCell (p:=⟨w.heap.size,9,none⟩) (ag _) (.int I 0)).setCell (p:=⟨w.heap.size,10,none⟩) (ag _) (.int I 0));simp only [pB,pZ,pC] at c;clear a d f j m o c5 X c6 f6 c9 f9 al a0;generalize (((((w2.setCell ⟨w.heap.size,3,none⟩ (.int I 0)).setCell ⟨w.heap.size,5,none⟩ (.int I 0)).setCell ⟨w.heap.size,6,none⟩ (.int I 0)).setCell ⟨w.heap.size,9,none⟩ (.int I 0)).setCell ⟨w.heap.size,10,none⟩ (.int I 0))=H at *;go_wp2_with (first | (refine Zad c rfl _ rfl rfl rfl ?_) | (refine Zae g rfl _ _ rfl rfl rfl _ rfl rfl (by kernel_rfl) ?_;intro J h i));exact bodyPost_ret (Zah rfl _ rfl h rfl) rfl ⟨⟨_,rfl,_,_,_,_,_,_,_,_,_,_,_,_,_,_,_,_,rfl⟩,b.grown i b.size (fun k e=>by injection e with e;omega)⟩
 by_cases M:kn=17
 ·subst M;clear B A C E L N P S q s t z K;have j:=a.cell 0;have m:=a.cell 3;have o:=a.frozen 3;have c5:=a.cell 5;have X:=a.frozen 5;have c6:=a.cell 6;have f6:=a.frozen 6;have v:=a.cell 7;have r:=a.frozen 7;go_upto_region 54 with (go_at_call 63;refine (Zcb 17 rfl rfl rfl rfl _).mono ?_;rintro e u ⟨rfl,rfl⟩)
  have c:=((((a.set 3 (.int I 0)).set 5 (.int I 0)).set 6 (.int I 0)).set 7 (.int I 0));have g:=((((d.far (p:=⟨w.heap.size,3,none⟩) (ar _) (.int I 0)).far (p:=⟨w.heap.size,5,none⟩) (ar _) (.int I 0)).far (p:=⟨w.heap.size,6,none⟩) (ar _) (.int I 0)).far (p:=⟨w.heap.size,7,none⟩) (ar _) (.int I 0));have b:=((((f.setCell (p:=⟨w.heap.size,3,none⟩) (ag _) (.int I 0)).setCell (p:=⟨w.heap.size,5,none⟩) (ag _) (.int I 0)).setCell (p:=⟨w.heap.size,6,none⟩) (ag _) (.int I 0)).setCell (p:=⟨w.heap.size,7,none⟩) (ag _) (.int I 0));simp only [pB,pZ,pC] at c;clear a d f j m o c5 X c6 f6 v r;generalize ((((w2.setCell ⟨w.heap.size,3,none⟩ (.int I 0)).setCell ⟨w.heap.size,5,none⟩ (.int I 0)).setCell ⟨w.heap.size,6,none⟩ (.int I 0)).setCell ⟨w.heap.size,7,none⟩ (.int I 0))=H at *;go_wp2_with (first | (refine Zad c rfl _ rfl rfl rfl ?_) | (refine Zae g rfl _ _ rfl rfl rfl _ rfl rfl (by kernel_rfl) ?_;intro J h i));exact bodyPost_ret (Zah rfl _ rfl h rfl) rfl ⟨⟨_,rfl,_,_,_,_,_,_,_,_,_,_,_,_,_,_,_,_,rfl⟩,b.grown i b.size (fun k e=>by injection e with e;omega)⟩
 by_cases Q:kn=18
 ·subst Q;clear B A C E L N P S q s t z K M;have j:=a.cell 0;have m:=a.cell 3;have o:=a.frozen 3;have v:=a.cell 7;have r:=a.frozen 7;go_upto_region 54 with (go_at_call 63;refine (Zcb 18 rfl rfl rfl rfl _).mono ?_;rintro e u ⟨rfl,rfl⟩)
  have c:=((a.set 3 (.int I 0)).set 7 (.int I 0));have g:=((d.far (p:=⟨w.heap.size,3,none⟩) (ar _) (.int I 0)).far (p:=⟨w.heap.size,7,none⟩) (ar _) (.int I 0));have b:=((f.setCell (p:=⟨w.heap.size,3,none⟩) (ag _) (.int I 0)).setCell (p:=⟨w.heap.size,7,none⟩) (ag _) (.int I 0));simp only [pB,pZ,pC] at c;clear a d f j m o v r;generalize ((w2.setCell ⟨w.heap.size,3,none⟩ (.int I 0)).setCell ⟨w.heap.size,7,none⟩ (.int I 0))=H at *;go_wp2_with (first | (refine Zad c rfl _ rfl rfl rfl ?_) | (refine Zae g rfl _ _ rfl rfl rfl _ rfl rfl (by kernel_rfl) ?_;intro J h i));exact bodyPost_ret (Zah rfl _ rfl h rfl) rfl ⟨⟨_,rfl,_,_,_,_,_,_,_,_,_,_,_,_,_,_,_,_,rfl⟩,b.grown i b.size (fun k e=>by injection e with e;omega)⟩
 by_cases R:kn=19
 ·subst R;clear B A C E L N P S q s t z K M Q;have j:=a.cell 0;have am:=a.cell 15;have a1:=a.frozen 15;have an:=a.cell 16;have a2:=a.frozen 16;have aq:=a.cell 17;have a3:=a.frozen 17;have av:=a.cell 18;have a4:=a.frozen 18;go_upto_region 54 with (go_at_call 63;refine (Zlb 19 (by decide) _).mono ?_;rintro e u ⟨rfl,rfl⟩)
  have c:=((((a.set 15 (.int I 0)).set 16 (.int I 0)).set 17 (Z none 0 0)).set 18 (Z none 0 0));have g:=((((d.far (p:=⟨w.heap.size,15,none⟩) (ar _) (.int I 0)).far (p:=⟨w.heap.size,16,none⟩) (ar _) (.int I 0)).far (p:=⟨w.heap.size,17,none⟩) (ar _) (Z none 0 0)).far (p:=⟨w.heap.size,18,none⟩) (ar _) (Z none 0 0));have b:=((((f.setCell (p:=⟨w.heap.size,15,none⟩) (ag _) (.int I 0)).setCell (p:=⟨w.heap.size,16,none⟩) (ag _) (.int I 0)).setCell (p:=⟨w.heap.size,17,none⟩) (ag _) (Z none 0 0)).setCell (p:=⟨w.heap.size,18,none⟩) (ag _) (Z none 0 0));simp only [pB,pZ,pC] at c;clear a d f j am a1 an a2 aq a3 av a4;generalize ((((w2.setCell ⟨w.heap.size,15,none⟩ (.int I 0)).setCell ⟨w.heap.size,16,none⟩ (.int I 0)).setCell ⟨w.heap.size,17,none⟩ (Z none 0 0)).setCell ⟨w.heap.size,18,none⟩ (Z none 0 0))=H at *;go_wp2_with (first | (refine Zad c rfl _ rfl rfl rfl ?_) | (refine Zae g rfl _ _ rfl rfl rfl _ rfl rfl (by kernel_rfl) ?_;intro J h i));exact bodyPost_ret (Zah rfl _ rfl h rfl) rfl ⟨⟨_,rfl,_,_,_,_,_,_,_,_,_,_,_,_,_,_,_,_,rfl⟩,b.grown i b.size (fun k e=>by injection e with e;omega)⟩
 by_cases Y:kn=20
 ·subst Y;clear B A C E L N P S q s t z K M Q R;have j:=a.cell 0;have c4:=a.cell 4;have f4:=a.frozen 4;have v:=a.cell 7;have r:=a.frozen 7;go_upto_region 54 with (go_at_call 63;refine (Zlb 20 (by decide) _).mono ?_;rintro e u ⟨rfl,rfl⟩)
  have c:=((a.set 4 (.int I 0)).set 7 (.int I 0));have g:=((d.far (p:=⟨w.heap.size,4,none⟩) (ar _) (.int I 0)).far (p:=⟨w.heap.size,7,none⟩) (ar _) (.int I 0));have b:=((f.setCell (p:=⟨w.heap.size,4,none⟩) (ag _) (.int I 0)).setCell (p:=⟨w.heap.size,7,none⟩) (ag _) (.int I 0));simp only [pB,pZ,pC] at c;clear a d f j c4 f4 v r;generalize ((w2.setCell ⟨w.heap.size,4,none⟩ (.int I 0)).setCell ⟨w.heap.size,7,none⟩ (.int I 0))=H at *;go_wp2_with (first | (refine Zad c rfl _ rfl rfl rfl ?_) | (refine Zae g rfl _ _ rfl rfl rfl _ rfl rfl (by kernel_rfl) ?_;intro J h i));exact bodyPost_ret (Zah rfl _ rfl h rfl) rfl ⟨⟨_,rfl,_,_,_,_,_,_,_,_,_,_,_,_,_,_,_,_,rfl⟩,b.grown i b.size (fun k e=>by injection e with e;omega)⟩
 by_cases aa:kn=21
 ·subst aa;clear B A C E L N P S q s t z K M Q R Y;have j:=a.cell 0;have c4:=a.cell 4;have f4:=a.frozen 4;have v:=a.cell 7;have r:=a.frozen 7;have c8:=a.cell 8;have f8:=a.frozen 8;go_upto_region 54 with (go_at_call 63;refine (Zlb 21 (by decide) _).mono ?_;rintro e u ⟨rfl,rfl⟩)
  have c:=(((a.set 4 (.int I 0)).set 7 (.int I 0)).set 8 (.int I 0));have g:=(((d.far (p:=⟨w.heap.size,4,none⟩) (ar _) (.int I 0)).far (p:=⟨w.heap.size,7,none⟩) (ar _) (.int I 0)).far (p:=⟨w.heap.size,8,none⟩) (ar _) (.int I 0));have b:=(((f.setCell (p:=⟨w.heap.size,4,none⟩) (ag _) (.int I 0)).setCell (p:=⟨w.heap.size,7,none⟩) (ag _) (.int I 0)).setCell (p:=⟨w.heap.size,8,none⟩) (ag _) (.int I 0));simp only [pB,pZ,pC] at c;clear a d f j c4 f4 v r c8 f8;generalize (((w2.setCell ⟨w.heap.size,4,none⟩ (.int I 0)).setCell ⟨w.heap.size,7,none⟩ (.int I 0)).setCell ⟨w.heap.size,8,none⟩ (.int I 0))=H at *;go_wp2_with (first | (refine Zad c rfl _ rfl rfl rfl ?_) | (refine Zae g rfl _ _ rfl rfl rfl _ rfl rfl (by kernel_rfl) ?_;intro J h i));exact bodyPost_ret (Zah rfl _ rfl h rfl) rfl ⟨⟨_,rfl,_,_,_,_,_,_,_,_,_,_,_,_,_,_,_,_,rfl⟩,b.grown i b.size (fun k e=>by injection e with e;omega)⟩
 have e0:(kn == 0)=false:=by simpa using B
 have e3:(kn == 3)=false:=by simpa using A
 have e4:(kn == 4)=false:=by simpa using C
 have e5:(kn == 5)=false:=by simpa using E
 have e6:(kn == 6)=false:=by simpa using L
 have e7:(kn == 7)=false:=by simpa using N
 have e8:(kn == 8)=false:=by simpa using P
 have e9:(kn == 9)=false:=by simpa using S
 have a5:(kn == 12)=false:=by simpa using q
 have a6:(kn == 13)=false:=by simpa using s
 have a7:(kn == 14)=false:=by simpa using t
 have a8:(kn == 15)=false:=by simpa using z
 have a9:(kn == 16)=false:=by simpa using K
 have bc:(kn == 17)=false:=by simpa using M
 have be:(kn == 18)=false:=by simpa using Q
 have bf:(kn == 19)=false:=by simpa using R
 have bg:(kn == 20)=false:=by simpa using Y
 have bh:(kn == 21)=false:=by simpa using aa
 have af:=ae (fun W=>Zcb kn (by simpa using E) (by simpa using R) (by simpa using Y) (by simpa using aa) W);clear B A C E L N P S q s t z K M Q R Y aa;have j:=a.cell 0;have m:=a.cell 3;have o:=a.frozen 3;go_upto_region 54 with (go_at_call 63;refine (af.out _).mono ?_;rintro e u ⟨rfl,rfl⟩)
 have c:=(a.set 3 (.int I 0));have g:=(d.far (p:=⟨w.heap.size,3,none⟩) (ar _) (.int I 0));have b:=(f.setCell (p:=⟨w.heap.size,3,none⟩) (ag _) (.int I 0));simp only [pB,pZ,pC] at c;clear a d f j m o;generalize (w2.setCell ⟨w.heap.size,3,none⟩ (.int I 0))=H at *;go_wp2_with (first | (refine Zad c rfl _ rfl rfl rfl ?_) | (refine Zae g rfl _ _ rfl rfl rfl _ rfl rfl (by kernel_rfl) ?_;intro J h i));exact bodyPost_ret (Zah rfl _ rfl h rfl) rfl ⟨⟨_,rfl,_,_,_,_,_,_,_,_,_,_,_,_,_,_,_,_,rfl⟩,b.grown i b.size (fun k e=>by injection e with e;omega)⟩
end Go.Proofs.YtglkadmfjaecmaaGreatDoor
