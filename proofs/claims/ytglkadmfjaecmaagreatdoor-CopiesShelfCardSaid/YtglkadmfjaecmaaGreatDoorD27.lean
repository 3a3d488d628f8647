import Derived.Test.YtglkadmfjaecmaaGreatDoorD19
set_option maxRecDepth 100000
set_option maxHeartbeats 16000000
namespace Go.Proofs.YtglkadmfjaecmaaGreatDoor
open Go.RowKit Go.Shelf _root_.Go.Proofs.Tryz
open Go.IntKind renaming i64->Z, u64->X
open Go.Value renaming slice->G, agg->Y, pointer->M, tuple->E
open Go.Ending renaming returned->O
open Go.Obj renaming cells->U
attribute [local go_sem] Oper.semAt_some
variable {A:Option Addr} {C V:Array Value} {Q:Exit->Act->World->Prop} {S:World->Prop} {cp g:Nat} {i:Int} {ops:Array Oper} {p:Value} {w:World}
theorem Zuq {l m:List FV} (hl:Zb4 l) (hm:Zb4 m) (d:l.Perm m):l.map (fun x=>Zdh x.f)=m.map (fun x=>Zdh x.f):=by
 have e:l.map (fun x=>x.f.key)=m.map (fun x=>x.f.key):=by
  refine List.Perm.eq_of_pairwise (le:=fun a b=>Zf2 a b<=0) ?_ ?_ ?_ (d.map _)
  ·intro a b _ _ h1 c;refine Zo2 ?_;rw [Zg1 a b] at c;omega
  ·rw [List.pairwise_map];exact hl
  ·rw [List.pairwise_map];exact hm
 have c:∀ (a b:List FV),a.map (fun x=>x.f.key)=b.map (fun x=>x.f.key)->a.map (fun x=>Zdh x.f)=b.map (fun x=>Zdh x.f):=by
  intro a;induction a with
  | nil=>intro b h;cases b with
   | nil=>rfl
   | cons _ _=>cases h
  | cons x a ih=>intro b h;cases b with
   | nil=>cases h
   | cons y b =>
    simp only [du,List.cons.injEq] at h ⊢;exact ⟨Zo3.1 h.1,ih b h.2⟩
 exact c l m e
theorem Zur (n:Nat) (l:2<=n) (hn:n<=65536) (w:World) :
  Calls prog 67 #[.int Z (n:Int)] w fun e t=>e=O (.int Z (Za4 n:Int))/\t=w:=by
 have s:=ae (fun (j:Nat) h1 o=>Zwc (n:=n) (j:=j) l h1 o);go_enter func67,ntmps67;go_wp2_with fail;go_loopw [3] (fun j W=>∃ k:Nat,j=.int Z (k:Int)/\(∃ q,k=2 ^ q)/\1<=k/\k<n/\w=W) (fun j _=>n - (intOf j).toNat)
 case atStart=>exact ⟨1,rfl,⟨0,rfl⟩,by omega,by omega,rfl⟩
 case round =>
  obtain ⟨k,rfl,a,r,b,rfl⟩:=hrel;have f:=ae a;clear a;have u:IntKind.i64.wrap (2 * (k:Int))=((2 * k:Nat):Int):=by rw [az];omega
  by_cases d:2 * k<n
  ·have hd:decide (((2 * k:Nat):Int)<(n:Int))=true:=decide_eq_true (by omega);have c:=ae (show ∃ q,2 * k=2 ^ q by
    obtain ⟨q,a⟩:=f.out;exact ⟨q+1,by rw [Nat.pow_succ];omega⟩)
   generalize h2k:2 * k=k2 at *;go_wp2_with fail;go_roundw
   case rel=>exact ⟨k2,by go_num,c.out,by omega,by omega,trivial⟩
   case measure=>simp [intOf];omega
  ·have hd:decide (((2 * k:Nat):Int)<(n:Int))=false:=decide_eq_false (by omega);have h:k=Za4 n:=by
    obtain ⟨q,rfl⟩:=f.out;exact s.out q b d
   have m:=ae h;clear h;generalize h2k:2 * k=k2 at *;go_wp2_with fail;go_ret;exact ⟨by rw [<- m.out];rfl,rfl⟩
theorem Zsk (h:Nat) (a:h<18446744073709551616) (i m:Nat) (hm:m<=100) (A:Option Addr) (c:Nat) (w:World) :
  Calls prog 174 #[.int Z (i:Int),.int Z 1,.int X (h:Int),G A m c] w fun e d=>e=O (E #[.int X (Zce h:Int),.bool (decide (m=0))])/\Bl w d:=by
 have j:=ae (fun W=>Zl5 h a W);have l:IntKind.i64.wrap ((m:Int) - 1)=(m:Int) - 1:=by rw [az];omega
 have el:decide ((m:Int) - 1<0)=decide (m=0):=by
  by_cases f:m=0
  ·rw [decide_eq_true f,decide_eq_true (by omega)]
  ·rw [decide_eq_false f,decide_eq_false (by omega)]
 generalize decide (m=0)=b at *;clear a;go_enter func174,ntmps174;go_wp2_with fail;refine (j.out _).mono ?_;rintro e d ⟨rfl,k⟩;go_wp2_with fail;exact bodyPost_ret (results_tmp2 rfl _ _ _) rfl ⟨rfl,k⟩
theorem Znd (h:Nat) (i n:Nat) (hn:n≠1) (A:Option Addr) (c:Nat) (w:World) :
  Calls prog 174 #[.int Z (i:Int),.int Z (n:Int),.int X (h:Int),G A 0 c] w fun e a=>e=O (E #[.int X 0,.bool false])/\Bl w a:=by
 have b:((n:Int) == 1)=false:=by rw [beq_eq_false_iff_ne];omega
 go_enter func174,ntmps174;go_wp2_with fail;exact bodyPost_ret (results_tmp2 rfl _ _ _) rfl ⟨rfl,ap _ _⟩
theorem Zsl (h:Nat) (hh:h<18446744073709551616) (f:Nat):∀ (i n:Nat) (ps:List Nat) (A:Option Addr) (c:Nat) (w:World),i<n->n<=65536->ps.length<f->ps.length<=100->ps.length<=c->Zbw ps->Zgq w A ps ->
  Calls prog 174 #[.int Z (i:Int),.int Z (n:Int),.int X (h:Int),G A ps.length c] w fun e w'=>(∃ x:Nat,e=O (E #[.int X (x:Int),.bool (Zig f i n ps.length)])/\x<18446744073709551616/\(Zig f i n ps.length=true->x=Zbj f i n h ps))/\Bl w w':=by
 induction f with
 | zero=>intro i n ps A c w _ _ hf;omega
 | succ f ih =>
  intro i n ps A c w hi hn L hp hc hw hr;by_cases t:n=1
  ·subst t;rw [Zbj,if_pos (.inl rfl),Zig,if_pos (.inl rfl)];refine (Zsk h hh i ps.length hp A c w).mono ?_;rintro e w' ⟨rfl,hb⟩;refine ⟨⟨Zce h,?_,Zcn _ _,fun _=>rfl⟩,hb⟩;simp
  ·by_cases P:ps.length=0
   ·rw [Zig,if_pos (.inr P),P];refine (Znd h i n t A c w).mono ?_;rintro e w' ⟨rfl,hb⟩;refine ⟨⟨0,?_,by omega,fun h=>?_⟩,hb⟩
    ·simp [t]
    ·simp [t] at h
   ·have h1:¬ (n=1∨ps.length=0):=by omega
    obtain ⟨b,o,rfl,a⟩:=hr (ps.length - 1) (by omega);have hb:=Zwd (n:=n) (by omega);have l:ps.dropLast.length=ps.length - 1:=List.length_dropLast;have HH:=ae (fun (W:World)=>Zur n (by omega) hn W);have s:ps.getD (ps.length - 1) 0=ps[ps.length - 1]'(by omega):=by
     simp [List.getD,show ps.length - 1<ps.length by omega]
    obtain ⟨x,z⟩:∃ x:Nat,x=ps[ps.length - 1]'(by omega):=⟨_,rfl⟩;have T:x<18446744073709551616:=by rw [z];exact hw _ (aw _)
    rw [<- z] at s a;clear z;have I:Zbj (f+1) i n h ps=if i<Za4 n then Zjg (Zbj f i (Za4 n) h ps.dropLast) x else Zjg x (Zbj f (i - Za4 n) (n - Za4 n) h ps.dropLast):=by
     rw [Zbj];rw [if_neg h1,s]
    have J:Zig (f+1) i n ps.length=if i<Za4 n then Zig f i (Za4 n) (ps.length - 1) else Zig f (i - Za4 n) (n - Za4 n) (ps.length - 1):=by
     rw [Zig];rw [if_neg h1]
    have r:=Zny hw;have HL:=ae (fun (W:World) (N:Bl w W)=>(N.cell (bu _ _ a)).trans a);have en:((n:Int) == 1)=false:=by rw [beq_eq_false_iff_ne];omega
    have el:decide (((ps.length - 1:Nat):Int)<0)=false:=decide_eq_false (by omega);have af:IntKind.i64.wrap ((ps.length:Int) - 1)=((ps.length - 1:Nat):Int):=by rw [az];omega
    by_cases hk:i<Za4 n
    ·rw [if_pos hk] at I J;have K:=ae (fun (W:World) (N:Bl w W)=>ih i (Za4 n) ps.dropLast (some ⟨b,o,none⟩) c W hk (by omega) (by omega) (by omega) (by omega) r (hr.drop.keep N));rw [l,<- J] at K;have HN:=ae (fun (y:Nat) (u:y<18446744073709551616) (W:World)=>Zh2 y x u T W);have aa:decide ((i:Int)<(Za4 n:Int))=true:=decide_eq_true (by omega);have HE:=ae I;have ab:ps.length - 1<ps.length:=by omega
     clear I J l hr hw r ih a s T L;generalize Zbj (f+1) i n h ps=R at *;generalize Zbj f i (Za4 n) h ps.dropLast=RA at *;generalize Zig (f+1) i n ps.length=ft at *;generalize Za4 n=k at *;generalize ps.length - 1=m at *;generalize ps.length=q at *;go_enter func174,ntmps174;go_wp2_with fail;refine (HH.out _).mono ?_;rintro e w1 ⟨rfl,B⟩;have B:=B.symm;subst B;go_wp2_with (refine Zgg underlying27 Zfg b o q c m rfl rfl (by omega) ?_);refine (K.out _ (ap _ _)).mono ?_;rintro e w2 ⟨⟨y,rfl,hy,j⟩,d⟩;have v:=ae j;have hc:=HL.out _ d;clear j;go_wp2_with fail;refine (HN.out y hy _).mono ?_;rintro e w3 ⟨rfl,H⟩;clear hc;go_wp2_with fail;exact bodyPost_ret (results_tmp2 rfl _ _ _) rfl ⟨⟨_,rfl,Zcn _ _,fun h=>by rw [v.out h];exact HE.out.symm⟩,d.trans (H.mono d.size)⟩
    ·rw [if_neg hk] at I J;have K:=ae (fun (W:World) (N:Bl w W)=>ih (i - Za4 n) (n - Za4 n) ps.dropLast (some ⟨b,o,none⟩) c W (by omega) (by omega) (by omega) (by omega) (by omega) r (hr.drop.keep N));rw [l,<- J] at K;have HN:=ae (fun (y:Nat) (u:y<18446744073709551616) (W:World)=>Zh2 x y T u W);have aa:decide ((i:Int)<(Za4 n:Int))=false:=decide_eq_false (by omega);have HE:=ae I;have ab:ps.length - 1<ps.length:=by omega
     have ad:IntKind.i64.wrap ((i:Int) - (Za4 n:Int))=((i - Za4 n:Nat):Int):=by rw [az];omega
     have al:IntKind.i64.wrap ((n:Int) - (Za4 n:Int))=((n - Za4 n:Nat):Int):=by rw [az];omega
     clear I J l hr hw r ih a s T L;generalize Zbj (f+1) i n h ps=R at *;generalize Zig (f+1) i n ps.length=ft at *;generalize i - Za4 n=i2 at *;generalize n - Za4 n=n2 at *;generalize Zbj f i2 n2 h ps.dropLast=RA at *;generalize Za4 n=k at *;generalize ps.length - 1=m at *;generalize ps.length=q at *;go_enter func174,ntmps174;go_wp2_with fail;refine (HH.out _).mono ?_;rintro e w1 ⟨rfl,B⟩;have B:=B.symm;subst B;go_wp2_with (refine Zgg underlying27 Zfg b o q c m rfl rfl (by omega) ?_);refine (K.out _ (ap _ _)).mono ?_;rintro e w2 ⟨⟨y,rfl,hy,j⟩,d⟩;have v:=ae j;have hc:=HL.out _ d;clear j;go_wp2_with fail;refine (HN.out y hy _).mono ?_;rintro e w3 ⟨rfl,H⟩;clear hc;go_wp2_with fail;exact bodyPost_ret (results_tmp2 rfl _ _ _) rfl ⟨⟨_,rfl,Zcn _ _,fun h=>by rw [v.out h];exact HE.out.symm⟩,d.trans (H.mono d.size)⟩
theorem Zsm (b h:Nat) (i n:Int) (hd:n<1∨65536<n∨i<0∨n<=i) (A:Option Addr) (m c:Nat) (w:World) :
  Calls prog 133 #[.int X (b:Int),.int Z i,.int Z n,.int X (h:Int),G A m c] w fun e l=>e=O (.int Z 5)/\Bl w l:=by
 by_cases h1:n<1
 ·have j:=decide_eq_true h1;clear hd h1;go_enter func133,ntmps133;go_wp2_with fail;go_ret;exact ⟨rfl,ap _ _⟩
 have j:=decide_eq_false h1;by_cases a:65536<n
 ·have f:=decide_eq_true a;clear hd h1 a;go_enter func133,ntmps133;go_wp2_with fail;go_ret;exact ⟨rfl,ap _ _⟩
 have f:=decide_eq_false a;by_cases d:i<0
 ·have k:=decide_eq_true d;clear hd h1 a d;go_enter func133,ntmps133;go_wp2_with fail;go_ret;exact ⟨rfl,ap _ _⟩
 have k:=decide_eq_false d;have o:decide (n<=i)=true:=decide_eq_true (by omega);clear hd h1 a d;go_enter func133,ntmps133;go_wp2_with fail;go_ret;exact ⟨rfl,ap _ _⟩
theorem Zus (a:Nat) (i n h:Nat) (hi:i<n) (hn:n<=65536) (t:h<18446744073709551616) (ps:List Nat) (s:ps.length<=100) (u:Zbw ps) (A:Option Addr) (c:Nat) (hc:ps.length<=c) (w:World) (hr:Zgq w A ps) :
  Calls prog 133 #[.int X (a:Int),.int Z (i:Int),.int Z (n:Int),.int X (h:Int),G A ps.length c] w fun e v=>e=O (.int Z (if a=Zbj (ps.length+1) i n h ps/\Zig (ps.length+1) i n ps.length=true then 0 else 10))/\Bl w v:=by
 obtain ⟨H,d⟩:∃ z:Int,z=if a=Zbj (ps.length+1) i n h ps/\Zig (ps.length+1) i n ps.length=true then 0 else 10:=⟨_,rfl⟩;rw [<- d];have b:=ae d;clear d;have B:=ae (Zsl h t (ps.length+1) i n ps A c w hi hn (by omega) s hc u hr)
 generalize Zbj (ps.length+1) i n h ps=R at *;generalize Zig (ps.length+1) i n ps.length=y at *;have N:decide ((n:Int)<1)=false:=decide_eq_false (by omega);have J:decide ((65536:Int)<(n:Int))=false:=decide_eq_false (by omega);have K:decide ((i:Int)<0)=false:=decide_eq_false (by omega);have L:decide ((n:Int)<=(i:Int))=false:=decide_eq_false (by omega);clear t u hr s hc;go_enter func133,ntmps133;go_wp2_with fail;refine B.out.mono ?_;rintro e P ⟨⟨x,rfl,I,k⟩,f⟩;have o:=ae k;clear k;cases y with
 | false =>
  go_wp2_with fail;go_ret;exact ⟨by have e:=b.out;simp at e;subst e;rfl,f⟩
 | true =>
  have j:=o.out rfl;by_cases l:a=R
  ·have q:((x:Int) != (a:Int))=false:=by rw [j,l];simp
   have m:=ae l;clear l j;go_wp2_with fail;go_ret;exact ⟨by have e:=b.out;have r:=m.out;simp [r] at e;subst e;rfl,f⟩
  ·have q:((x:Int) != (a:Int))=true:=by
    simp only [bne_iff_ne,ne_eq];omega
   have m:=ae l;clear l j;go_wp2_with fail;go_ret;exact ⟨by have e:=b.out;have r:=m.out;simp [r] at e;subst e;rfl,f⟩
theorem Zsn (b h:Nat) (i n:Int) (f:h<18446744073709551616) (ps:List Nat) (d:ps.length<=100) (l:Zbw ps) (A:Option Addr) (c:Nat) (hc:ps.length<=c) (w:World) (hr:Zgq w A ps) :
  Calls prog 133 #[.int X (b:Int),.int Z i,.int Z n,.int X (h:Int),G A ps.length c] w fun e m=>e=O (.int Z (Yfy b i n h ps))/\Bl w m:=by
 unfold Yfy;by_cases hd:n<1∨65536<n∨i<0∨n<=i
 ·rw [if_pos hd];exact Zsm b h i n hd A ps.length c w
 ·rw [if_neg hd];obtain ⟨j,rfl⟩:=Int.eq_ofNat_of_zero_le (a:=n) (by omega);obtain ⟨k,rfl⟩:=Int.eq_ofNat_of_zero_le (a:=i) (by omega);exact Zus b k j h (by omega) (by omega) f ps d l A c hc w hr
theorem Zp0 (o t d s:Int) (l m:Nat) (sl:Int) (x:Nat) (w:World) :
  Calls prog 132 #[Y #[iI o,iI t,iI d,iI s,uI (l:Int),uI (m:Int),iI sl,uI (x:Int)]] w fun e R=>e=O (.bool (hdB o t d s sl))/\Bl w R:=by
 have f:=Zab w (U #[iI o,iI t,iI d,iI s,uI (l:Int),uI (m:Int),iI sl,uI (x:Int)] 36);by_cases b:o<0
 ·have y:=decide_eq_true b;have a:hdB o t d s sl=false:=by
   simp only [hdB,inB,gm,decide_eq_false_iff_not];omega
  rw [a];clear a b;go_enter func132,ntmps132;go_wp2_with fail;go_ret;exact ⟨rfl,f⟩
 have y:=decide_eq_false b;by_cases h1:11<o
 ·have I:=decide_eq_true h1;have a:hdB o t d s sl=false:=by
   simp only [hdB,inB,gm,decide_eq_false_iff_not];omega
  rw [a];clear a b h1;go_enter func132,ntmps132;go_wp2_with fail;go_ret;exact ⟨rfl,f⟩
 have I:=decide_eq_false h1;by_cases c:t<0
 ·have H:=decide_eq_true c;have a:hdB o t d s sl=false:=by
   simp only [hdB,inB,gm,decide_eq_false_iff_not];omega
  rw [a];clear a b h1 c;go_enter func132,ntmps132;go_wp2_with fail;go_ret;exact ⟨rfl,f⟩
 have H:=decide_eq_false c;by_cases h:1099511627776<t
 ·have J:=decide_eq_true h;have a:hdB o t d s sl=false:=by
   simp only [hdB,inB,gm,decide_eq_false_iff_not];omega
  rw [a];clear a b h1 c h;go_enter func132,ntmps132;go_wp2_with fail;go_ret;exact ⟨rfl,f⟩
 have J:=decide_eq_false h;by_cases j:d<0
 ·have B:=decide_eq_true j;have a:hdB o t d s sl=false:=by
   simp only [hdB,inB,gm,decide_eq_false_iff_not];omega
  rw [a];clear a b h1 c h j;go_enter func132,ntmps132;go_wp2_with fail;go_ret;exact ⟨rfl,f⟩
 have B:=decide_eq_false j;by_cases k:131072<d
 ·have N:=decide_eq_true k;have a:hdB o t d s sl=false:=by
   simp only [hdB,inB,gm,decide_eq_false_iff_not];omega
  rw [a];clear a b h1 c h j k;go_enter func132,ntmps132;go_wp2_with fail;go_ret;exact ⟨rfl,f⟩
 have N:=decide_eq_false k;by_cases q:¬ 0<=s
 ·have K:=decide_eq_false q;have a:hdB o t d s sl=false:=by
   simp only [hdB,inB,gm,decide_eq_false_iff_not];omega
  rw [a];clear a b h1 c h j k q;go_enter func132,ntmps132;go_wp2_with fail;go_ret;exact ⟨rfl,f⟩
 have K:decide (0<=s)=true:=decide_eq_true (Decidable.not_not.1 q);by_cases r:¬ s<=4096
 ·have z:=decide_eq_false r;have a:hdB o t d s sl=false:=by
   simp only [hdB,inB,gm,decide_eq_false_iff_not];omega
  rw [a];clear a b h1 c h j k q r;go_enter func132,ntmps132;go_wp2_with fail;go_ret;exact ⟨rfl,f⟩
 have z:decide (s<=4096)=true:=decide_eq_true (Decidable.not_not.1 r);by_cases u:¬ 0<=sl
 ·have P:=decide_eq_false u;have a:hdB o t d s sl=false:=by
   simp only [hdB,inB,gm,decide_eq_false_iff_not];omega
  rw [a];clear a b h1 c h j k q r u;go_enter func132,ntmps132;go_wp2_with fail;go_ret;exact ⟨rfl,f⟩
 have P:decide (0<=sl)=true:=decide_eq_true (Decidable.not_not.1 u);by_cases v:¬ sl<=s
 ·have L:=decide_eq_false v;have a:hdB o t d s sl=false:=by
   simp only [hdB,inB,gm,decide_eq_false_iff_not];omega
  rw [a];clear a b h1 c h j k q r u v;go_enter func132,ntmps132;go_wp2_with fail;go_ret;exact ⟨rfl,f⟩
 have L:decide (sl<=s)=true:=decide_eq_true (Decidable.not_not.1 v);have a:hdB o t d s sl=true:=by
  simp only [hdB,inB,gv,decide_eq_true_eq];omega
 rw [a];clear a b h1 c h j k q r u v;go_enter func132,ntmps132;go_wp2_with fail;go_ret;exact ⟨rfl,f⟩
theorem Zne (key:Nat) (R:key<18446744073709551616) (h:Hd) (hl:h.log<18446744073709551616) (hm:h.map<18446744073709551616) (w:World) :
  Calls prog 88 #[.int X (key:Int),Y h.vals] w fun e w'=>e=O (.int Z (hdC key h))/\Bl w w':=by
 obtain ⟨aa,c⟩:∃ z:Int,z=hdC key h:=⟨_,rfl⟩;rw [<- c];obtain ⟨o,t,d,s,l,m,sl,j⟩:=h;unfold hdC at c;unfold Hd.vals;dsimp only at hl hm c ⊢;have f:=ae c;clear c;have HS:=ae (fun W=>Zeq key R o t d s l m hl hm sl j W);have HF:=ae (fun W=>Zp0 o t d s l m sl j W);have J:=Blk.new w 36 #[iI o,iI t,iI d,iI s,uI (l:Int),uI (m:Int),iI sl,uI (j:Int)];have B:=Zab w (U #[iI o,iI t,iI d,iI s,uI (l:Int),uI (m:Int),iI sl,uI (j:Int)] 36);have hc:=J.c8;clear R hl hm;generalize Zk4 key ⟨o,t,d,s,l,m,sl,j⟩=S at *;generalize hdB o t d s sl=T at *;go_enter func88,ntmps88;go_wp2_with fail;refine (HF.out _).mono ?_;rintro e w1 ⟨rfl,k⟩;have H:=J.keep k;have I:=Zaa B k B.size;clear hc J B k;have hc:=H.c8;cases T with
 | false =>
  go_wp2_with fail;go_ret;exact ⟨by have e:=f.out;simp at e;subst e;rfl,I⟩
 | true =>
  obtain ⟨L,v⟩:∃ b,((j:Int) != (S:Int))=b:=⟨_,rfl⟩;have q:=ae (show (L=false/\j=S)∨(L=true/\¬ j=S) from by
   rw [<- v];by_cases h:j=S
   ·exact .inl ⟨by rw [h];simp,h⟩
   ·exact .inr ⟨by simp only [bne_iff_ne,ne_eq];omega,h⟩)
  clear hc;go_upto_region 4 with fail;refine wp_region_held_drew (S:=(fun W=>Blk W w.heap.size 36 #[iI o,iI t,iI d,iI s,uI (l:Int),uI (m:Int),iI sl,uI (j:Int)]/\Bl w W)) (by kernel_rfl) ?_ (fun a=>?_)
  ·first | done | ((try dsimp only);exact ⟨H,I.drew⟩)
  clear H I;generalize w1.drew=wb at *;refine tq 0 10 rfl ?_;refine th 1 11 rfl (fun _ u=>u.1.c8) ?_;refine tq 2 12 rfl ?_;refine th 3 13 rfl (fun _ u=>u.1.c8) ?_;refine rd 4 (some 14) rfl fun K N=>?_;go_simp;(refine (HS.out _).mono ?_;rintro e w2 ⟨rfl,x⟩);refine N.out _ _ (⟨a.1.keep x,Zaa a.2 x a.2.size⟩) fun a=>?_;clear N K;(try simp only [pS,pB,pZ,pC]);refine tq 5 15 rfl ?_;refine dn ?_;have P:=ae a.2;clear a;clear v;rcases q.out with ⟨rfl,hs⟩ | ⟨rfl,hs⟩
  ·have y:=ae hs;clear hs q;go_wp2_with fail;go_ret;exact ⟨by have e:=f.out;have r:=y.out;simp [r] at e;subst e;rfl,P.out⟩
  ·have y:=ae hs;clear hs q;go_wp2_with fail;go_ret;exact ⟨by have e:=f.out;have r:=y.out;simp [r] at e;subst e;rfl,P.out⟩
theorem Zbn {h:Hd} {b:Nat} (hr:w.rangeAt g b h.vals.toList) {rest:List Oper} {o:Oper} {a:Act} (x:Operand) (ho:o.op=.load 36 x) (f:Region.wanted o (yielded ops a.tmps)=true)
  (d:a.eval x=M (some ⟨g,b,none⟩)) (e:wpList prog ops Q rest (a.put o.dst (Y h.vals)) w):wpList prog ops Q (o::rest) a w :=
 wpList_step fun _ c=>by
  rw [if_pos f];refine wp_load_mid 36 x ho g b d h.vals.toList _ hr underlying36 rfl (by kernel_rfl) ?_;rw [bt];exact c _ _ e
theorem Zut (V:Array Value) (d:V.size=19) (o:Int) (w:World) (j:Hid (∀ W,Bl w W->Calls prog 43 #[Y V] W fun e c=>e=O (.int Z 1)/\Bl W c)) :
  Calls prog 87 #[Y V,.int Z o] w fun e c=>e=O (.int Z 1)/\Bl w c:=by
 have f:=Blk.new w 48 V;have a:=Zab w (U V 48);go_enter func87,ntmps87;go_wp2_with (refine Zad f d _ rfl rfl rfl ?_);refine (j.out _ a).mono ?_;rintro e k ⟨rfl,b⟩;have h:=Zaa a b a.size;go_wp2_with fail;go_ret;exact ⟨rfl,h⟩
theorem Zso (f:Fil) (h:Zby f) (dv cv ev:Value) (o:Int) (w:World) (B:Nat) (j:B<=w.heap.size) (u:Zbs w B f dv cv ev) :
  Calls prog 87 #[Y (f.vals dv cv ev),.int Z o] w fun e J=>e=O (.int Z (Zza f o))/\Bl w J:=by
 have I:=ae (fun (W:World) (y:Bl w W)=>Zgd f h dv cv ev W B (aj j y.size) (u.keep (fun p z=>y.cell (ah z j)) (ag _)));have r:=Blk.new w 48 (f.vals dv cv ev);have l:=Zab w (U (f.vals dv cv ev) 48);have x:Zza f o=if f.office=o then 0 else 22:=rfl
 have k:(f.vals dv cv ev)[0]?=some (.int Z 0):=rfl;have d:(f.vals dv cv ev)[4]?=some (.int Z f.office):=rfl;have m:(f.vals dv cv ev).size=19:=rfl;clear h u;generalize Zza f o=K at *;generalize f.office=b at *;generalize f.vals dv cv ev=V at *;have v:=ae x;clear x;go_enter func87,ntmps87;go_wp2_with (refine Zad r m _ rfl rfl rfl ?_);refine (I.out _ l).mono ?_;rintro e L ⟨rfl,a⟩;have s:=r.keep a;have t:=Zaa l a l.size;have N:=s.cellAt 0 _ k;have c4:=s.cellAt 4 _ d;clear r l a k d;by_cases c:b=o
 ·have H:(b != o)=false:=by simp [c]
  have q:=ae c;clear c;go_wp2_with fail;go_ret;exact ⟨by rw [v.out,if_pos q.out];rfl,t⟩
 ·have H:(b != o)=true:=by simp [c]
  have q:=ae c;clear c;go_wp2_with fail;go_ret;exact ⟨by rw [v.out,if_neg q.out];rfl,t⟩
theorem Zsp {h:Hd} {f:Fil} {dv cv ev:Value} {salt:Nat} (b:Zdk C h i f dv cv ev salt p) (a:h.tick<f.known) (w:World) :
  Calls prog 89 #[Y C] w fun e j=>e=O (.int Z 13)/\Bl w j:=by
 have k:=Blk.new w 50 C;have c:=Zab w (U C 50);have d:=b.size;have l:=decide_eq_true a;have hc:=b.cells k;clear a;go_enter func89,ntmps89;go_wp2_with fail;go_ret;exact ⟨rfl,c⟩
theorem Zuu {h:Hd} {f:Fil} {dv cv ev:Value} {salt:Nat} {ps:List Nat} (l:Zdk C h i f dv cv ev salt (G A ps.length cp)) (r:Zby f) (u:ps.length<=100) (v:ps.length<=cp) (y:Zbw ps) (k:salt<18446744073709551616) (w:World) (B:Nat) (m:B<=w.heap.size) (L:Zbs w B f dv cv ev) (q:Zgq w A ps) :
  Calls prog 89 #[Y C] w fun e w'=>e=O (.int Z (Yhf h f salt i ps))/\Bl w w':=by
 unfold Yhf;by_cases c:h.tick<f.known
 ·rw [if_pos c];exact Zsp l c w
 rw [if_neg c];have P:=ae (fun (W:World) (j:Bl w W)=>Zrm f r dv cv ev salt k W B (aj m j.size) (L.keep (fun p u=>j.cell (ah u m)) (ag _)));have x:=ae (fun (W:World) (j:Bl w W)=>q.keep j);have I:=Blk.new w 50 C;have J:=Zab w (U C 50);have aa:=l.size;have hk:=decide_eq_false c;have t:Zbo (Zdh f) salt<18446744073709551616:=Zcn _ _;have H:(f.vals dv cv ev).size=19:=rfl;have s:=ae l;have z:=ae (fun (W:World) (R:Blk W w.heap.size 50 C)=>l.range R);have hc:=l.cells I;have N:=ae (fun (W:World) (j:Bl w W)=>Zsn h.log (Zbo (Zdh f) salt) i h.size t ps u y A cp v W (x.out W j));generalize Yfy h.log i h.size (Zbo (Zdh f) salt) ps=le at *;generalize Zbo (Zdh f) salt=en at *;generalize f.vals dv cv ev=V at *;clear r L q c l;go_enter func89,ntmps89;go_upto_region 3 with fail;clear hc;refine wp_region_held_drew (S:=(fun W=>Blk W w.heap.size 50 C/\Bl w W)) (by kernel_rfl) ?_ (fun a=>?_)
 ·first | done | ((try dsimp only);exact ⟨I,J.drew⟩)
 clear I J;generalize (w.alloc (U C 50)).drew=wb at *;refine tq 0 10 rfl ?_;refine tq 1 11 rfl ?_;refine th 2 12 rfl (fun _ b=>s.out.cells b.1) ?_;refine tq 3 13 rfl ?_;refine th 4 14 rfl (fun _ b=>s.out.cells b.1) ?_;refine tq 5 15 rfl ?_;refine tq 6 16 rfl ?_;refine th 7 17 rfl (fun _ b=>s.out.cells b.1) ?_;refine tq 8 18 rfl ?_;refine ty 9 19 rfl (Zpi H _ rfl rfl (fun W j=>z.out W j.1) rfl) ?_;refine tq 10 20 rfl ?_;refine th 11 21 rfl (fun _ b=>s.out.cells b.1) ?_;refine tq 13 23 rfl ?_;refine th 14 24 rfl (fun _ b=>s.out.cells b.1) ?_;refine rd 12 (some 22) rfl fun K o=>?_;go_simp;(refine (P.out _ a.2).mono ?_;rintro e w2 ⟨rfl,d⟩);refine o.out _ _ (⟨a.1.keep d,Zaa a.2 d a.2.size⟩) fun a=>?_;clear o K;(try simp only [pS,pB,pZ,pC]);refine rd 15 (some 25) rfl fun K o=>?_;go_simp;(refine (N.out _ a.2).mono ?_;rintro e w2 ⟨rfl,d⟩);refine o.out _ _ (⟨a.1.keep d,Zaa a.2 d a.2.size⟩) fun a=>?_;clear o K;(try simp only [pS,pB,pZ,pC]);refine tq 16 2 rfl ?_;refine dn ?_;have T:=ae a.2;clear a;go_wp2_with fail;go_ret;exact ⟨rfl,T.out⟩
theorem Zuv (V:Array Value) {a:Option Fil} (h:Hd) (w:World) (c:Zud w V a) :
  Calls prog 87 #[Y V,.int Z h.office] w fun e j=>e=O (.int Z (Yh7 h a))/\Bl w j:=by
 cases a with
 | some f =>
  obtain ⟨dv,cv,ev,rfl,b,d⟩:=c;exact Zso f b dv cv ev h.office w _ (ag _) d
 | none=>exact Zut V c.1 h.office w (ae c.2.2)
theorem Yjr {h:Hd} {salt:Nat} {ps:List Nat} (m:Zh7 C h i V salt (G A ps.length cp)) {a:Option Fil} (w:World) (r:Zud w V a) (l:ps.length<=100) (c:ps.length<=cp) (k:Zbw ps) (b:salt<18446744073709551616) (j:Zgq w A ps) (q:Yh7 h a=0) :
  Calls prog 89 #[Y C] w fun e s=>e=O (.int Z (Yi5 h salt i ps a))/\Bl w s:=by
 cases a with
 | some f =>
  obtain ⟨dv,cv,ev,rfl,d,o⟩:=r;exact Zuu m.cop d l c k b w _ (ag _) o j
 | none=>exact absurd (show (1:Int)=0 from q) (by decide)
theorem Zuw {h:Hd} {salt:Nat} (l:Zh7 C h i V salt p) (key:Nat) (f j y:Int) (w:World)
  (H:Hid (∀ W,Bl w W->Calls prog 87 #[Y V,.int Z h.office] W fun e d=>e=O (.int Z f)/\Bl W d))
  (I:Hid (∀ W,Calls prog 88 #[.int X (key:Int),Y h.vals] W fun e d=>e=O (.int Z j)/\Bl W d))
  (v:Hid (f=0->∀ W,Bl w W->Calls prog 89 #[Y C] W fun e d=>e=O (.int Z y)/\Bl W d)) :
  Calls prog 44 #[.int X (key:Int),Y C] w fun e d=>e=O (.int Z (Zcq f j y))/\Bl w d:=by
 have m:=Blk.new w 50 C;have o:=Zab w (U C 50);have s:=l.size;have x:=m.cellAt 0 _ (l.hd 0 _ rfl);go_enter func44,ntmps44;go_wp2_with (refine Zbd l m _ rfl rfl rfl ?_);refine (H.out _ o).mono ?_;rintro e K ⟨rfl,b⟩;have t:=m.keep b;have k:=Zaa o b o.size;have hr:=l.hrange t;clear m o b x;by_cases a:f=0
 ·subst a;have z:=ae (v.out rfl);clear v;go_wp2_with (refine Zbn hr _ rfl rfl rfl ?_);refine (I.out _).mono ?_;rintro e w2 ⟨rfl,c⟩;have J:=t.keep c;have q:=Zaa k c k.size;clear t k c hr;by_cases a:j=0
  ·subst a;go_wp2_with (refine Zaw J s _ rfl rfl rfl ?_);refine (z.out _ q).mono ?_;rintro e L ⟨rfl,u⟩;have B:=Zaa q u q.size;go_wp2_with fail;go_ret;exact ⟨rfl,B⟩
  ·have h1:(j != 0)=true:=by simpa using a
   have r:=ae a;clear a;go_wp2_with fail;go_ret;exact ⟨by unfold Zcq;rw [if_pos rfl,if_neg r.out];rfl,q⟩
 ·have h1:(f != 0)=true:=by simpa using a
  have r:=ae a;clear a v;go_wp2_with fail;go_ret;exact ⟨by unfold Zcq;rw [if_neg r.out];rfl,k⟩
theorem Zj2 {h:Hd} {salt:Nat} {ps:List Nat} (l:Zh7 C h i V salt (G A ps.length cp)) {a:Option Fil} (w:World) (m:Zud w V a) (key:Nat) (r:key<18446744073709551616) (c:h.log<18446744073709551616) (hm:h.map<18446744073709551616) (o:ps.length<=100) (f:ps.length<=cp) (k:Zbw ps) (b:salt<18446744073709551616) (j:Zgq w A ps) :
  Calls prog 44 #[.int X (key:Int),Y C] w fun e s=>e=O (.int Z (chE key h salt i ps a))/\Bl w s :=
 Zuw l key _ _ _ w (ae fun W d=>Zuv V h W (m.keep d)) (ae fun W=>Zne key r h c hm W) (ae fun q W d=>Yjr l W (m.keep d) o f k b (j.keep d) q)
theorem Zem {fn:Func} {p:Tmp} (h:fn.results=#[.cell p 36]) (a:Array Value) {cs:Array Value} (b:a.getD p undef=M (some ⟨g,0,none⟩)) (c:Blk w g 36 cs) (hs:cs.size=8) :
  (results fn a).run prog w=.ok (Y cs) w :=
 results_cell_row h a w g 36 cs _ _ b c underlying36 rfl (by rw [hs];kernel_rfl)
theorem Zyt (h:Hd) (hl:h.log<18446744073709551616) (hm:h.map<18446744073709551616) (H a:Int) (J:-9223372036854775808<=H/\H<=9223372036854775807) (w:World) :
  Calls prog 33 #[Y h.vals,.int Z H,.int Z a] w fun r w'=>(∃ h':Hd,r=O (Y h'.vals)/\h'.log<18446744073709551616/\h'.map<18446744073709551616)/\Bl w w':=by
 obtain ⟨o,t,d,s,l,m,sl,q⟩:=h;unfold Hd.vals;dsimp only at hl hm ⊢;have v:=Zik a;have R:=Zij a;generalize u64 a=j at *;have L:=ae hl;have P:=ae hm;have W:=ae R;clear hl hm R;have b:=(Blk.new w 36 #[iI o,iI t,iI d,iI s,uI (l:Int),uI (m:Int),iI sl,uI (q:Int)]).alloc (U #[iI 0,iI 0,iI 0,iI 0,uI 0,uI 0,iI 0,uI 0] 36);have u:=Blk.new (w.alloc (U #[iI o,iI t,iI d,iI s,uI (l:Int),uI (m:Int),iI sl,uI (q:Int)] 36)) 36 #[iI 0,iI 0,iI 0,iI 0,uI 0,uI 0,iI 0,uI 0];rw [ax] at u;have x:=(Zab w (U #[iI o,iI t,iI d,iI s,uI (l:Int),uI (m:Int),iI sl,uI (q:Int)] 36)).alloc (by simp) (U #[iI 0,iI 0,iI 0,iI 0,uI 0,uI 0,iI 0,uI 0] 36);go_enter func33,ntmps33;go_upto_region 1 with fail;generalize (w.alloc (U #[iI o,iI t,iI d,iI s,uI (l:Int),uI (m:Int),iI sl,uI (q:Int)] 36)).alloc (U #[iI 0,iI 0,iI 0,iI 0,uI 0,uI 0,iI 0,uI 0] 36)=w2 at *;go_wp2_with fail;refine (Zaz H 8 _ J.1 J.2 (by omega) (by omega)).mono ?_;rintro r w' ⟨rfl,rfl⟩;have K:=Zcs H 8 (by omega);have k1:=Zhq H 8 (by omega);generalize arN H 8=k at *;clear J;obtain rfl | rfl | rfl | rfl | rfl | rfl | rfl | rfl:k=0∨k=1∨k=2∨k=3∨k=4∨k=5∨k=6∨k=7:=by omega
 ·clear K k1;have c0:=b.cell 0;have f0:=b.frozen 0;go_upto_region 17 with fail;have c:=b.set 0 (.int Z a);have y:=u.far (p:=⟨w.heap.size,0,none⟩) (ar _) (.int Z a);have f:=x.setCell (p:=⟨w.heap.size,0,none⟩) (ag _) (.int Z a);simp only [pB,pZ] at c;clear c0 f0 b u x v;generalize w2.setCell ⟨w.heap.size,0,none⟩ (.int Z a)=B at *;have hr:B.rangeAt w.heap.size 0 (Hd.vals ⟨a,t,d,s,l,m,sl,q⟩).toList:=Zc8 c;go_wp2_with (first | (refine Zbn hr _ rfl rfl rfl ?_) | (refine Zao (T:=36) (n:=8) (by kernel_rfl) y rfl _ _ rfl rfl rfl _ rfl rfl (by kernel_rfl) ?_;intro N z I));exact bodyPost_ret (Zem rfl _ rfl z rfl) rfl ⟨⟨⟨a,t,d,s,l,m,sl,q⟩,rfl,L.out,P.out⟩,f.grown I f.size (fun k e=>by injection e with e;omega)⟩
 ·clear K k1;have c1:=b.cell 1;have f1:=b.frozen 1;go_upto_region 17 with fail;have c:=b.set 1 (.int Z a);have y:=u.far (p:=⟨w.heap.size,1,none⟩) (ar _) (.int Z a);have f:=x.setCell (p:=⟨w.heap.size,1,none⟩) (ag _) (.int Z a);simp only [pB,pZ,pC] at c;clear c1 f1 b u x v;generalize w2.setCell ⟨w.heap.size,1,none⟩ (.int Z a)=B at *;have hr:B.rangeAt w.heap.size 0 (Hd.vals ⟨o,a,d,s,l,m,sl,q⟩).toList:=Zc8 c;go_wp2_with (first | (refine Zbn hr _ rfl rfl rfl ?_) | (refine Zao (T:=36) (n:=8) (by kernel_rfl) y rfl _ _ rfl rfl rfl _ rfl rfl (by kernel_rfl) ?_;intro N z I));exact bodyPost_ret (Zem rfl _ rfl z rfl) rfl ⟨⟨⟨o,a,d,s,l,m,sl,q⟩,rfl,L.out,P.out⟩,f.grown I f.size (fun k e=>by injection e with e;omega)⟩
 ·clear K k1;have c2:=b.cell 2;have f2:=b.frozen 2;go_upto_region 17 with fail;have c:=b.set 2 (.int Z a);have y:=u.far (p:=⟨w.heap.size,2,none⟩) (ar _) (.int Z a);have f:=x.setCell (p:=⟨w.heap.size,2,none⟩) (ag _) (.int Z a);simp only [pB,pZ,pC] at c;clear c2 f2 b u x v;generalize w2.setCell ⟨w.heap.size,2,none⟩ (.int Z a)=B at *;have hr:B.rangeAt w.heap.size 0 (Hd.vals ⟨o,t,a,s,l,m,sl,q⟩).toList:=Zc8 c;go_wp2_with (first | (refine Zbn hr _ rfl rfl rfl ?_) | (refine Zao (T:=36) (n:=8) (by kernel_rfl) y rfl _ _ rfl rfl rfl _ rfl rfl (by kernel_rfl) ?_;intro N z I));exact bodyPost_ret (Zem rfl _ rfl z rfl) rfl ⟨⟨⟨o,t,a,s,l,m,sl,q⟩,rfl,L.out,P.out⟩,f.grown I f.size (fun k e=>by injection e with e;omega)⟩
 ·clear K k1;have c3:=b.cell 3;have f3:=b.frozen 3;go_upto_region 17 with fail;have c:=b.set 3 (.int Z a);have y:=u.far (p:=⟨w.heap.size,3,none⟩) (ar _) (.int Z a);have f:=x.setCell (p:=⟨w.heap.size,3,none⟩) (ag _) (.int Z a);simp only [pB,pZ,pC] at c;clear c3 f3 b u x v;generalize w2.setCell ⟨w.heap.size,3,none⟩ (.int Z a)=B at *;have hr:B.rangeAt w.heap.size 0 (Hd.vals ⟨o,t,d,a,l,m,sl,q⟩).toList:=Zc8 c;go_wp2_with (first | (refine Zbn hr _ rfl rfl rfl ?_) | (refine Zao (T:=36) (n:=8) (by kernel_rfl) y rfl _ _ rfl rfl rfl _ rfl rfl (by kernel_rfl) ?_;intro N z I));exact bodyPost_ret (Zem rfl _ rfl z rfl) rfl ⟨⟨⟨o,t,d,a,l,m,sl,q⟩,rfl,L.out,P.out⟩,f.grown I f.size (fun k e=>by injection e with e;omega)⟩
 ·clear K k1;have c4:=b.cell 4;have f4:=b.frozen 4;go_upto_region 17 with fail;have c:=b.set 4 (.int X (j:Int));have y:=u.far (p:=⟨w.heap.size,4,none⟩) (ar _) (.int X (j:Int));have f:=x.setCell (p:=⟨w.heap.size,4,none⟩) (ag _) (.int X (j:Int));simp only [pB,pZ,pC] at c;clear c4 f4 b u x v;generalize w2.setCell ⟨w.heap.size,4,none⟩ (.int X (j:Int))=B at *;have hr:B.rangeAt w.heap.size 0 (Hd.vals ⟨o,t,d,s,j,m,sl,q⟩).toList:=Zc8 c;go_wp2_with (first | (refine Zbn hr _ rfl rfl rfl ?_) | (refine Zao (T:=36) (n:=8) (by kernel_rfl) y rfl _ _ rfl rfl rfl _ rfl rfl (by kernel_rfl) ?_;intro N z I));exact bodyPost_ret (Zem rfl _ rfl z rfl) rfl ⟨⟨⟨o,t,d,s,j,m,sl,q⟩,rfl,W.out,P.out⟩,f.grown I f.size (fun k e=>by injection e with e;omega)⟩
 ·clear K k1;have c5:=b.cell 5;have f5:=b.frozen 5;go_upto_region 17 with fail;have c:=b.set 5 (.int X (j:Int));have y:=u.far (p:=⟨w.heap.size,5,none⟩) (ar _) (.int X (j:Int));have f:=x.setCell (p:=⟨w.heap.size,5,none⟩) (ag _) (.int X (j:Int));simp only [pB,pZ,pC] at c;clear c5 f5 b u x v;generalize w2.setCell ⟨w.heap.size,5,none⟩ (.int X (j:Int))=B at *;have hr:B.rangeAt w.heap.size 0 (Hd.vals ⟨o,t,d,s,l,j,sl,q⟩).toList:=Zc8 c;go_wp2_with (first | (refine Zbn hr _ rfl rfl rfl ?_) | (refine Zao (T:=36) (n:=8) (by kernel_rfl) y rfl _ _ rfl rfl rfl _ rfl rfl (by kernel_rfl) ?_;intro N z I));exact bodyPost_ret (Zem rfl _ rfl z rfl) rfl ⟨⟨⟨o,t,d,s,l,j,sl,q⟩,rfl,L.out,W.out⟩,f.grown I f.size (fun k e=>by injection e with e;omega)⟩
 ·clear K k1;have c6:=b.cell 6;have f6:=b.frozen 6;go_upto_region 17 with fail;have c:=b.set 6 (.int Z a);have y:=u.far (p:=⟨w.heap.size,6,none⟩) (ar _) (.int Z a);have f:=x.setCell (p:=⟨w.heap.size,6,none⟩) (ag _) (.int Z a);simp only [pB,pZ,pC] at c;clear c6 f6 b u x v;generalize w2.setCell ⟨w.heap.size,6,none⟩ (.int Z a)=B at *;have hr:B.rangeAt w.heap.size 0 (Hd.vals ⟨o,t,d,s,l,m,a,q⟩).toList:=Zc8 c;go_wp2_with (first | (refine Zbn hr _ rfl rfl rfl ?_) | (refine Zao (T:=36) (n:=8) (by kernel_rfl) y rfl _ _ rfl rfl rfl _ rfl rfl (by kernel_rfl) ?_;intro N z I));exact bodyPost_ret (Zem rfl _ rfl z rfl) rfl ⟨⟨⟨o,t,d,s,l,m,a,q⟩,rfl,L.out,P.out⟩,f.grown I f.size (fun k e=>by injection e with e;omega)⟩
 ·clear K k1;have c7:=b.cell 7;have f7:=b.frozen 7;go_upto_region 17 with fail;have c:=b.set 7 (.int X (j:Int));have y:=u.far (p:=⟨w.heap.size,7,none⟩) (ar _) (.int X (j:Int));have f:=x.setCell (p:=⟨w.heap.size,7,none⟩) (ag _) (.int X (j:Int));simp only [pB,pZ,pC] at c;clear c7 f7 b u x v;generalize w2.setCell ⟨w.heap.size,7,none⟩ (.int X (j:Int))=B at *;have hr:B.rangeAt w.heap.size 0 (Hd.vals ⟨o,t,d,s,l,m,sl,j⟩).toList:=Zc8 c;go_wp2_with (first | (refine Zbn hr _ rfl rfl rfl ?_) | (refine Zao (T:=36) (n:=8) (by kernel_rfl) y rfl _ _ rfl rfl rfl _ rfl rfl (by kernel_rfl) ?_;intro N z I));exact bodyPost_ret (Zem rfl _ rfl z rfl) rfl ⟨⟨⟨o,t,d,s,l,m,sl,j⟩,rfl,L.out,P.out⟩,f.grown I f.size (fun k e=>by injection e with e;omega)⟩
theorem Yca {P:Program} {y:Region.Mode} (J:List Nat) (ab:J.Nodup) (I:Nat->(Nat->Bool)->World->Prop) (a:Act) (N L1:Array Bool) (f0:Nat)
  (am:∀ j∈J,N[j]?=some false)
  (hA:∀ j∈J,∃ o,ops[j]?=some o/\o.after.all (fun e=>!Region.binds y e || N.getD e.on false)=true)
  (hB:∀ i,N.getD i true=false->i ∉ J->∀ j∈J,∃ o,ops[i]?=some o/\∃ e∈o.after,Region.binds y e=true/\(e.on=j∨(N.getD e.on false=false/\e.on ∉ J)))
  (h1:∀ i∈J,L1[i]?=some true) (h2:∀ i,i ∉ J->L1[i]?=N[i]?)
  (hJ:∀ j∈J,∀ (m:Nat) (done:Nat->Bool) (w:World) (K:Act->World->Prop),done j=false->I (m+1) done w->S w->(∀ z,I m (fun i=>i == j || done i) z->S z->K a z)->wpOp P ops Q j K a w)
  (R:∀ (done:Nat->Bool) w,(∀ j∈J,done j=true)->I 0 done w->S w->wpAnyH P y ops Q S f0 L1 a w) :
  ∀ (m:Nat) (L:Array Bool),(J.filter (fun j=>!L.getD j true)).length=m->(∀ i,i ∉ J->L[i]?=N[i]?)->(∀ j∈J,j<L.size)->∀ w,I m (fun i=>L.getD i true) w->S w->wpAnyH P y ops Q S (f0+m) L a w:=by
 intro m;induction m with
 | zero =>
  intro L hm hL v w hI hS;have f:∀ i∈J,L.getD i true=true:=fun i hi=>by
   cases h:L.getD i true with
   | true=>rfl
   | false =>
    have h5:i∈J.filter (fun j=>!L.getD j true):=List.mem_filter.2 ⟨hi,by rw [h];rfl⟩;have:=List.length_pos_of_mem h5;omega
  have e:L=L1:=by
   refine Array.ext_getElem? fun i=>?_;by_cases hi:i∈J
   ·rw [h1 i hi];have c:=f i hi;have s:=v i hi;rw [eh s];rw [db,eh s] at c;simpa using c
   ·rw [hL i hi,h2 i hi]
  have:=R (fun i=>L.getD i true) w f hI hS;rw [<- e] at this;exact this
 | succ m ih =>
  intro L hm hL v w hI hS;obtain ⟨j0,aa⟩:∃ j,j∈J.filter (fun j=>!L.getD j true):=by
   cases hf:J.filter (fun j=>!L.getD j true) with
   | nil=>rw [hf] at hm;simp at hm
   | cons x l=>exact ⟨x,by simp⟩
  obtain ⟨t,b⟩:=List.mem_filter.1 aa;simp only [Bool.not_eq_true'] at b;have u:∀ i,i ∉ J->∀ d,L.getD i d=N.getD i d:=fun i hi d=>by rw [db,db,hL i hi]
  show (Region.ready y ops L=[]->Q .normal a w)/\∀ i∈Region.ready y ops L,wpOp P ops Q i (fun a' z=>S z/\wpAnyH P y ops Q S (f0+m) (L.setIfInBounds i true) a' z) a w;refine ⟨fun hr=>?_,fun i hi=>?_⟩
  ·exfalso;obtain ⟨o,ho,f⟩:=hA j0 t;have:j0∈Region.ready y ops L:=Ziw.2 ⟨(Array.getElem?_eq_some_iff.1 ho).1,b,by
    rw [ho];simp only [Option.map_some,Option.getD_some,ij] at f ⊢;intro e he;have c:=f e he;simp only [jh] at c ⊢;rcases c with c | c
    ·exact .inl c
    ·refine .inr ?_;by_cases T:e.on∈J
     ·rw [db,am _ T] at c;simp at c
     ·rw [u _ T];exact c⟩
   rw [hr] at this;simp at this
  ·obtain ⟨an,H,B⟩:=Ziw.1 hi;have q:i∈J:=by
    refine Classical.byContradiction fun q=>?_;obtain ⟨o,ho,e,he,hb,al⟩:=hB i (by rw [<- u i q];exact H) q j0 t;rw [ho] at B;simp only [Option.map_some,Option.getD_some,ij] at B;have c:=B e he;rw [hb] at c;simp only [Bool.not_true,Bool.false_or] at c;rcases al with rfl | ⟨h4,h5⟩
    ·have s:=v _ t;rw [db,eh s] at c b;simp at c b;rw [c] at b;cases b
    ·rw [u _ h5,h4] at c;cases c
   have s:=v i q;have af:(fun k=>(L.setIfInBounds i true).getD k true)=fun k=>k == i || L.getD k true:=funext fun k=>by
    by_cases r:k=i
    ·subst r;simp [Array.getD_eq_getD_getElem?,s]
    ·have:(k == i)=false:=by simpa using r
     rw [this,Bool.false_or,db,db,bw (Ne.symm r)]
   refine hJ i q m (fun k=>L.getD k true) w _ H hI hS (fun z ad W=>⟨W,ih (L.setIfInBounds i true) ?_ (fun k hk=>?_) (fun k hk=>by rw [gt];exact v k hk) z (by rw [af];exact ad) W⟩)
   ·have e:J.filter (fun j=>!(L.setIfInBounds i true).getD j true)=(J.filter (fun j=>!L.getD j true)).erase i:=by
     rw [List.Nodup.erase_eq_filter (List.Pairwise.filter _ ab:List.Nodup _),List.filter_filter];refine List.filter_congr fun k hk=>?_;by_cases r:k=i
     ·subst r;simp [Array.getD_eq_getD_getElem?,s]
     ·have:(k != i)=true:=by simpa using r
      rw [this,Bool.true_and,db,db,bw (Ne.symm r)]
    rw [e,List.length_erase_of_mem (List.mem_filter.2 ⟨q,by simpa using H⟩),hm];rfl
   ·rw [bw (fun e:i=k=>hk (e ▸ q))];exact hL k hk
theorem Ycb {P:Program} {s:Region.Mode} {c:Array Bool} (J:List Nat) (l:J.Nodup) (b:Yd4 s ops c J=true) (I:Nat->(Nat->Bool)->World->Prop) (a:Act) (r:Nat)
  (v:∀ j∈J,∀ (m:Nat) (done:Nat->Bool) (w:World) (K:Act->World->Prop),done j=false->I (m+1) done w->S w->(∀ t,I m (fun i=>i == j || done i) t->S t->K a t)->wpOp P ops Q j K a w)
  (f:∀ (done:Nat->Bool) w,(∀ j∈J,done j=true)->I 0 done w->S w->wpAnyH P s ops Q S r (J.foldl (fun L j=>L.setIfInBounds j true) c) a w) (w:World) (x:I J.length (fun i=>c.getD i true) w) (z:S w):wpAnyH P s ops Q S (r+J.length) c a w:=by
 unfold Yd4 at b;simp only [gv,List.all_eq_true,beq_iff_eq,List.mem_range,jh] at b;have k:∀ j∈J,j<c.size:=fun j d=>(Array.getElem?_eq_some_iff.1 (b.1 j d).1).1;refine Yca J l I a c _ r (fun j d=>(b.1 j d).1) (fun j d=>?_) (fun i hi hn j d=>?_) (fun i hi=>Zoz J c i hi (k i hi)) (fun i hi=>Zix J c i hi) v f J.length c ?_ (fun _ _=>rfl) k w x z
 ·have h:=(b.1 j d).2;cases ho:ops[j]? with
  | none=>rw [ho] at h;cases h
  | some o=>rw [ho] at h;exact ⟨o,rfl,h⟩
 ·have q:i<c.size:=by
   refine Classical.byContradiction fun h=>?_;rw [db,gw (by omega)] at hi;cases hi
  rcases b.2 i q with (h | h) | h
  ·rw [h] at hi;cases hi
  ·exact absurd (by simpa using h) hn
  ·have h:=h j d;cases ho:ops[i]? with
   | none=>rw [ho] at h;cases h
   | some o =>
    rw [ho] at h;dsimp only at h;rw [<- Array.any_toList,List.any_eq_true] at h;obtain ⟨e,y,h⟩:=h;simp only [gv,jh,beq_iff_eq,Bool.not_eq_true'] at h;refine ⟨o,rfl,e,by simpa using y,h.1,?_⟩;rcases h.2 with h | ⟨h1,u⟩
    ·exact .inl h
    ·exact .inr ⟨h1,by simpa using u⟩
 ·congr 1;refine List.filter_eq_self.2 fun j d=>?_;have h:=(b.1 j d).1;rw [db,h];rfl
theorem Zwy:∀ (l:List (Int × Bool)) (p:Int × Bool),p∈l->Maps.has (Zca l) (.int Z p.1)=true
 | q::l,p,h=>by
  by_cases e:q.1=p.1
  ·rw [Zca,e];exact Maps.has_put_same (Zgz l) (by trivial) _
  ·rw [Zca,Maps.has_put_other (fun a=>e (by injection a with _ a;exact a.symm))];rcases List.mem_cons.1 h with rfl | h
   ·exact absurd rfl e
   ·exact Zwy l p h
theorem Zp1 (x:Int) (c:Bool):∀ (l:List (Int × Bool)),(∀ zd:DataW Unit,(Zca l).atKey (.int Z x) zd=.lit (.bool c))->(x,c)∈l
 | [],h=>by
  have:=h .nil;unfold Zca at this;simp [DataW.atKey] at this
 | p::l,h=>by
  by_cases a:p.1=x
  ·have:=h .nil;rw [Zca,a,Maps.atKey_put_same (Zgz l) (by trivial)] at this;injection this with this;injection this with this;obtain ⟨k,b⟩:=p;dsimp only at a this;subst a this;exact da
  ·refine dh _ (Zp1 x c l (fun zd=>?_));have:=h zd;rw [Zca,Maps.atKey_put_other (fun e=>a (by injection e with _ e;exact e.symm))] at this;exact this
theorem Ycc (d:Option Tmp) (ty:TypeId) (e:String) (after:Array Edge) (j:Option (Nat × Bool)) (r:Operand->Value) (x y:Operand) (a b:Int) (k:r x=Y #[.int Z a,.int Z b]) (hy:r y=Y #[.int Z 0,.int Z 0]) (w:World) :
  (execOp r ⟨d,.binOp .neq 38 x y 38,ty,e,after,j⟩).run prog w=.ok (.value (.bool (!(a == 0 && b == 0)))) w:=by
 simp only [execOp];by_cases h:a=0
 ·subst h;by_cases f:b=0
  ·subst f;go_simp
  ·have c:(b == 0)=false:=by simpa using f
   rw [c];go_simp
 ·have c:(a == 0)=false:=by simpa using h
  rw [c];go_simp
theorem Zj3 {rest:List Oper} {o:Oper} {a:Act} (N:o.guard=none) (J:Operand) (H:o.op=Op.next J false) (l tb:List (Int × Bool)) (K:∀ p∈l,p∈tb)
  (b r n:Nat) (left:Lit->Bool) (j:Nat) (B:a.eval J=M (some ⟨r,0,none⟩)) (h:w.ranges prog 3 Za5 b r n (Zca l) left j)
  (k:(∀ I,left I=false)->wpList prog ops Q rest (a.put o.dst (E #[.bool false])) w)
  (hF:∀ (x:Int) (e:World) (d:Nat),Hid ((x,false)∈tb)->Hid (e.ranges prog 3 Za5 b r n (Zca l) (fun z=>left z && !z.sameKey (.int Z x)) d)->d<j->w.grownBy e (some r)->(Instr.entry (M (some ⟨r,0,none⟩))).run prog e=.ok (E #[.int Z x,.bool false]) e ->
   wpList prog ops Q rest (a.put o.dst (E #[.bool true,.int Z x,.bool false])) e)
  (hT:∀ (x:Int) (e:World) (d:Nat),Hid ((x,true)∈tb)->Hid (e.ranges prog 3 Za5 b r n (Zca l) (fun z=>left z && !z.sameKey (.int Z x)) d)->d<j->w.grownBy e (some r)->(Instr.entry (M (some ⟨r,0,none⟩))).run prog e=.ok (E #[.int Z x,.bool true]) e ->
   wpList prog ops Q rest (a.put o.dst (E #[.bool true,.int Z x,.bool true])) e) :
  wpList prog ops Q (o::rest) a w:=by
 refine wpList_next_ranges w N J H 3 (Maps.int_keyed underlying3) Za5 (Value.int Z) Value.bool (fun key I f=>by obtain ⟨x,rfl,_⟩:=Maps.keyOf_int_inv underlying3 f;exact ⟨x,rfl⟩) (fun u y R=>by cases u <;> simp [Za5] at R;exact ⟨_,rfl⟩) b r n _ left j B h (fun _ hl=>k hl) ?_;intro x c I y e d f W T v q t m L s;obtain ⟨x',P,rfl,_⟩:=Maps.keyOf_int_inv underlying3 f;cases P;cases T;cases c with
 | false=>exact hF x e d (ae (K _ (Zp1 x false l v))) (ae q) t m s
 | true=>exact hT x e d (ae (K _ (Zp1 x true l v))) (ae q) t m s
def Zgl (b1 b2 b3 b4 b5 b6 b7 b8 b9 b10 b11:Bool):List (Int × Bool):=[(1,b1),(2,b2),(4,b3),(8,b4),(16,b5),(32,b6),(64,b7),(128,b8),(256,b9),(512,b10),(1024,b11)]
theorem Zux (e m j h k d l o f b c:Bool):Zpk (Zgl e m j h k d l o f b c) &&& ~~~2047#64=0#64:=by
 refine (Zk9 _ _).2 (fun p a _=>?_);unfold Zgl at a;simp only [dt,dl,or_false] at a;rcases a with rfl | rfl | rfl | rfl | rfl | rfl | rfl | rfl | rfl | rfl | rfl <;> (dsimp only;decide)
theorem Ycd (f r l k m e o s j a b:Bool) (p q:Int × Bool) (c:p∈Zgl f r l k m e o s j a b) (d:q∈Zgl f r l k m e o s j a b) (h:p.1=q.1):p=q:=by
 unfold Zgl at c d;simp only [dt,dl,or_false] at c d;rcases c with rfl | rfl | rfl | rfl | rfl | rfl | rfl | rfl | rfl | rfl | rfl <;> rcases d with rfl | rfl | rfl | rfl | rfl | rfl | rfl | rfl | rfl | rfl | rfl <;> first | rfl | (dsimp only at h;exact absurd h (by decide))
theorem Zuy (fo fn:Int) (b:Bool) (h:(fo != 0 || fn != 0)=b):((fo != 0)=true/\b=true)∨((fo != 0)=false/\(fn != 0)=true/\b=true)∨((fo != 0)=false/\(fn != 0)=false/\b=false):=by
 revert h
 cases (fo != 0) <;> cases (fn != 0) <;> cases b <;> decide
theorem Zky {W W':World} {a:Nat} {b c:Array Value} (h:Blk W w.heap.size 48 b/\Blk W (w.heap.size+1) 46 c/\Bl w W) {row:Option Nat} (d:W.grownBy W' row) (hr:∀ q,row=some q->q=a) (hmb:w.heap.size+1<a) :
  Blk W' w.heap.size 48 b/\Blk W' (w.heap.size+1) 46 c/\Bl w W':=Zjr h d hr hmb
theorem Yiw (w:World) (kn:Nat) (F:Int) (bn:kn<22) (hG:w.cell? ⟨0,kn,none⟩=some (.int Z F)) (h0:0<w.heap.size) (day known file office party other number amount sn sd fo fn:Int) (Ad Ac Al Ae:Option Addr) (nd cd nc cc nl cl ne ce:Nat) (bl:nd<=1000000) (bo:nc<=1000000)
  (b1 b2 b3 b4 b5 b6 b7 b8 b9 J B:Bool) (h1:(file != 0)=b1) (h2:(office != 0)=b2) (h3:(party != 0)=b3) (h4:(other != 0)=b4) (h5:(number != 0)=b5) (h6:(amount != 0)=b6) (h7:(!(sn == 0 && sd == 0))=b7) (h8:decide (0<nd+nc)=b8) (h9:decide (0<nl)=b9) (be:decide (0<ne)=J) (av:(fo != 0 || fn != 0)=B) :
  Calls prog 72 #[Y #[iI (kn:Int),iI day,iI known,iI file,iI office,iI party,iI other,iI number,iI amount,iI sn,iI sd,G Ad nd cd,G Ac nc cc,G Al nl cl,G Ae ne ce,iI fo,iI fn,nN,nN]] w
   fun e y=>e=O (.bool ((Zgl b1 b2 b3 b4 b5 b6 b7 b8 b9 J B).all fun p=>!p.2 || (BitVec.ofInt 64 p.1 &&& ~~~(BitVec.ofInt 64 F) == 0#64)))/\Bl w y:=by
 have X0:=(Blk.new w 48 #[iI (kn:Int),iI day,iI known,iI file,iI office,iI party,iI other,iI number,iI amount,iI sn,iI sd,G Ad nd cd,G Ac nc cc,G Al nl cl,G Ae ne ce,iI fo,iI fn,nN,nN]);have P0:=Zab w (U #[iI (kn:Int),iI day,iI known,iI file,iI office,iI party,iI other,iI number,iI amount,iI sn,iI sd,G Ad nd cd,G Ac nc cc,G Al nl cl,G Ae ne ce,iI fo,iI fn,nN,nN] 48);have H7:=ae h7;clear h7;obtain ⟨nn,a4⟩:∃ z:Nat,nd+nc=z:=⟨_,rfl⟩;rw [a4] at h8;have bf:IntKind.i64.wrap ((nd:Int)+(nc:Int))=(nn:Int):=by rw [az];omega
 have hc:=X0.c19;go_enter func72,ntmps72;have X1:=X0.alloc (U #[.int Z fo,.int Z fn,G none 0 0,G none 0 0] 46);have Y1:=Blk.new (w.alloc (U #[iI (kn:Int),iI day,iI known,iI file,iI office,iI party,iI other,iI number,iI amount,iI sn,iI sd,G Ad nd cd,G Ac nc cc,G Al nl cl,G Ae ne ce,iI fo,iI fn,nN,nN] 48)) 46 #[.int Z fo,.int Z fn,G none 0 0,G none 0 0];rw [ax] at Y1;have P1:=P0.alloc P0.size (U #[.int Z fo,.int Z fn,G none 0 0,G none 0 0] 46);go_upto_region 3 with fail;clear hc X0 P0;generalize ((w.alloc (U #[iI (kn:Int),iI day,iI known,iI file,iI office,iI party,iI other,iI number,iI amount,iI sn,iI sd,G Ad nd cd,G Ac nc cc,G Al nl cl,G Ae ne ce,iI fo,iI fn,nN,nN] 48)).alloc (U #[.int Z fo,.int Z fn,G none 0 0,G none 0 0] 46))=w2 at *;refine wp_region_held_drew (S:=(fun y=>Blk y w.heap.size 48 #[iI (kn:Int),iI day,iI known,iI file,iI office,iI party,iI other,iI number,iI amount,iI sn,iI sd,G Ad nd cd,G Ac nc cc,G Al nl cl,G Ae ne ce,iI fo,iI fn,nN,nN]/\Blk y (w.heap.size+1) 46 #[.int Z fo,.int Z fn,G none 0 0,G none 0 0]/\Bl w y)) (by kernel_rfl) ?_ (fun s=>?_)
 ·first | done | ((try dsimp only);exact ⟨X1.drew,Y1.drew,P1.drew⟩)
 clear X1 Y1 P1;refine tq 1 10 rfl ?_;refine th 2 11 rfl (fun _ c=>c.1.cell 3) ?_;refine tq 3 12 rfl ?_;refine tq 5 13 rfl ?_;refine th 6 14 rfl (fun _ c=>c.1.cell 4) ?_;refine tq 7 15 rfl ?_;refine tq 9 16 rfl ?_;refine th 10 17 rfl (fun _ c=>c.1.cell 5) ?_;refine tq 11 18 rfl ?_;refine tq 13 19 rfl ?_;refine th 14 20 rfl (fun _ c=>c.1.cell 6) ?_;refine tq 15 21 rfl ?_;refine tq 17 22 rfl ?_;refine th 18 23 rfl (fun _ c=>c.1.cell 7) ?_;refine tq 19 24 rfl ?_;refine tq 21 25 rfl ?_;refine th 22 26 rfl (fun _ c=>c.1.cell 8) ?_;refine tq 23 27 rfl ?_;refine tq 25 28 rfl ?_;refine tq 26 29 rfl ?_ (hy:=by intro y c;(try dsimp only at c);have hc:=c.1.cell 9;have bp:=c.1.cell 10;go_simp;try (with_reducible rfl));refine tq 27 30 rfl ?_;refine tq 28 31 rfl ?_ (hy:=by intro y c;(try dsimp only at c);refine (Ycc _ _ _ _ _ _ (.tmp 29) (.tmp 30) sn sd rfl rfl _).trans ?_;rw [H7.out];try (with_reducible rfl));refine tq 30 32 rfl ?_;refine tq 31 33 rfl ?_;refine th 32 34 rfl (fun _ c=>c.1.cell 11) ?_;refine tq 33 35 rfl ?_;refine tq 34 36 rfl ?_;refine tq 35 37 rfl ?_;refine th 36 38 rfl (fun _ c=>c.1.cell 12) ?_;refine tq 37 39 rfl ?_;refine tq 38 40 rfl ?_;refine tq 39 41 rfl ?_;refine tq 41 42 rfl ?_;refine th 42 43 rfl (fun _ c=>c.1.cell 13) ?_;refine tq 43 44 rfl ?_;refine tq 44 45 rfl ?_;refine tq 46 46 rfl ?_;refine th 47 47 rfl (fun _ c=>c.1.cell 14) ?_;refine tq 48 48 rfl ?_;refine tq 49 49 rfl ?_;refine tq 51 50 rfl ?_;refine th 52 51 rfl (fun _ c=>c.2.1.cell 0) ?_;rcases Zuy fo fn B av with ⟨a3,R⟩ | ⟨a3,bc,R⟩ | ⟨a3,bc,R⟩
 all_goals
  have am:=ae R;clear av R;refine tq 53 52 rfl ?_;refine tq 54 53 rfl ?_
  first
   |skip
    refine tz 55 54 rfl ?_;refine tz 56 55 rfl ?_;refine tz 57 56 rfl ?_
   |skip
    refine tq 55 54 rfl ?_;refine th 56 55 rfl (fun _ c=>c.2.1.cell 1) ?_;refine tq 57 56 rfl ?_
  refine tq 58 57 rfl ?_;refine tq 59 58 rfl ?_
  first
   |skip
    refine tz 60 59 rfl ?_;refine tz 61 60 rfl ?_;refine tz 62 61 rfl ?_;refine tz 63 62 rfl ?_;refine tz 64 63 rfl ?_;refine tz 65 64 rfl ?_;refine tz 66 65 rfl ?_;refine tz 67 66 rfl ?_
   |skip
    refine tq 60 59 rfl ?_;refine th 61 60 rfl (fun _ c=>c.2.1.cell 2) ?_;refine tq 62 61 rfl ?_;refine tq 63 62 rfl ?_;refine th 64 63 rfl (fun _ c=>c.2.1.cell 3) ?_;refine tq 65 64 rfl ?_;refine tq 66 65 rfl ?_;refine tq 67 66 rfl ?_
  refine tq 68 67 rfl ?_;have a9:=run_makeMap (P:=prog) 104 w2.drew;have k:w.heap.size+1<w2.drew.heap.size:=s.2.1.lt;have M0:(w2.drew.alloc (.map #[] 0)).ownsMap prog 3 Za5 w2.drew.heap.size 0 (Zca []):=iv w2.drew prog 3 Za5;refine rd 0 (some 9) rfl fun K H=>?_;go_simp;skip;refine H.out _ _ (⟨s.1.alloc _,s.2.1.alloc _,s.2.2.alloc s.2.2.size _⟩) fun s=>?_;clear H K;(try simp only [pS,pB,pZ,pC]);clear a9;have r:([4,8,12,16,20,24,29,40,45,50,69]:List Nat).Nodup:=by decide
  refine Ycb [4,8,12,16,20,24,29,40,45,50,69] r (by kernel_rfl) (Zwe (Zgl b1 b2 b3 b4 b5 b6 b7 b8 b9 J B) [4,8,12,16,20,24,29,40,45,50,69] w2.drew.heap.size) _ 2 ?_ ?_ _ ⟨[],rfl,M0,(fun _ h=>by cases h),fun i j p hj _ hd=>?_⟩ s
  ·intro j hj m done wj K bq ⟨l,hl,d,u,t⟩ N H;simp only [dt,dl,or_false] at hj;rcases hj with rfl | rfl | rfl | rfl | rfl | rfl | rfl | rfl | rfl | rfl | rfl
   ·exact Zbh (o:=⟨none,_,_,_,_,_⟩) rfl rfl rfl _ _ _ rfl w2.drew.heap.size _ _ rfl d (by omega) 1 _ rfl (by omega) (by omega) rfl (fun y a f=>H y (Zwe.step r (i0:=0) rfl rfl l hl u t a) (Zky N f (fun q e=>by cases e;rfl) k))
   ·exact Zbh (o:=⟨none,_,_,_,_,_⟩) rfl rfl rfl _ _ _ rfl w2.drew.heap.size _ _ rfl d (by omega) 2 _ rfl (by omega) (by omega) rfl (fun y a f=>H y (Zwe.step r (i0:=1) rfl rfl l hl u t a) (Zky N f (fun q e=>by cases e;rfl) k))
   ·exact Zbh (o:=⟨none,_,_,_,_,_⟩) rfl rfl rfl _ _ _ rfl w2.drew.heap.size _ _ rfl d (by omega) 4 _ rfl (by omega) (by omega) rfl (fun y a f=>H y (Zwe.step r (i0:=2) rfl rfl l hl u t a) (Zky N f (fun q e=>by cases e;rfl) k))
   ·exact Zbh (o:=⟨none,_,_,_,_,_⟩) rfl rfl rfl _ _ _ rfl w2.drew.heap.size _ _ rfl d (by omega) 8 _ rfl (by omega) (by omega) rfl (fun y a f=>H y (Zwe.step r (i0:=3) rfl rfl l hl u t a) (Zky N f (fun q e=>by cases e;rfl) k))
   ·exact Zbh (o:=⟨none,_,_,_,_,_⟩) rfl rfl rfl _ _ _ rfl w2.drew.heap.size _ _ rfl d (by omega) 16 _ rfl (by omega) (by omega) rfl (fun y a f=>H y (Zwe.step r (i0:=4) rfl rfl l hl u t a) (Zky N f (fun q e=>by cases e;rfl) k))
   ·exact Zbh (o:=⟨none,_,_,_,_,_⟩) rfl rfl rfl _ _ _ rfl w2.drew.heap.size _ _ rfl d (by omega) 32 _ rfl (by omega) (by omega) rfl (fun y a f=>H y (Zwe.step r (i0:=5) rfl rfl l hl u t a) (Zky N f (fun q e=>by cases e;rfl) k))
   ·exact Zbh (o:=⟨none,_,_,_,_,_⟩) rfl rfl rfl _ _ _ rfl w2.drew.heap.size _ _ rfl d (by omega) 64 _ rfl (by omega) (by omega) rfl (fun y a f=>H y (Zwe.step r (i0:=6) rfl rfl l hl u t a) (Zky N f (fun q e=>by cases e;rfl) k))
   ·exact Zbh (o:=⟨none,_,_,_,_,_⟩) rfl rfl rfl _ _ _ rfl w2.drew.heap.size _ _ rfl d (by omega) 128 _ rfl (by omega) (by omega) rfl (fun y a f=>H y (Zwe.step r (i0:=7) rfl rfl l hl u t a) (Zky N f (fun q e=>by cases e;rfl) k))
   ·exact Zbh (o:=⟨none,_,_,_,_,_⟩) rfl rfl rfl _ _ _ rfl w2.drew.heap.size _ _ rfl d (by omega) 256 _ rfl (by omega) (by omega) rfl (fun y a f=>H y (Zwe.step r (i0:=8) rfl rfl l hl u t a) (Zky N f (fun q e=>by cases e;rfl) k))
   ·exact Zbh (o:=⟨none,_,_,_,_,_⟩) rfl rfl rfl _ _ _ rfl w2.drew.heap.size _ _ rfl d (by omega) 512 _ rfl (by omega) (by omega) rfl (fun y a f=>H y (Zwe.step r (i0:=9) rfl rfl l hl u t a) (Zky N f (fun q e=>by cases e;rfl) k))
   ·exact Zbh (o:=⟨none,_,_,_,_,_⟩) rfl rfl rfl _ _ _ rfl w2.drew.heap.size _ _ rfl d (by omega) 1024 _ rfl (by omega) (by omega) rfl (fun y a f=>H y (Zwe.step r (i0:=10) rfl (by rw [am.out];rfl) l hl u t a) (Zky N f (fun q e=>by cases e;rfl) k))
  ·intro done w4 ab ⟨l,hl,d,u,t⟩ N;obtain ⟨w5,aa,r1,r2,r3⟩:=d.range (Maps.int_keyed underlying3) underlying104;have aa:(Instr.range 104 (.map (some w2.heap.size))).run prog w4=.ok (M (some ⟨w4.heap.size,0,none⟩)) w5:=aa;refine tq 70 68 rfl ?_;have al:=Zky N r2 (fun q e=>by cases e) k;refine rd 71 (some 69) rfl fun K H=>?_;go_simp;skip;refine H.out _ _ (al) fun s=>?_;clear H K;(try simp only [pS,pB,pZ,pC]);refine dn ?_;obtain ⟨X2,Y2,P2⟩:=al;have bk:w.heap.size<w4.heap.size:=N.1.lt;have a6:=ae u;have r1:w5.ranges prog 3 Za5 w2.heap.size w4.heap.size l.length (Zca l) _ _:=r1;have a8:=ae r1;have bg:=ae (Zn2.zero (Zgl b1 b2 b3 b4 b5 b6 b7 b8 b9 J B) (Maps.has (Zca l)) (fun p hp=>Zwy l p (by
    obtain ⟨i,hi,rfl⟩:=ee hp;have hi:i<11:=hi;exact t i (([4,8,12,16,20,24,29,40,45,50,69]:List Nat)[i]'hi) _ (ak hi) (ak _) (ab _ (aw hi)))))
   have a1:=ae (Zux b1 b2 b3 b4 b5 b6 b7 b8 b9 J B);have an:=ae (Ycd b1 b2 b3 b4 b5 b6 b7 b8 b9 J B);clear aa u t ab s N Y2 M0 k r1 d r2 r3 r;generalize htb:Zgl b1 b2 b3 b4 b5 b6 b7 b8 b9 J B=tb at *;have a5:=ae htb;clear htb;generalize w2.heap.size=mb at *;clear h1 h2 h3 h4 h5 h6 h8 h9 be bf a4;go_wp2_with fail;go_loopw [4] (fun m wr=>∃ (v:Int) (left:Lit->Bool) (a0:Nat),m=.int Z v/\Zn2 tb left v/\wr.ranges prog 3 Za5 mb w4.heap.size l.length (Zca l) left a0/\Bl w wr/\Blk wr w.heap.size 48 #[iI (kn:Int),iI day,iI known,iI file,iI office,iI party,iI other,iI number,iI amount,iI sn,iI sd,G Ad nd cd,G Ac nc cc,G Al nl cl,G Ae ne ce,iI fo,iI fn,nN,nN]) (fun _ wr=>wr.rangeLeft mb w4.heap.size)
   case atStart=>exact ⟨0,_,_,rfl,bg.out,a8.out,P2,X2⟩
   case round =>
    obtain ⟨v,left,a0,rfl,hv,aq,hB,hX⟩:=hrel;have HV:=ae hv;have ad:=ae aq;clear hv aq;have hc:wr.cell? ⟨w.heap.size,0,none⟩=some (.int Z (kn:Int)):=hX.cell 0;have bs:=(hB.cell (p:=⟨0,kn,none⟩) h0).trans hG;go_wp2_with (at_next;refine Zj3 rfl _ rfl l tb a6.out mb w4.heap.size _ _ _ rfl ad.out (fun bh=>?_) (fun x w6 I W L a2 T a7=>?_) (fun x w6 I W L a2 T a7=>?_))
    ·go_ret;refine ⟨?_,hB⟩;refine congrArg (fun b=>Ending.returned (Value.bool b)) ?_;rw [a5.out];exact Zn2.done HV.out bh F
    ·have X6:=hX.grown T (fun e=>by injection e with e;omega);have P6:=hB.grown T hB.size (fun q e=>by injection e with e;omega);have af:w6.rangeLeft mb w4.heap.size<wr.rangeLeft mb w4.heap.size:=by rw [L.out.left_eq,ad.out.left_eq];omega
     go_roundw
     case rel=>first | exact ⟨v,_,I,rfl,Zn2.skip HV.out an.out W.out rfl,L.out,P6,X6⟩ | exact ⟨_,_,_,_,_,_,_,_,_,_,_,_,⟨v,_,I,rfl,Zn2.skip HV.out an.out W.out rfl,L.out,P6,X6⟩,rfl⟩
     case measure=>exact af
    ·have X6:=hX.grown T (fun e=>by injection e with e;omega);have P6:=hB.grown T hB.size (fun q e=>by injection e with e;omega);have af:w6.rangeLeft mb w4.heap.size<wr.rangeLeft mb w4.heap.size:=by rw [L.out.left_eq,ad.out.left_eq];omega
     go_roundw
     case rel=>first | exact ⟨_,_,I,rfl,Zn2.or HV.out W.out rfl a1.out,L.out,P6,X6⟩ | exact ⟨_,_,_,_,_,_,_,_,_,_,_,_,⟨_,_,I,rfl,Zn2.or HV.out W.out rfl a1.out,L.out,P6,X6⟩,rfl⟩
     case measure=>exact af
  ·have hm:=iq hj;simp only [dt,dl,or_false] at hm;rcases hm with rfl | rfl | rfl | rfl | rfl | rfl | rfl | rfl | rfl | rfl | rfl <;> exact absurd hd (by decide)
end Go.Proofs.YtglkadmfjaecmaaGreatDoor
