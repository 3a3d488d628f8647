import Derived.Test.YtglkadmfjaecmaaGreatDoorD25
set_option maxRecDepth 100000
set_option maxHeartbeats 16000000
namespace Go.Proofs.YtglkadmfjaecmaaGreatDoor
open Go.RowKit Go.Shelf _root_.Go.Proofs.Tryz
open Go.Value renaming slice->I, pointer->Y
open Go.Ending renaming returned->G
open Go.IntKind renaming i64->O, u64->J
open Go.Obj renaming cells->U
attribute [local go_sem] Oper.semAt_some
variable {A:Option Addr} {W W' w:World} {fl0 fl1:List Fil} {i o:Nat}
theorem Zb9.keep {n:Nat} (h:Zb9 W A n) (a:Bl W W'):Zb9 W' A n:=h.grown (Zaf (row:=none) a) (fun _ _ e=>by cases e)
theorem Yb7 {base:Nat} {v:Value} {fl:List Fil} (h:Zbv TA [] w base 48 19 v (fl.flatMap Fil.cells)):∃ A c,v=I A fl.length c/\(0<fl.length->∃ g,A=some ⟨g,0,none⟩/\base<=g/\g<w.heap.size):=by
 obtain ⟨n,d,h1,a⟩:=h;have j:d.length=fl.length * 19:=by rw [a.1,Zeb]
 have hn:n=fl.length:=by have:=h1.1;omega
 subst hn;rcases h1.2 with ⟨rfl,e⟩ | ⟨g,cap,f,rfl,b,k,_⟩
 ·exact ⟨none,0,by rw [e],fun h=>by omega⟩
 ·exact ⟨_,cap,rfl,fun _=>⟨g,rfl,b,(h1.lt g rfl).2⟩⟩
theorem Zho (w:World) (g i:Nat) (u:Value):w.grownBy (w.setCell ⟨g,i,none⟩ u) (some g):=Zcu g [u] i w
theorem Zuo {b:World} {base a g n c:Nat} {ds:List D} {cs:Array Value} (h:Zbv TA [] w base 48 19 (I (some ⟨a,0,none⟩) n c) ds/\Bl b w/\Blk w g 23 cs) (l:b.heap.size<=a) (f:g≠a) {u:Value} {d:D} (k:Zdf TA [a] w u d) :
  Zbv TA [] (w.setCell ⟨a,i,none⟩ u) base 48 19 (I (some ⟨a,0,none⟩) n c) (ds.set i d)/\Bl b (w.setCell ⟨a,i,none⟩ u)/\Blk (w.setCell ⟨a,i,none⟩ u) g 23 cs :=
 ⟨h.1.set k,h.2.1.grown (Zho w a i u) h.2.1.size (fun j e=>by injection e with e;omega),h.2.2.grown (Zho w a i u) (fun e=>f (Option.some.inj e))⟩
def Zqf (fl0 fl1:List Fil) (o:Nat):List Fil:=if o=0 then fl0 else fl1.map Zja
def Zec (fl0 fl1:List Fil) (o i:Nat):List Fil:=(if o=0 then [] else if o=1 then fl0 else fl0++fl1.map Zja)++(if o<=1 then (Zqf fl0 fl1 o).take i else [])
theorem Yb8 (fl0 fl1:List Fil):Zec fl0 fl1 2 0=fl0++fl1.map Zja:=by simp [Zec]
theorem Zyq (fl0 fl1:List Fil):Zec fl0 fl1 0 0=[]:=by simp [Zec]
theorem Zoc (ho:o<2) (hi:i<(Zqf fl0 fl1 o).length):Zec fl0 fl1 o (i+1)=Zec fl0 fl1 o i++[(Zqf fl0 fl1 o)[i]]:=by
 unfold Zec;rw [if_pos (show o<=1 by omega),if_pos (show o<=1 by omega),List.take_succ_eq_append_getElem hi,ay]
theorem Zyr (ho:o<2):Zec fl0 fl1 o (Zqf fl0 fl1 o).length=Zec fl0 fl1 (o+1) 0:=by
 have e:o=0∨o=1:=by omega
 rcases e with rfl | rfl
 ·simp [Zec,Zqf]
 ·simp [Zec,Zqf,List.take_of_length_le]
theorem Zwx (hi:i<(Zqf fl0 fl1 o).length):(Zqf fl0 fl1 o)[i]∈fl0++fl1.map Zja:=by
 cases o with
 | zero=>exact List.mem_append.2 (.inl (aw (show i<fl0.length from hi)))
 | succ o=>exact List.mem_append.2 (.inr (aw (show i<(fl1.map Zja).length from hi)))
theorem Zup (hn:((fl0++fl1.map Zja).map (·.file)).Nodup) (ho:o<2) (hi:i<(Zqf fl0 fl1 o).length):(Zqf fl0 fl1 o)[i] ∉ Zec fl0 fl1 o i:=by
 have b:(fl0++fl1.map Zja).Nodup:=(List.pairwise_map.1 hn).imp (fun h e=>h (congrArg _ e));have hs:(Zec fl0 fl1 o i++[(Zqf fl0 fl1 o)[i]]).Sublist (fl0++fl1.map Zja):=by
  rw [<- Zoc ho hi];have e:o=0∨o=1:=by omega
  rcases e with rfl | rfl
  ·have a:Zec fl0 fl1 0 (i+1)=fl0.take (i+1):=by simp [Zec,Zqf]
   rw [a];exact (List.take_sublist _ _).trans (List.sublist_append_left _ _)
  ·have a:Zec fl0 fl1 1 (i+1)=fl0++(fl1.map Zja).take (i+1):=by simp [Zec,Zqf]
   rw [a];exact List.Sublist.append (List.Sublist.refl _) (List.take_sublist _ _)
 have h:=hs.nodup b;rw [List.nodup_append] at h;exact fun hm=>h.2.2 _ hm _ (List.mem_singleton.2 rfl) rfl
theorem Yb9 (fl0 fl1:List Fil) (o i:Nat):(Zec fl0 fl1 o i).length<=fl0.length+fl1.length:=by
 have e:o=0∨o=1∨2<=o:=by omega
 rcases e with rfl | rfl | e
 ·simp [Zec,Zqf];omega
 ·simp [Zec,Zqf];omega
 ·have a:Zec fl0 fl1 o i=fl0++fl1.map Zja:=by
   unfold Zec;rw [if_neg (by omega),if_neg (by omega),if_neg (by omega),bv]
  rw [a,ai,ba];omega
def Yf6 (fl0 fl1:List Fil) (ks:List Nat) (Asa:Option Addr) (csa spa mba:Nat) (Asb:Option Addr) (csb spb mbb:Nat) (w w10 W:World) (La Lb:List FV) (o i:Nat):Prop :=
 (ShP W ks Asb csb spb mbb Lb/\ShP W ks Asa csa spa mba La)/\(∀ f∈Lb.map (·.f),f∈fl0++fl1.map Zja)/\La.map (·.f)=Zec fl0 fl1 o i/\(∀ f∈La.map (·.f),f∈Lb.map (·.f))/\Lb.length<=10+La.length/\KA w10 W/\Bl w W
theorem Yf6.keep {m:List Nat} {e:Option Addr} {b d f:Nat} {c:Option Addr} {j a g:Nat} {k:World} {q p:List FV} (h:Yf6 fl0 fl1 m e b d f c j a g w k W q p o i) (l:Bl W W'):Yf6 fl0 fl1 m e b d f c j a g w k W' q p o i:=by
 obtain ⟨⟨h1,s⟩,x,y,v,u,t,r⟩:=h;exact ⟨⟨h1.keep l,s.keep l⟩,x,y,v,u,t.trans (KA.of_below l),Zaa r l r.size⟩
theorem CyS.mapd {C V:Array Value} {h:Hd} {i:Int} {s:Nat} {c:Nat} {ps:List Nat} {f:Fil} {g n u:Nat} {D r:DataW Value} (H:CyS w C V h i s A c ps (some f)) (l:w.grownBy W (some g)) (h1:w.ownsMap prog 3 Zgr g n D) (q:W.ownsMap prog 3 Zgr g u r):CyS W C V h i s A c ps (some f):=by
 obtain ⟨dv,cv,ev,e,d,t⟩:=H.act;have m:=fun p a=>KR.of_map l h1 q p a;exact ⟨H.cop,⟨dv,cv,ev,e,d,Zbs.keep t (fun p a=>m p a) l.size⟩,H.len,H.cap,H.wds,H.slt,H.log,H.map,fun k j=>by
  obtain ⟨b,o,e,hc⟩:=H.row k j;exact ⟨b,o,e,(m _ (bu _ _ hc)).trans hc⟩,H.one⟩
theorem Zys (Al Am Ao:Option Addr) (nl cl nm cm no co:Nat) (w:World) (hT:Zkw w) (h8:Zb9 w Al nl) (eo:∀ a,Al=some a->a.block<w.heap.size) (jn:Zb9 w Am nm) (ey:∀ a,Am=some a->a.block<w.heap.size) (i3:Zb9 w Ao no) :
  Calls prog 4 #[I Al nl cl,I Am nm cm,I Ao no co] w fun e w'=>e=G (.bool true)/\Bl w w':=by
 have HT:=ae hT;have fg:=ae (fun (W:World) (N:Bl w W)=>(⟨jn.keep N,fun a e=>ah (ey a e) N.size⟩:Zb9 W Am nm/\∀ a,Am=some a->a.block<W.heap.size));have fl:=ae (fun (W:World) (N:Bl w W)=>i3.keep N);have i2:=ae (Yb5 Al nl cl 0 (by omega) w h8 eo);clear hT h8 eo jn ey i3;go_enter func4,ntmps4;go_wp2_with fail;refine i2.out.mono ?_;rintro e w1 ⟨⟨v0,fl0,kb,rfl,jj,o0,jw,e6,g7⟩,H⟩;obtain ⟨A0,c0,l0,rfl,e0,g0⟩:=Yb4 (o:=0) o0 jw;have G0:=ae g0;have e8:=ae e0;have fa:=ae g7;have f5:=ae e6;clear i2 g0 e0 g7 e6 jw o0 jj;go_wp2_with fail;refine (Yb5 Am nm cm 1 (by omega) w1 (fg.out w1 H).1 (fg.out w1 H).2).mono ?_;rintro e w2 ⟨⟨v1,fl1,bh,rfl,kf,o1,fe,jv,d5⟩,M⟩;obtain ⟨A1,c1,rfl,jm⟩:=Yb7 o1;have ce:=ae o1;have e9:=ae (Yiv fe d5);have cq:=ae (Yb6 fa.out d5);have ib:=ae (show ∀ f∈fl1,0<=f.file/\f.file<=70 from fun f hf=>by
  obtain ⟨i,hi,rfl⟩:=ee hf;have h1:=d5 i hi;have h2:=fe.len;omega)
 have ju:=ae jm;have P2:=Zaa H M H.size;have ky:=H.size;have fd:=ae H;clear fg o1 fe jv d5 jm H;generalize hn1:fl1.length=n1 at *;go_upto_region 2 with fail;have BG:=Blk.new w2 23 #[I A0 l0.length c0,I A1 n1 c1];have D3:=Zab w2 (U #[I A0 l0.length c0,I A1 n1 c1] 23);have P3:=Zaa P2 D3 P2.size;have kn:w1.heap.size<=w2.heap.size:=M.size;have jr:=ae (ce.out.step (H':=[]) (Zaf (row:=none) D3) (fun g e=>by cases e) (fun i hi=>by cases hi));have jx:=ae (fun (h:0<n1)=>(by obtain ⟨g,e1,e2,e3⟩:=ju.out h;exact ⟨g,e1,e2,e3⟩:∃ g,A1=some ⟨g,0,none⟩/\bh<=g/\g<w2.heap.size));have js:=M.trans (D3.mono M.size);clear ce ju M P2;generalize w2.alloc _=w3 at *;have kd:=BG.lt;clear D3;generalize w2.heap.size=gl at *;clear w2;have r:=ae (show Zbv TA [] w3 bh 48 19 (I A1 n1 c1) ((Zwv 0 fl1).flatMap Fil.cells)/\Bl w1 w3/\Blk w3 gl 23 #[I A0 l0.length c0,I A1 n1 c1] from ⟨jr.out,js,BG⟩);have c9:=ae hn1;clear jr js BG hn1;go_wp2_with fail;go_loopw [8] (fun i wr=>∃ k:Nat,i=.int O (k:Int)/\k<=n1/\w3.heap.size<=wr.heap.size/\Hid (Zbv TA [] wr bh 48 19 (I A1 n1 c1) ((Zwv k fl1).flatMap Fil.cells)/\Bl w1 wr/\Blk wr gl 23 #[I A0 l0.length c0,I A1 n1 c1])) (fun i _=>n1 - (intOf i).toNat)
 case atStart=>exact ⟨0,rfl,bi _,ag _,r⟩
 case round=>as_aux_lemma =>
  clear r;obtain ⟨k,rfl,hk,P,r⟩:=hrel;have cg:=r.out.2.2.c2.2;have b7:=r.out.2.2.lt;have j3:n1<=14:=by have:=e9.out.len;rw [ba,c9.out] at this;exact this
  by_cases f9:k<n1
  ·have d1:=decide_eq_true f9;obtain ⟨g1,rfl,kl,km⟩:=jx.out (by omega);have cf:k<fl1.length:=by have:=c9.out;omega
   obtain ⟨u3,d3,gz,dy⟩:=r.out.1.cell (Zpz cf (j:=3) (by omega));have e3:=gz _ rfl;subst e3;obtain ⟨fv,ek⟩:∃ z:Int,z=fl1[k].file:=⟨_,rfl⟩;rw [<- ek] at d3;have kk:0<=fv/\fv<=70:=by
    rw [ek];exact ib.out _ (aw cf)
   have j9:=ae ek;have q1:(0:Int)<=(k:Int)/\(k:Int)<(n1:Int):=by omega
   have q2:(k:Int)<(n1:Int):=by omega
   have q3:IntKind.i64.wrap (fv+1)=fv+1:=by rw [az];omega
   have em:gl≠g1:=by omega
   have ck:w1.heap.size<=g1:=by omega
   clear ek gz;go_upto_region 5 with fail;refine wp_region_held_drew (S:=(fun V=>V.cell? ⟨gl,1,none⟩=some (I (some ⟨g1,0,none⟩) n1 c1))) (by kernel_rfl) ?_ (fun t=>?_)
   ·first | done | ((try dsimp only);(first | exact cg | exact ((World.cell?_drew _ _).trans cg)))
   have Q:=(ap wr.heap.size wr).drew;have hs:=Q.size;have r:=ae (show Zbv TA [] wr.drew bh 48 19 (I (some ⟨g1,0,none⟩) n1 c1) ((Zwv k fl1).flatMap Fil.cells)/\Bl w1 wr.drew/\Blk wr.drew gl 23 #[I A0 l0.length c0,I (some ⟨g1,0,none⟩) n1 c1] from ⟨r.out.1.step (H':=[]) (Zaf (row:=none) Q) (fun g e=>by cases e) (fun i hi=>by cases hi),Zaa r.out.2.1 Q r.out.2.1.size,r.out.2.2.keep Q⟩);have d3:=(Q.cell (p:=⟨g1,k * 19+3,none⟩) (show g1<wr.heap.size by omega)).trans d3;have dy:=r.out.1.cell (Zpz cf (j:=3) (by omega));obtain ⟨_,_,_,dy⟩:=dy;have cg:=r.out.2.2.c2.2;have P:w3.heap.size<=wr.drew.heap.size:=aj P hs;clear b7 Q hs;generalize wr.drew=w5 at *;refine tq 0 40 rfl ?_;refine tq 1 41 rfl ?_;refine tq 2 42 rfl ?_;refine tq 3 43 rfl ?_;refine tq 4 44 rfl ?_;refine tq 5 45 rfl ?_;refine tq 6 46 rfl ?_;refine tq 7 47 rfl ?_;refine tq 8 48 rfl ?_;refine tq 9 49 rfl ?_;refine rd 10 (some 50) rfl fun K B=>?_;go_simp;skip;refine B.out _ _ (cg) fun t=>?_;clear B K;(try simp only [pS,pB,pZ,pC]);refine tq 11 51 rfl ?_;refine tq 12 52 rfl ?_;refine tq 13 53 rfl ?_;have gd:(w5.setCell ⟨g1,k * 19+3,none⟩ (.int O (fv+1))).cell? ⟨gl,1,none⟩=some (I (some ⟨g1,0,none⟩) n1 c1):=(dc ((Zho w5 g1 (k * 19+3) (.int O (fv+1))).block gl r.out.2.2.lt (fun e=>em (Option.some.inj e)))).trans cg;refine rd 14 none rfl fun K B=>?_;go_simp;skip;refine B.out _ _ (gd) fun t=>?_;clear B K;(try simp only [pS,pB,pZ,pC]);refine dn ?_;have r:=ae (Zuo r.out ck em (i:=k * 19+3) (u:=.int O (fv+1)) (.v _));have P:w3.heap.size<=(w5.setCell ⟨g1,k * 19+3,none⟩ (.int O (fv+1))).heap.size:=aj P (Zho w5 g1 _ _).size;clear d3 dy cg gd;go_upto_region 6 with fail;generalize w5.setCell ⟨g1,k * 19+3,none⟩ (.int O (fv+1))=w6 at *;have cg:=r.out.2.2.c2.2;obtain ⟨u6,jz,_,j4⟩:=r.out.1.cell (i:=k * 19+6) (d:=.v (.int O fl1[k].other)) (by rw [List.getElem?_set_ne (by omega)];exact Zpz cf (j:=6) (by omega));have r:=ae (Zuo r.out ck em (i:=k * 19+6) (u:=.int O (-1)) (.v _));have P:w3.heap.size<=(w6.setCell ⟨g1,k * 19+6,none⟩ (.int O (-1))).heap.size:=aj P (Zho w6 g1 _ _).size;go_upto_region 7 with fail;generalize w6.setCell ⟨g1,k * 19+6,none⟩ (.int O (-1))=w7 at *;clear cg jz j4;have cg:=r.out.2.2.c2.2;obtain ⟨kr,ke,_,kg⟩:=r.out.1.cell (i:=k * 19+14) (d:=.s 2 (prD fl1[k].e)) (by rw [List.getElem?_set_ne (by omega),List.getElem?_set_ne (by omega)];exact Zpz cf (j:=14) (by omega));have r:=ae (Zuo r.out ck em (i:=k * 19+14) (u:=I none 0 0) (.nil 2));have P:w3.heap.size<=(w7.setCell ⟨g1,k * 19+14,none⟩ (I none 0 0)).heap.size:=aj P (Zho w7 g1 _ _).size;have HE:((((Zwv k fl1).flatMap Fil.cells).set (k * 19+3) (.v (.int O (fv+1)))).set (k * 19+6) (.v (.int O (-1)))).set (k * 19+14) (.s 2 [])=(Zwv (k+1) fl1).flatMap Fil.cells:=by rw [j9.out];exact Yhw cf
   rw [HE] at r;clear HE;go_wp2_with fail;go_roundw
   case rel=>exact ⟨k+1,by go_num,by omega,P,r⟩
   case measure=>simp [intOf];omega
  ·have d1:=decide_eq_false f9;obtain rfl:k=n1:=by omega
   have HL:=ae (show ∃ A c l,Value.slice A1 k c1=I A l.length c/\l.map (·.f)=fl1.map Zja/\LGF wr wr.heap.size 1 A c l from by
    have h:=r.out.1;rw [<- c9.out,Ye7] at h;exact Yb4 (o:=1) (by rw [c9.out] at h;exact h) e9.out)
   obtain ⟨A,c,l1,e,e1,g1⟩:=HL.out;injection e with ea eb ec;subst ea ec;have P4:=Zaa fd.out r.out.2.1 fd.out.size;have a9:=ae (show ∀ o:Nat,o<2->∃ A c l,wr.cell? ⟨gl,o,none⟩=some (I A l.length c)/\LGF wr wr.heap.size o A c l/\l.map (·.f)=Zqf fl0 fl1 o from fun o ho=>by
    match o,ho with
    | 0,_=>exact ⟨A0,c0,l0,r.out.2.2.c2.1,G0.out.keep (ag _) r.out.2.1.size r.out.2.1,e8.out⟩
    | 1,_=>exact ⟨A1,c1,l1,by rw [r.out.2.2.c2.2,eb],g1,e1⟩)
   have b7:=r.out.2.2.lt;have gx:=ae (show w.heap.size<=wr.heap.size from P4.size);obtain ⟨w4,rfl⟩:∃ z:World,z=wr:=⟨_,rfl⟩;clear G0 jx HL r fd ib c9 e9 f9 g1 e1 j3;have ht:=ae (fun (W:World)=>(Zlg 5 (by omega) W:Calls prog 6 #[.int J 5] W fun e w'=>e=G (.int J (Zie 5:Int))/\Bl W w'));have hu:=ae (fun (W:World)=>(Zlg 6 (by omega) W:Calls prog 6 #[.int J 6] W fun e w'=>e=G (.int J (Zie 6:Int))/\Bl W w'));have d4:=ae (show Zbw ks2 from fun x hx=>by simp only [ks2,dt,dl,or_false] at hx;rcases hx with rfl | rfl <;> exact Zcn _ _);have b9:=ae (show ks2=[Zie 5,Zie 6] from rfl);generalize Zie 5=k5 at *;generalize Zie 6=k6 at *;go_wp2_with fail;refine (ht.out w4).mono ?_;rintro e w6 ⟨rfl,bx⟩;go_wp2_with fail;refine (hu.out w6).mono ?_;rintro e w7 ⟨rfl,ch⟩;have D7:=bx.trans (ch.mono bx.size);clear bx ch ht hu cg d1;go_upto_region 9 with fail;have OK:=Zpt w7 #[.int J (k5:Int),.int J (k6:Int)] 2 (base:=w7.heap.size) (e:=26) (size:=1) (ag _) (by omega) rfl;have D8:=D7.trans ((Zab w7 (U #[.int J (k5:Int),.int J (k6:Int)] 26)).mono D7.size);generalize w7.alloc _=w8 at *;have it:=ae (Zg9 [k5,k6] (by simp) w7.heap.size (I (some ⟨w7.heap.size,0,none⟩) 2 2) w8 OK);have id:=ae (fun (W:World) (N:Bl w8 W)=>Zg9 [k5,k6] (by simp) w7.heap.size (I (some ⟨w7.heap.size,0,none⟩) 2 2) W (Zft OK N));generalize w7.heap.size=gk at *;clear OK D7;go_wp2_with fail;refine it.out.mono ?_;rintro e w9 ⟨⟨a0,an,a7,a6,rfl,ex,e4,dd,i1,gs⟩,cc⟩;have D9:=D8.trans (cc.mono D8.size);clear it;go_wp2_with fail;refine (id.out w9 cc).mono ?_;rintro e bg ⟨⟨al,ab,a4,a3,rfl,e5,es,e7,i0,gp⟩,bo⟩;have b5:=D9.trans (bo.mono D9.size);have b6:an≠ab:=by have:=dd.lt;omega
   have kq:w.heap.size<=an:=by have h1:=gx.out;have h2:=D8.size;omega
   have ki:w.heap.size<=ab:=by have h1:=gx.out;have h2:=D9.size;omega
   have hd:=ae (show ShP bg [k5,k6] a4 a3 al ab []/\ShP bg [k5,k6] a7 a6 a0 an [] from ⟨⟨e5,e7,(by unfold Zc9;simp),(fun _ h=>by cases h),es⟩,⟨ex.keep bo,Zda dd bo,(by unfold Zc9;simp),(fun _ h=>by cases h),e4.keep bo⟩⟩);have h0:=ae (Zaa P4 b5 P4.size);have a9:=ae (show ∀ o:Nat,o<2->∃ A c l,l.map (·.f)=Zqf fl0 fl1 o/\∀ W,KA bg W->W.cell? ⟨gl,o,none⟩=some (I A l.length c)/\LGF W w4.heap.size o A c l from fun o ho=>by
    obtain ⟨A,c,l,h1,h2,h3⟩:=a9.out o ho;exact ⟨A,c,l,h3,fun W N=>⟨(N.2 ⟨gl,o,none⟩ (ah b7 b5.size)).trans ((b5.cell (p:=⟨gl,o,none⟩) b7).trans h1),(h2.keep (ag _) (ag _) b5).all b5.size N⟩⟩)
   have cx:=b5.size;clear ex e4 dd i1 gs e5 es e7 i0 gp cc bo D8 D9 b5 id P4;go_wp2_with fail;go_loopw [12] (fun i wr=>∃ (k:Nat) (L:List FV),i=.int O (k:Int)/\k<=10/\L.length<=k/\Hid ((ShP wr [k5,k6] a4 a3 al ab L/\ShP wr [k5,k6] a7 a6 a0 an [])/\(∀ f∈L.map (·.f),f∈fl0++fl1.map Zja)/\KA bg wr/\Bl w wr)) (fun i _=>10 - (intOf i).toNat)
   case atStart=>exact ⟨0,[],rfl,bi _,ag _,ae ⟨hd.out,(fun f hf=>by cases hf),KA.refl _,h0.out⟩⟩
   case round=>as_aux_lemma =>
    clear hd h0;obtain ⟨k,L,rfl,hk,hL,r⟩:=hrel;go_upto_region 14 with fail;go_cut [86] (fun v wx=>∃ bb:Bool,v=.bool bb/\(bb=true->k<no/\k<10)/\wr=wx)
    case first=>as_aux_lemma =>
     by_cases h1:k<no
     ·have d1:=decide_eq_true h1;by_cases h2:k<10
      ·have d2:=decide_eq_true h2;go_wp2_with fail;go_meet;exact ⟨true,congrArg Value.bool (decide_eq_true (show (k:Int)<10 by omega)),fun _=>⟨h1,h2⟩,rfl⟩
      ·have d2:=decide_eq_false h2;go_wp2_with fail;go_meet;exact ⟨false,congrArg Value.bool (decide_eq_false (show ¬ (k:Int)<10 by omega)),fun h=>Bool.noConfusion h,rfl⟩
     ·have d1:=decide_eq_false h1;go_wp2_with fail;go_meet;exact ⟨false,rfl,fun h=>Bool.noConfusion h,rfl⟩
    case rest=>as_aux_lemma =>
    obtain ⟨bb,rfl,gb,rfl⟩:=hcut;rename_i jq;refine jq _ _ ?_;clear jq;cases bb with
    | true =>
     obtain ⟨h1,h2⟩:=gb rfl;clear gb;obtain ⟨b,oo,x,rfl,he,gn,j1,kc⟩:=fl.out wr r.out.2.2.2 k h1;go_wp2_with fail;refine (Zaz x 2 _ j1 kc (by omega) (by omega)).mono ?_;rintro e w2 ⟨rfl,rfl⟩;obtain ⟨o,hn,ho⟩:∃ n:Nat,arN x 2=(n:Int)/\n<2:=by
      have h3:=Zcs x 2 (by omega);have h4:=Zhq x 2 (by omega);exact ⟨(arN x 2).toNat,by omega,by omega⟩
     rw [hn];clear hn;obtain ⟨A,c,l,cn,hO⟩:=a9.out o ho;have HO:=ae hO;have be:=ae cn;clear hO cn;have o0:(0:Int)<=(o:Int)/\(o:Int)<2:=by omega
     have o1:(o:Int)<2:=by omega
     have a1:=(HO.out wr r.out.2.2.1).1;have ev:=gn;have jy:l.length<=14:=by have h:=(HO.out wr r.out.2.2.1).2.ok.len;rw [ba] at h;exact h
     by_cases hz:l.length=0
     ·have ez:((l.length:Int) == 0)=true:=by rw [hz];rfl
      clear hz;go_wp2_with fail;go_roundw
      case rel=>exact ⟨k+1,L,by go_num,by omega,by omega,r⟩
      case measure=>simp [intOf];omega
     ·have ez:((l.length:Int) == 0)=false:=by rw [beq_eq_false_iff_ne];omega
      obtain ⟨q,hq,f6,fs⟩:∃ q,IntKind.i64.wrap (Int.tdiv x 2)=q/\-9223372036854775808<=q/\q<=9223372036854775807:=⟨_,rfl,by rw [az];omega,by rw [az];omega⟩
      obtain ⟨i,hi,aa⟩:∃ i:Nat,arN q (l.length:Int)=(i:Int)/\i<l.length:=by
       have h3:=Zcs q (l.length:Int) (by omega);have h4:=Zhq q (l.length:Int) (by omega);exact ⟨(arN q (l.length:Int)).toNat,by omega,by omega⟩
      have fb:=ae (fun (W:World)=>Zaz q (l.length:Int) W f6 fs (by omega) (by omega));rw [hi] at fb;clear hi f6 fs;go_upto_region 18 with fail;clear ez hz;have bf:=bu wr _ a1;refine wp_region_held_drew (S:=(fun V=>KA wr V)) (by kernel_rfl) ?_ (fun t=>?_)
      ·first | done | ((try dsimp only);exact KA.of_below (ap _ _).drew)
      have Q:=(ap wr.heap.size wr).drew;have r:=ae (show (ShP wr.drew [k5,k6] a4 a3 al ab L/\ShP wr.drew [k5,k6] a7 a6 a0 an [])/\(∀ f∈L.map (·.f),f∈fl0++fl1.map Zja)/\KA bg wr.drew/\Bl w wr.drew from ⟨⟨r.out.1.1.keep Q,r.out.1.2.keep Q⟩,r.out.2.1,r.out.2.2.1.trans (KA.of_below Q),Zaa r.out.2.2.2 Q r.out.2.2.2.size⟩);generalize wr.drew=bk at *;refine tq 0 100 rfl ?_;refine tq 1 101 rfl ?_;refine tq 2 102 rfl ?_;refine tq 3 103 rfl ?_ (hy:=by intro w' R;(try dsimp only at R);have h1:=(R.2 ⟨b,oo+k,none⟩ he).trans ev;go_simp;try (with_reducible rfl));refine tq 4 104 rfl ?_;refine tq 5 105 rfl ?_;refine tq 6 106 rfl ?_;refine tq 7 107 rfl ?_;refine tq 8 108 rfl ?_ (hy:=by intro w' R;(try dsimp only at R);have h1:=(R.2 ⟨gl,o,none⟩ bf).trans a1;go_simp;try (with_reducible rfl));refine tq 9 109 rfl ?_;refine rd 10 (some 110) rfl fun K B=>?_;go_simp;(refine (fb.out _).mono ?_;rintro e wy ⟨rfl,rfl⟩);refine B.out _ _ (KA.of_below Q) fun t=>?_;clear B K;(try simp only [pS,pB,pZ,pC]);refine tq 11 14 rfl ?_;refine dn ?_;clear Q ev gn bf a1 hq fb he;go_upto_region 19 with fail;have a1:=(HO.out bk r.out.2.2.1).1;have bf:=bu bk _ a1;obtain ⟨aq,c6⟩:∃ aq:Nat,5+o=aq:=⟨_,rfl⟩;have s1:IntKind.i64.wrap (5+(o:Int))=(aq:Int):=by rw [az];omega
      have s2:IntKind.u64.wrap (aq:Int)=(aq:Int):=by rw [fu];omega
      have bn:=ae (fun (W:World) (N:Bl bk W)=>(by
       have hk:=r.out.2.2.1.trans (KA.of_below N);have hG:=(HO.out W hk).2;have h:=Zww o ho (l.map (·.f)) hG.ok A c (by rw [ba];exact hG.cap) W w4.heap.size (aj cx hk.1) hG.row i (by rw [ba];exact aa);simp only [c6,ba] at h;exact h:Calls prog 10 #[.int J (aq:Int),I A l.length c,.int O (i:Int),.int O (l.length:Int)] W fun e w'=>(∃ C V h ii s Ap cp ps,e=G (.agg C)/\C.all (·.oneCell')=true/\C.size=30/\Zh7 C h ii V s (I Ap ps.length cp)/\tkE ks2 h s ii ps (some ((l.map (·.f))[i]'(by rw [ba];exact aa)))=0/\∀ g W',(w4.heap.size<=g/\g<W.heap.size∨w'.heap.size<=g)->w'.grownBy W' (some g)->CyS W' C V h ii s Ap cp ps (some ((l.map (·.f))[i]'(by rw [ba];exact aa))))/\Bl W w'))
      have bp:=ae (show (l.map (·.f))[i]'(by rw [ba];exact aa)∈fl0++fl1.map Zja from by
       have h:∀ (m:List Fil) (e:l.map (·.f)=m) (h2:i<m.length),(l.map (·.f))[i]'(by rw [ba];exact aa)=m[i]:=fun m e h2=>by subst e;rfl
       rw [h _ be.out (by rw [<- be.out,ba];exact aa)];exact Zwx _)
      generalize (l.map (·.f))[i]'(by rw [ba];exact aa)=f at *;have bz:=ae (fun (W:World) (N:Bl bk W) (C V:Array Value) (h:Hd) (ii:Int) (s:Nat) (Ap:Option Addr) (cp:Nat) (ps:List Nat) (ad:CyS W C V h ii s Ap cp ps (some f)) (a5:tkE ks2 h s ii ps (some f)=0)=>(by
       have hP:=Zaa r.out.2.2.2 N r.out.2.2.2.size;exact Zwu (r.out.1.1.keep N) ad (by rw [<- b9.out];exact d4.out) ((hP.cell (p:=⟨0,0,none⟩) HT.out.2).trans HT.out.zero) (by omega) (by rw [<- b9.out];exact a5) (fun y hy e=>Zoa cq.out (r.out.2.1 _ (List.mem_map.2 ⟨y,hy,rfl⟩)) bp.out e):Calls prog 12 #[Y (some ⟨al,0,none⟩),.agg C] W fun e W'=>∃ (b:Bool) (L':List FV),e=G (.tuple #[.bool b,.int O 0])/\L'.length<=L.length+1/\(b=false->f∈L.map (·.f))/\(b=true->f ∉ L.map (·.f))/\L'.map (·.f)=(if b then L.map (·.f)++[f] else L.map (·.f))/\W.grownBy W' (some ab)/\ShP W' [k5,k6] a4 a3 al ab L'))
      have ga:=ae (fun (W W':World) (L':List FV) (N:Bl bk W) (hg:W.grownBy W' (some ab)) (hS:ShP W' [k5,k6] a4 a3 al ab L')=>(fun p hp=>KR.of_map hg (r.out.1.1.keep N).hm hS.hm p hp:∀ p:Addr,p.block<W.heap.size->W'.cell? p=W.cell? p));refine wp_region_held_drew (S:=(fun V=>KA bk V)) (by kernel_rfl) ?_ (fun t=>?_)
      ·first | done | ((try dsimp only);exact KA.of_below (ap _ _).drew)
      have Q:=(ap bk.heap.size bk).drew;generalize bk.drew=kx at *;refine tq 0 112 rfl ?_;refine tq 1 113 rfl ?_;refine tq 2 114 rfl ?_;refine tq 3 115 rfl ?_;refine tq 4 116 rfl ?_;refine tq 5 117 rfl ?_;refine tq 6 118 rfl ?_;refine tq 7 119 rfl ?_ (hy:=by intro w' R;(try dsimp only at R);have h1:=(R.2 ⟨gl,o,none⟩ bf).trans a1;go_simp;try (with_reducible rfl));refine tq 8 120 rfl ?_;refine tq 9 121 rfl ?_;refine tq 10 122 rfl ?_;refine tq 11 123 rfl ?_;refine tq 12 124 rfl ?_ (hy:=by intro w' R;(try dsimp only at R);have h1:=(R.2 ⟨gl,o,none⟩ bf).trans a1;go_simp;try (with_reducible rfl));refine tq 13 125 rfl ?_;refine rd 14 (some 126) rfl fun K B=>?_;go_simp;(refine (bn.out _ Q).mono ?_;rintro e v1 ⟨⟨C,V,h,ii,s,Ap,cp,ps,rfl,am,P,a2,a5,ad⟩,H⟩);refine B.out _ _ (KA.of_below (Q.trans (H.mono Q.size))) fun t=>?_;clear B K;(try simp only [pS,pB,pZ,pC]);have Q1:=Q.trans (H.mono Q.size);have en:=ad v1.heap.size v1 (.inr (ag _)) (World.grownBy.refl v1 _);have b4:=ae (fun (W:World)=>Zwg a2 am W);refine rd 15 (some 127) rfl fun K B=>?_;go_simp;(refine (b4.out _).mono ?_;rintro e v2 ⟨rfl,M⟩);refine B.out _ _ (KA.of_below (Q1.trans (M.mono Q1.size))) fun t=>?_;clear B K;(try simp only [pS,pB,pZ,pC]);have Q2:=Q1.trans (M.mono Q1.size);have gf:=ae (bz.out v2 Q2 C V h ii s Ap cp ps (en.keep M) a5);clear ad en a5 a2 am P b4 bz bn;refine rd 16 (some 128) rfl fun K B=>?_;go_simp;(refine gf.out.mono ?_;rintro e v3 ⟨bb,L',rfl,ku,t1,t2,t3,bs,S3⟩);refine B.out _ _ ((KA.of_below Q2).trans ⟨bs.size,ga.out v2 v3 L' Q2 bs S3⟩) fun t=>?_;clear B K;(try simp only [pS,pB,pZ,pC]);have r:=ae (show (ShP v3 [k5,k6] a4 a3 al ab L'/\ShP v3 [k5,k6] a7 a6 a0 an [])/\(∀ f∈L'.map (·.f),f∈fl0++fl1.map Zja)/\KA bg v3/\Bl w v3 from by
       have hP:=Zaa r.out.2.2.2 Q2 r.out.2.2.2.size;refine ⟨⟨S3,(r.out.1.2.keep Q2).other b6 (r.out.1.1.keep Q2).hm S3.hm bs⟩,fun f' dz=>?_,r.out.2.2.1.trans ((KA.of_below Q2).trans ⟨bs.size,ga.out v2 v3 L' Q2 bs S3⟩),hP.grown bs hP.size (fun j e=>by injection e with e;omega)⟩;rw [t3] at dz;split at dz
       ·rcases List.mem_append.1 dz with h | h
        ·exact r.out.2.1 f' h
        ·rw [List.mem_singleton.1 h];exact bp.out
       ·exact r.out.2.1 f' dz)
      clear t1 t2 t3 bs S3 gf ga Q2 Q1 Q H M;refine tq 17 111 rfl ?_;refine tq 18 129 rfl ?_;refine tq 19 130 rfl ?_;refine tq 20 15 rfl ?_;refine tq 21 16 rfl ?_;refine dn ?_;clear a1 bf HO be bp;go_wp2_with fail;go_roundw
      case rel=>exact ⟨k+1,L',by go_num,by omega,by omega,r⟩
      case measure=>simp [intOf];omega
    | false =>
     clear gb;have fh:=ae (show fl0.length<=14/\fl1.length<=14 from by
      obtain ⟨A,c,l,h1,h2⟩:=a9.out 0 (by omega);obtain ⟨A',c',l',j2,ka⟩:=a9.out 1 (by omega);have h3:=(h2 _ r.out.2.2.1).2.ok.len;have h4:=(ka _ r.out.2.2.1).2.ok.len;rw [h1] at h3;rw [j2] at h4;exact ⟨h3,by have:((fl1.map Zja).length)<=14:=h4;rwa [ba] at this⟩)
     go_wp2_with fail;go_loopw [17] (fun v wr=>∃ (o:Nat) (La Lb:List FV),v=.int O (o:Int)/\o<=2/\Hid (Yf6 fl0 fl1 [k5,k6] a7 a6 a0 an a4 a3 al ab w bg wr La Lb o 0)) (fun v _=>2 - (intOf v).toNat)
     case atStart=>exact ⟨0,[],L,rfl,by omega,ae ⟨r.out.1,r.out.2.1,by rw [Zyq];rfl,(fun f hf=>by cases hf),by simp;omega,r.out.2.2.1,r.out.2.2.2⟩⟩
     case round=>as_aux_lemma =>
      clear r;obtain ⟨o,La,Lb,rfl,kp,r⟩:=hrel;by_cases ho:o<2
      ·have d1:=decide_eq_true ho;have dI:decide ((o:Int)<2)=true:=decide_eq_true (by omega);obtain ⟨A,c,l,cn,hO⟩:=a9.out o ho;have HO:=ae hO;have be:=ae cn;clear hO cn a9;have o0:(0:Int)<=(o:Int)/\(o:Int)<2:=by omega
       have o1:(o:Int)<2:=by omega
       go_wp2_with fail;go_loopw [18] (fun v wr=>∃ (i:Nat) (La Lb:List FV),v=.int O (i:Int)/\i<=l.length/\Hid (Yf6 fl0 fl1 [k5,k6] a7 a6 a0 an a4 a3 al ab w bg wr La Lb o i)) (fun v _=>l.length - (intOf v).toNat)
       case atStart=>exact ⟨0,La,Lb,rfl,bi _,r⟩
       case round=>as_aux_lemma =>
        clear r d1 dI La Lb;obtain ⟨i,La,Lb,rfl,hi,r⟩:=hrel;have a1:=(HO.out wr r.out.2.2.2.2.2.1).1;have bf:=bu wr _ a1;have jy:l.length<=14:=by have h:=(HO.out wr r.out.2.2.2.2.2.1).2.ok.len;rw [ba] at h;exact h
        by_cases aa:i<l.length
        ·have d2:=decide_eq_true aa;obtain ⟨aq,c6⟩:∃ aq:Nat,5+o=aq:=⟨_,rfl⟩;have s1:IntKind.i64.wrap (5+(o:Int))=(aq:Int):=by rw [az];omega
         have s2:IntKind.u64.wrap (aq:Int)=(aq:Int):=by rw [fu];omega
         have ko:=(r.out.2.2.2.2.2.1).1;have bn:=ae (fun (W:World) (N:Bl wr W)=>(by
          have hk:=r.out.2.2.2.2.2.1.trans (KA.of_below N);have hG:=(HO.out W hk).2;have h:=Zww o ho (l.map (·.f)) hG.ok A c (by rw [ba];exact hG.cap) W w4.heap.size (aj cx hk.1) hG.row i (by rw [ba];exact aa);simp only [c6,ba] at h;exact h:Calls prog 10 #[.int J (aq:Int),I A l.length c,.int O (i:Int),.int O (l.length:Int)] W fun e w'=>(∃ C V h ii s Ap cp ps,e=G (.agg C)/\C.all (·.oneCell')=true/\C.size=30/\Zh7 C h ii V s (I Ap ps.length cp)/\tkE ks2 h s ii ps (some ((l.map (·.f))[i]'(by rw [ba];exact aa)))=0/\∀ g W',(w4.heap.size<=g/\g<W.heap.size∨w'.heap.size<=g)->w'.grownBy W' (some g)->CyS W' C V h ii s Ap cp ps (some ((l.map (·.f))[i]'(by rw [ba];exact aa))))/\Bl W w'))
         have f1:=ae (show (l.map (·.f))[i]'(by rw [ba];exact aa)=(Zqf fl0 fl1 o)[i]'(by rw [<- be.out,ba];exact aa) from by
          have h:∀ (m:List Fil) (e:l.map (·.f)=m) (h2:i<m.length),(l.map (·.f))[i]'(by rw [ba];exact aa)=m[i]:=fun m e h2=>by subst e;rfl
          exact h _ be.out (by rw [<- be.out,ba];exact aa))
         have bp:=ae (show (l.map (·.f))[i]'(by rw [ba];exact aa)∈fl0++fl1.map Zja from by rw [f1.out];exact Zwx _);have ds:=ae (show (l.map (·.f))[i]'(by rw [ba];exact aa) ∉ Zec fl0 fl1 o i/\Zec fl0 fl1 o (i+1)=Zec fl0 fl1 o i++[(l.map (·.f))[i]'(by rw [ba];exact aa)] from by rw [f1.out];exact ⟨Zup cq.out ho _,Zoc ho _⟩);clear f1;generalize (l.map (·.f))[i]'(by rw [ba];exact aa)=f at *;go_upto_region 28 with fail;go_cut [19] (fun p wx=>∃ (gc:Nat) (C V:Array Value) (h:Hd) (ii:Int) (s:Nat) (Ap:Option Addr) (cp:Nat) (ps:List Nat),p=Y (some ⟨gc,0,none⟩)/\Blk wx gc 58 C/\C.size=30/\tkE ks2 h s ii ps (some f)=0/\CyS wx C V h ii s Ap cp ps (some f)/\Bl wr wx)
         case first=>as_aux_lemma =>
          clear r fl f5 fh cq bp ds HT HO be d4 b9 e8 fa;refine wp_region_held_drew (S:=(fun V=>Bl wr V)) (by kernel_rfl) ?_ (fun t=>?_)
          ·first | done | ((try dsimp only);exact (ap _ _).drew)
          have Q:=(ap wr.heap.size wr).drew;generalize wr.drew=v0 at *;refine tq 0 146 rfl ?_;refine tq 1 147 rfl ?_;refine tq 2 148 rfl ?_;refine tq 3 149 rfl ?_;refine tq 4 150 rfl ?_;refine tq 5 151 rfl ?_;refine tq 6 152 rfl ?_ (hy:=by intro w' R;(try dsimp only at R);have h1:=(R.cell (p:=⟨gl,o,none⟩) bf).trans a1;go_simp;try (with_reducible rfl));refine tq 7 153 rfl ?_;refine tq 8 154 rfl ?_;refine tq 9 155 rfl ?_;refine tq 10 156 rfl ?_;refine tq 11 157 rfl ?_ (hy:=by intro w' R;(try dsimp only at R);have h1:=(R.cell (p:=⟨gl,o,none⟩) bf).trans a1;go_simp;try (with_reducible rfl));refine tq 12 158 rfl ?_;have f6:=Q.size;refine rd2 13 (some 159) 15 (some 19) (by kernel_rfl) rfl rfl (fun K B=>?_) fun K B=>?_
          ·skip;go_simp;(refine (bn.out _ Q).mono ?_;rintro e v1 ⟨⟨C,V,h,ii,s,Ap,cp,ps,rfl,am,P,a2,a5,ad⟩,H⟩);refine B.out _ _ (Q.trans (H.mono Q.size)) fun t=>?_;clear B K;(try simp only [pS,pB,pZ,pC]);have Q1:=Q.trans (H.mono Q.size);have fs:=Q1.size;have b4:=ae (fun (W:World)=>Zwg a2 am W);have el:=ae ad;clear bn a2 ad H;refine rd2 14 (some 160) 15 (some 19) (by kernel_rfl) rfl rfl (fun K B=>?_) fun K B=>?_
           ·skip;go_simp;(refine (b4.out _).mono ?_;rintro e v2 ⟨rfl,M⟩);refine B.out _ _ (Q1.trans (M.mono Q1.size)) fun t=>?_;clear B K;(try simp only [pS,pB,pZ,pC]);have Q2:=Q1.trans (M.mono Q1.size);have Z:=Blk.new v2 58 #[iI 0,iI 0,iI 0,iI 0,uI 0,uI 0,iI 0,uI 0,iI 0,iI 0,iI 0,iI 0,iI 0,iI 0,iI 0,iI 0,iI 0,iI 0,iI 0,iI 0,nN,nN,nN,nN,iI 0,iI 0,nN,nN,uI 0,nN];have bc:=M.trans ((Zab v2 (U #[iI 0,iI 0,iI 0,iI 0,uI 0,uI 0,iI 0,uI 0,iI 0,iI 0,iI 0,iI 0,iI 0,iI 0,iI 0,iI 0,iI 0,iI 0,iI 0,iI 0,nN,nN,nN,nN,iI 0,iI 0,nN,nN,uI 0,nN] 58)).mono M.size);have Q3:=Q2.alloc Q2.size (U #[iI 0,iI 0,iI 0,iI 0,uI 0,uI 0,iI 0,uI 0,iI 0,iI 0,iI 0,iI 0,iI 0,iI 0,iI 0,iI 0,iI 0,iI 0,iI 0,iI 0,nN,nN,nN,nN,iI 0,iI 0,nN,nN,uI 0,nN] 58);have fr:v1.heap.size<=v2.heap.size:=M.size;refine rd 15 (some 19) rfl fun K B=>?_;go_simp;skip;refine B.out _ _ (Q3) fun t=>?_;clear B K;(try simp only [pS,pB,pZ,pC]);refine rd 16 none rfl fun K B=>?_;rw [if_pos (by rfl)];refine Zdl (T:=58) (n:=30) (by kernel_rfl) Z rfl _ _ rfl rfl C rfl P am (fun v9 X9 g9=>?_);have Q9:=Q3.grown g9 Q3.size (fun k e=>by injection e with e;omega);have bl:=el.out _ v9 (.inr fr) (Zac (Zaf bc) g9 (fun _ e _=>e));refine B.out _ _ Q9 (fun t=>?_);clear B K;dsimp only [Act.put];refine dn ?_;go_wp2_with fail;go_meet;exact ⟨_,C,V,h,ii,s,Ap,cp,ps,rfl,X9,P,a5,bl,Q9⟩
           ·skip;go_simp;skip;refine B.out _ _ (Q1.alloc Q1.size _) fun t=>?_;clear B K;(try simp only [pS,pB,pZ,pC]);have Q2:=Q1.alloc Q1.size (U #[iI 0,iI 0,iI 0,iI 0,uI 0,uI 0,iI 0,uI 0,iI 0,iI 0,iI 0,iI 0,iI 0,iI 0,iI 0,iI 0,iI 0,iI 0,iI 0,iI 0,nN,nN,nN,nN,iI 0,iI 0,nN,nN,uI 0,nN] 58);have Z:=Blk.new v1 58 #[iI 0,iI 0,iI 0,iI 0,uI 0,uI 0,iI 0,uI 0,iI 0,iI 0,iI 0,iI 0,iI 0,iI 0,iI 0,iI 0,iI 0,iI 0,iI 0,iI 0,nN,nN,nN,nN,iI 0,iI 0,nN,nN,uI 0,nN];have M:=Zab v1 (U #[iI 0,iI 0,iI 0,iI 0,uI 0,uI 0,iI 0,uI 0,iI 0,iI 0,iI 0,iI 0,iI 0,iI 0,iI 0,iI 0,iI 0,iI 0,iI 0,iI 0,nN,nN,nN,nN,iI 0,iI 0,nN,nN,uI 0,nN] 58);refine rd 14 (some 160) rfl fun K B=>?_;go_simp;(refine (b4.out _).mono ?_;rintro e v3 ⟨rfl,av⟩);refine B.out _ _ (Q2.trans (av.mono Q2.size)) fun t=>?_;clear B K;(try simp only [pS,pB,pZ,pC]);have fr:v1.heap.size<=v1.heap.size:=ag _;have bc:=M.trans (av.mono M.size);have Q3:=Q2.trans (av.mono Q2.size);have Z:=Z.keep av;refine rd 16 none rfl fun K B=>?_;rw [if_pos (by rfl)];refine Zdl (T:=58) (n:=30) (by kernel_rfl) Z rfl _ _ rfl rfl C rfl P am (fun v9 X9 g9=>?_);have Q9:=Q3.grown g9 Q3.size (fun k e=>by injection e with e;omega);have bl:=el.out _ v9 (.inr fr) (Zac (Zaf bc) g9 (fun _ e _=>e));refine B.out _ _ Q9 (fun t=>?_);clear B K;dsimp only [Act.put];refine dn ?_;go_wp2_with fail;go_meet;exact ⟨_,C,V,h,ii,s,Ap,cp,ps,rfl,X9,P,a5,bl,Q9⟩
          ·skip;go_simp;skip;refine B.out _ _ (Q.alloc Q.size _) fun t=>?_;clear B K;(try simp only [pS,pB,pZ,pC]);have Q1:=Q.alloc Q.size (U #[iI 0,iI 0,iI 0,iI 0,uI 0,uI 0,iI 0,uI 0,iI 0,iI 0,iI 0,iI 0,iI 0,iI 0,iI 0,iI 0,iI 0,iI 0,iI 0,iI 0,nN,nN,nN,nN,iI 0,iI 0,nN,nN,uI 0,nN] 58);have Z:=Blk.new v0 58 #[iI 0,iI 0,iI 0,iI 0,uI 0,uI 0,iI 0,uI 0,iI 0,iI 0,iI 0,iI 0,iI 0,iI 0,iI 0,iI 0,iI 0,iI 0,iI 0,iI 0,nN,nN,nN,nN,iI 0,iI 0,nN,nN,uI 0,nN];have j6:=Z.lt;refine rd 13 (some 159) rfl fun K B=>?_;go_simp;(refine (bn.out _ Q1).mono ?_;rintro e v1 ⟨⟨C,V,h,ii,s,Ap,cp,ps,rfl,am,P,a2,a5,ad⟩,H⟩);refine B.out _ _ (Q1.trans (H.mono Q1.size)) fun t=>?_;clear B K;(try simp only [pS,pB,pZ,pC]);have Q2:=Q1.trans (H.mono Q1.size);have b4:=ae (fun (W:World)=>Zwg a2 am W);have el:=ae ad;have Z:=Z.keep H;clear bn a2 ad;refine rd 14 (some 160) rfl fun K B=>?_;go_simp;(refine (b4.out _).mono ?_;rintro e v3 ⟨rfl,av⟩);refine B.out _ _ (Q2.trans (av.mono Q2.size)) fun t=>?_;clear B K;(try simp only [pS,pB,pZ,pC]);have Q3:=Q2.trans (av.mono Q2.size);have Z:=Z.keep av;refine rd 16 none rfl fun K B=>?_;rw [if_pos (by rfl)];refine Zdl (T:=58) (n:=30) (by kernel_rfl) Z rfl _ _ rfl rfl C rfl P am (fun v9 X9 g9=>?_);have Q9:=Q3.grown g9 Q3.size (fun k e=>by injection e with e;omega);have bl:=el.out _ v9 (.inl ⟨by omega,j6⟩) (Zac (Zaf av) g9 (fun _ e _=>e));refine B.out _ _ Q9 (fun t=>?_);clear B K;dsimp only [Act.put];refine dn ?_;go_wp2_with fail;go_meet;exact ⟨_,C,V,h,ii,s,Ap,cp,ps,rfl,X9,P,a5,bl,Q9⟩
         case rest=>as_aux_lemma =>
         obtain ⟨gc,C,V,h,ii,s,Ap,cp,ps,rfl,X,P,a5,ad,Q⟩:=hcut;obtain ⟨j7,rfl⟩:∃ z:World,z=wc:=⟨_,rfl⟩;have HH:=ae (r.out.keep Q);clear r bn a1 bf;have bz:=ae (fun (W:World) (As:Option Addr) (cs sp mb:Nat) (L:List FV) (S:ShP W [k5,k6] As cs sp mb L) (hB:Bl w W) (hl:L.length<=900) (h5:∀ g∈L.map (·.f),g∈fl0++fl1.map Zja) (ad:CyS W C V h ii s Ap cp ps (some f))=>(Zwu S ad (by rw [<- b9.out];exact d4.out) ((hB.cell (p:=⟨0,0,none⟩) HT.out.2).trans HT.out.zero) hl (by rw [<- b9.out];exact a5) (fun y hy e=>Zoa cq.out (h5 _ (List.mem_map.2 ⟨y,hy,rfl⟩)) bp.out e):Calls prog 12 #[Y (some ⟨sp,0,none⟩),.agg C] W fun e W'=>∃ (b:Bool) (L':List FV),e=G (.tuple #[.bool b,.int O 0])/\L'.length<=L.length+1/\(b=false->f∈L.map (·.f))/\(b=true->f ∉ L.map (·.f))/\L'.map (·.f)=(if b then L.map (·.f)++[f] else L.map (·.f))/\W.grownBy W' (some mb)/\ShP W' [k5,k6] As cs sp mb L'));have j5:La.length<=28:=by
          have h1:=congrArg List.length HH.out.2.2.1;rw [ba] at h1;have h2:=Yb9 fl0 fl1 o i;have h3:=fh.out;omega
         have j0:Lb.length<=38:=by have:=HH.out.2.2.2.2.1;omega
         have jl:=ae ad;have jo:=ae (bz.out j7 a7 a6 a0 an La HH.out.1.2 HH.out.2.2.2.2.2.2 (by omega) (fun g hg=>HH.out.2.1 g (HH.out.2.2.2.1 g hg)) ad);clear ad a5;go_wp2_with (refine Zek X P _ rfl rfl rfl ?_);refine jo.out.mono ?_;rintro e v1 ⟨b1,bq,rfl,r1,t1,t2,t3,g1,S1⟩;have H:b1=true:=by
          cases b1 with
          | true=>rfl
          | false=>exact absurd (t1 rfl) (by rw [HH.out.2.2.1];exact ds.out.1)
         subst H;have X1:=X.grown g1 (fun e=>Zg8 HH.out.1.2.hm X (Option.some.inj e));have fo:=ae (jl.out.mapd g1 HH.out.1.2.hm S1.hm);have c3:=ae S1;have b8:=ae (HH.out.1.1.other (Ne.symm b6) HH.out.1.2.hm S1.hm g1);have HP:=ae (HH.out.2.2.2.2.2.2.grown g1 HH.out.2.2.2.2.2.2.size (fun j e=>by injection e with e;omega));have HK:=ae (HH.out.2.2.2.2.2.1.trans ⟨g1.size,fun p hp=>KR.of_map g1 HH.out.1.2.hm S1.hm p hp⟩);have HM:=ae (show bq.map (·.f)=Zec fl0 fl1 o (i+1)/\bq.map (·.f)=La.map (·.f)++[f] from by
          have e:bq.map (·.f)=La.map (·.f)++[f]:=t3;exact ⟨by rw [e,HH.out.2.2.1,ds.out.2],e⟩)
         have HB:=ae (And.intro HH.out.2.1 HH.out.2.2.2.1);have kh:=HH.out.2.2.2.2.1;have hh:=ae (bz.out v1 a4 a3 al ab Lb b8.out HP.out (by omega) HH.out.2.1 fo.out);clear t1 t2 t3 g1 S1 jo jl HH X;go_wp2_with (refine Zek X1 P _ rfl rfl rfl ?_);refine hh.out.mono ?_;rintro e v2 ⟨b2,cd,rfl,r2,t1,t2,t3,g2,S2⟩;have X2:=X1.grown g2 (fun e=>Zg8 b8.out.hm X1 (Option.some.inj e));have hb:=ae (fo.out.mapd g2 b8.out.hm S2.hm);have ci:=ae S2;have eg:=ae (c3.out.other b6 b8.out.hm S2.hm g2);have d7:=ae (HP.out.grown g2 HP.out.size (fun j e=>by injection e with e;omega));have ih:=ae (HK.out.trans ⟨g2.size,fun p hp=>KR.of_map g2 b8.out.hm S2.hm p hp⟩);have cu:=ae (show (∀ g∈cd.map (·.f),g∈fl0++fl1.map Zja)/\(∀ g∈Lb.map (·.f),g∈cd.map (·.f))/\f∈cd.map (·.f) from by
          rw [t3];cases b2 with
          | true =>
           rw [if_pos rfl];refine ⟨fun g hg=>?_,fun g hg=>List.mem_append.2 (.inl hg),List.mem_append.2 (.inr (List.mem_singleton.2 rfl))⟩;rcases List.mem_append.1 hg with hg | hg
           ·exact HB.out.1 g hg
           ·rw [List.mem_singleton.1 hg];exact bp.out
          | false =>
           rw [if_neg (by decide)];exact ⟨HB.out.1,fun g hg=>hg,t1 rfl⟩)
         have a8:=ae (show ∀ g∈bq.map (·.f),g∈cd.map (·.f) from fun g hg=>by
          rw [HM.out.2] at hg;rcases List.mem_append.1 hg with hg | hg
          ·exact cu.out.2.1 g (HB.out.2 g hg)
          ·rw [List.mem_singleton.1 hg];exact cu.out.2.2)
         have kj:bq.length=La.length+1:=by
          have h1:=congrArg List.length HM.out.2;rw [ai,ba,ba,ei] at h1;exact h1
         have hc:=ae (bz.out v2 a7 a6 a0 an bq eg.out d7.out (by omega) (fun g hg=>cu.out.1 g (a8.out g hg)) hb.out);clear t1 t2 t3 g2 S2 hh fo b8 c3 X1 HP HK bz;go_wp2_with (refine Zek X2 P _ rfl rfl rfl ?_);refine hc.out.mono ?_;rintro e v3 ⟨b3,dv,rfl,r3,t1,t2,t3,g3,S3⟩;have bc:b3=false:=by
          cases b3 with
          | false=>rfl
          | true=>exact absurd (by rw [HM.out.2];exact List.mem_append.2 (.inr (List.mem_singleton.2 rfl))) (t2 rfl)
         subst bc;have d6:dv.map (·.f)=bq.map (·.f):=t3;have kt:dv.length=bq.length:=by have h1:=congrArg List.length d6;rw [ba,ba] at h1;exact h1
         have HN:=ae (show Yf6 fl0 fl1 [k5,k6] a7 a6 a0 an a4 a3 al ab w bg v3 dv cd o (i+1) from ⟨⟨ci.out.other (Ne.symm b6) eg.out.hm S3.hm g3,S3⟩,cu.out.1,by rw [d6];exact HM.out.1,(fun g hg=>a8.out g (by rw [<- d6];exact hg)),by omega,ih.out.trans ⟨g3.size,fun p hp=>KR.of_map g3 eg.out.hm S3.hm p hp⟩,d7.out.grown g3 d7.out.size (fun j e=>by injection e with e;omega)⟩);clear t1 t2 t3 g3 S3 hc hb eg ci X2 d7 ih cu a8 HM HB d6 bp ds;go_wp2_with fail;go_roundw
         case rel=>exact ⟨i+1,dv,cd,by go_num,by omega,HN⟩
         case measure=>simp [intOf];omega
        ·have d2:=decide_eq_false aa;obtain rfl:i=l.length:=by omega
         have j8:=ae (show Yf6 fl0 fl1 [k5,k6] a7 a6 a0 an a4 a3 al ab w bg wr La Lb (o+1) 0 from by
          have h:=r.out;unfold Yf6 at h ⊢;rw [<- Zyr ho,<- be.out,ba];exact h)
         clear r HO be;go_wp2_with fail;go_roundw
         case rel=>exact ⟨o+1,La,Lb,by go_num,by omega,j8⟩
         case measure=>simp [intOf];omega
      ·have d1:=decide_eq_false ho;have dI:decide ((o:Int)<2)=false:=decide_eq_false (by omega);obtain rfl:o=2:=by omega
       obtain ⟨Aa,ca,la,jp,ft⟩:=a9.out 0 (by omega);obtain ⟨Ab,cb,lb,hmb,f3⟩:=a9.out 1 (by omega);have cr:=ae (ft wr r.out.2.2.2.2.2.1).2;have c7:=ae (f3 wr r.out.2.2.2.2.2.1).2;have dr:=(ft wr r.out.2.2.2.2.2.1).1;have cv:=(f3 wr r.out.2.2.2.2.2.1).1;have ha:=bu wr _ dr;have hw:=bu wr _ cv;have j5:la.length<=14:=by have h:=cr.out.ok.len;rw [ba] at h;exact h
       have j0:lb.length<=14:=by have h:=c7.out.ok.len;rw [ba] at h;exact h
       have fx:=ae (show (la++lb).map (·.f)=fl0++fl1.map Zja from by rw [cj,jp,hmb];rfl);have fm:=ae (show La.map (·.f)=fl0++fl1.map Zja from by rw [r.out.2.2.1];exact Yb8 _ _);have kw:La.length<=28:=by have h1:=congrArg List.length (fm.out.trans fx.out.symm);rw [ba,ba,ai] at h1;omega
       have ks:Lb.length<=38:=by have:=r.out.2.2.2.2.1;omega
       have ND:∀ L:List FV,Zc9 L->(L.map (·.f)).Nodup:=fun L h=>by
        have h2:((L.map (·.f)).map (·.file)).Nodup:=by rw [iz];exact h
        exact (List.pairwise_map.1 h2).imp (fun h e=>h (congrArg _ e))
       have fn:=ae (show (La.map (·.f)).Perm (Lb.map (·.f))/\(La.map (·.f)).Perm ((la++lb).map (·.f)) from ⟨Zsj (ND La r.out.1.2.fi) (ND Lb r.out.1.1.fi) (fun x=>⟨fun h=>r.out.2.2.2.1 x h,fun h=>by rw [fm.out];exact r.out.2.1 x h⟩),by rw [fm.out,fx.out]⟩);have jt:=ae (show Zpv ((la++lb).map qOf) from Ye8 (by
        rw [fx.out];intro f hf p hp;rcases List.mem_append.1 hf with hf | hf
        ·obtain ⟨g,hg,e⟩:=f5.out f hf p hp;exact ⟨g,List.mem_append.2 (.inl hg),e⟩
        ·obtain ⟨f0,_,rfl⟩:=List.mem_map.1 hf;cases hp))
       have h6:=ae (show Zi1 wr (la++lb) from fun x hx=>by
        rcases List.mem_append.1 hx with hx | hx
        ·exact cr.out.af x hx
        ·exact c7.out.af x hx)
       have h9:=ae (fun (W:World) (N:Bl wr W)=>(cr.out.sl.keep N:SlF W (I Aa la.length ca) la));have il:=ae (fun (W:World) (N:Bl wr W)=>(c7.out.sl.keep N:SlF W (I Ab lb.length cb) lb));have ce:=ae (show (∀ u∈Zam la,u.oneCell'=true)/\(∀ u∈Zam lb,u.oneCell'=true) from ⟨Zfu cr.out.af,Zfu c7.out.af⟩);have b0:=ae (fun (W:World) (N:Bl wr W)=>(by
        have hP:=Zaa r.out.2.2.2.2.2.2 N r.out.2.2.2.2.2.2.size;exact ⟨(hP.cell (p:=⟨0,0,none⟩) HT.out.2).trans HT.out.zero,ah HT.out.2 hP.size,hP⟩:W.cell? ⟨0,0,none⟩=some (.int O 655)/\0<W.heap.size/\Bl w W))
       have fy:=ae (fun (W:World) (N:Bl wr W)=>Zob La r.out.1.2.fi (by omega) a0 an La.length a7 2 a6 W (r.out.1.2.keep N).hs (r.out.1.2.keep N).hm (r.out.1.2.keep N).af (b0.out W N).1 (b0.out W N).2.1);have g5:=ae (fun (W:World) (N:Bl wr W)=>Zob Lb r.out.1.1.fi (by omega) al ab Lb.length a4 2 a3 W (r.out.1.1.keep N).hs (r.out.1.1.keep N).hm (r.out.1.1.keep N).af (b0.out W N).1 (b0.out W N).2.1);have a8:=ae (fun (W:World) (N:Bl wr W)=>And.intro (r.out.1.2.keep N).af (And.intro (r.out.1.1.keep N).af (h6.out.keep N)));have f7:=ae (fun (W:World) (N:Bl wr W) (v:Value) (hv:SlF W v (la++lb))=>(by
        have hq:=Yjq hv (h6.out.keep N);exact ⟨Ze1 La r.out.1.2.fi a0 an La.length _ ((la++lb).map qOf) (by rw [ba,ai];omega) v W (r.out.1.2.keep N).hs (r.out.1.2.keep N).hm (r.out.1.2.keep N).af hq.1 hq.2 jt.out,Ze1 Lb r.out.1.1.fi al ab Lb.length _ ((la++lb).map qOf) (by rw [ba,ai];omega) v W (r.out.1.1.keep N).hs (r.out.1.1.keep N).hm (r.out.1.1.keep N).af hq.1 hq.2 jt.out⟩:(Calls prog 19 #[Y (some ⟨a0,0,none⟩),v] W fun e w'=>e=G (I none 0 0)/\Bl W w')/\(Calls prog 19 #[Y (some ⟨al,0,none⟩),v] W fun e w'=>e=G (I none 0 0)/\Bl W w')))
       clear jp hmb ft f3 a9 fl cr c7 ND r f5 e8 fa cq fh d4 b9;go_upto_region 34 with fail;refine wp_region_held_drew (S:=(fun V=>Bl wr V)) (by kernel_rfl) ?_ (fun t=>?_)
       ·first | done | ((try dsimp only);exact (ap _ _).drew)
       have Q:=(ap wr.heap.size wr).drew;generalize wr.drew=u0 at *;refine tq 1 197 rfl ?_;refine tq 2 198 rfl ?_;refine tq 3 199 rfl ?_ (hy:=by intro w' R;(try dsimp only at R);have h1:=(R.cell (p:=⟨gl,0,none⟩) ha).trans dr;go_simp;try (with_reducible rfl));refine tq 5 201 rfl ?_;refine tq 6 202 rfl ?_;refine tq 7 203 rfl ?_ (hy:=by intro w' R;(try dsimp only at R);have h1:=(R.cell (p:=⟨gl,1,none⟩) hw).trans cv;go_simp;try (with_reducible rfl));refine rd 0 (some 196) rfl fun K B=>?_;go_simp;skip;refine B.out _ _ (Q.alloc Q.size _) fun t=>?_;clear B K;(try simp only [pS,pB,pZ,pC]);have E:=gr u0 #[] 0 (base:=wr.heap.size) (e:=48) (size:=19) Q.size (bi _) rfl;have Q1:=Q.alloc Q.size (U #[] 48);generalize u0.heap.size=ge at *;generalize u0.alloc _=u1 at *;refine rd 4 (some 200) rfl fun K B=>?_;rw [if_pos (by rfl)];refine Zbm underlying23 info48 rfl (by omega) (by omega) E (h9.out u1 Q1) ce.out.1 (by omega) (by omega) Q1.size _ _ rfl rfl rfl ?_;intro v6 u6 O6 g6 l6;have Q6:=Q1.grown g6 Q1.size (fun j e=>(E.lt j e).1);refine B.out _ _ Q6 (fun t=>?_);clear B K E g6 l6;(try simp only [pS,pB,pZ,pC]);refine rd 8 (some 204) rfl fun K B=>?_;rw [if_pos (by rfl)];refine Zbm underlying23 info48 rfl (by omega) (by omega) O6 (il.out u6 Q6) ce.out.2 (by omega) (by omega) Q6.size _ _ rfl rfl rfl ?_;intro v8 u8 O8 g8 l8;have Q8:=Q6.grown g8 Q6.size (fun j e=>(O6.lt j e).1);refine B.out _ _ Q8 (fun t=>?_);clear B K O6 g8 l8;(try simp only [pS,pB,pZ,pC]);refine tq 9 26 rfl ?_;refine dn ?_;have HV:=ae (show SlF u8 v8 (la++lb) from by
        have h:=Zer.of_own O8;rw [dm,<- Zcv,cz,<- ai] at h;exact h)
       clear O8 h9 il ce dr cv ha hw;go_wp2_with fail;refine (fy.out u8 Q8).mono ?_;rintro e x1 ⟨⟨y1,m1,rfl,p1,s1,r1⟩,H⟩;have R1:=Q8.trans (H.mono Q8.size);have H1:=ae (And.intro p1 (And.intro s1 r1));clear p1 s1 r1;go_wp2_with fail;refine (g5.out x1 R1).mono ?_;rintro e x2 ⟨⟨y2,m2,rfl,p2,s2,r2⟩,M⟩;have R2:=R1.trans (M.mono R1.size);have c3:=ae (by
        have hr:=Zgi m1 m2 (by have:=H1.out.1.length_eq;omega) y1 y2 x2 (H1.out.2.2.keep M) r2 ((a8.out x2 R2).1.perm H1.out.1) ((a8.out x2 R2).2.1.perm p2);rw [decide_eq_true (show Zi9 m1=Zi9 m2 from Zkm H1.out.2.1 s2 (((H1.out.1.map (·.f)).trans fn.out.1).trans (p2.map (·.f)).symm))] at hr;exact hr:Calls prog 15 #[y1,y2] x2 fun e w'=>e=G (.bool true)/\Bl x2 w')
       clear p2 s2 r2 H1 g5;go_wp2_with fail;refine c3.out.mono ?_;rintro e x3 ⟨rfl,bc⟩;have R3:=R2.trans (bc.mono R2.size);clear c3;go_wp2_with fail;refine (fy.out x3 R3).mono ?_;rintro e x4 ⟨⟨y4,m4,rfl,p4,s4,r4⟩,av⟩;have R4:=R3.trans (av.mono R3.size);have H4:=ae (And.intro p4 (And.intro s4 r4));have d0:=(H.trans (M.mono H.size)).trans ((bc.trans (av.mono bc.size)).mono (aj H.size M.size));have h7:=ae (Zmt (la++lb) (by rw [ai];omega) v8 x4 (HV.out.keep d0) (a8.out x4 R4).2.2);clear p4 s4 r4 fy;go_wp2_with fail;refine h7.out.mono ?_;rintro e x5 ⟨⟨y5,m5,rfl,p5,s5,r5⟩,dp⟩;have R5:=R4.trans (dp.mono R4.size);have ci:=ae (by
        have hr:=Zgi m4 m5 (by have:=H4.out.1.length_eq;omega) y4 y5 x5 (H4.out.2.2.keep dp) (SlF.of_own r5) ((a8.out x5 R5).1.perm H4.out.1) ((a8.out x5 R5).2.2.perm p5);rw [decide_eq_true (show Zi9 m4=Zi9 m5 from Zkm H4.out.2.1 s5 (((H4.out.1.map (·.f)).trans fn.out.2).trans (p5.map (·.f)).symm))] at hr;exact hr:Calls prog 15 #[y4,y5] x5 fun e w'=>e=G (.bool true)/\Bl x5 w')
       clear p5 s5 r5 H4 h7 a8 fn;go_wp2_with fail;refine ci.out.mono ?_;rintro e x6 ⟨rfl,bx⟩;have R6:=R5.trans (bx.mono R5.size);have ej:=d0.trans ((dp.trans (bx.mono dp.size)).mono d0.size);clear ci;go_wp2_with fail;refine (f7.out x6 R6 v8 (HV.out.keep ej)).1.mono ?_;rintro e x7 ⟨rfl,ch⟩;have R7:=R6.trans (ch.mono R6.size);go_wp2_with fail;refine (f7.out x7 R7 v8 (HV.out.keep (ej.trans (ch.mono ej.size)))).2.mono ?_;rintro e x8 ⟨rfl,hj⟩;have R8:=R7.trans (hj.mono R7.size);go_wp2_with fail;refine (Zkj none none 0 0 x8).mono ?_;rintro e x9 ⟨rfl,rfl⟩;have g4:=ae (Zml x9 (b0.out x9 R8).1 (b0.out x9 R8).2.1);have HZ:=ae (b0.out x9 R8).2.2;clear f7 HV H M bc av dp bx ch hj d0 ej R1 R2 R3 R4 R5 R6 R7 R8;go_wp2_with fail;refine g4.out.mono ?_;rintro e kv ⟨rfl,cc⟩;have HY:=ae (Zaa HZ.out cc HZ.out.size);clear g4 cc HZ;go_wp2_with fail;go_ret;exact ⟨rfl,HY.out⟩
end Go.Proofs.YtglkadmfjaecmaaGreatDoor
