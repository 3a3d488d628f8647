import Derived.Test.YtglkadmfjaecmaaGreatDoorD10
set_option maxRecDepth 100000
set_option maxHeartbeats 16000000
namespace Go.Proofs.YtglkadmfjaecmaaGreatDoor
open Go.RowKit Go.Shelf _root_.Go.Proofs.Tryz
open Go.Value renaming slice->Z, pointer->O, agg->Y
open Go.IntKind renaming i64->G, u64->X
open Go.Obj renaming cells->V
open Go.Ending renaming returned->U
attribute [local go_sem] Oper.semAt_some
variable {B g i:Nat} {K:Act->World->Prop} {Q:Exit->Act->World->Prop} {S:World->Prop} {W W' w:World} {cs:Array Value} {m:Int} {o:Oper} {ops:Array Oper}
theorem Zeq (key:Nat) (b:key<18446744073709551616) (o t d s:Int) (l m:Nat) (hl:l<18446744073709551616) (hm:m<18446744073709551616) (sl:Int) (a:Nat) (w:World) :
  Calls prog 69 #[.int X (key:Int),Y #[iI o,iI t,iI d,iI s,uI (l:Int),uI (m:Int),iI sl,uI (a:Int)]] w fun e c=>e=U (.int X (Zk4 key ⟨o,t,d,s,l,m,sl,a⟩:Int))/\Bl w c:=by
 have f:=ae (Zba b);have k:=ae (Zba hl);have h:=ae (Zba hm);clear b hl hm;have r:IntKind.i64.wrap (key:Int)=Zbg key:=rfl;have p:IntKind.i64.wrap (l:Int)=Zbg l:=rfl;have q:IntKind.i64.wrap (m:Int)=Zbg m:=rfl;go_enter func69,ntmps69;go_wp2_with (go_at_call 65;refine (Zdu Ygi (by decide) [Zbg key,o,t,d,s,Zbg l,Zbg m,sl] [key,u64 o,u64 t,u64 d,u64 s,l,m,u64 sl] 8 _ (w.alloc (V #[iI o,iI t,iI d,iI s,uI (l:Int),uI (m:Int),iI sl,uI (a:Int)] 36)) _ (by simp) rfl rfl (by unfold Zfn;simp only [du,fq,f.out,k.out,h.out]) (fw rfl)).mono ?_;rintro e c ⟨rfl,j⟩);go_ret;exact ⟨rfl,Zaa (Zab _ _) j (by simp)⟩
theorem Ztk (b:Nat) (hk:b<18446744073709551616) (o t d s:Int) (l m:Nat) (hl:l<18446744073709551616) (hm:m<18446744073709551616) (sl:Int) (j:Nat) (w:World) :
  Calls prog 30 #[.int X (b:Int),Y #[iI o,iI t,iI d,iI s,uI (l:Int),uI (m:Int),iI sl,uI (j:Int)]] w fun e w' =>
   e=U (Y #[iI o,iI t,iI d,iI s,uI (l:Int),uI (m:Int),iI sl,uI (Zk4 (Zie b) ⟨o,t,d,s,l,m,sl,j⟩:Int)])/\Bl w w':=by
 have R:=ae hk;have P:=ae hl;have T:=ae hm;clear hk hl hm;go_enter func30,ntmps30;go_upto_region 1 with fail;have N:=(Blk.new w 36 #[iI o,iI t,iI d,iI s,uI (l:Int),uI (m:Int),iI sl,uI (j:Int)]).alloc (V #[iI 0,iI 0,iI 0,iI 0,uI 0,uI 0,iI 0,uI 0] 36);have E:=Blk.new (w.alloc (V #[iI o,iI t,iI d,iI s,uI (l:Int),uI (m:Int),iI sl,uI (j:Int)] 36)) 36 #[iI 0,iI 0,iI 0,iI 0,uI 0,uI 0,iI 0,uI 0];rw [ax] at E;have L:=(Zab w (V #[iI o,iI t,iI d,iI s,uI (l:Int),uI (m:Int),iI sl,uI (j:Int)] 36)).alloc (by simp) (V #[iI 0,iI 0,iI 0,iI 0,uI 0,uI 0,iI 0,uI 0] 36);generalize (w.alloc (V #[iI o,iI t,iI d,iI s,uI (l:Int),uI (m:Int),iI sl,uI (j:Int)] 36)).alloc (V #[iI 0,iI 0,iI 0,iI 0,uI 0,uI 0,iI 0,uI 0] 36)=W0 at *;go_cut [] (fun H=>Blk H w.heap.size 36 #[iI o,iI t,iI d,iI s,uI (l:Int),uI (m:Int),iI sl,uI (Zk4 (Zie b) ⟨o,t,d,s,l,m,sl,j⟩:Int)]/\Blk H (w.heap.size+1) 36 #[iI 0,iI 0,iI 0,iI 0,uI 0,uI 0,iI 0,uI 0]/\Bl w H)
 case first =>
  refine wp_region_held_drew (S:=(fun _=>True)) (by kernel_rfl) ?_ (fun a=>?_)
  ·first | done | ((try dsimp only);(try trivial))
  have r:=L.drew;have A:=N.drew;have C:=E.drew;clear L N E;generalize W0.drew=W1 at *;refine tq 0 5 rfl ?_;refine rd2 1 (some 6) 2 (some 7) (by kernel_rfl) rfl rfl (fun K c=>?_) fun K c=>?_
  ·skip;go_simp;(refine (Znu b R.out _).mono ?_;rintro e w1 ⟨rfl,f⟩);refine c.out _ _ ?_ (fun a=>?_)
   ·first | done | ((try dsimp only);(try trivial))
   clear c K;(try simp only [pS,pB,pZ,pC]);have I:=A.keep f;have M:=C.keep f;have k:=r.trans (f.mono r.size);have hc:=I.c8;refine rd 2 (some 7) rfl fun K c=>?_;go_simp;skip;refine c.out _ _ ?_ (fun a=>?_)
   ·first | done | ((try dsimp only);(try trivial))
   clear c K;(try simp only [pS,pB,pZ,pC]);refine rd 3 (some 8) rfl fun K c=>?_;go_simp;(refine (Zeq (Zie b) (Zcn _ _) o t d s l m P.out T.out sl j _).mono ?_;rintro e w2 ⟨rfl,h⟩);refine c.out _ _ ?_ (fun a=>?_)
   ·first | done | ((try dsimp only);(try trivial))
   clear c K;(try simp only [pS,pB,pZ,pC]);have u:=I.keep h;have y:=M.keep h;have q:=k.trans (h.mono k.size);have hc:=u.c8;have hf:=u.f8;refine tq 4 9 rfl ?_;refine rd 5 none rfl fun K c=>?_;go_simp;skip;refine c.out _ _ ?_ (fun a=>?_)
   ·first | done | ((try dsimp only);(try trivial))
   clear c K;(try simp only [pS,pB,pZ,pC]);refine dn ?_;go_wp2_with fail;go_meet;exact ⟨u.set 7 _,y.far (by simp) _,q.setCell (ag _) _⟩
  ·have hc:=A.c8;go_simp;skip;refine c.out _ _ ?_ (fun a=>?_)
   ·first | done | ((try dsimp only);(try trivial))
   clear c K;(try simp only [pS,pB,pZ,pC]);refine rd 1 (some 6) rfl fun K c=>?_;go_simp;(refine (Znu b R.out _).mono ?_;rintro e w1 ⟨rfl,f⟩);refine c.out _ _ ?_ (fun a=>?_)
   ·first | done | ((try dsimp only);(try trivial))
   clear c K;(try simp only [pS,pB,pZ,pC]);have I:=A.keep f;have M:=C.keep f;have k:=r.trans (f.mono r.size);refine rd 3 (some 8) rfl fun K c=>?_;go_simp;(refine (Zeq (Zie b) (Zcn _ _) o t d s l m P.out T.out sl j _).mono ?_;rintro e w2 ⟨rfl,h⟩);refine c.out _ _ ?_ (fun a=>?_)
   ·first | done | ((try dsimp only);(try trivial))
   clear c K;(try simp only [pS,pB,pZ,pC]);have u:=I.keep h;have y:=M.keep h;have q:=k.trans (h.mono k.size);have hc:=u.c8;have hf:=u.f8;refine tq 4 9 rfl ?_;refine rd 5 none rfl fun K c=>?_;go_simp;skip;refine c.out _ _ ?_ (fun a=>?_)
   ·first | done | ((try dsimp only);(try trivial))
   clear c K;(try simp only [pS,pB,pZ,pC]);refine dn ?_;go_wp2_with fail;go_meet;exact ⟨u.set 7 _,y.far (by simp) _,q.setCell (ag _) _⟩
 case rest =>
  obtain ⟨u,y,q⟩:=hcut;obtain ⟨H,rfl⟩:∃ z:World,z=wc:=⟨_,rfl⟩;clear N E L;have hc:=u.c8;have hd:=y.c8;have he:=y.f8;go_wp2_with fail;have J:Blk _ (w.heap.size+1) 36 #[iI o,iI t,iI d,iI s,uI (l:Int),uI (m:Int),iI sl,uI (Zk4 (Zie b) ⟨o,t,d,s,l,m,sl,j⟩:Int)]:=((((((((y.set 0 (.int G o)).set 1 (.int G t)).set 2 (.int G d)).set 3 (.int G s)).set 4 (.int X (l:Int))).set 5 (.int X (m:Int))).set 6 (.int G sl)).set 7 (.int X (Zk4 (Zie b) ⟨o,t,d,s,l,m,sl,j⟩:Int)));have x:=((((((((q.setCell (p:=⟨w.heap.size+1,0,none⟩) (gq _) (.int G o)).setCell (p:=⟨w.heap.size+1,1,none⟩) (gq _) (.int G t)).setCell (p:=⟨w.heap.size+1,2,none⟩) (gq _) (.int G d)).setCell (p:=⟨w.heap.size+1,3,none⟩) (gq _) (.int G s)).setCell (p:=⟨w.heap.size+1,4,none⟩) (gq _) (.int X (l:Int))).setCell (p:=⟨w.heap.size+1,5,none⟩) (gq _) (.int X (m:Int))).setCell (p:=⟨w.heap.size+1,6,none⟩) (gq _) (.int G sl)).setCell (p:=⟨w.heap.size+1,7,none⟩) (gq _) (.int X (Zk4 (Zie b) ⟨o,t,d,s,l,m,sl,j⟩:Int)));clear hc hd he
  revert J x
  generalize World.setCell _ _ _=wz;intro J x;obtain ⟨c0,c1,c2,c3,c4,c5,c6,c7⟩:=J.c8;exact bodyPost_ret (v:=Y #[iI o,iI t,iI d,iI s,uI (l:Int),uI (m:Int),iI sl,uI (Zk4 (Zie b) ⟨o,t,d,s,l,m,sl,j⟩:Int)]) (by simp [results,results30,go_sem,c0,c1,c2,c3,c4,c5,c6,c7]) rfl ⟨rfl,x⟩
def Yd3 (o t d s sl:Int):Prop:=(0<=o/\o<=11)/\(0<=t/\t<=1099511627776)/\(0<=d/\d<=131072)/\(0<=s/\s<=4096)/\(0<=sl/\sl<=s)
theorem Zhj (n hi:Int) (b:0<=n) (h1:n<=hi) (w:World) :
  Calls prog 155 #[.int G n,.int G hi] w fun e a=>e=U (.bool true)/\a=w:=by
 have c:=decide_eq_true b;have d1:=decide_eq_true h1;go_enter func155,ntmps155;go_wp2_with fail;go_ret;exact ⟨rfl,rfl⟩
theorem Zkf (o t d s:Int) (l m:Nat) (sl:Int) (v:Nat) (c:Yd3 o t d s sl) (g:Nat) (w:World) (E:Blk w g 56 #[iI o,iI t,iI d,iI s,uI (l:Int),uI (m:Int),iI sl,uI (v:Int)]) :
  Calls prog 115 #[Z (some ⟨g,0,none⟩) 1 1] w fun e a=>e=U (.bool true)/\Bl w a:=by
 obtain ⟨⟨h1,f⟩,⟨p,u⟩,⟨j,r⟩,⟨h,q⟩,k,b⟩:=c;have z:=ae (fun W=>Zhj o 11 h1 f W);have I:=ae (fun W=>Zhj t 1099511627776 p u W);have y:=ae (fun W=>Zhj d 131072 j r W);have C:=ae (fun W=>Zhj s 4096 h q W);have x:=ae (fun W=>Zhj sl s k b W);clear h1 f p u j r h q k b;go_enter func115,ntmps115;go_wp2_with fail;go_loopw [8] (fun i wr=>(i=.int G 0/\w=wr)∨(i=.int G 1/\Bl w wr)) (fun i _=>1 - (intOf i).toNat)
 case atStart=>exact .inl ⟨rfl,rfl⟩
 case round =>
  rcases hrel with ⟨rfl,rfl⟩ | ⟨rfl,H⟩
  ·have hc:=E.c8;have A:=Zab w (V #[iI o,iI t,iI d,iI s,uI (l:Int),uI (m:Int),iI sl,uI (v:Int)] 56);go_wp2_with fail;refine (z.out _).mono ?_;rintro e a ⟨rfl,rfl⟩;go_wp2_with fail;refine (I.out _).mono ?_;rintro e a ⟨rfl,rfl⟩;go_wp2_with fail;refine (y.out _).mono ?_;rintro e a ⟨rfl,rfl⟩;go_wp2_with fail;refine (C.out _).mono ?_;rintro e a ⟨rfl,rfl⟩;go_wp2_with fail;refine (x.out _).mono ?_;rintro e a ⟨rfl,rfl⟩;go_wp2_with fail;go_roundw
   case rel=>exact .inr ⟨rfl,A⟩
   case measure=>simp [intOf]
  ·go_wp2_with fail;go_ret;exact ⟨rfl,H⟩
theorem Zxy (key:Nat) (A:key<18446744073709551616) (o t d s:Int) (l m:Nat) (hl:l<18446744073709551616) (hm:m<18446744073709551616) (sl:Int) (b:Nat) (h:Yd3 o t d s sl) (hs:b=Zk4 key ⟨o,t,d,s,l,m,sl,b⟩) (w:World) :
  Calls prog 77 #[.int X (key:Int),Y #[iI o,iI t,iI d,iI s,uI (l:Int),uI (m:Int),iI sl,uI (b:Int)]] w fun e k=>e=U (.int G 0)/\Bl w k:=by
 have I:((b:Int) != (Zk4 key ⟨o,t,d,s,l,m,sl,b⟩:Int))=false:=by rw [<- hs];simp
 have z:=Blk.new w 56 #[iI o,iI t,iI d,iI s,uI (l:Int),uI (m:Int),iI sl,uI (b:Int)];have q:=Zab w (V #[iI o,iI t,iI d,iI s,uI (l:Int),uI (m:Int),iI sl,uI (b:Int)] 56);have p:=Blk.new (w.alloc (V #[iI o,iI t,iI d,iI s,uI (l:Int),uI (m:Int),iI sl,uI (b:Int)] 56)) 56 #[iI o,iI t,iI d,iI s,uI (l:Int),uI (m:Int),iI sl,uI (b:Int)];rw [ax] at p;have x:=ae (Zkf o t d s l m sl b h (w.heap.size+1) _ p);have J:=ae (fun W=>Ziv key A o t d s l m hl hm sl b W);have y:=z.alloc (V #[iI o,iI t,iI d,iI s,uI (l:Int),uI (m:Int),iI sl,uI (b:Int)] 56);have r:=q.alloc q.size (V #[iI o,iI t,iI d,iI s,uI (l:Int),uI (m:Int),iI sl,uI (b:Int)] 56);generalize Zk4 key ⟨o,t,d,s,l,m,sl,b⟩=sn at *;clear hs h A hl hm z q p;go_enter func77,ntmps77;go_wp2_with fail;refine x.out.mono ?_;rintro e H ⟨rfl,c⟩;have v:=y.keep c;have C:=Zaa r c r.size;clear y r c x;go_upto_region 3 with fail;refine wp_region_held_drew (S:=(fun k=>Blk k w.heap.size 56 #[iI o,iI t,iI d,iI s,uI (l:Int),uI (m:Int),iI sl,uI (b:Int)]/\Bl w k)) (by kernel_rfl) ?_ (fun a=>?_)
 ·first | done | ((try dsimp only);exact ⟨v,C.drew⟩)
 clear v C;generalize H.drew=L at *;refine tq 0 11 rfl ?_;refine th 1 12 rfl (fun _ f=>f.1.c8) ?_;refine tq 2 13 rfl ?_;refine th 3 14 rfl (fun _ f=>f.1.c8) ?_;refine rd 4 (some 15) rfl fun K u=>?_;go_simp;(refine (J.out _).mono ?_;rintro e w2 ⟨rfl,j⟩);refine u.out _ _ (⟨a.1.keep j,Zaa a.2 j a.2.size⟩) fun a=>?_;clear u K;(try simp only [pS,pB,pZ,pC]);refine tq 5 16 rfl ?_;refine tq 6 10 rfl ?_;refine dn ?_;have E:=ae a.2;clear a;go_wp2_with fail;go_ret;exact ⟨rfl,E.out⟩
theorem Ztl (key:Nat) (A:key<18446744073709551616) (o t d s:Int) (l m:Nat) (hl:l<18446744073709551616) (hm:m<18446744073709551616) (sl:Int) (b:Nat) (h:Yd3 o t d s sl) (hs:b≠Zk4 key ⟨o,t,d,s,l,m,sl,b⟩) (w:World) :
  Calls prog 77 #[.int X (key:Int),Y #[iI o,iI t,iI d,iI s,uI (l:Int),uI (m:Int),iI sl,uI (b:Int)]] w fun e k=>e=U (.int G 23)/\Bl w k:=by
 have I:((b:Int) != (Zk4 key ⟨o,t,d,s,l,m,sl,b⟩:Int))=true:=by
  simp only [bne_iff_ne,ne_eq];intro e;exact hs (by exact_mod_cast e)
 have z:=Blk.new w 56 #[iI o,iI t,iI d,iI s,uI (l:Int),uI (m:Int),iI sl,uI (b:Int)];have q:=Zab w (V #[iI o,iI t,iI d,iI s,uI (l:Int),uI (m:Int),iI sl,uI (b:Int)] 56);have p:=Blk.new (w.alloc (V #[iI o,iI t,iI d,iI s,uI (l:Int),uI (m:Int),iI sl,uI (b:Int)] 56)) 56 #[iI o,iI t,iI d,iI s,uI (l:Int),uI (m:Int),iI sl,uI (b:Int)];rw [ax] at p;have x:=ae (Zkf o t d s l m sl b h (w.heap.size+1) _ p);have J:=ae (fun W=>Ziv key A o t d s l m hl hm sl b W);have y:=z.alloc (V #[iI o,iI t,iI d,iI s,uI (l:Int),uI (m:Int),iI sl,uI (b:Int)] 56);have r:=q.alloc q.size (V #[iI o,iI t,iI d,iI s,uI (l:Int),uI (m:Int),iI sl,uI (b:Int)] 56);generalize Zk4 key ⟨o,t,d,s,l,m,sl,b⟩=sn at *;clear hs h A hl hm z q p;go_enter func77,ntmps77;go_wp2_with fail;refine x.out.mono ?_;rintro e H ⟨rfl,c⟩;have v:=y.keep c;have C:=Zaa r c r.size;clear y r c x;go_upto_region 3 with fail;refine wp_region_held_drew (S:=(fun k=>Blk k w.heap.size 56 #[iI o,iI t,iI d,iI s,uI (l:Int),uI (m:Int),iI sl,uI (b:Int)]/\Bl w k)) (by kernel_rfl) ?_ (fun a=>?_)
 ·first | done | ((try dsimp only);exact ⟨v,C.drew⟩)
 clear v C;generalize H.drew=L at *;refine tq 0 11 rfl ?_;refine th 1 12 rfl (fun _ f=>f.1.c8) ?_;refine tq 2 13 rfl ?_;refine th 3 14 rfl (fun _ f=>f.1.c8) ?_;refine rd 4 (some 15) rfl fun K u=>?_;go_simp;(refine (J.out _).mono ?_;rintro e w2 ⟨rfl,j⟩);refine u.out _ _ (⟨a.1.keep j,Zaa a.2 j a.2.size⟩) fun a=>?_;clear u K;(try simp only [pS,pB,pZ,pC]);refine tq 5 16 rfl ?_;refine tq 6 10 rfl ?_;refine dn ?_;have E:=ae a.2;clear a;go_wp2_with fail;go_ret;exact ⟨rfl,E.out⟩
theorem Zl6 (h:Nat) (a:h<18446744073709551616) (b o c:Nat) (w:World) (hc:w.cell? ⟨b,o,none⟩=some (.int X (h:Int))) :
  Calls prog 29 #[Z (some ⟨b,o,none⟩) 1 c] w fun e d=>e=U (.int X (Zce h:Int))/\Bl w d:=by
 have f:=ae (fun W=>Zl5 h a W);clear a;go_enter func29,ntmps29;go_wp2_with fail;refine (f.out _).mono ?_;rintro e d ⟨rfl,j⟩;go_wp2_with fail;go_ret;exact ⟨rfl,j⟩
theorem Zl7 (A:Option Addr) (c:Nat) (i:Int) (w:World) :
  Calls prog 32 #[Z A 1 c,.int G i] w fun e a=>e=U (Z none 0 0)/\a=w:=by
 go_enter func32,ntmps32;go_wp2_with fail;go_ret;exact ⟨rfl,rfl⟩
theorem Zrg (h:Nat) (l:h<18446744073709551616) (A:Option Addr) (c b k:Nat) (f:Value) (w:World) (d:Blk w b 4 #[.bool true]) (a:Blk w k 26 #[.int X (h:Int)]) :
  Calls prog 156 #[iI 0,iI 1,Z A 0 c,O (some ⟨b,0,none⟩),O (some ⟨k,0,none⟩),f] w fun e q=>e=U (.int X (Zce h:Int))/\Below (w.heap.size) (w.setCell ⟨b,0,none⟩ (.bool true)) q:=by
 have r:=ae (fun W=>Zvl h l W);have hc:=d.c1;have hd:=a.c1;have j:k≠b:=a.ne d (by decide);have s:=(a.far (p:=⟨b,0,none⟩) j (.bool true)).c1;clear l d a;go_enter func156,ntmps156;go_wp2_with fail;refine (r.out _).mono ?_;rintro e q ⟨rfl,a⟩;go_wp2_with fail;go_ret;exact ⟨rfl,by simpa [Bl] using a⟩
theorem Ztm (a h:Nat) (l:h<18446744073709551616) (hr:a=Zce h) (A:Option Addr) (c:Nat) (w:World) :
  Calls prog 117 #[.int X (a:Int),.int G 0,.int G 1,.int X (h:Int),Z A 0 c] w fun e C=>e=U (.int G 0)/\Bl w C:=by
 have x:((Zce h:Int) != (a:Int))=false:=by rw [hr];simp
 have r:=(Blk.new w 26 #[.int X (h:Int)]).alloc (V #[.bool true] 4);have d:=Blk.new (w.alloc (V #[.int X (h:Int)] 26)) 4 #[.bool true];rw [ax] at d;have q:=(Zab w (V #[.int X (h:Int)] 26)).alloc (by simp) (V #[.bool true] 4);have k:=r.alloc (V #[.func (.func 156) #[] #[O (some ⟨w.heap.size+1,0,none⟩),O (some ⟨w.heap.size,0,none⟩),O (some ⟨w.heap.size+1+1,0,none⟩)]] 194);have j:=d.alloc (V #[.func (.func 156) #[] #[O (some ⟨w.heap.size+1,0,none⟩),O (some ⟨w.heap.size,0,none⟩),O (some ⟨w.heap.size+1+1,0,none⟩)]] 194);have f:=q.alloc (by simp;omega) (V #[.func (.func 156) #[] #[O (some ⟨w.heap.size+1,0,none⟩),O (some ⟨w.heap.size,0,none⟩),O (some ⟨w.heap.size+1+1,0,none⟩)]] 194);have v:=ae (fun (W:World) (t:Blk W (w.heap.size+1) 4 #[.bool true]) (u:Blk W w.heap.size 26 #[.int X (h:Int)])=>Zrg h l A c (w.heap.size+1) w.heap.size (O (some ⟨w.heap.size+1+1,0,none⟩)) W t u);generalize Zce h=E at *;clear hr l r d q;go_enter func117,ntmps117;go_wp2_with fail;refine (v.out _ j k).mono ?_;rintro e H ⟨rfl,b⟩;have s:=(j.set1 (.bool true)).under b (by simp);have y:=s.c1;have z:=(f.setCell (p:=⟨w.heap.size+1,0,none⟩) (by simp) (.bool true)).trans (b.mono f.size);clear j k f b;go_wp2_with fail;go_ret;exact ⟨rfl,z⟩
theorem Zrh (a h:Nat) (l:h<18446744073709551616) (hr:a≠Zce h) (A:Option Addr) (c:Nat) (w:World) :
  Calls prog 117 #[.int X (a:Int),.int G 0,.int G 1,.int X (h:Int),Z A 0 c] w fun e C=>e=U (.int G 10)/\Bl w C:=by
 have x:((Zce h:Int) != (a:Int))=true:=by
  simp only [bne_iff_ne,ne_eq];intro e;exact hr (by exact_mod_cast e.symm)
 have r:=(Blk.new w 26 #[.int X (h:Int)]).alloc (V #[.bool true] 4);have d:=Blk.new (w.alloc (V #[.int X (h:Int)] 26)) 4 #[.bool true];rw [ax] at d;have q:=(Zab w (V #[.int X (h:Int)] 26)).alloc (by simp) (V #[.bool true] 4);have k:=r.alloc (V #[.func (.func 156) #[] #[O (some ⟨w.heap.size+1,0,none⟩),O (some ⟨w.heap.size,0,none⟩),O (some ⟨w.heap.size+1+1,0,none⟩)]] 194);have j:=d.alloc (V #[.func (.func 156) #[] #[O (some ⟨w.heap.size+1,0,none⟩),O (some ⟨w.heap.size,0,none⟩),O (some ⟨w.heap.size+1+1,0,none⟩)]] 194);have f:=q.alloc (by simp;omega) (V #[.func (.func 156) #[] #[O (some ⟨w.heap.size+1,0,none⟩),O (some ⟨w.heap.size,0,none⟩),O (some ⟨w.heap.size+1+1,0,none⟩)]] 194);have v:=ae (fun (W:World) (t:Blk W (w.heap.size+1) 4 #[.bool true]) (u:Blk W w.heap.size 26 #[.int X (h:Int)])=>Zrg h l A c (w.heap.size+1) w.heap.size (O (some ⟨w.heap.size+1+1,0,none⟩)) W t u);generalize Zce h=E at *;clear hr l r d q;go_enter func117,ntmps117;go_wp2_with fail;refine (v.out _ j k).mono ?_;rintro e H ⟨rfl,b⟩;have s:=(j.set1 (.bool true)).under b (by simp);have y:=s.c1;have z:=(f.setCell (p:=⟨w.heap.size+1,0,none⟩) (by simp) (.bool true)).trans (b.mono f.size);clear j k f b;go_wp2_with fail;go_ret;exact ⟨rfl,z⟩
theorem Ziw {a:Region.Mode} {L:Array Bool}:i∈Region.ready a ops L↔i<ops.size/\L.getD i true=false/\((ops[i]?).map (·.after.all fun e=>!Region.binds a e || L.getD e.on false)).getD false=true:=by
 unfold Region.ready;simp only [List.mem_filter,List.mem_range,gv,Bool.not_eq_true']
theorem Yac {P:Program} {s:Region.Mode} (J:List Nat) (aa:J.Nodup) (I:Nat->World->Prop) (a:Act) (y R:Array Bool) (f0:Nat)
  (af:∀ j∈J,y[j]?=some false)
  (hA:∀ j∈J,∃ o,ops[j]?=some o/\o.after.all (fun e=>!Region.binds s e || y.getD e.on false)=true)
  (hB:∀ i,y.getD i true=false->i ∉ J->∀ j∈J,∃ o,ops[i]?=some o/\∃ e∈o.after,Region.binds s e=true/\(e.on=j∨(y.getD e.on false=false/\e.on ∉ J)))
  (h1:∀ i∈J,R[i]?=some true) (h2:∀ i,i ∉ J->R[i]?=y[i]?)
  (hJ:∀ j∈J,∀ (m:Nat) (w:World) (K:Act->World->Prop),I (m+1) w->S w->(∀ t,I m t->S t->K a t)->wpOp P ops Q j K a w)
  (C:∀ w,I 0 w->S w->wpAnyH P s ops Q S f0 R a w) :
  ∀ (m:Nat) (L:Array Bool),(J.filter (fun j=>!L.getD j true)).length=m->(∀ i,i ∉ J->L[i]?=y[i]?)->(∀ j∈J,j<L.size)->∀ w,I m w->S w->wpAnyH P s ops Q S (f0+m) L a w:=by
 intro m;induction m with
 | zero =>
  intro L hm N r w hI hS;have e:L=R:=by
   refine Array.ext_getElem? fun i=>?_;by_cases hi:i∈J
   ·rw [h1 i hi];have c:¬ (!L.getD i true)=true:=fun h4=>by
     have h5:i∈J.filter (fun j=>!L.getD j true):=List.mem_filter.2 ⟨hi,h4⟩;have:=List.length_pos_of_mem h5;omega
    have h:=r i hi;rw [eh h];rw [db,eh h] at c;simpa using c
   ·rw [N i hi,h2 i hi]
  rw [e];exact C w hI hS
 | succ m ih =>
  intro L hm N r w hI hS;obtain ⟨j0,T⟩:∃ j,j∈J.filter (fun j=>!L.getD j true):=by
   cases hf:J.filter (fun j=>!L.getD j true) with
   | nil=>rw [hf] at hm;simp at hm
   | cons x l=>exact ⟨x,by simp⟩
  obtain ⟨p,b⟩:=List.mem_filter.1 T;simp only [Bool.not_eq_true'] at b;have q:∀ i,i ∉ J->∀ d,L.getD i d=y.getD i d:=fun i hi d=>by rw [db,db,N i hi]
  show (Region.ready s ops L=[]->Q .normal a w)/\∀ i∈Region.ready s ops L,wpOp P ops Q i (fun a' t=>S t/\wpAnyH P s ops Q S (f0+m) (L.setIfInBounds i true) a' t) a w;refine ⟨fun hr=>?_,fun i hi=>?_⟩
  ·exfalso;obtain ⟨o,ho,u⟩:=hA j0 p;have:j0∈Region.ready s ops L:=Ziw.2 ⟨(Array.getElem?_eq_some_iff.1 ho).1,b,by
    rw [ho];simp only [Option.map_some,Option.getD_some,ij] at u ⊢;intro e he;have c:=u e he;simp only [jh] at c ⊢;rcases c with c | c
    ·exact .inl c
    ·refine .inr ?_;by_cases E:e.on∈J
     ·rw [db,af _ E] at c;simp at c
     ·rw [q _ E];exact c⟩
   rw [hr] at this;simp at this
  ·obtain ⟨al,A,v⟩:=Ziw.1 hi;have f:i∈J:=by
    refine Classical.byContradiction fun f=>?_;obtain ⟨o,ho,e,he,hb,ad⟩:=hB i (by rw [<- q i f];exact A) f j0 p;rw [ho] at v;simp only [Option.map_some,Option.getD_some,ij] at v;have c:=v e he;rw [hb] at c;simp only [Bool.not_true,Bool.false_or] at c;rcases ad with rfl | ⟨h4,h5⟩
    ·have h:=r _ p;rw [db,eh h] at c b;simp at c b;rw [c] at b;cases b
    ·rw [q _ h5,h4] at c;cases c
   refine hJ i f m w _ hI hS (fun t ab H=>⟨H,ih (L.setIfInBounds i true) ?_ (fun k M=>?_) (fun k M=>by rw [gt];exact r k M) t ab H⟩)
   ·have h:=r i f;have e:J.filter (fun j=>!(L.setIfInBounds i true).getD j true)=(J.filter (fun j=>!L.getD j true)).erase i:=by
     rw [List.Nodup.erase_eq_filter (List.Pairwise.filter _ aa:List.Nodup _),List.filter_filter];refine List.filter_congr fun k M=>?_;by_cases z:k=i
     ·subst z;simp [Array.getD_eq_getD_getElem?,h]
     ·have:(k != i)=true:=by simpa using z
      rw [this,Bool.true_and,db,db,bw (Ne.symm z)]
    rw [e,List.length_erase_of_mem (List.mem_filter.2 ⟨f,by simpa using A⟩),hm];rfl
   ·rw [bw (fun e:i=k=>M (e ▸ f))];exact N k M
def Yd4 (md:Region.Mode) (ops:Array Oper) (L0:Array Bool) (J:List Nat):Bool :=
 J.all (fun j=>(L0[j]? == some false) && (match ops[j]? with | some o=>o.after.all (fun e=>!Region.binds md e || L0.getD e.on false) | none=>false)) &&
  (List.range L0.size).all (fun i=>L0.getD i true || J.contains i || J.all (fun j=>match ops[i]? with | some o=>o.after.any (fun e=>Region.binds md e && (e.on == j || (!L0.getD e.on false && !J.contains e.on))) | none=>false))
theorem Zix:∀ (J:List Nat) (L:Array Bool) (i:Nat),i ∉ J->(J.foldl (fun L j=>L.setIfInBounds j true) L)[i]?=L[i]?
 | [],_,_,_=>rfl
 | j::J,L,i,h=>by
  simp only [dt,not_or] at h;rw [jg,Zix J _ i h.2,bw (Ne.symm h.1)]
theorem Zoz:∀ (J:List Nat) (L:Array Bool) (i:Nat),i∈J->i<L.size->(J.foldl (fun L j=>L.setIfInBounds j true) L)[i]?=some true
 | [],_,_,h,_=>by cases h
 | j::J,L,i,h,hi=>by
  rw [jg];by_cases a:i∈J
  ·exact Zoz J _ i a (by rw [gt];exact hi)
  ·have:i=j:=by simpa [a] using h
   subst this;rw [Zix J _ i a,eu hi]
theorem Yd5 {P:Program} {r:Region.Mode} {c:Array Bool} (J:List Nat) (l:J.Nodup) (b:Yd4 r ops c J=true) (I:Nat->World->Prop) (a:Act) (q:Nat)
  (u:∀ j∈J,∀ (m:Nat) (w:World) (K:Act->World->Prop),I (m+1) w->S w->(∀ s,I m s->S s->K a s)->wpOp P ops Q j K a w)
  (f:∀ w,I 0 w->S w->wpAnyH P r ops Q S q (J.foldl (fun L j=>L.setIfInBounds j true) c) a w) (w:World) (v:I J.length w) (y:S w):wpAnyH P r ops Q S (q+J.length) c a w:=by
 unfold Yd4 at b;simp only [gv,List.all_eq_true,beq_iff_eq,List.mem_range,jh] at b;have k:∀ j∈J,j<c.size:=fun j d=>(Array.getElem?_eq_some_iff.1 (b.1 j d).1).1;refine Yac J l I a c _ q (fun j d=>(b.1 j d).1) (fun j d=>?_) (fun i hi hn j d=>?_) (fun i hi=>Zoz J c i hi (k i hi)) (fun i hi=>Zix J c i hi) u f J.length c ?_ (fun _ _=>rfl) k w v y
 ·have h:=(b.1 j d).2;cases ho:ops[j]? with
  | none=>rw [ho] at h;cases h
  | some o=>rw [ho] at h;exact ⟨o,rfl,h⟩
 ·have p:i<c.size:=by
   refine Classical.byContradiction fun h=>?_;rw [db,gw (by omega)] at hi;cases hi
  rcases b.2 i p with (h | h) | h
  ·rw [h] at hi;cases hi
  ·exact absurd (by simpa using h) hn
  ·have h:=h j d;cases ho:ops[i]? with
   | none=>rw [ho] at h;cases h
   | some o =>
    rw [ho] at h;dsimp only at h;rw [<- Array.any_toList,List.any_eq_true] at h;obtain ⟨e,x,h⟩:=h;simp only [gv,jh,beq_iff_eq,Bool.not_eq_true'] at h;refine ⟨o,rfl,e,by simpa using x,h.1,?_⟩;rcases h.2 with h | ⟨h1,t⟩
    ·exact .inl h
    ·exact .inr ⟨h1,by simpa using t⟩
 ·congr 1;refine List.filter_eq_self.2 fun j d=>?_;have h:=(b.1 j d).1;rw [db,h];rfl
def Za5:Value->Option (DataW Unit × List MemPlace)
 | .bool b=>some (.lit (.bool b),[])
 | _=>none
def Zca:List (Int × Bool)->DataW Unit
 | []=>.map []
 | p::l=>(Zca l).put (.int G p.1) (.lit (.bool p.2))
theorem Zgz:∀ l:List (Int × Bool),Maps.IsMap (Zca l)
 | []=>⟨[],rfl⟩
 | _::l=>(Zgz l).put _ _
theorem Zvw (x:Int):∀ (l:List (Int × Bool)),(∀ zd:DataW Unit,(Zca l).atKey (.int G x) zd=.lit (.bool true))->∃ p∈l,p.1=x/\p.2=true
 | [],h=>by
  have:=h .nil;unfold Zca at this;simp [DataW.atKey] at this
 | p::l,h=>by
  by_cases a:p.1=x
  ·have:=h .nil;rw [Zca,a,Maps.atKey_put_same (Zgz l) (by trivial)] at this;injection this with this;injection this with this;exact ⟨p,by simp,a,this⟩
  ·obtain ⟨q,b,c⟩:=Zvw x l (fun zd=>by
    have:=h zd;rw [Zca,Maps.atKey_put_other (fun e=>a (by injection e with _ e;exact e.symm))] at this;exact this)
   exact ⟨q,by simp [b],c⟩
theorem Zbh {a:Act} (ho:ops[i]?=some o) (q:o.guard=none) (hd:o.dst=none) (m x v:Operand) (j:o.op=Op.insert 104 m x v)
  (h n:Nat) (l:List (Int × Bool)) (hm:a.eval m=.map (some h)) (e:w.ownsMap prog 3 Za5 h n (Zca l)) (hn:n<1000) (k:Int) (b:Bool) (r:a.eval x=.int G k) (s:0<=k) (A:k<=1000000) (t:a.eval v=.bool b)
  (z:∀ f,f.ownsMap prog 3 Za5 h (n+1) (Zca ((k,b)::l))->w.grownBy f (some h)->K a f):wpOp prog ops Q i K a w:=by
 refine wpOp_step ho fun C p=>?_;rw [if_pos (by simp only [Region.wanted,q])];obtain ⟨f,c,u,y⟩:=e.store (Maps.int_keyed underlying3) underlying104 (by unfold maxLen;omega) (key:=.int G k) (val:=.bool b) (Maps.keyOf_int_mk underlying3 (WalkArith.wf_i64 ⟨by omega,by omega⟩)) (d:=.lit (.bool b)) (ps:=[]) rfl;unfold Oper.wp;simp [execOp,j,hm,r,t,c,Result.andThen];simp only [Oper.upon,q,hd] at *;exact p _ _ (z f u y.grown)
def Yj2 (mb m:Nat) (w:World):Prop:=∃ l:List (Int × Bool),l.length+m=11/\w.ownsMap prog 3 Za5 mb l.length (Zca l)/\∀ p∈l,p.2=true->p.1=1∨p.1=2∨p.1=4∨p.1=8∨p.1=128∨p.1=512
theorem Zjr {b:Nat} {c d:Array Value} (h:Blk W w.heap.size 48 c/\Blk W (w.heap.size+1) 46 d/\Bl w W) {row:Option Nat} (a:W.grownBy W' row) (hr:∀ q,row=some q->q=b) (hmb:w.heap.size+1<b) :
  Blk W' w.heap.size 48 c/\Blk W' (w.heap.size+1) 46 d/\Bl w W' :=
 ⟨h.1.grown a (fun e=>by have:=hr _ e.symm;omega),h.2.1.grown a (fun e=>by have:=hr _ e.symm;omega),h.2.2.grown a h.2.2.size (fun q e=>by have:=hr _ e;omega)⟩
def OkM (m:Int):Prop:=∃ b:BitVec 64,b ||| 655#64=655#64/\m=(b.toNat:Int)
theorem OkM.zero:OkM 0:=⟨0#64,by decide,rfl⟩
theorem OkM.bound (h:OkM m):0<=m/\m<=655:=by
 obtain ⟨b,a,rfl⟩:=h;refine ⟨by omega,?_⟩;have h1:(b ||| 655#64).toNat=655:=by rw [a];rfl
 rw [BitVec.toNat_or] at h1;have c:b.toNat<=b.toNat ||| (655#64).toNat:=Nat.left_le_or
 omega
theorem Zgc (b:BitVec 64):BitVec.ofInt 64 (b.toNat:Int)=b:=by
 rw [BitVec.ofInt_natCast,BitVec.ofNat_toNat];simp
theorem OkM.or {k:Int} (h:OkM m) (d:k=1∨k=2∨k=4∨k=8∨k=128∨k=512):OkM (IntKind.i64.wrap (((BitVec.ofInt 64 m ||| BitVec.ofInt 64 k).toNat:Nat):Int)):=by
 obtain ⟨b,c,rfl⟩:=h;rw [Zgc];have a:BitVec.ofInt 64 k ||| 655#64=655#64:=by rcases d with rfl | rfl | rfl | rfl | rfl | rfl <;> decide
 have h1:(b ||| BitVec.ofInt 64 k) ||| 655#64=655#64:=by rw [BitVec.or_assoc,a,c]
 have e:=OkM.bound ⟨_,h1,rfl⟩;rw [show IntKind.i64.wrap (((b ||| BitVec.ofInt 64 k).toNat:Nat):Int)=(((b ||| BitVec.ofInt 64 k).toNat:Nat):Int) from by rw [az];omega];exact ⟨_,h1,rfl⟩
theorem OkM.clear (h:OkM m):(BitVec.ofInt 64 m &&& ~~~(BitVec.ofInt 64 655)).toNat=0:=by
 obtain ⟨b,a,rfl⟩:=h;rw [Zgc];have:b &&& ~~~(655#64)=0#64:=by
  rw [<- a];apply BitVec.eq_of_getLsbD_eq;intro i hi;simp only [BitVec.getLsbD_and,BitVec.getLsbD_not,BitVec.getLsbD_or,BitVec.getLsbD_zero];cases b.getLsbD i <;> simp
 show (b &&& ~~~(655#64)).toNat=0;rw [this];rfl
theorem Zkt {rest:List Oper} {o:Oper} {a:Act} (M:o.guard=none) (H:Operand) (C:o.op=Op.next H false) (l:List (Int × Bool)) (hk:∀ p∈l,p.2=true->p.1=1∨p.1=2∨p.1=4∨p.1=8∨p.1=128∨p.1=512)
  (b r n:Nat) (left:Lit->Bool) (k:Nat) (A:a.eval H=O (some ⟨r,0,none⟩)) (h:w.ranges prog 3 Za5 b r n (Zca l) left k)
  (q:wpList prog ops Q rest (a.put o.dst (.tuple #[.bool false])) w)
  (hF:∀ (x:Int) (f:World) (e:Lit->Bool) (d:Nat),Hid (f.ranges prog 3 Za5 b r n (Zca l) e d)->d<k->w.grownBy f (some r)->(Instr.entry (O (some ⟨r,0,none⟩))).run prog f=.ok (.tuple #[.int G x,.bool false]) f ->
   wpList prog ops Q rest (a.put o.dst (.tuple #[.bool true,.int G x,.bool false])) f)
  (hT:∀ (x:Int) (f:World) (e:Lit->Bool) (d:Nat),Hid (x=1∨x=2∨x=4∨x=8∨x=128∨x=512)->Hid (f.ranges prog 3 Za5 b r n (Zca l) e d)->d<k->w.grownBy f (some r)->(Instr.entry (O (some ⟨r,0,none⟩))).run prog f=.ok (.tuple #[.int G x,.bool true]) f ->
   wpList prog ops Q rest (a.put o.dst (.tuple #[.bool true,.int G x,.bool true])) f) :
  wpList prog ops Q (o::rest) a w:=by
 refine wpList_next_ranges w M H C 3 (Maps.int_keyed underlying3) Za5 (Value.int G) Value.bool (fun key P j=>by obtain ⟨x,rfl,_⟩:=Maps.keyOf_int_inv underlying3 j;exact ⟨x,rfl⟩) (fun u y R=>by cases u <;> simp [Za5] at R;exact ⟨_,rfl⟩) b r n _ left k A h (fun _ _=>q) ?_;intro x c P y f d j aa T I t z s L v;cases c with
 | false=>exact hF x f _ d t z s v
 | true =>
  refine hT x f _ d ?_ t z s v;obtain ⟨x',N,rfl,_⟩:=Maps.keyOf_int_inv underlying3 j;cases N;cases T;obtain ⟨p,J,rfl,E⟩:=Zvw x l I;exact hk p J E
theorem Yd6 (w:World) (hG:w.cell? ⟨0,0,none⟩=some (.int G 655)) (h0:0<w.heap.size) (day known file office party other:Int) (Ad Ac Al Ae I H:Option Addr) (nd cd T cc cl ne ce E C:Nat) (a4:nd<=1000000) (a5:T<=1000000) :
  Calls prog 72 #[Y #[iI 0,iI day,iI known,iI file,iI office,iI party,iI other,iI 0,iI 0,iI 0,iI 0,Z Ad nd cd,Z Ac T cc,Z Al 0 cl,Z Ae ne ce,iI 0,iI 0,Z I 0 E,Z H 0 C]] w
   fun e t=>e=U (.bool true)/\Bl w t:=by
 have X0:=(Blk.new w 48 #[iI 0,iI day,iI known,iI file,iI office,iI party,iI other,iI 0,iI 0,iI 0,iI 0,Z Ad nd cd,Z Ac T cc,Z Al 0 cl,Z Ae ne ce,iI 0,iI 0,Z I 0 E,Z H 0 C]);have P0:=Zab w (V #[iI 0,iI day,iI known,iI file,iI office,iI party,iI other,iI 0,iI 0,iI 0,iI 0,Z Ad nd cd,Z Ac T cc,Z Al 0 cl,Z Ae ne ce,iI 0,iI 0,Z I 0 E,Z H 0 C] 48);have hc:=X0.c19;go_enter func72,ntmps72;have X1:=X0.alloc (V #[.int G 0,.int G 0,Z I 0 E,Z H 0 C] 46);have Y1:=Blk.new (w.alloc (V #[iI 0,iI day,iI known,iI file,iI office,iI party,iI other,iI 0,iI 0,iI 0,iI 0,Z Ad nd cd,Z Ac T cc,Z Al 0 cl,Z Ae ne ce,iI 0,iI 0,Z I 0 E,Z H 0 C] 48)) 46 #[.int G 0,.int G 0,Z I 0 E,Z H 0 C];rw [ax] at Y1;have P1:=P0.alloc P0.size (V #[.int G 0,.int G 0,Z I 0 E,Z H 0 C] 46);go_upto_region 3 with fail;clear hc X0 P0;generalize ((w.alloc (V #[iI 0,iI day,iI known,iI file,iI office,iI party,iI other,iI 0,iI 0,iI 0,iI 0,Z Ad nd cd,Z Ac T cc,Z Al 0 cl,Z Ae ne ce,iI 0,iI 0,Z I 0 E,Z H 0 C] 48)).alloc (V #[.int G 0,.int G 0,Z I 0 E,Z H 0 C] 46))=w2 at *;refine wp_region_held_drew (S:=(fun t=>Blk t w.heap.size 48 #[iI 0,iI day,iI known,iI file,iI office,iI party,iI other,iI 0,iI 0,iI 0,iI 0,Z Ad nd cd,Z Ac T cc,Z Al 0 cl,Z Ae ne ce,iI 0,iI 0,Z I 0 E,Z H 0 C]/\Blk t (w.heap.size+1) 46 #[.int G 0,.int G 0,Z I 0 E,Z H 0 C]/\Bl w t)) (by kernel_rfl) ?_ (fun s=>?_)
 ·first | done | ((try dsimp only);exact ⟨X1.drew,Y1.drew,P1.drew⟩)
 clear X1 Y1 P1;refine tq 1 10 rfl ?_;refine th 2 11 rfl (fun _ c=>c.1.cell 3) ?_;refine tq 3 12 rfl ?_;refine tq 5 13 rfl ?_;refine th 6 14 rfl (fun _ c=>c.1.cell 4) ?_;refine tq 7 15 rfl ?_;refine tq 9 16 rfl ?_;refine th 10 17 rfl (fun _ c=>c.1.cell 5) ?_;refine tq 11 18 rfl ?_;refine tq 13 19 rfl ?_;refine th 14 20 rfl (fun _ c=>c.1.cell 6) ?_;refine tq 15 21 rfl ?_;refine tq 17 22 rfl ?_;refine th 18 23 rfl (fun _ c=>c.1.cell 7) ?_;refine tq 19 24 rfl ?_;refine tq 21 25 rfl ?_;refine th 22 26 rfl (fun _ c=>c.1.cell 8) ?_;refine tq 23 27 rfl ?_;refine tq 25 28 rfl ?_;refine tq 26 29 rfl ?_ (hy:=by intro t c;(try dsimp only at c);have hc:=c.1.cell 9;have a6:=c.1.cell 10;go_simp;try (with_reducible rfl));refine tq 27 30 rfl ?_;refine tq 28 31 rfl ?_;refine tq 30 32 rfl ?_;refine tq 31 33 rfl ?_;refine th 32 34 rfl (fun _ c=>c.1.cell 11) ?_;refine tq 33 35 rfl ?_;refine tq 34 36 rfl ?_;refine tq 35 37 rfl ?_;refine th 36 38 rfl (fun _ c=>c.1.cell 12) ?_;refine tq 37 39 rfl ?_;refine tq 38 40 rfl ?_;refine tq 39 41 rfl ?_;refine tq 41 42 rfl ?_;refine th 42 43 rfl (fun _ c=>c.1.cell 13) ?_;refine tq 43 44 rfl ?_;refine tq 44 45 rfl ?_;refine tq 46 46 rfl ?_;refine th 47 47 rfl (fun _ c=>c.1.cell 14) ?_;refine tq 48 48 rfl ?_;refine tq 49 49 rfl ?_;refine tq 51 50 rfl ?_;refine th 52 51 rfl (fun _ c=>c.2.1.cell 0) ?_;refine tq 53 52 rfl ?_;refine tq 54 53 rfl ?_;refine tq 55 54 rfl ?_;refine th 56 55 rfl (fun _ c=>c.2.1.cell 1) ?_;refine tq 57 56 rfl ?_;refine tq 58 57 rfl ?_;refine tq 59 58 rfl ?_;refine tq 60 59 rfl ?_;refine th 61 60 rfl (fun _ c=>c.2.1.cell 2) ?_;refine tq 62 61 rfl ?_;refine tq 63 62 rfl ?_;refine th 64 63 rfl (fun _ c=>c.2.1.cell 3) ?_;refine tq 65 64 rfl ?_;refine tq 66 65 rfl ?_;refine tq 67 66 rfl ?_;refine tq 68 67 rfl ?_;have a2:=run_makeMap (P:=prog) 104 w2.drew;have r:w.heap.size+1<w2.drew.heap.size:=s.2.1.lt;have M0:(w2.drew.alloc (.map #[] 0)).ownsMap prog 3 Za5 w2.drew.heap.size 0 (Zca []):=iv w2.drew prog 3 Za5;refine rd 0 (some 9) rfl fun K u=>?_;go_simp;skip;refine u.out _ _ (⟨s.1.alloc _,s.2.1.alloc _,s.2.2.alloc s.2.2.size _⟩) fun s=>?_;clear u K;(try simp only [pS,pB,pZ,pC]);clear a2;refine Yd5 [4,8,12,16,20,24,29,40,45,50,69] (by decide) (by kernel_rfl) (Yj2 w2.drew.heap.size) _ 2 ?_ ?_ _ ⟨[],rfl,M0,by simp⟩ s
 ·intro j hj m wj K ⟨l,hl,f,A⟩ y u;simp only [dt,dl,or_false] at hj;rcases hj with rfl | rfl | rfl | rfl | rfl | rfl | rfl | rfl | rfl | rfl | rfl
  ·refine Zbh (o:=⟨none,_,_,_,_,_⟩) rfl rfl rfl _ _ _ rfl w2.drew.heap.size _ _ rfl f (by omega) 1 _ rfl (by omega) (by omega) rfl (fun t a k=>u t ⟨_::l,by simp only [au];omega,a,fun p h d=>?_⟩ (Zjr y k (fun q e=>by cases e;rfl) r));rcases List.mem_cons.1 h with rfl | h
   ·exact by simp
   ·exact A p h d
  ·refine Zbh (o:=⟨none,_,_,_,_,_⟩) rfl rfl rfl _ _ _ rfl w2.drew.heap.size _ _ rfl f (by omega) 2 _ rfl (by omega) (by omega) rfl (fun t a k=>u t ⟨_::l,by simp only [au];omega,a,fun p h d=>?_⟩ (Zjr y k (fun q e=>by cases e;rfl) r));rcases List.mem_cons.1 h with rfl | h
   ·exact by simp
   ·exact A p h d
  ·refine Zbh (o:=⟨none,_,_,_,_,_⟩) rfl rfl rfl _ _ _ rfl w2.drew.heap.size _ _ rfl f (by omega) 4 _ rfl (by omega) (by omega) rfl (fun t a k=>u t ⟨_::l,by simp only [au];omega,a,fun p h d=>?_⟩ (Zjr y k (fun q e=>by cases e;rfl) r));rcases List.mem_cons.1 h with rfl | h
   ·exact by simp
   ·exact A p h d
  ·refine Zbh (o:=⟨none,_,_,_,_,_⟩) rfl rfl rfl _ _ _ rfl w2.drew.heap.size _ _ rfl f (by omega) 8 _ rfl (by omega) (by omega) rfl (fun t a k=>u t ⟨_::l,by simp only [au];omega,a,fun p h d=>?_⟩ (Zjr y k (fun q e=>by cases e;rfl) r));rcases List.mem_cons.1 h with rfl | h
   ·exact by simp
   ·exact A p h d
  ·refine Zbh (o:=⟨none,_,_,_,_,_⟩) rfl rfl rfl _ _ _ rfl w2.drew.heap.size _ _ rfl f (by omega) 16 _ rfl (by omega) (by omega) rfl (fun t a k=>u t ⟨_::l,by simp only [au];omega,a,fun p h d=>?_⟩ (Zjr y k (fun q e=>by cases e;rfl) r));rcases List.mem_cons.1 h with rfl | h
   ·exact by cases d
   ·exact A p h d
  ·refine Zbh (o:=⟨none,_,_,_,_,_⟩) rfl rfl rfl _ _ _ rfl w2.drew.heap.size _ _ rfl f (by omega) 32 _ rfl (by omega) (by omega) rfl (fun t a k=>u t ⟨_::l,by simp only [au];omega,a,fun p h d=>?_⟩ (Zjr y k (fun q e=>by cases e;rfl) r));rcases List.mem_cons.1 h with rfl | h
   ·exact by cases d
   ·exact A p h d
  ·refine Zbh (o:=⟨none,_,_,_,_,_⟩) rfl rfl rfl _ _ _ rfl w2.drew.heap.size _ _ rfl f (by omega) 64 _ rfl (by omega) (by omega) rfl (fun t a k=>u t ⟨_::l,by simp only [au];omega,a,fun p h d=>?_⟩ (Zjr y k (fun q e=>by cases e;rfl) r));rcases List.mem_cons.1 h with rfl | h
   ·exact by cases d
   ·exact A p h d
  ·refine Zbh (o:=⟨none,_,_,_,_,_⟩) rfl rfl rfl _ _ _ rfl w2.drew.heap.size _ _ rfl f (by omega) 128 _ rfl (by omega) (by omega) rfl (fun t a k=>u t ⟨_::l,by simp only [au];omega,a,fun p h d=>?_⟩ (Zjr y k (fun q e=>by cases e;rfl) r));rcases List.mem_cons.1 h with rfl | h
   ·exact by simp
   ·exact A p h d
  ·refine Zbh (o:=⟨none,_,_,_,_,_⟩) rfl rfl rfl _ _ _ rfl w2.drew.heap.size _ _ rfl f (by omega) 256 _ rfl (by omega) (by omega) rfl (fun t a k=>u t ⟨_::l,by simp only [au];omega,a,fun p h d=>?_⟩ (Zjr y k (fun q e=>by cases e;rfl) r));rcases List.mem_cons.1 h with rfl | h
   ·exact by cases d
   ·exact A p h d
  ·refine Zbh (o:=⟨none,_,_,_,_,_⟩) rfl rfl rfl _ _ _ rfl w2.drew.heap.size _ _ rfl f (by omega) 512 _ rfl (by omega) (by omega) rfl (fun t a k=>u t ⟨_::l,by simp only [au];omega,a,fun p h d=>?_⟩ (Zjr y k (fun q e=>by cases e;rfl) r));rcases List.mem_cons.1 h with rfl | h
   ·exact by simp
   ·exact A p h d
  ·refine Zbh (o:=⟨none,_,_,_,_,_⟩) rfl rfl rfl _ _ _ rfl w2.drew.heap.size _ _ rfl f (by omega) 1024 _ rfl (by omega) (by omega) rfl (fun t a k=>u t ⟨_::l,by simp only [au];omega,a,fun p h d=>?_⟩ (Zjr y k (fun q e=>by cases e;rfl) r));rcases List.mem_cons.1 h with rfl | h
   ·exact by cases d
   ·exact A p h d
 ·intro M ⟨l,hl,f,A⟩ y;obtain ⟨w5,N,r1,r2,r3⟩:=f.range (Maps.int_keyed underlying3) underlying104;have N:(Instr.range 104 (.map (some w2.heap.size))).run prog M=.ok (O (some ⟨M.heap.size,0,none⟩)) w5:=N;refine tq 70 68 rfl ?_;have ad:=Zjr y r2 (fun q e=>by cases e) r;refine rd 71 (some 69) rfl fun K u=>?_;go_simp;skip;refine u.out _ _ (ad) fun s=>?_;clear u K;(try simp only [pS,pB,pZ,pC]);refine dn ?_;obtain ⟨X2,Y2,P2⟩:=ad;have a3:w.heap.size<M.heap.size:=y.1.lt;have aq:=ae A;have r1:w5.ranges prog 3 Za5 w2.heap.size M.heap.size l.length (Zca l) _ _:=r1;have a1:=ae r1;clear N A s y Y2 M0 r r1 f r2 r3;generalize w2.heap.size=mb at *;have an:IntKind.i64.wrap ((nd:Int)+(T:Int))=(nd:Int)+T:=by rw [az];omega
  simp only [an];clear an;generalize (nd:Int)+(T:Int)=nn at *;go_wp2_with fail;go_loopw [4] (fun m wr=>∃ (v:Int) (left:Lit->Bool) (al:Nat),m=.int G v/\OkM v/\wr.ranges prog 3 Za5 mb M.heap.size l.length (Zca l) left al/\Bl w wr/\Blk wr w.heap.size 48 #[iI 0,iI day,iI known,iI file,iI office,iI party,iI other,iI 0,iI 0,iI 0,iI 0,Z Ad nd cd,Z Ac T cc,Z Al 0 cl,Z Ae ne ce,iI 0,iI 0,Z I 0 E,Z H 0 C]) (fun _ wr=>wr.rangeLeft mb M.heap.size)
  case atStart=>exact ⟨0,_,_,rfl,OkM.zero,a1.out,P2,X2⟩
  case round =>
   obtain ⟨v,left,al,rfl,hv,af,hB,hX⟩:=hrel;have HV:=ae hv;have aa:=ae af;clear hv af;have hc:wr.cell? ⟨w.heap.size,0,none⟩=some (.int G 0):=hX.cell 0;have a7:=(hB.cell (p:=⟨0,0,none⟩) h0).trans hG;go_wp2_with (at_next;refine Zkt rfl _ rfl l aq.out mb M.heap.size _ _ _ rfl aa.out ?_ (fun x w6 z R L am J av=>?_) (fun x w6 z R a0 L am J av=>?_))
   ·go_ret;refine ⟨?_,hB⟩;refine congrArg (fun b=>Ending.returned (Value.bool b)) (a₂:=true) ?_;have h7:=OkM.clear HV.out;show (IntKind.i64.wrap (((BitVec.ofInt 64 v &&& ~~~(BitVec.ofInt 64 655)).toNat:Nat):Int) == 0)=true;rw [h7];rfl
   ·have X6:=hX.grown J (fun e=>by injection e with e;omega);have P6:=hB.grown J hB.size (fun q e=>by injection e with e;omega);have ab:w6.rangeLeft mb M.heap.size<wr.rangeLeft mb M.heap.size:=by rw [L.out.left_eq,aa.out.left_eq];omega
    go_roundw
    case rel=>exact ⟨_,_,_,_,_,_,_,_,_,_,_,_,⟨v,z,R,rfl,HV.out,L.out,P6,X6⟩,rfl⟩
    case measure=>exact ab
   ·have X6:=hX.grown J (fun e=>by injection e with e;omega);have P6:=hB.grown J hB.size (fun q e=>by injection e with e;omega);have ab:w6.rangeLeft mb M.heap.size<wr.rangeLeft mb M.heap.size:=by rw [L.out.left_eq,aa.out.left_eq];omega
    go_roundw
    case rel=>exact ⟨_,_,_,_,_,_,_,_,_,_,_,_,⟨_,z,R,rfl,OkM.or HV.out a0.out,L.out,P6,X6⟩,rfl⟩
    case measure=>exact ab
def prD (e:List (Int × Int)):List D:=e.flatMap fun p=>[.v (.int G p.1),.v (.int G p.2)]
theorem Zfp (e:List (Int × Int)):(prD e).length=e.length * 2:=Zai (fun _ _=>rfl)
theorem Rep.pairs {v:Value} {l:List (Int × Int)} (h:Rep W B v (.s 2 (prD l))):∃ (A:Option Addr) (c:Nat),v=Z A l.length c/\l.length<=c /\
  ∀ (k:Nat) (u:k<l.length),∃ b o,A=some ⟨b,o,none⟩/\b<B/\W.cell? ⟨b,o+k * 2,none⟩=some (.int G l[k].1)/\W.cell? ⟨b,o+k * 2+1,none⟩=some (.int G l[k].2):=by
 obtain ⟨A,n,c,rfl,hn,hl,hc⟩:=h.slice;rw [Zfp] at hl;obtain rfl:n=l.length:=by omega
 refine ⟨A,c,rfl,hn,fun k u=>?_⟩;obtain ⟨b,o,cs,rfl,z,hr,d⟩:=hc (by omega);have x:=Zcd (l:=l) (f:=fun p=>[D.v (.int G p.1),D.v (.int G p.2)]) (k:=2) (i:=k) (a:=l[k]) (fun _ _=>rfl) (ak u);have j:=(hr.drop (k * 2)).take 2;unfold prD at j;rw [x] at j;have q:=hr.1;rw [Zfp] at q;have r:k * 2<cs.length:=by omega
 have t:k * 2+1<cs.length:=by omega
 have e:(cs.drop (k * 2)).take 2=[cs[k * 2],cs[k * 2+1]]:=by
  rw [ct r,ct t];rfl
 rw [e] at j;have y:=(j.2 0 _ _ rfl rfl).plain;have C:=(j.2 1 _ _ rfl rfl).plain;refine ⟨b,o,rfl,z,?_,?_⟩
 ·rw [<- y];exact d _ _ (ak r)
 ·rw [<- C];exact d _ _ (ak t)
structure Fil where
 day:Int
 known:Int
 file:Int
 office:Int
 party:Int
 other:Int
 d:List F
 c:List Cl
 e:List (Int × Int)
def Fil.vals (f:Fil) (dv cv ev:Value):Array Value :=
 #[iI 0,iI f.day,iI f.known,iI f.file,iI f.office,iI f.party,iI f.other,iI 0,iI 0,iI 0,iI 0,dv,cv,nN,ev,iI 0,iI 0,nN,nN]
def Zby (f:Fil):Prop:=(0<=f.day/\f.day<=131072)/\(0<=f.known/\f.known<=1099511627776)/\(0<=f.file/\f.file<=4095)/\(0<=f.office/\f.office<=11)/\(1<=f.party/\f.party<=4095)/\(-1<=f.other/\f.other<=4095/\f.other≠f.file) /\
 Ztg f.d f.c/\f.e.length<=8/\(∀ p∈f.e,(0<=p.1/\p.1<=4095)/\(0<=p.2/\p.2<=131072)/\p.1≠f.file)/\(f.e.map Prod.fst).Nodup
def Zbs (W:World) (B:Nat) (f:Fil) (dv cv ev:Value):Prop:=Rep W B dv (.s 4 (f.d.flatMap F.cells))/\Rep W B cv (.s 5 (f.c.flatMap Cl.cells))/\Rep W B ev (.s 2 (prD f.e))
theorem Zbs.keep {B':Nat} {f:Fil} {dv cv ev:Value} (h:Zbs W B f dv cv ev) (a:∀ p:Addr,p.block<B->W'.cell? p=W.cell? p) (b:B<=B'):Zbs W' B' f dv cv ev:=⟨h.1.keep a b,h.2.1.keep a b,h.2.2.keep a b⟩
theorem Zbc (x lo hi:Int) (b:lo<=x) (h1:x<=hi) (w:World) :
  Calls prog 71 #[.int G x,.int G lo,.int G hi] w fun e a=>e=U (.bool true)/\a=w:=by
 have c:=decide_eq_true b;have d1:=decide_eq_true h1;go_enter func71,ntmps71;go_wp2_with fail;go_ret;exact ⟨rfl,rfl⟩
def seen (l:List Int):List (Int × Bool):=l.map fun x=>(x,true)
theorem Zjs (x:Int) (zd:DataW Unit):∀ (l:List (Int × Bool)),(∀ p∈l,p.1≠x)->(Zca l).atKey (.int G x) zd=zd
 | [],_=>by unfold Zca;simp [DataW.atKey]
 | p::l,h=>by
  rw [Zca,Maps.atKey_put_other (fun e=>h p (by simp) (by injection e with _ e;exact e.symm))];exact Zjs x zd l (fun q a=>h q (by simp [a]))
theorem Zri (w:World):(zeroValue 4).run prog w=.ok (.bool false) w:=by
 kernel_rfl
def Zvx (W:World) (mb:Nat) (l:List Int):Prop:=W.ownsMap prog 3 Za5 mb l.length (Zca (seen l))
theorem Yad (x day:Int) (q:0<=x) (u:x<=4095) (s:0<=day) (r:day<=131072) (z c:Nat) (l:List Int) (t:x ∉ l) (hl:l.length<=100) (W:World) (E:Blk W z 104 #[.map (some c)]) (hm:Zvx W c l) :
  Calls prog 148 #[Y #[.int G x,.int G day],O (some ⟨z,0,none⟩)] W fun e A=>e=U (.bool false)/\Zvx A c (x::l)/\W.grownBy A (some c):=by
 have P:=ae (fun W=>Zbc x 0 4095 q u W);have M:=ae (fun W=>Zbc day 0 131072 s r W);have hc:=(E.alloc (V #[.int G x,.int G day] 106)).c1;have H:=Blk.new W 106 #[.int G x,.int G day];have d:Zvx (W.alloc (V #[.int G x,.int G day] 106)) c l:=hm.kept (ao W _ none) (by simp);have hmb:c<W.heap.size:=hm.lt;have a:keyOf prog 3 (.int G x)=some (.int G x):=Maps.keyOf_int_mk underlying3 (WalkArith.wf_i64 ⟨by omega,by omega⟩);obtain ⟨v,ps,C,f⟩:=d.lookup (Maps.int_keyed underlying3) underlying104 (Zri _) (zd:=.lit (.bool false)) (zp:=[]) rfl a;rw [Zjs x _ (seen l) (fun p I=>by
  obtain ⟨y,hy,rfl⟩:=List.mem_map.1 I;exact fun e=>t (e ▸ hy))] at f
 obtain rfl:v=.bool false:=by
  cases v with
  | bool b=>simp [Za5] at f;rw [f.1]
  | _=>simp [Za5] at f
 have N:=ae d;clear f hm d E;have J:=H.c2;go_enter func148,ntmps148;go_wp2_with (at_mapUpdate;refine wpList_mapUpdate_own _ rfl _ _ _ 104 rfl 3 4 (Maps.int_keyed underlying3) underlying104 Za5 c l.length (Zca (seen l)) rfl N.out (by unfold maxLen;omega) (.int G x) (.bool true) (.int G x) rfl rfl a (.lit (.bool true)) [] rfl ?_;intro R j h;have T:=(H.grown h (fun e=>by injection e with e;omega)).c2);refine (P.out _).mono ?_;rintro e L ⟨rfl,rfl⟩;go_wp2_with fail;refine (M.out _).mono ?_;rintro e L ⟨rfl,rfl⟩;go_wp2_with fail;go_ret;exact ⟨rfl,j,Zac (ao W _ (some c)) h (fun k e _=>e)⟩
theorem Zxz (w:World) (e:List (Int × Int)) (v:Value) (B:Nat) (hr:Rep w B v (.s 2 (prD e))) (he:e.length<=8) (I:∀ p∈e,(0<=p.1/\p.1<=4095)/\(0<=p.2/\p.2<=131072)) (file:Int) (J:∀ p∈e,p.1≠file) (u:(e.map Prod.fst).Nodup)
  (z l:Nat) (E:B<=z) (hmb:B<=l) (ab:z≠l) (R:Blk w z 104 #[.map (some l)]) (hm:Zvx w l [file]) :
  Calls prog 193 #[v,.func (.func 148) #[] #[O (some ⟨z,0,none⟩)]] w fun x w'=>x=U (.int G (-1))/\w.grownBy w' (some l):=by
 obtain ⟨A,c,rfl,hc,f⟩:=hr.pairs;clear hr;have t:=ae f;have N:=ae I;have aa:=ae J;have P:=ae u;clear f I J u;go_enter func193,ntmps193;go_wp2;go_loopw [8] (fun i wr=>∃ k:Nat,i=.int G (k:Int)/\k<=e.length/\Zvx wr l (file::(e.take k).map Prod.fst).reverse/\w.grownBy wr (some l)) (fun i _=>e.length - (intOf i).toNat)
 case atStart=>exact ⟨0,rfl,bi _,hm,World.grownBy.refl w _⟩
 case round =>
  obtain ⟨k,rfl,C,hS,L⟩:=hrel;by_cases d:k<e.length
  ·obtain ⟨b,o,rfl,hb,c0,c1⟩:=t.out k d;obtain ⟨⟨p0,p1⟩,p2,p3⟩:=N.out e[k] (aw d);have d0:=(dc (a:=⟨b,o+k * 2,none⟩) (L.block b (Nat.lt_trans (ah hb E) R.lt) (fun e=>by injection e with e;omega))).trans c0;have d1:=(dc (a:=⟨b,o+k * 2+1,none⟩) (L.block b (Nat.lt_trans (ah hb E) R.lt) (fun e=>by injection e with e;omega))).trans c1;have H:=R.grown L (fun e=>by injection e with e;omega);have M:e[k].1 ∉ (file::(e.take k).map Prod.fst).reverse:=by
    rw [List.mem_reverse,dt];rintro (h | h)
    ·exact aa.out e[k] (aw d) h
    ·obtain ⟨q,hq,h⟩:=List.mem_map.1 h;obtain ⟨j,hj,rfl⟩:=ee hq;rw [cw] at hj;have:=(List.nodup_iff_pairwise_ne.1 P.out);rw [List.pairwise_iff_getElem] at this;refine this j k (by simp;omega) (by simp;omega) (by omega) ?_;simpa using h
   have HC:=ae (Yad e[k].1 e[k].2 p0 p1 p2 p3 z l _ M (by simp;omega) wr H hS);have r:e[k].1::(file::(e.take k).map Prod.fst).reverse=(file::(e.take (k+1)).map Prod.fst).reverse:=by
    rw [dq,ak d,Option.toList_some,cj,du,fq,<- dx,List.reverse_append];rfl
   rw [r] at HC;clear c0 c1 H M r hS;generalize e[k].1=x at *;generalize e[k].2=y at *;go_wp2_with (refine HC.out.mono ?_;rintro x2 w2 ⟨rfl,T,C⟩);go_roundw
   case rel=>exact ⟨k+1,by go_num,by omega,T,Zac L C (fun _ e _=>e)⟩
   case measure=>simp [intOf];omega
  ·obtain rfl:k=e.length:=by omega
   go_wp2_with fail;go_ret;exact ⟨rfl,L⟩
theorem Zo0 (w:World) (e:List (Int × Int)) (v:Value) (B:Nat) (hr:Rep w B v (.s 2 (prD e))) (u:e.length<=8) (f:∀ p∈e,(0<=p.1/\p.1<=4095)/\(0<=p.2/\p.2<=131072)) (file:Int) (h:∀ p∈e,p.1≠file) (d:(e.map Prod.fst).Nodup)
  (j b:Nat) (k:B<=j) (hmb:B<=b) (l:j≠b) (r:Blk w j 104 #[.map (some b)]) (hm:Zvx w b [file]) :
  Calls prog 147 #[v,.func (.func 148) #[] #[O (some ⟨j,0,none⟩)]] w fun x y=>x=U (.bool false)/\w.grownBy y (some b):=by
 have t:=ae (Zxz w e v B hr u f file h d j b k hmb l r hm);obtain ⟨A,c,rfl,hc,a⟩:=hr.pairs;clear hr a f h d r hm;go_enter func147,ntmps147;go_wp2_with (go_at_call 193;refine t.out.mono ?_;rintro x w2 ⟨rfl,q⟩);go_ret;exact ⟨rfl,q⟩
theorem Ztn (f:Fil) (ab:Zby f) (dv cv ev:Value) (w:World) (B:Nat) (r:B<=w.heap.size) (h:Zbs w B f dv cv ev) :
  Calls prog 112 #[Y (f.vals dv cv ev)] w fun e w'=>e=U (.bool true)/\Bl w w':=by
 obtain ⟨day,known,file,office,party,other,d,c,el⟩:=f;obtain ⟨J,z,T,I,L,j,v,A,b,t⟩:=ab;obtain ⟨hd,hc,R⟩:=h;dsimp only at J z T I L j v A b t hd hc R;unfold Fil.vals;dsimp only;have HV:=ae (fun (W:World) (C:Bl w W)=>Zgb d c v dv cv W B (aj r C.size) (hd.keep (fun p l=>C.cell (ah l r)) (ag _)) (hc.keep (fun p l=>C.cell (ah l r)) (ag _)));have HC:=ae (fun (W:World) (C:Bl w W)=>Zo0 W el ev B (R.keep (fun p l=>C.cell (ah l r)) (ag _)) A (fun p l=>⟨(b p l).1,(b p l).2.1⟩) file (fun p l=>(b p l).2.2) t);have HO:=ae (fun W=>Zbc other (-1) 4095 j.1 j.2.1 W);obtain ⟨Ad,cd,rfl,x1,x2⟩:=hd.formulas;obtain ⟨Ac,cc,rfl,x3,x4⟩:=hc.claims;obtain ⟨Ae,ce,rfl,x5,x6⟩:=R.pairs;clear hd hc R v b t x1 x2 x3 x4 x5 x6;generalize d.length=nd at *;generalize c.length=nc at *;generalize hne:el.length=ne at *;have af:(other == file)=false:=by simpa using j.2.2
 have am:decide (8<(ne:Int))=false:=by simp;omega
 clear j J z I L;have E:keyOf prog 3 (.int G file)=some (.int G file):=Maps.keyOf_int_mk underlying3 (WalkArith.wf_i64 ⟨by omega,by omega⟩);have X0:=Blk.new w 48 #[iI 0,iI day,iI known,iI file,iI office,iI party,iI other,iI 0,iI 0,iI 0,iI 0,Z Ad nd cd,Z Ac nc cc,nN,Z Ae ne ce,iI 0,iI 0,nN,nN];have N:=Zab w (V #[iI 0,iI day,iI known,iI file,iI office,iI party,iI other,iI 0,iI 0,iI 0,iI 0,Z Ad nd cd,Z Ac nc cc,nN,Z Ae ne ce,iI 0,iI 0,nN,nN] 48);have a:=X0.c19;go_enter func112,ntmps112;go_wp2_with fail;refine (HO.out _).mono ?_;rintro e k ⟨rfl,rfl⟩;go_wp2_with fail;refine (HV.out _ N).mono ?_;rintro e k ⟨rfl,u⟩;have X1:=X0.keep u;have P1:=Zaa N u N.size;clear a X0 N u;have a:=(X1.alloc (.map #[] 0)).c19;have ad:=run_makeMap (P:=prog) 104 k;have M0:(k.alloc (.map #[] 0)).ownsMap prog 3 Za5 k.heap.size 0 (Zca []):=iv k prog 3 Za5;obtain ⟨x,H,M,s⟩:=M0.store (Maps.int_keyed underlying3) underlying104 (by unfold maxLen;omega) (key:=.int G file) (val:=.bool true) E (d:=.lit (.bool true)) (ps:=[]) rfl;have y:=s.grown;have al:=X1.lt;have X4:=(X1.alloc (.map #[] 0)).grown y (fun e=>by injection e with e;omega);have P4:=(P1.alloc P1.size (.map #[] 0)).grown y (aj P1.size (by simp)) (fun q e=>by injection e with e;omega);have an:k.heap.size<x.heap.size:=ah (by simp) y.size;have K5:=Blk.new x 104 #[.map (some k.heap.size)];have g5:x.grownBy (x.alloc (V #[.map (some k.heap.size)] 104)) none:=ao x _ none;have X5:=(X4.grown g5 (by simp)).c19;have P5:=P4.grown g5 P4.size (fun _ e=>by cases e);have S5:Zvx (x.alloc (V #[.map (some k.heap.size)] 104)) k.heap.size [file]:=M.kept g5 (by simp);have HM:=ae M0;have HS:=ae S5;clear M0 M s S5;go_wp2_with fail;refine (HC.out _ P5 x.heap.size k.heap.size ?_ ?_ ?_ K5 HS.out).mono ?_
 ·omega
 ·omega
 ·omega
 rintro e w6 ⟨rfl,aa⟩;have P6:=P5.grown aa P5.size (fun q e=>by injection e with e;omega);clear H ad X5 a;go_wp2_with fail;go_ret;exact ⟨rfl,P6⟩
theorem Yae (k:Int) (a:k=1∨k=2∨k=4) (g:Nat) (W:World) (d:W.cell? ⟨g,0,none⟩=some (.int G 0)) (c:W.cell? ⟨0,0,none⟩=some (.int G 655)) :
  Calls prog 73 #[.int G k,O (some ⟨g,0,none⟩)] W fun e b=>e=U (.bool true)/\b=W:=by
 rcases a with rfl | rfl | rfl
 ·go_enter func73,ntmps73;go_wp2_with fail;go_ret;exact ⟨rfl,rfl⟩
 ·go_enter func73,ntmps73;go_wp2_with fail;go_ret;exact ⟨rfl,rfl⟩
 ·go_enter func73,ntmps73;go_wp2_with fail;go_ret;exact ⟨rfl,rfl⟩
theorem Yd7 (h:Blk w g 48 cs) (hs:cs.size=19) {a:Act} (x:Operand) (ho:o.op=.load 48 x)
  (b:a.eval x=O (some ⟨g,0,none⟩)) (c:K (a.put o.dst (Y cs)) w):o.wp prog a w K Q:=by
 refine wp_load_mid 48 x ho g 0 b cs.toList _ (fun j v d=>by rw [cz,h.cell j,<- dj];exact d) underlying48 rfl (by rw [br,hs];kernel_rfl) ?_;rw [bt];exact c
theorem Zad (h:Blk w g 48 cs) (hs:cs.size=19) {rest:List Oper} {o:Oper} {a:Act} (x:Operand) (ho:o.op=.load 48 x) (e:Region.wanted o (yielded ops a.tmps)=true)
  (c:a.eval x=O (some ⟨g,0,none⟩)) (d:wpList prog ops Q rest (a.put o.dst (Y cs)) w):wpList prog ops Q (o::rest) a w :=
 wpList_step fun _ b=>by
  rw [if_pos e];exact Yd7 h hs x ho c (b _ _ d)
theorem Zto (f:Fil) (j:Zby f) (dv cv ev:Value) (w:World) (B:Nat) (b:B<=w.heap.size) (h:Zbs w B f dv cv ev) :
  Calls prog 74 #[Y (f.vals dv cv ev)] w fun e v=>e=U (.bool true)/\Bl w v:=by
 have t:=ae (fun (W:World) (r:Bl w W)=>Ztn f j dv cv ev W B (aj b r.size) (h.keep (fun p s=>r.cell (ah s b)) (ag _)));clear h j b;obtain ⟨day,known,file,office,party,other,d,c,el⟩:=f;unfold Fil.vals at *;dsimp only at *;clear d c el;have q:=Blk.new w 48 #[iI 0,iI day,iI known,iI file,iI office,iI party,iI other,iI 0,iI 0,iI 0,iI 0,dv,cv,nN,ev,iI 0,iI 0,nN,nN];have l:=Zab w (V #[iI 0,iI day,iI known,iI file,iI office,iI party,iI other,iI 0,iI 0,iI 0,iI 0,dv,cv,nN,ev,iI 0,iI 0,nN,nN] 48);have a:=q.cell 0;go_enter func74,ntmps74;go_wp2_with (refine Zad q rfl _ rfl rfl rfl ?_);refine (t.out _ l).mono ?_;rintro e x ⟨rfl,k⟩;have u:=Zaa l k l.size;clear a;go_wp2_with fail;go_ret;exact ⟨rfl,u⟩
theorem Zjt (f:Fil) (x:Zby f) (dv cv ev:Value) (w:World) (hG:w.cell? ⟨0,0,none⟩=some (.int G 655)) (h0:0<w.heap.size) (B:Nat) (y:B<=w.heap.size) (h:Zbs w B f dv cv ev) :
  Calls prog 38 #[Y (f.vals dv cv ev)] w fun e w'=>e=U (.int G 0)/\Bl w w':=by
 have HF:=ae (fun (W:World) (v:Bl w W)=>Zto f x dv cv ev W B (aj y v.size) (h.keep (fun p hp=>v.cell (ah hp y)) (ag _)));obtain ⟨day,known,file,office,party,other,d,c,el⟩:=f;obtain ⟨t,j,b,s,u,af,q,J,ab,H⟩:=x;obtain ⟨hd,hc,he⟩:=h;unfold Fil.vals at *;dsimp only at *;have am:=q.1;have al:=q.2.2.1.1;obtain ⟨Ad,L,rfl,x1,x2⟩:=hd.formulas;obtain ⟨Ac,M,rfl,x3,x4⟩:=hc.claims;obtain ⟨R,P,rfl,x5,x6⟩:=he.pairs;clear hd hc he q ab H x1 x2 x3 x4 x5 x6 af;generalize d.length=nd at *;generalize c.length=nc at *;generalize hne:el.length=ne at *;have N:=ae (fun (W:World) (v:Bl w W)=>Yd6 W ((v.cell (p:=⟨0,0,none⟩) h0).trans hG) (ah h0 v.size) day known file office party other Ad Ac none R none none nd L nc M 0 ne P 0 0 (by omega) (by omega));have HK:=ae (fun W=>Zbc 0 0 21 (by omega) (by omega) W);have HD:=ae (fun W=>Zbc day 0 131072 t.1 t.2 W);have HN:=ae (fun W=>Zbc known 0 1099511627776 j.1 j.2 W);have aa:=ae (fun W=>Zbc file 0 4095 b.1 b.2 W);have I:=ae (fun W=>Zbc office 0 11 s.1 s.2 W);have ad:=ae (fun W=>Zbc party 1 4095 u.1 u.2 W);clear t j b s u J;have E:=Blk.new w 48 #[iI 0,iI day,iI known,iI file,iI office,iI party,iI other,iI 0,iI 0,iI 0,iI 0,Z Ad nd L,Z Ac nc M,nN,Z R ne P,iI 0,iI 0,nN,nN];have z:=Zab w (V #[iI 0,iI day,iI known,iI file,iI office,iI party,iI other,iI 0,iI 0,iI 0,iI 0,Z Ad nd L,Z Ac nc M,nN,Z R ne P,iI 0,iI 0,nN,nN] 48);have a:=E.c19;go_enter func38,ntmps38;go_wp2_with fail;refine (HK.out _).mono ?_;rintro e C ⟨rfl,rfl⟩;go_wp2_with fail;refine (HD.out _).mono ?_;rintro e C ⟨rfl,rfl⟩;go_wp2_with fail;refine (HN.out _).mono ?_;rintro e C ⟨rfl,rfl⟩;go_wp2_with (refine Zad E rfl _ rfl rfl rfl ?_);refine (N.out _ z).mono ?_;rintro e C ⟨rfl,l⟩;have X1:=E.keep l;have A:=Zaa z l z.size;clear a E z l;have a:=X1.c19;have r:=ae (fun k (hk:k=1∨k=2∨k=4)=>Yae k hk w.heap.size C (X1.cell 0) ((A.cell (p:=⟨0,0,none⟩) h0).trans hG));go_wp2_with fail;refine (r.out 1 (by omega)).mono ?_;rintro e w2 ⟨rfl,rfl⟩;go_wp2_with fail;refine (aa.out _).mono ?_;rintro e w2 ⟨rfl,rfl⟩;go_wp2_with fail;refine (r.out 2 (by omega)).mono ?_;rintro e w2 ⟨rfl,rfl⟩;go_wp2_with fail;refine (I.out _).mono ?_;rintro e w2 ⟨rfl,rfl⟩;go_wp2_with fail;refine (r.out 4 (by omega)).mono ?_;rintro e w2 ⟨rfl,rfl⟩;go_wp2_with fail;refine (ad.out _).mono ?_;rintro e w2 ⟨rfl,rfl⟩;go_wp2_with (refine Zad X1 rfl _ rfl rfl rfl ?_);refine (HF.out _ A).mono ?_;rintro e w3 ⟨rfl,T⟩;have P3:=Zaa A T A.size;clear a;go_wp2_with fail;go_ret;exact ⟨rfl,P3⟩
end Go.Proofs.YtglkadmfjaecmaaGreatDoor
