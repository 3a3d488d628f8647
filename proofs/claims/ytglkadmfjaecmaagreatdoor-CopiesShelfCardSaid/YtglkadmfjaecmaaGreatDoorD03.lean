import Derived.Test.YtglkadmfjaecmaaGreatDoorD02
set_option maxRecDepth 100000
set_option maxHeartbeats 16000000
namespace Go.Proofs.YtglkadmfjaecmaaGreatDoor
open Go.RowKit Go.Shelf Tryz
open Go.Value renaming int->I, bool->G, tuple->U, agg->X
open Go.IntKind renaming i64->Z
open Go.Obj renaming cells->O
open Go.Ending renaming returned->V
attribute [local go_sem] Oper.semAt_some
attribute [local go_sem ↓] Go.wp_at_zero Go.wp_at_succ
variable {B:Nat} {W w w1:World}
theorem Yc8 (ln ld hn hd:Int) (lo ho:Bool) (w:World) :
  Calls prog 216 #[X #[iI ln,iI ld,iI hn,iI hd,G lo,G ho,G false,G false]] w fun e o => e = V (U #[X #[I Z 0,I Z ln,I Z ld,G lo],X #[I Z 0,I Z hn,I Z hd,G (!ho)]]) /\ Bl w o:=by
 go_enter func216,ntmps216;go_upto_region 1 with fail;have B0:=((Blk.new w 181 #[iI ln,iI ld,iI hn,iI hd,G lo,G ho,G false,G false]).alloc (O #[I Z 0,I Z 0,I Z 0,G false] 239)).alloc (O #[I Z 0,I Z 0,I Z 0,G false] 239);have Q:=(Blk.new (w.alloc (O #[iI ln,iI ld,iI hn,iI hd,G lo,G ho,G false,G false] 181)) 239 #[I Z 0,I Z 0,I Z 0,G false]).alloc (O #[I Z 0,I Z 0,I Z 0,G false] 239);have R:=Blk.new ((w.alloc (O #[iI ln,iI ld,iI hn,iI hd,G lo,G ho,G false,G false] 181)).alloc (O #[I Z 0,I Z 0,I Z 0,G false] 239)) 239 #[I Z 0,I Z 0,I Z 0,G false];rw [ax] at Q;rw [ax,ax] at R;have Y:=((Zab w (O #[iI ln,iI ld,iI hn,iI hd,G lo,G ho,G false,G false] 181)).alloc (by simp) (O #[I Z 0,I Z 0,I Z 0,G false] 239)).alloc (by simp;omega) (O #[I Z 0,I Z 0,I Z 0,G false] 239);generalize ((w.alloc (O #[iI ln,iI ld,iI hn,iI hd,G lo,G ho,G false,G false] 181)).alloc (O #[I Z 0,I Z 0,I Z 0,G false] 239)).alloc (O #[I Z 0,I Z 0,I Z 0,G false] 239) = W0 at *;go_cut [4,5] (fun u v t => ∃ g h,u = .pointer (some ⟨g,0,none⟩) /\ v = .pointer (some ⟨h,0,none⟩) /\ (g ≠ h /\ w.heap.size + 1 + 1 < g /\ w.heap.size + 1 + 1 < h) /\ Blk t g 239 #[I Z 0,I Z ln,I Z ld,G lo] /\ Blk t h 239 #[I Z 0,I Z hn,I Z hd,G (!ho)] /\ Blk t w.heap.size 181 #[iI ln,iI ld,iI hn,iI hd,G lo,G ho,G false,G false] /\ Blk t (w.heap.size + 1) 239 #[I Z 0,I Z 0,I Z 0,G false] /\ Blk t (w.heap.size + 1 + 1) 239 #[I Z 0,I Z 0,I Z 0,G false] /\ Bl w t)
 case first =>
  refine wp_region_held_drew (S:=(fun o => Blk o w.heap.size 181 #[iI ln,iI ld,iI hn,iI hd,G lo,G ho,G false,G false] /\ Blk o (w.heap.size + 1) 239 #[I Z 0,I Z 0,I Z 0,G false] /\ Blk o (w.heap.size + 1 + 1) 239 #[I Z 0,I Z 0,I Z 0,G false] /\ Bl w o)) (by kernel_rfl) ?_ (fun a => ?_)
  ·first | done | ((try dsimp only);exact ⟨B0,Q,R,Y.drew⟩)
  refine tq 0 6 rfl ?_;refine th 1 7 rfl (fun _ c => c.1.c8) ?_;refine tq 2 8 rfl ?_;refine th 3 9 rfl (fun _ c => c.1.c8) ?_;refine tq 4 10 rfl ?_;refine tq 5 11 rfl ?_;refine th 6 12 rfl (fun _ c => c.1.c8) ?_;refine tq 7 13 rfl ?_;refine th 8 14 rfl (fun _ c => c.1.c8) ?_;refine tq 9 15 rfl ?_;refine tq 10 16 rfl ?_;generalize W0.drew = W1 at *;have hz:w.heap.size + 1 + 1 < W1.heap.size:=a.2.2.1.lt;clear B0 Q R Y;refine rd2 11 (some 4) 12 (some 5) (by kernel_rfl) rfl rfl (fun K b => ?_) fun K b => ?_
  ·skip;go_simp;skip;refine b.out _ _ (⟨a.1.alloc _,a.2.1.alloc _,a.2.2.1.alloc _,a.2.2.2.alloc a.2.2.2.size _⟩) fun a => ?_;clear b K;(try simp only [pS,pB,pZ,pC]);have m:=Blk.new W1 239 #[I Z 0,I Z 0,I Z 0,G false];have y:=ax W1 (O #[I Z 0,I Z 0,I Z 0,G false] 239);refine rd 12 (some 5) rfl fun K b => ?_;go_simp;skip;refine b.out _ _ (⟨a.1.alloc _,a.2.1.alloc _,a.2.2.1.alloc _,a.2.2.2.alloc a.2.2.2.size _⟩) fun a => ?_;clear b K;(try simp only [pS,pB,pZ,pC]);have p:=Blk.new (W1.alloc (O #[I Z 0,I Z 0,I Z 0,G false] 239)) 239 #[I Z 0,I Z 0,I Z 0,G false];rw [ax] at p;replace m:=m.alloc (O #[I Z 0,I Z 0,I Z 0,G false] 239);clear y;have A:W1.heap.size < W1.heap.size + 1:=im _;generalize (W1.alloc (O #[I Z 0,I Z 0,I Z 0,G false] 239)).alloc (O #[I Z 0,I Z 0,I Z 0,G false] 239) = W2 at *;generalize hG:W1.heap.size + 1 = gb at *;generalize W1.heap.size = ga at *;have af:w.heap.size + 1 + 1 < gb:=by omega
   have ab:ga ≠ gb:=by omega
   clear hG A;rename_i k i;clear k i;have ca:=m.c4;have fa:=m.f4;have E:=p.c4;have H:=p.f4;have r:=(Blk.far4 (g':=ga) a.1 (by omega) (I Z 0) (I Z ln) (I Z ld) (G lo))
   have q:=(Blk.far4 (g':=ga) a.2.1 (by omega) (I Z 0) (I Z ln) (I Z ld) (G lo))
   have J:=(Blk.far4 (g':=ga) a.2.2.1 (by omega) (I Z 0) (I Z ln) (I Z ld) (G lo))
   have L:=(Zbk (g:=ga) a.2.2.2 (by omega) (I Z 0) (I Z ln) (I Z ld) (G lo))
   have K1:=(Blk.set4 m (I Z 0) (I Z ln) (I Z ld) (G lo));have C:=(Blk.far4 (g':=ga) p (by omega) (I Z 0) (I Z ln) (I Z ld) (G lo))
   refine rd 13 none rfl fun K b => ?_;go_simp;skip;refine b.out _ _ (⟨r,q,J,L⟩) fun a => ?_;clear b K;(try simp only [pS,pB,pZ,pC]);rename_i l;clear l a ca fa E H;have aa:=C.c4;have ad:=C.f4;change wpAnyH _ _ _ _ _ _ _ _ (st4 W2 ga (I Z 0) (I Z ln) (I Z ld) (G lo));generalize st4 W2 ga (I Z 0) (I Z ln) (I Z ld) (G lo) = W3 at *;have s:=(Blk.far4 (g':=gb) r (by omega) (I Z 0) (I Z hn) (I Z hd) (G (!ho)))
   have x:=(Blk.far4 (g':=gb) q (by omega) (I Z 0) (I Z hn) (I Z hd) (G (!ho)))
   have P:=(Blk.far4 (g':=gb) J (by omega) (I Z 0) (I Z hn) (I Z hd) (G (!ho)))
   have N:=(Zbk (g:=gb) L (by omega) (I Z 0) (I Z hn) (I Z hd) (G (!ho)))
   have K3:=(Blk.far4 (g':=gb) K1 (by omega) (I Z 0) (I Z hn) (I Z hd) (G (!ho)))
   have K4:=(Blk.set4 C (I Z 0) (I Z hn) (I Z hd) (G (!ho)));refine rd 14 none rfl fun K b => ?_;go_simp;skip;refine b.out _ _ (⟨s,x,P,N⟩) fun a => ?_;clear b K;(try simp only [pS,pB,pZ,pC]);refine dn ?_;go_wp2_with fail;go_meet;exact ⟨ga,gb,rfl,rfl,⟨by omega,by omega,by omega⟩,K3,K4,s,x,P,N⟩
  ·skip;go_simp;skip;refine b.out _ _ (⟨a.1.alloc _,a.2.1.alloc _,a.2.2.1.alloc _,a.2.2.2.alloc a.2.2.2.size _⟩) fun a => ?_;clear b K;(try simp only [pS,pB,pZ,pC]);have m:=Blk.new W1 239 #[I Z 0,I Z 0,I Z 0,G false];have y:=ax W1 (O #[I Z 0,I Z 0,I Z 0,G false] 239);refine rd 11 (some 4) rfl fun K b => ?_;go_simp;skip;refine b.out _ _ (⟨a.1.alloc _,a.2.1.alloc _,a.2.2.1.alloc _,a.2.2.2.alloc a.2.2.2.size _⟩) fun a => ?_;clear b K;(try simp only [pS,pB,pZ,pC]);have p:=Blk.new (W1.alloc (O #[I Z 0,I Z 0,I Z 0,G false] 239)) 239 #[I Z 0,I Z 0,I Z 0,G false];rw [ax] at p;replace m:=m.alloc (O #[I Z 0,I Z 0,I Z 0,G false] 239);clear y;have A:W1.heap.size < W1.heap.size + 1:=im _;generalize (W1.alloc (O #[I Z 0,I Z 0,I Z 0,G false] 239)).alloc (O #[I Z 0,I Z 0,I Z 0,G false] 239) = W2 at *;generalize hG:W1.heap.size + 1 = gb at *;generalize W1.heap.size = ga at *;have af:w.heap.size + 1 + 1 < gb:=by omega
   have ab:ga ≠ gb:=by omega
   clear hG A;rename_i k i;clear k i;have ca:=m.c4;have fa:=m.f4;have E:=p.c4;have H:=p.f4;have r:=(Blk.far4 (g':=gb) a.1 (by omega) (I Z 0) (I Z ln) (I Z ld) (G lo))
   have q:=(Blk.far4 (g':=gb) a.2.1 (by omega) (I Z 0) (I Z ln) (I Z ld) (G lo))
   have J:=(Blk.far4 (g':=gb) a.2.2.1 (by omega) (I Z 0) (I Z ln) (I Z ld) (G lo))
   have L:=(Zbk (g:=gb) a.2.2.2 (by omega) (I Z 0) (I Z ln) (I Z ld) (G lo))
   have K1:=(Blk.set4 p (I Z 0) (I Z ln) (I Z ld) (G lo));have C:=(Blk.far4 (g':=gb) m (by omega) (I Z 0) (I Z ln) (I Z ld) (G lo))
   refine rd 13 none rfl fun K b => ?_;go_simp;skip;refine b.out _ _ (⟨r,q,J,L⟩) fun a => ?_;clear b K;(try simp only [pS,pB,pZ,pC]);rename_i l;clear l a ca fa E H;have aa:=C.c4;have ad:=C.f4;change wpAnyH _ _ _ _ _ _ _ _ (st4 W2 gb (I Z 0) (I Z ln) (I Z ld) (G lo));generalize st4 W2 gb (I Z 0) (I Z ln) (I Z ld) (G lo) = W3 at *;have s:=(Blk.far4 (g':=ga) r (by omega) (I Z 0) (I Z hn) (I Z hd) (G (!ho)))
   have x:=(Blk.far4 (g':=ga) q (by omega) (I Z 0) (I Z hn) (I Z hd) (G (!ho)))
   have P:=(Blk.far4 (g':=ga) J (by omega) (I Z 0) (I Z hn) (I Z hd) (G (!ho)))
   have N:=(Zbk (g:=ga) L (by omega) (I Z 0) (I Z hn) (I Z hd) (G (!ho)))
   have K3:=(Blk.far4 (g':=ga) K1 (by omega) (I Z 0) (I Z hn) (I Z hd) (G (!ho)))
   have K4:=(Blk.set4 C (I Z 0) (I Z hn) (I Z hd) (G (!ho)));refine rd 14 none rfl fun K b => ?_;go_simp;skip;refine b.out _ _ (⟨s,x,P,N⟩) fun a => ?_;clear b K;(try simp only [pS,pB,pZ,pC]);refine dn ?_;go_wp2_with fail;go_meet;exact ⟨gb,ga,rfl,rfl,⟨by omega,by omega,by omega⟩,K3,K4,s,x,P,N⟩
 case rest =>
  obtain ⟨g,h,rfl,rfl,⟨al,hg,hh⟩,BG,T,M,d,f,j⟩:=hcut;obtain ⟨t,rfl⟩:∃ z:World,z = wc:=⟨_,rfl⟩;clear B0 Q R Y;have hc:=M.c8;have cg:=BG.c4;have ch:=T.c4;have fh:=T.f4;go_upto_region 6 with fail;clear M hc cg ch fh;obtain ⟨wy,rfl⟩:∃ z:World,z = t:=⟨_,rfl⟩;refine wp_region_held_drew (S:=(fun o => Blk o g 239 #[I Z 0,I Z ln,I Z ld,G lo] /\ Blk o h 239 #[I Z 0,I Z hn,I Z hd,G (!ho)])) (by kernel_rfl) ?_ (fun a => ?_)
  ·first | done | ((try dsimp only);exact ⟨BG,T⟩)
  replace d:=d.drew;replace f:=f.drew;replace j:=j.drew;clear BG T;generalize wy.drew = wz at *;have E:=d.c4;have H:=d.f4;refine th 0 23 rfl (fun _ c => c.1.c4) ?_;refine th 1 24 rfl (fun _ c => c.2.c4) ?_;have r:=(Blk.far4 (g':=(w.heap.size + 1)) a.1 (by omega) (I Z 0) (I Z ln) (I Z ld) (G lo))
  have q:=(Blk.far4 (g':=(w.heap.size + 1)) a.2 (by omega) (I Z 0) (I Z ln) (I Z ld) (G lo))
  replace d:=(Blk.set4 d (I Z 0) (I Z ln) (I Z ld) (G lo));replace f:=(Blk.far4 (g':=(w.heap.size + 1)) f (by omega) (I Z 0) (I Z ln) (I Z ld) (G lo))
  replace j:=(Zbk (g:=(w.heap.size + 1)) j (by omega) (I Z 0) (I Z ln) (I Z ld) (G lo))
  refine rd 2 none rfl fun K b => ?_;go_simp;skip;refine b.out _ _ (⟨r,q⟩) fun a => ?_;clear b K;(try simp only [pS,pB,pZ,pC]);change wpAnyH _ _ _ _ _ _ _ _ (st4 wz (w.heap.size + 1) (I Z 0) (I Z ln) (I Z ld) (G lo));rename_i l;clear a l E H;generalize st4 wz (w.heap.size + 1) (I Z 0) (I Z ln) (I Z ld) (G lo) = wq at *;have E:=f.c4;have H:=f.f4;have s:=(Blk.far4 (g':=(w.heap.size + 1 + 1)) r (by omega) (I Z 0) (I Z hn) (I Z hd) (G (!ho)))
  have x:=(Blk.far4 (g':=(w.heap.size + 1 + 1)) q (by omega) (I Z 0) (I Z hn) (I Z hd) (G (!ho)))
  replace d:=(Blk.far4 (g':=(w.heap.size + 1 + 1)) d (by omega) (I Z 0) (I Z hn) (I Z hd) (G (!ho)))
  replace f:=(Blk.set4 f (I Z 0) (I Z hn) (I Z hd) (G (!ho)));replace j:=(Zbk (g:=(w.heap.size + 1 + 1)) j (by omega) (I Z 0) (I Z hn) (I Z hd) (G (!ho)))
  refine rd 3 none rfl fun K b => ?_;go_simp;skip;refine b.out _ _ (⟨s,x⟩) fun a => ?_;clear b K;(try simp only [pS,pB,pZ,pC]);change wpAnyH _ _ _ _ _ _ _ _ (st4 wq (w.heap.size + 1 + 1) (I Z 0) (I Z hn) (I Z hd) (G (!ho)));clear a E H r q s x;generalize st4 wq (w.heap.size + 1 + 1) (I Z 0) (I Z hn) (I Z hd) (G (!ho)) = wr at *;refine dn ?_;go_wp2_with fail;obtain ⟨c0,c1,c2,c3⟩:=d.c4;obtain ⟨d0,d1,d2,d3⟩:=f.c4;exact bodyPost_ret (v:=U #[X #[I Z 0,I Z ln,I Z ld,G lo],X #[I Z 0,I Z hn,I Z hd,G (!ho)]]) (by simp [results,results216,go_sem,c0,c1,c2,c3,d0,d1,d2,d3]) rfl ⟨rfl,j⟩
theorem Yc9 (ln ld hn hd:Int) (lo ho:Bool) (w:World) :
  Calls prog 216 #[X #[iI ln,iI ld,iI hn,iI hd,G lo,G ho,G false,G true]] w fun e o => e = V (U #[X #[I Z 0,I Z ln,I Z ld,G lo],X #[I Z 1,I Z 0,I Z 0,G false]]) /\ Bl w o:=by
 go_enter func216,ntmps216;go_upto_region 1 with fail;have B0:=((Blk.new w 181 #[iI ln,iI ld,iI hn,iI hd,G lo,G ho,G false,G true]).alloc (O #[I Z 0,I Z 0,I Z 0,G false] 239)).alloc (O #[I Z 0,I Z 0,I Z 0,G false] 239);have T:=(Blk.new (w.alloc (O #[iI ln,iI ld,iI hn,iI hd,G lo,G ho,G false,G true] 181)) 239 #[I Z 0,I Z 0,I Z 0,G false]).alloc (O #[I Z 0,I Z 0,I Z 0,G false] 239);have Y:=Blk.new ((w.alloc (O #[iI ln,iI ld,iI hn,iI hd,G lo,G ho,G false,G true] 181)).alloc (O #[I Z 0,I Z 0,I Z 0,G false] 239)) 239 #[I Z 0,I Z 0,I Z 0,G false];rw [ax] at T;rw [ax,ax] at Y;have HB:=((Zab w (O #[iI ln,iI ld,iI hn,iI hd,G lo,G ho,G false,G true] 181)).alloc (by simp) (O #[I Z 0,I Z 0,I Z 0,G false] 239)).alloc (by simp;omega) (O #[I Z 0,I Z 0,I Z 0,G false] 239);generalize ((w.alloc (O #[iI ln,iI ld,iI hn,iI hd,G lo,G ho,G false,G true] 181)).alloc (O #[I Z 0,I Z 0,I Z 0,G false] 239)).alloc (O #[I Z 0,I Z 0,I Z 0,G false] 239) = W0 at *;go_cut [4,5] (fun u v r => ∃ g h,u = .pointer (some ⟨g,0,none⟩) /\ v = .pointer (some ⟨h,0,none⟩) /\ (g ≠ h /\ w.heap.size + 1 + 1 < g /\ w.heap.size + 1 + 1 < h) /\ Blk r g 239 #[I Z 0,I Z ln,I Z ld,G lo] /\ Blk r h 239 #[I Z 0,I Z hn,I Z hd,G (!ho)] /\ Blk r w.heap.size 181 #[iI ln,iI ld,iI hn,iI hd,G lo,G ho,G false,G true] /\ Blk r (w.heap.size + 1) 239 #[I Z 0,I Z 0,I Z 0,G false] /\ Blk r (w.heap.size + 1 + 1) 239 #[I Z 0,I Z 0,I Z 0,G false] /\ Bl w r)
 case first =>
  refine wp_region_held_drew (S:=(fun o => Blk o w.heap.size 181 #[iI ln,iI ld,iI hn,iI hd,G lo,G ho,G false,G true] /\ Blk o (w.heap.size + 1) 239 #[I Z 0,I Z 0,I Z 0,G false] /\ Blk o (w.heap.size + 1 + 1) 239 #[I Z 0,I Z 0,I Z 0,G false] /\ Bl w o)) (by kernel_rfl) ?_ (fun a => ?_)
  ·first | done | ((try dsimp only);exact ⟨B0,T,Y,HB.drew⟩)
  refine tq 0 6 rfl ?_;refine th 1 7 rfl (fun _ d => d.1.c8) ?_;refine tq 2 8 rfl ?_;refine th 3 9 rfl (fun _ d => d.1.c8) ?_;refine tq 4 10 rfl ?_;refine tq 5 11 rfl ?_;refine th 6 12 rfl (fun _ d => d.1.c8) ?_;refine tq 7 13 rfl ?_;refine th 8 14 rfl (fun _ d => d.1.c8) ?_;refine tq 9 15 rfl ?_;refine tq 10 16 rfl ?_;generalize W0.drew = W1 at *;have hz:w.heap.size + 1 + 1 < W1.heap.size:=a.2.2.1.lt;clear B0 T Y HB;refine rd2 11 (some 4) 12 (some 5) (by kernel_rfl) rfl rfl (fun K b => ?_) fun K b => ?_
  ·skip;go_simp;skip;refine b.out _ _ (⟨a.1.alloc _,a.2.1.alloc _,a.2.2.1.alloc _,a.2.2.2.alloc a.2.2.2.size _⟩) fun a => ?_;clear b K;(try simp only [pS,pB,pZ,pC]);have m:=Blk.new W1 239 #[I Z 0,I Z 0,I Z 0,G false];have y:=ax W1 (O #[I Z 0,I Z 0,I Z 0,G false] 239);refine rd 12 (some 5) rfl fun K b => ?_;go_simp;skip;refine b.out _ _ (⟨a.1.alloc _,a.2.1.alloc _,a.2.2.1.alloc _,a.2.2.2.alloc a.2.2.2.size _⟩) fun a => ?_;clear b K;(try simp only [pS,pB,pZ,pC]);have p:=Blk.new (W1.alloc (O #[I Z 0,I Z 0,I Z 0,G false] 239)) 239 #[I Z 0,I Z 0,I Z 0,G false];rw [ax] at p;replace m:=m.alloc (O #[I Z 0,I Z 0,I Z 0,G false] 239);clear y;have A:W1.heap.size < W1.heap.size + 1:=im _;generalize (W1.alloc (O #[I Z 0,I Z 0,I Z 0,G false] 239)).alloc (O #[I Z 0,I Z 0,I Z 0,G false] 239) = W2 at *;generalize hG:W1.heap.size + 1 = gb at *;generalize W1.heap.size = ga at *;have af:w.heap.size + 1 + 1 < gb:=by omega
   have ab:ga ≠ gb:=by omega
   clear hG A;rename_i k j;clear k j;have ca:=m.c4;have fa:=m.f4;have E:=p.c4;have H:=p.f4;have s:=(Blk.far4 (g':=ga) a.1 (by omega) (I Z 0) (I Z ln) (I Z ld) (G lo))
   have q:=(Blk.far4 (g':=ga) a.2.1 (by omega) (I Z 0) (I Z ln) (I Z ld) (G lo))
   have L:=(Blk.far4 (g':=ga) a.2.2.1 (by omega) (I Z 0) (I Z ln) (I Z ld) (G lo))
   have M:=(Zbk (g:=ga) a.2.2.2 (by omega) (I Z 0) (I Z ln) (I Z ld) (G lo))
   have K1:=(Blk.set4 m (I Z 0) (I Z ln) (I Z ld) (G lo));have C:=(Blk.far4 (g':=ga) p (by omega) (I Z 0) (I Z ln) (I Z ld) (G lo))
   refine rd 13 none rfl fun K b => ?_;go_simp;skip;refine b.out _ _ (⟨s,q,L,M⟩) fun a => ?_;clear b K;(try simp only [pS,pB,pZ,pC]);rename_i l;clear l a ca fa E H;have aa:=C.c4;have ad:=C.f4;change wpAnyH _ _ _ _ _ _ _ _ (st4 W2 ga (I Z 0) (I Z ln) (I Z ld) (G lo));generalize st4 W2 ga (I Z 0) (I Z ln) (I Z ld) (G lo) = W3 at *;have t:=(Blk.far4 (g':=gb) s (by omega) (I Z 0) (I Z hn) (I Z hd) (G (!ho)))
   have x:=(Blk.far4 (g':=gb) q (by omega) (I Z 0) (I Z hn) (I Z hd) (G (!ho)))
   have R:=(Blk.far4 (g':=gb) L (by omega) (I Z 0) (I Z hn) (I Z hd) (G (!ho)))
   have Q:=(Zbk (g:=gb) M (by omega) (I Z 0) (I Z hn) (I Z hd) (G (!ho)))
   have K3:=(Blk.far4 (g':=gb) K1 (by omega) (I Z 0) (I Z hn) (I Z hd) (G (!ho)))
   have K4:=(Blk.set4 C (I Z 0) (I Z hn) (I Z hd) (G (!ho)));refine rd 14 none rfl fun K b => ?_;go_simp;skip;refine b.out _ _ (⟨t,x,R,Q⟩) fun a => ?_;clear b K;(try simp only [pS,pB,pZ,pC]);refine dn ?_;go_wp2_with fail;go_meet;exact ⟨ga,gb,rfl,rfl,⟨by omega,by omega,by omega⟩,K3,K4,t,x,R,Q⟩
  ·skip;go_simp;skip;refine b.out _ _ (⟨a.1.alloc _,a.2.1.alloc _,a.2.2.1.alloc _,a.2.2.2.alloc a.2.2.2.size _⟩) fun a => ?_;clear b K;(try simp only [pS,pB,pZ,pC]);have m:=Blk.new W1 239 #[I Z 0,I Z 0,I Z 0,G false];have y:=ax W1 (O #[I Z 0,I Z 0,I Z 0,G false] 239);refine rd 11 (some 4) rfl fun K b => ?_;go_simp;skip;refine b.out _ _ (⟨a.1.alloc _,a.2.1.alloc _,a.2.2.1.alloc _,a.2.2.2.alloc a.2.2.2.size _⟩) fun a => ?_;clear b K;(try simp only [pS,pB,pZ,pC]);have p:=Blk.new (W1.alloc (O #[I Z 0,I Z 0,I Z 0,G false] 239)) 239 #[I Z 0,I Z 0,I Z 0,G false];rw [ax] at p;replace m:=m.alloc (O #[I Z 0,I Z 0,I Z 0,G false] 239);clear y;have A:W1.heap.size < W1.heap.size + 1:=im _;generalize (W1.alloc (O #[I Z 0,I Z 0,I Z 0,G false] 239)).alloc (O #[I Z 0,I Z 0,I Z 0,G false] 239) = W2 at *;generalize hG:W1.heap.size + 1 = gb at *;generalize W1.heap.size = ga at *;have af:w.heap.size + 1 + 1 < gb:=by omega
   have ab:ga ≠ gb:=by omega
   clear hG A;rename_i k j;clear k j;have ca:=m.c4;have fa:=m.f4;have E:=p.c4;have H:=p.f4;have s:=(Blk.far4 (g':=gb) a.1 (by omega) (I Z 0) (I Z ln) (I Z ld) (G lo))
   have q:=(Blk.far4 (g':=gb) a.2.1 (by omega) (I Z 0) (I Z ln) (I Z ld) (G lo))
   have L:=(Blk.far4 (g':=gb) a.2.2.1 (by omega) (I Z 0) (I Z ln) (I Z ld) (G lo))
   have M:=(Zbk (g:=gb) a.2.2.2 (by omega) (I Z 0) (I Z ln) (I Z ld) (G lo))
   have K1:=(Blk.set4 p (I Z 0) (I Z ln) (I Z ld) (G lo));have C:=(Blk.far4 (g':=gb) m (by omega) (I Z 0) (I Z ln) (I Z ld) (G lo))
   refine rd 13 none rfl fun K b => ?_;go_simp;skip;refine b.out _ _ (⟨s,q,L,M⟩) fun a => ?_;clear b K;(try simp only [pS,pB,pZ,pC]);rename_i l;clear l a ca fa E H;have aa:=C.c4;have ad:=C.f4;change wpAnyH _ _ _ _ _ _ _ _ (st4 W2 gb (I Z 0) (I Z ln) (I Z ld) (G lo));generalize st4 W2 gb (I Z 0) (I Z ln) (I Z ld) (G lo) = W3 at *;have t:=(Blk.far4 (g':=ga) s (by omega) (I Z 0) (I Z hn) (I Z hd) (G (!ho)))
   have x:=(Blk.far4 (g':=ga) q (by omega) (I Z 0) (I Z hn) (I Z hd) (G (!ho)))
   have R:=(Blk.far4 (g':=ga) L (by omega) (I Z 0) (I Z hn) (I Z hd) (G (!ho)))
   have Q:=(Zbk (g:=ga) M (by omega) (I Z 0) (I Z hn) (I Z hd) (G (!ho)))
   have K3:=(Blk.far4 (g':=ga) K1 (by omega) (I Z 0) (I Z hn) (I Z hd) (G (!ho)))
   have K4:=(Blk.set4 C (I Z 0) (I Z hn) (I Z hd) (G (!ho)));refine rd 14 none rfl fun K b => ?_;go_simp;skip;refine b.out _ _ (⟨t,x,R,Q⟩) fun a => ?_;clear b K;(try simp only [pS,pB,pZ,pC]);refine dn ?_;go_wp2_with fail;go_meet;exact ⟨gb,ga,rfl,rfl,⟨by omega,by omega,by omega⟩,K3,K4,t,x,R,Q⟩
 case rest =>
  obtain ⟨g,h,rfl,rfl,⟨al,hg,hh⟩,N,J,P,c,f,i⟩:=hcut;obtain ⟨r,rfl⟩:∃ z:World,z = wc:=⟨_,rfl⟩;clear B0 T Y HB;have hc:=P.c8;have cg:=N.c4;have ch:=J.c4;have fh:=J.f4;go_upto_region 5 with fail;go_upto_region 6 with fail;replace N:=Blk.far4 (g':=h) N al (I Z 1) (I Z 0) (I Z 0) (G false);replace c:=Blk.far4 (g':=h) c (by omega) (I Z 1) (I Z 0) (I Z 0) (G false);replace f:=Blk.far4 (g':=h) f (by omega) (I Z 1) (I Z 0) (I Z 0) (G false);replace i:=Zbk (g:=h) i (by omega) (I Z 1) (I Z 0) (I Z 0) (G false);replace J:=Blk.set4 J (I Z 1) (I Z 0) (I Z 0) (G false);clear P hc cg ch fh;change Code.wp _ _ _ _ (st4 r h (I Z 1) (I Z 0) (I Z 0) (G false));generalize st4 r h (I Z 1) (I Z 0) (I Z 0) (G false) = wy at *;refine wp_region_held_drew (S:=(fun o => Blk o g 239 #[I Z 0,I Z ln,I Z ld,G lo] /\ Blk o h 239 #[I Z 1,I Z 0,I Z 0,G false])) (by kernel_rfl) ?_ (fun a => ?_)
  ·first | done | ((try dsimp only);exact ⟨N,J⟩)
  replace c:=c.drew;replace f:=f.drew;replace i:=i.drew;clear N J;generalize wy.drew = wz at *;have E:=c.c4;have H:=c.f4;refine th 0 23 rfl (fun _ d => d.1.c4) ?_;refine th 1 24 rfl (fun _ d => d.2.c4) ?_;have s:=(Blk.far4 (g':=(w.heap.size + 1)) a.1 (by omega) (I Z 0) (I Z ln) (I Z ld) (G lo))
  have q:=(Blk.far4 (g':=(w.heap.size + 1)) a.2 (by omega) (I Z 0) (I Z ln) (I Z ld) (G lo))
  replace c:=(Blk.set4 c (I Z 0) (I Z ln) (I Z ld) (G lo));replace f:=(Blk.far4 (g':=(w.heap.size + 1)) f (by omega) (I Z 0) (I Z ln) (I Z ld) (G lo))
  replace i:=(Zbk (g:=(w.heap.size + 1)) i (by omega) (I Z 0) (I Z ln) (I Z ld) (G lo))
  refine rd 2 none rfl fun K b => ?_;go_simp;skip;refine b.out _ _ (⟨s,q⟩) fun a => ?_;clear b K;(try simp only [pS,pB,pZ,pC]);change wpAnyH _ _ _ _ _ _ _ _ (st4 wz (w.heap.size + 1) (I Z 0) (I Z ln) (I Z ld) (G lo));rename_i l;clear a l E H;generalize st4 wz (w.heap.size + 1) (I Z 0) (I Z ln) (I Z ld) (G lo) = wq at *;have E:=f.c4;have H:=f.f4;have t:=(Blk.far4 (g':=(w.heap.size + 1 + 1)) s (by omega) (I Z 1) (I Z 0) (I Z 0) (G false))
  have x:=(Blk.far4 (g':=(w.heap.size + 1 + 1)) q (by omega) (I Z 1) (I Z 0) (I Z 0) (G false))
  replace c:=(Blk.far4 (g':=(w.heap.size + 1 + 1)) c (by omega) (I Z 1) (I Z 0) (I Z 0) (G false))
  replace f:=(Blk.set4 f (I Z 1) (I Z 0) (I Z 0) (G false));replace i:=(Zbk (g:=(w.heap.size + 1 + 1)) i (by omega) (I Z 1) (I Z 0) (I Z 0) (G false))
  refine rd 3 none rfl fun K b => ?_;go_simp;skip;refine b.out _ _ (⟨t,x⟩) fun a => ?_;clear b K;(try simp only [pS,pB,pZ,pC]);change wpAnyH _ _ _ _ _ _ _ _ (st4 wq (w.heap.size + 1 + 1) (I Z 1) (I Z 0) (I Z 0) (G false));clear a E H s q t x;generalize st4 wq (w.heap.size + 1 + 1) (I Z 1) (I Z 0) (I Z 0) (G false) = wr at *;refine dn ?_;go_wp2_with fail;obtain ⟨c0,c1,c2,c3⟩:=c.c4;obtain ⟨d0,d1,d2,d3⟩:=f.c4;exact bodyPost_ret (v:=U #[X #[I Z 0,I Z ln,I Z ld,G lo],X #[I Z 1,I Z 0,I Z 0,G false]]) (by simp [results,results216,go_sem,c0,c1,c2,c3,d0,d1,d2,d3]) rfl ⟨rfl,i⟩
theorem Yda (n:Int):IntKind.u64.wrap n = n % 18446744073709551616:=by
 simp [IntKind.wrap,IntKind.bits,IntKind.signed]
theorem Zlm (n:Int) (w:World) (c:-9223372036854775808 <= n) (h1:n <= 9223372036854775807) :
  Calls prog 228 #[I Z n] w fun e b => e = V (I .u64 (n.natAbs:Int)) /\ w = b:=by
 by_cases h:n < 0
 ·go_enter func228,ntmps228;go_wp2;go_ret;exact ⟨Zjc (a:=IntKind.u64.wrap (-IntKind.u64.wrap n)) (by simp only [Yda];omega),rfl⟩
 ·go_enter func228,ntmps228;go_wp2;go_ret;exact ⟨Zjc (a:=n) (by omega),rfl⟩
theorem Zhe (a b:Nat) (w:World) (h:a < 18446744073709551616) (i:b < 18446744073709551616) :
  Calls prog 238 #[I .u64 (a:Int),I .u64 (b:Int)] w fun e g => e = V (I .u64 (Nat.gcd a b:Int)) /\ ∃ n,g = w.drewN n:=by
 go_enter func238,ntmps238;go_wp2;go_loopw [0,1] (fun x y wr => ∃ p q:Nat,p < 18446744073709551616 /\ q < 18446744073709551616 /\ Nat.gcd p q = Nat.gcd a b /\ x = I .u64 p /\ y = I .u64 q /\ ∃ n,wr = w.drewN n) (fun _ y _ => (intOf y).toNat)
 case atStart => exact ⟨a,b,h,i,rfl,rfl,rfl,0,rfl⟩
 case round =>
  obtain ⟨p,q,k,j,f,rfl,rfl,n,rfl⟩:=hrel;have d:=ae f;clear f;by_cases c:0 < q
  ·have hm:p % q < q:=ja _ c;go_wp2;go_quiet (fail);go_wp2;go_roundw
   case rel => exact ⟨q,p % q,j,by omega,by rw [<- d.out,Nat.gcd_comm q,<- Nat.gcd_rec,Nat.gcd_comm],rfl,by simp,_,World.drewN_drewN _ _ _⟩
   case measure => simp [intOf];omega
  ·obtain rfl:q = 0:=by omega
   go_wp2;go_ret;exact ⟨Zjc (by rw [<- d.out];simp),n,rfl⟩
def Zm2 (a b:Int):Int:=if b = 0 then 1 else if 1099511627776 < a.natAbs / Int.gcd a b ∨ 1048576 < b.natAbs / Int.gcd a b then 5 else 0
def Zqa (a b:Int):Int:=if Zm2 a b = 0 then (if (a < 0) ↔ (b < 0) then ((a.natAbs / Int.gcd a b:Nat):Int) else -((a.natAbs / Int.gcd a b:Nat):Int)) else 0
def Zqb (a b:Int):Int:=if Zm2 a b = 0 then ((b.natAbs / Int.gcd a b:Nat):Int) else 0
def Zqc (n d:Int):Int:=if 1 <= d /\ d <= 1048576 /\ -1099511627776 <= n /\ n <= 1099511627776 /\ Int.gcd n d = 1 then 0 else 1
theorem Zw8 (n d:Int):Zqc n d = 0 ∨ Zqc n d = 1:=by unfold Zqc;split <;> simp
theorem Zsy {n d:Int} (h:Zqc n d = 0):1 <= d /\ d <= 1048576 /\ -1099511627776 <= n /\ n <= 1099511627776 /\ Int.gcd n d = 1:=by
 unfold Zqc at h;split at h
 ·assumption
 ·simp at h
theorem Zqp {a b:Int} (h:Zm2 a b = 0):b ≠ 0 /\ a.natAbs / Int.gcd a b <= 1099511627776 /\ b.natAbs / Int.gcd a b <= 1048576:=by
 unfold Zm2 at h;by_cases c:b = 0
 ·rw [if_pos c] at h;simp at h
 ·rw [if_neg c] at h;by_cases hc:1099511627776 < a.natAbs / Int.gcd a b ∨ 1048576 < b.natAbs / Int.gcd a b
  ·rw [if_pos hc] at h;simp at h
  ·simp only [not_or,Nat.not_lt] at hc;exact ⟨c,hc⟩
theorem Ygk (a b:Int):-1099511627776 <= Zqa a b /\ Zqa a b <= 1099511627776:=by
 unfold Zqa;by_cases h:Zm2 a b = 0
 ·rw [if_pos h];have h1:=(Zqp h).2.1;generalize a.natAbs / Int.gcd a b = x at *;split <;> omega
 ·rw [if_neg h];omega
theorem Ygl (a b:Int):0 <= Zqb a b /\ Zqb a b <= 1048576:=by
 unfold Zqb;by_cases h:Zm2 a b = 0
 ·rw [if_pos h];have h1:=(Zqp h).2.2;generalize b.natAbs / Int.gcd a b = x at *;omega
 ·rw [if_neg h];omega
theorem Zom (a b:Int) (h:b ≠ 0):0 < Int.gcd a b:=by
 rcases Nat.eq_zero_or_pos (Int.gcd a b) with c | c
 ·exact absurd (Int.gcd_eq_zero_iff.1 c).2 h
 ·exact c
theorem Zw9 {n d:Int} (h:Zqc n d = 0):Zm2 n d = 0 /\ Zqa n d = n /\ Zqb n d = d:=by
 obtain ⟨h1,f,c,e,b⟩:=Zsy h;have a:Zm2 n d = 0:=by
  unfold Zm2;rw [if_neg (by omega),b,Nat.div_one,Nat.div_one,if_neg (by omega)]
 refine ⟨a,?_,?_⟩
 ·unfold Zqa;rw [if_pos a,b,Nat.div_one];split <;> omega
 ·unfold Zqb;rw [if_pos a,b,Nat.div_one];omega
theorem Zxa {a b:Int} (h:Zm2 a b = 0):Zqc (Zqa a b) (Zqb a b) = 0:=by
 have c:b ≠ 0:=by
  intro c;unfold Zm2 at h;simp [c] at h
 have e:=Zom a b c;have i:=Ygk a b;have j:=Ygl a b;have h1:Zqb a b = ((b.natAbs / Int.gcd a b:Nat):Int):=by unfold Zqb;rw [if_pos h]
 have f:(Zqa a b).natAbs = a.natAbs / Int.gcd a b:=by
  unfold Zqa;rw [if_pos h];generalize a.natAbs / Int.gcd a b = x;split <;> omega
 have g:1 <= b.natAbs / Int.gcd a b:=by
  rw [Nat.le_div_iff_mul_le e,Nat.one_mul];exact Nat.le_of_dvd (by omega) (Nat.gcd_dvd_right _ _)
 have d:Int.gcd (Zqa a b) (Zqb a b) = 1:=by
  unfold Int.gcd;rw [f,h1,Int.natAbs_natCast];rw [show Int.gcd a b = Nat.gcd a.natAbs b.natAbs from rfl,Nat.gcd_div (Nat.gcd_dvd_left _ _) (Nat.gcd_dvd_right _ _)];exact Nat.div_self e
 unfold Zqc;rw [if_pos ⟨by omega,by omega,by omega,by omega,d⟩]
theorem Zvn (n d:Int):Zqc n d = 0 ↔ 1 <= d /\ Zm2 n d = 0 /\ Zqa n d = n /\ Zqb n d = d:=by
 constructor
 ·intro h;exact ⟨(Zsy h).1,Zw9 h⟩
 ·rintro ⟨_,h,a,b⟩;have:=Zxa h
  rwa [a,b] at this
theorem Zag {a:World} (h:Below B a w) (n:Nat):Below B a (w.drewN n):=⟨h.os,h.tape,h.output,h.size,h.block⟩
theorem Ydb (a:Bl W w1):(∀ b o,b < W.heap.size -> w1.cell? ⟨b,o,none⟩ = W.cell? ⟨b,o,none⟩) /\ (∀ b o,b < W.heap.size -> w1.frozen? ⟨b,o,none⟩ = W.frozen? ⟨b,o,none⟩) /\ W.heap.size <= w1.heap.size :=
 ⟨fun b o h => a.cell (p:=⟨b,o,none⟩) h,fun b o h => a.frozen (p:=⟨b,o,none⟩) h,a.size⟩
theorem Zsz {a b:Nat} (h:a <= b):(a <= b + 1) = True:=by simp;omega
@[simp] theorem World.heap_size_setCell' (w:World) (p:Addr) (u:Value):(w.setCell p u).heap.size = w.heap.size:=by simp [World.setCell]
theorem after (h:Below B w W) (a:B <= W.heap.size) (h1:Bl W w1):Below B w w1:=h.trans (h1.mono a)
abbrev rat (n d:Int):Value:=X #[I Z n,I Z d]
theorem Zk1 {a b c e b' f:Int} (h:a = e) (g:b = b') (d:c = f):Ending.returned (U #[rat a b,I Z c]) = V (U #[rat e b',I Z f]):=by rw [h,g,d]
def buE (n d:Nat):Int:=if 1099511627776 < n / Nat.gcd n d ∨ 1048576 < d / Nat.gcd n d then 5 else 0
def buN (b:Bool) (n d:Nat):Int:=if buE n d = 0 then (if b then -((n / Nat.gcd n d:Nat):Int) else ((n / Nat.gcd n d:Nat):Int)) else 0
def buD (n d:Nat):Int:=if buE n d = 0 then ((d / Nat.gcd n d:Nat):Int) else 0
theorem Yjh {n d:Nat} (h:1099511627776 < n / Nat.gcd n d ∨ 1048576 < d / Nat.gcd n d):buE n d = 5 /\ (∀ b,buN b n d = 0) /\ buD n d = 0:=by
 have e:buE n d = 5:=by unfold buE;rw [if_pos h]
 exact ⟨e,fun b => by unfold buN;rw [e];rfl,by unfold buD;rw [e];rfl⟩
theorem Yib {n d:Nat} (h:n / Nat.gcd n d <= 1099511627776) (a:d / Nat.gcd n d <= 1048576):buE n d = 0 /\ buN true n d = -((n / Nat.gcd n d:Nat):Int) /\ buN false n d = ((n / Nat.gcd n d:Nat):Int) /\ buD n d = ((d / Nat.gcd n d:Nat):Int):=by
 have e:buE n d = 0:=by unfold buE;rw [if_neg (by omega)]
 exact ⟨e,by unfold buN;rw [e];rfl,by unfold buN;rw [e];rfl,by unfold buD;rw [e];rfl⟩
theorem Zqq (b:Bool) (n d:Nat) (w:World) (hn:n < 18446744073709551616) (hd:d < 18446744073709551616) (m:0 < d) :
  Calls prog 227 #[G b,I .u64 (n:Int),I .u64 (d:Int)] w fun e h => e = V (U #[rat (buN b n d) (buD n d),I Z (buE n d)]) /\ Bl w h:=by
 have u:0 < Nat.gcd n d:=Nat.gcd_pos_of_pos_right _ m;have o:=ae (@Yjh n d);have p:=ae (@Yib n d);generalize hgg:Nat.gcd n d = g at *;have k:=ae hgg;clear hgg;have r:0 <= (n:Int) / (g:Int) /\ (n:Int) / (g:Int) <= n:=⟨Int.ediv_nonneg (by omega) (by omega),Int.ediv_le_self _ (by omega)⟩
 have s:0 <= (d:Int) / (g:Int) /\ (d:Int) / (g:Int) <= d:=⟨Int.ediv_nonneg (by omega) (by omega),Int.ediv_le_self _ (by omega)⟩
 have i:Hid (((n / g:Nat):Int) = (n:Int) / (g:Int)):=by exact Int.natCast_ediv n g
 have j:Hid (((d / g:Nat):Int) = (d:Int) / (g:Int)):=by exact Int.natCast_ediv d g
 by_cases h1:(1099511627776:Int) < n / g
 ·go_enter func227,ntmps227;go_wp2_with (go_at_call 238;refine (Zhe n d _ hn hd).mono ?_;rintro e h ⟨rfl,q,rfl⟩;rw [k.out]);go_quiet (fail);go_wp2;obtain ⟨a,f,c⟩:=o.out (by have:=i.out;omega);exact bodyPost_ret (v:=U #[rat 0 0,I Z 5]) (by simp [results,results227,go_sem]) rfl ⟨Zk1 (f b).symm c.symm a.symm,(by repeat (first | exact ap _ _ | assumption | refine Below.setCell ?_ (by (first | omega | (simp <;> omega))) _ | refine Zag ?_ _ | refine Below.drew ?_ | refine Below.alloc ?_ (by (first | omega | (simp <;> omega))) _ | (refine after (h1:=by assumption) ?_ ?_;rotate_left;(first | omega | (simp <;> omega)))))⟩
 by_cases t:(1048576:Int) < d / g
 ·go_enter func227,ntmps227;go_wp2_with (go_at_call 238;refine (Zhe n d _ hn hd).mono ?_;rintro e h ⟨rfl,q,rfl⟩;rw [k.out]);go_quiet (fail);go_wp2;obtain ⟨a,f,c⟩:=o.out (by have:=j.out;omega);exact bodyPost_ret (v:=U #[rat 0 0,I Z 5]) (by simp [results,results227,go_sem]) rfl ⟨Zk1 (f b).symm c.symm a.symm,(by repeat (first | exact ap _ _ | assumption | refine Below.setCell ?_ (by (first | omega | (simp <;> omega))) _ | refine Zag ?_ _ | refine Below.drew ?_ | refine Below.alloc ?_ (by (first | omega | (simp <;> omega))) _ | (refine after (h1:=by assumption) ?_ ?_;rotate_left;(first | omega | (simp <;> omega)))))⟩
 ·cases b
  ·go_enter func227,ntmps227;go_wp2_with (go_at_call 238;refine (Zhe n d _ hn hd).mono ?_;rintro e h ⟨rfl,q,rfl⟩;rw [k.out]);go_quiet (fail);go_wp2;obtain ⟨a,f,c,l⟩:=p.out (by have:=i.out;omega) (by have:=j.out;omega);exact bodyPost_ret (v:=U #[rat (n / g) (d / g),I Z 0]) (by simp [results,results227,go_sem]) rfl ⟨Zk1 (i.out.symm.trans c.symm) (j.out.symm.trans l.symm) a.symm,(by repeat (first | exact ap _ _ | assumption | refine Below.setCell ?_ (by (first | omega | (simp <;> omega))) _ | refine Zag ?_ _ | refine Below.drew ?_ | refine Below.alloc ?_ (by (first | omega | (simp <;> omega))) _ | (refine after (h1:=by assumption) ?_ ?_;rotate_left;(first | omega | (simp <;> omega)))))⟩
  ·go_enter func227,ntmps227;go_wp2_with (go_at_call 238;refine (Zhe n d _ hn hd).mono ?_;rintro e h ⟨rfl,q,rfl⟩;rw [k.out]);go_quiet (fail);go_wp2;obtain ⟨a,f,c,l⟩:=p.out (by have:=i.out;omega) (by have:=j.out;omega);exact bodyPost_ret (v:=U #[rat (-(n / g)) (d / g),I Z 0]) (by simp [results,results227,go_sem]) rfl ⟨Zk1 (by rw [f,i.out]) (j.out.symm.trans l.symm) a.symm,(by repeat (first | exact ap _ _ | assumption | refine Below.setCell ?_ (by (first | omega | (simp <;> omega))) _ | refine Zag ?_ _ | refine Below.drew ?_ | refine Below.alloc ?_ (by (first | omega | (simp <;> omega))) _ | (refine after (h1:=by assumption) ?_ ?_;rotate_left;(first | omega | (simp <;> omega)))))⟩
theorem Yic (a b:Int) (h:b ≠ 0):Zm2 a b = buE a.natAbs b.natAbs /\ Zqa a b = buN (decide (a < 0) != decide (b < 0)) a.natAbs b.natAbs /\ Zqb a b = buD a.natAbs b.natAbs:=by
 have e:Zm2 a b = buE a.natAbs b.natAbs:=by
  unfold Zm2 buE;rw [if_neg h];rfl
 refine ⟨e,?_,?_⟩
 ·unfold Zqa buN;rw [e];show (if buE a.natAbs b.natAbs = 0 then (if a < 0 ↔ b < 0 then ((a.natAbs / Nat.gcd a.natAbs b.natAbs:Nat):Int) else -((a.natAbs / Nat.gcd a.natAbs b.natAbs:Nat):Int)) else 0) = _;by_cases h1:a < 0 <;> by_cases c:b < 0 <;> simp [h1,c]
 ·unfold Zqb buD;rw [e];rfl
theorem Zjk (a b:Int) (w:World) (j:-9223372036854775808 <= a) (x:a <= 9223372036854775807) (l:-9223372036854775808 <= b) (z:b <= 9223372036854775807) :
  Calls prog 213 #[I Z a,I Z b] w fun e i => e = V (U #[rat (Zqa a b) (Zqb a b),I Z (Zm2 a b)]) /\ Bl w i:=by
 by_cases s:b = 0
 ·have c:Zm2 a b = 1:=by unfold Zm2;rw [if_pos s]
  have f:Zqa a b = 0:=by unfold Zqa;rw [c];rfl
  have d:Zqb a b = 0:=by unfold Zqb;rw [c];rfl
  rw [c,f,d];subst s;clear c f d;go_enter func213,ntmps213;go_wp2;exact bodyPost_ret (v:=U #[rat 0 0,I Z 1]) (by simp [results,results213,go_sem]) rfl ⟨rfl,(by repeat (first | exact ap _ _ | assumption | refine Below.setCell ?_ (by (first | omega | (simp <;> omega))) _ | refine Zag ?_ _ | refine Below.drew ?_ | refine Below.alloc ?_ (by (first | omega | (simp <;> omega))) _ | (refine after (h1:=by assumption) ?_ ?_;rotate_left;(first | omega | (simp <;> omega)))))⟩
 ·obtain ⟨c,f,d⟩:=Yic a b s;rw [c,f,d];clear c f d;have o:0 < b.natAbs:=by omega
  by_cases h1:a < 0 <;> by_cases y:b < 0;all_goals
   simp only [h1,y,decide_true,decide_false,Bool.true_bne,Bool.false_bne,Bool.not_true,Bool.not_false];go_enter func213,ntmps213;go_wp2_with (first | (go_at_call_of 228 (Value.int IntKind.i64 a);refine (Zlm a _ j x).mono ?_;rintro e i ⟨rfl,rfl⟩) | (go_at_call_of 228 (Value.int IntKind.i64 b);refine (Zlm b _ l z).mono ?_;rintro e i ⟨rfl,rfl⟩) | (go_at_call 227;refine (Zqq _ a.natAbs b.natAbs _ (by omega) (by omega) o).mono ?_;rintro e w1 ⟨rfl,p⟩;obtain ⟨A,u,h⟩:=Ydb p;(try simp at h);(try have r:w.heap.size < w1.heap.size:=by omega);(try have k:w.heap.size + 1 < w1.heap.size:=by omega);(try have m:w.heap.size + 1 + 1 < w1.heap.size:=by omega);(try have t:w.heap.size + 1 + 1 + 1 < w1.heap.size:=by omega);(try have q:w.heap.size + 1 + 1 + 1 + 1 < w1.heap.size:=by omega);(try have g:w.heap.size + 1 + 1 + 1 + 1 + 1 < w1.heap.size:=by omega)))
   first | exact bodyPost_ret (v:=U #[rat (buN true a.natAbs b.natAbs) (buD a.natAbs b.natAbs),I Z (buE a.natAbs b.natAbs)]) (by simp [*,results,results213,go_sem]) rfl ⟨rfl,(by repeat (first | exact ap _ _ | assumption | refine Below.setCell ?_ (by (first | omega | (simp <;> omega))) _ | refine Zag ?_ _ | refine Below.drew ?_ | refine Below.alloc ?_ (by (first | omega | (simp <;> omega))) _ | (refine after (h1:=by assumption) ?_ ?_;rotate_left;(first | omega | (simp <;> omega)))))⟩ | exact bodyPost_ret (v:=U #[rat (buN false a.natAbs b.natAbs) (buD a.natAbs b.natAbs),I Z (buE a.natAbs b.natAbs)]) (by simp [*,results,results213,go_sem]) rfl ⟨rfl,(by repeat (first | exact ap _ _ | assumption | refine Below.setCell ?_ (by (first | omega | (simp <;> omega))) _ | refine Zag ?_ _ | refine Below.drew ?_ | refine Below.alloc ?_ (by (first | omega | (simp <;> omega))) _ | (refine after (h1:=by assumption) ?_ ?_;rotate_left;(first | omega | (simp <;> omega)))))⟩
theorem Ydc (p q:Int):Int.gcd q (p.tmod q) = Int.gcd p q:=by
 unfold Int.gcd;rw [Int.natAbs_tmod,Nat.gcd_comm p.natAbs,Nat.gcd_comm q.natAbs,<- Nat.gcd_rec]
theorem Ygm (p q:Int) (h:q ≠ 0):(p.tmod q).natAbs < q.natAbs:=by
 rw [Int.natAbs_tmod];exact ja _ (by omega)
theorem Zin (a b:Int) (w:World) (f:-9223372036854775807 <= a) (o:a <= 9223372036854775807) (h:-9223372036854775807 <= b) (u:b <= 9223372036854775807) :
  Calls prog 170 #[I Z a,I Z b] w fun e k => e = V (I Z (Int.gcd a b:Int)) /\ ∃ n,k = w.drewN n:=by
 go_enter func170,ntmps170;go_wp2;go_loopw [0,1] (fun x y wr => ∃ p q:Int,(-9223372036854775807 <= p /\ p <= 9223372036854775807) /\ (-9223372036854775807 <= q /\ q <= 9223372036854775807) /\ Int.gcd p q = Int.gcd a b /\ x = I Z p /\ y = I Z q /\ ∃ n,wr = w.drewN n) (fun _ y _ => (intOf y).natAbs)
 case atStart => exact ⟨a,b,⟨f,o⟩,⟨h,u⟩,rfl,rfl,rfl,0,rfl⟩
 case round =>
  obtain ⟨p,q,⟨v,A⟩,⟨d,z⟩,j,rfl,rfl,n,rfl⟩:=hrel;have g:=ae j;clear j;by_cases c:q = 0
  ·subst c;by_cases C:p < 0
   ·go_wp2;go_ret;exact ⟨Zjc (a:=-p) (by rw [<- g.out];simp;omega),n,rfl⟩
   ·go_wp2;go_ret;exact ⟨Zjc (a:=p) (by rw [<- g.out];simp;omega),n,rfl⟩
  ·have hm:=Ygm p q c;have l:(q != 0) = true:=by simp [c]
   have s:(q == 0) = false:=by simp [c]
   have m:-9223372036854775807 <= p.tmod q /\ p.tmod q <= 9223372036854775807:=by
    generalize p.tmod q = r at *;omega
   have i:(p.tmod q).natAbs < q.natAbs /\ True:=⟨hm,trivial⟩;clear hm;have t:IntKind.i64.wrap (p.tmod q) = p.tmod q:=IntWalk.i64_in _ (by omega);go_wp2;go_quiet (fail);go_wp2;go_roundw
   case rel => exact ⟨q,p.tmod q,⟨d,z⟩,by omega,by rw [Ydc,g.out],rfl,rfl,_,World.drewN_drewN _ _ _⟩
   case measure => exact i.1
attribute [local go_sem] Zsz
theorem Zs0 {n d:Int} (h:¬ (1 <= d /\ Zm2 n d = 0 /\ Zqa n d = n /\ Zqb n d = d)):Zqc n d = 1:=by
 rcases Zw8 n d with h1 | h1
 ·exact absurd ((Zvn n d).1 h1) h
 ·exact h1
theorem Zqr (n d:Int) (w:World) (o:-9223372036854775808 <= n) (hn:n <= 9223372036854775807) (m:-9223372036854775808 <= d) (hd:d <= 9223372036854775807) :
  Calls prog 194 #[rat n d] w fun e t => e = V (I Z (Zqc n d)) /\ Bl w t:=by
 by_cases h1:d < 1
 ·rw [Zs0 (by omega)];go_enter func194,ntmps194;go_wp2;go_ret;exact ⟨rfl,(by repeat (first | exact ap _ _ | assumption | refine Below.setCell ?_ (by (first | omega | (simp <;> omega))) _ | refine Zag ?_ _ | refine Below.drew ?_ | refine Below.alloc ?_ (by (first | omega | (simp <;> omega))) _ | (refine after (h1:=by assumption) ?_ ?_;rotate_left;(first | omega | (simp <;> omega)))))⟩
 ·by_cases l:Zm2 n d = 0
  ·by_cases q:Zqa n d = n /\ Zqb n d = d
   ·rw [(Zvn n d).2 ⟨by omega,l,q⟩];have H:=ae (Zjk n d);rw [l,q.1,q.2] at H;clear l q;go_enter func194,ntmps194;go_wp2_with (go_at_call 213;refine (H.out _ o hn m hd).mono ?_;rintro e w1 ⟨rfl,g⟩;obtain ⟨r,p,b⟩:=Ydb g;(try simp at b);(try have j:w.heap.size < w1.heap.size:=by omega);(try have c:w.heap.size + 1 < w1.heap.size:=by omega);(try have f:w.heap.size + 1 + 1 < w1.heap.size:=by omega);(try have k:w.heap.size + 1 + 1 + 1 < w1.heap.size:=by omega);(try have i:w.heap.size + 1 + 1 + 1 + 1 < w1.heap.size:=by omega);(try have a:w.heap.size + 1 + 1 + 1 + 1 + 1 < w1.heap.size:=by omega));all_goals (go_ret;exact ⟨rfl,(by repeat (first | exact ap _ _ | assumption | refine Below.setCell ?_ (by (first | omega | (simp <;> omega))) _ | refine Zag ?_ _ | refine Below.drew ?_ | refine Below.alloc ?_ (by (first | omega | (simp <;> omega))) _ | (refine after (h1:=by assumption) ?_ ?_;rotate_left;(first | omega | (simp <;> omega)))))⟩)
   ·rw [Zs0 (by intro h;exact q h.2.2)];have H:=ae (Zjk n d);rw [l] at H;clear l;generalize Zqa n d = N at *;generalize Zqb n d = D at *;go_enter func194,ntmps194;go_wp2_with (go_at_call 213;refine (H.out _ o hn m hd).mono ?_;rintro e w1 ⟨rfl,g⟩;obtain ⟨r,p,b⟩:=Ydb g;(try simp at b);(try have j:w.heap.size < w1.heap.size:=by omega);(try have c:w.heap.size + 1 < w1.heap.size:=by omega);(try have f:w.heap.size + 1 + 1 < w1.heap.size:=by omega);(try have k:w.heap.size + 1 + 1 + 1 < w1.heap.size:=by omega);(try have i:w.heap.size + 1 + 1 + 1 + 1 < w1.heap.size:=by omega);(try have a:w.heap.size + 1 + 1 + 1 + 1 + 1 < w1.heap.size:=by omega));all_goals (go_ret;exact ⟨rfl,(by repeat (first | exact ap _ _ | assumption | refine Below.setCell ?_ (by (first | omega | (simp <;> omega))) _ | refine Zag ?_ _ | refine Below.drew ?_ | refine Below.alloc ?_ (by (first | omega | (simp <;> omega))) _ | (refine after (h1:=by assumption) ?_ ?_;rotate_left;(first | omega | (simp <;> omega)))))⟩)
  ·rw [Zs0 (by intro h;exact l h.2.1)];have u:(Zm2 n d == 0) = false:=by simp [l]
   have s:(Zm2 n d != 0) = true:=by simp [l]
   go_enter func194,ntmps194;go_wp2_with (go_at_call 213;refine (Zjk n d _ o hn m hd).mono ?_;rintro e w1 ⟨rfl,g⟩;obtain ⟨r,p,b⟩:=Ydb g;(try simp at b);(try have j:w.heap.size < w1.heap.size:=by omega);(try have c:w.heap.size + 1 < w1.heap.size:=by omega);(try have f:w.heap.size + 1 + 1 < w1.heap.size:=by omega);(try have k:w.heap.size + 1 + 1 + 1 < w1.heap.size:=by omega);(try have i:w.heap.size + 1 + 1 + 1 + 1 < w1.heap.size:=by omega);(try have a:w.heap.size + 1 + 1 + 1 + 1 + 1 < w1.heap.size:=by omega));all_goals (go_ret;exact ⟨rfl,(by repeat (first | exact ap _ _ | assumption | refine Below.setCell ?_ (by (first | omega | (simp <;> omega))) _ | refine Zag ?_ _ | refine Below.drew ?_ | refine Below.alloc ?_ (by (first | omega | (simp <;> omega))) _ | (refine after (h1:=by assumption) ?_ ?_;rotate_left;(first | omega | (simp <;> omega)))))⟩)
theorem Zqs {n d:Int} (h:¬ (1 <= d /\ d <= 1048576 /\ -1099511627776 <= n /\ n <= 1099511627776 /\ Int.gcd n d = 1)):Zqc n d = 1:=by
 unfold Zqc;rw [if_neg h]
theorem Zgu (n d:Int) (w:World) :
  Calls prog 130 #[rat n d] w fun e a => e = V (I Z (Zqc n d)) /\ Bl w a:=by
 by_cases h1:d < 1
 ·rw [Zqs (by omega)];go_enter func130,ntmps130;go_wp2;go_ret;exact ⟨rfl,(by repeat (first | exact ap _ _ | assumption | refine Below.setCell ?_ (by (first | omega | (simp <;> omega))) _ | refine Zag ?_ _ | refine Below.drew ?_ | refine Below.alloc ?_ (by (first | omega | (simp <;> omega))) _ | (refine after (h1:=by assumption) ?_ ?_;rotate_left;(first | omega | (simp <;> omega)))))⟩
 by_cases l:1048576 < d
 ·rw [Zqs (by omega)];go_enter func130,ntmps130;go_wp2;go_ret;exact ⟨rfl,(by repeat (first | exact ap _ _ | assumption | refine Below.setCell ?_ (by (first | omega | (simp <;> omega))) _ | refine Zag ?_ _ | refine Below.drew ?_ | refine Below.alloc ?_ (by (first | omega | (simp <;> omega))) _ | (refine after (h1:=by assumption) ?_ ?_;rotate_left;(first | omega | (simp <;> omega)))))⟩
 by_cases h:1099511627776 < n
 ·rw [Zqs (by omega)];go_enter func130,ntmps130;go_wp2;go_ret;exact ⟨rfl,(by repeat (first | exact ap _ _ | assumption | refine Below.setCell ?_ (by (first | omega | (simp <;> omega))) _ | refine Zag ?_ _ | refine Below.drew ?_ | refine Below.alloc ?_ (by (first | omega | (simp <;> omega))) _ | (refine after (h1:=by assumption) ?_ ?_;rotate_left;(first | omega | (simp <;> omega)))))⟩
 by_cases k:n < -1099511627776
 ·rw [Zqs (by omega)];go_enter func130,ntmps130;go_wp2;go_ret;exact ⟨rfl,(by repeat (first | exact ap _ _ | assumption | refine Below.setCell ?_ (by (first | omega | (simp <;> omega))) _ | refine Zag ?_ _ | refine Below.drew ?_ | refine Below.alloc ?_ (by (first | omega | (simp <;> omega))) _ | (refine after (h1:=by assumption) ?_ ?_;rotate_left;(first | omega | (simp <;> omega)))))⟩
 by_cases b:Int.gcd n d = 1
 ·rw [show Zqc n d = 0 from by unfold Zqc;rw [if_pos ⟨by omega,by omega,by omega,by omega,b⟩]];have c:=ae b;clear b;go_enter func130,ntmps130;go_wp2_with (go_at_call 170;refine (Zin n d _ (by omega) (by omega) (by omega) (by omega)).mono ?_;rintro e a ⟨rfl,q,rfl⟩;rw [c.out]);go_ret;exact ⟨rfl,(by repeat (first | exact ap _ _ | assumption | refine Below.setCell ?_ (by (first | omega | (simp <;> omega))) _ | refine Zag ?_ _ | refine Below.drew ?_ | refine Below.alloc ?_ (by (first | omega | (simp <;> omega))) _ | (refine after (h1:=by assumption) ?_ ?_;rotate_left;(first | omega | (simp <;> omega)))))⟩
 ·rw [Zqs (by omega)];have i:((Int.gcd n d:Int) == 1) = false:=by simp;omega
  have j:((Int.gcd n d:Int) != 1) = true:=by simp;omega
  generalize hg:Int.gcd n d = g at *;have f:=ae hg;clear hg;go_enter func130,ntmps130;go_wp2_with (go_at_call 170;refine (Zin n d _ (by omega) (by omega) (by omega) (by omega)).mono ?_;rintro e a ⟨rfl,q,rfl⟩;rw [f.out]);go_ret;exact ⟨rfl,(by repeat (first | exact ap _ _ | assumption | refine Below.setCell ?_ (by (first | omega | (simp <;> omega))) _ | refine Zag ?_ _ | refine Below.drew ?_ | refine Below.alloc ?_ (by (first | omega | (simp <;> omega))) _ | (refine after (h1:=by assumption) ?_ ?_;rotate_left;(first | omega | (simp <;> omega)))))⟩
theorem Ydd (ln ld:Int) (lo:Bool) (w:World) :
  Calls prog 217 #[X #[I Z 0,I Z ln,I Z ld,G lo],X #[I Z 1,I Z 0,I Z 0,G false]] w fun e a => e = V (G true) /\ Bl w a:=by
 go_enter func217,ntmps217;go_wp2;go_ret;exact ⟨rfl,(Zab _ _).alloc (by simp) _⟩
theorem Yde (ln ld hn hd:Int) (lo ho:Bool) (P Q:Int) (b:IntKind.i64.wrap (ln * hd) = P) (c:IntKind.i64.wrap (hn * ld) = Q) (h:P < Q) (w:World) :
  Calls prog 217 #[X #[I Z 0,I Z ln,I Z ld,G lo],X #[I Z 0,I Z hn,I Z hd,G ho]] w fun e a => e = V (G true) /\ Bl w a:=by
 have h1:(P != Q) = true:=by simp;omega
 have d:(P == Q) = false:=by simp;omega
 go_enter func217,ntmps217;go_upto_region 5 with fail;go_quiet (fail);go_wp2;go_ret;exact ⟨rfl,Zag ((Zab _ _).alloc (by simp) _) _⟩
def Zgk (n d:Int):Prop:=Zqc n d = 0 /\ -1073741824 <= n /\ n <= 1073741824 /\ d <= 32768
theorem Zgk.bd {n d:Int} (h:Zgk n d):1 <= d /\ d <= 32768 /\ -1073741824 <= n /\ n <= 1073741824:=⟨(Zsy h.1).1,h.2.2.2,h.2.1,h.2.2.1⟩
theorem Zzr (n d:Int) (h:Zgk n d) (w:World) :
  Calls prog 230 #[X #[I Z n,I Z d]] w fun e c => e = V (G true) /\ Bl w c:=by
 obtain ⟨g,k,i,j⟩:=h.bd;have b:=ae (fun w => Zqr n d w (by omega) (by omega) (by omega) (by omega));rw [h.1] at b;clear h;have f:=Blk.new w 38 #[I Z n,I Z d];go_enter func230,ntmps230;go_wp2_with (go_at_call 194;refine (b.out _).mono ?_;rintro e w1 ⟨rfl,a⟩;have hc:=(f.keep a).c2);go_ret;exact ⟨rfl,Zaa (Zab _ _) a (by simp)⟩
theorem Zzs (w:World) :
  Calls prog 229 #[X #[I Z 0,I Z 0],G false,G true] w fun e a => e = V (G true) /\ Bl w a:=by
 go_enter func229,ntmps229;go_wp2;go_ret;exact ⟨rfl,Zab _ _⟩
theorem Zln (n d:Int) (o:Bool) (h:Zgk n d) (w:World) :
  Calls prog 229 #[X #[I Z n,I Z d],G o,G false] w fun e c => e = V (G true) /\ Bl w c:=by
 have b:=ae (fun w => Zzr n d h w);go_enter func229,ntmps229;go_wp2_with (go_at_call 230;refine (b.out _).mono ?_;rintro e w1 ⟨rfl,a⟩);go_ret;exact ⟨rfl,Zaa (Zab _ _) a (by simp)⟩
def Yfp (x:Iv):Prop:=x.li = false /\ Zgk x.ln x.ld /\ ((x.hi = true /\ x.hn = 0 /\ x.hd = 0 /\ x.ho = false) ∨ (x.hi = false /\ Zgk x.hn x.hd /\ x.ln * x.hd < x.hn * x.ld))
theorem Zjl {a b:Int} (h1:-1073741824 <= a) (d:a <= 1073741824) (f:1 <= b) (c:b <= 32768):IntKind.i64.wrap (a * b) = a * b:=by
 have g:a * b <= 1073741824 * 32768:=by
  rcases Int.le_total 0 a with h | h
  ·exact Int.mul_le_mul d c (by omega) (by omega)
  ·exact Int.le_trans (Int.mul_nonpos_of_nonpos_of_nonneg h (by omega)) (by decide)
 have e:-(1073741824 * 32768) <= a * b:=by
  rcases Int.le_total 0 a with h | h
  ·exact Int.le_trans (by decide) (Int.mul_nonneg h (by omega))
  ·have:(-a) * b <= 1073741824 * 32768:=Int.mul_le_mul (by omega) c (by omega) (by omega);rw [Int.neg_mul] at this;omega
 exact IntWalk.i64_in _ (by omega)
def Iv.vals (x:Iv):Array Value:=#[iI x.ln,iI x.ld,iI x.hn,iI x.hd,G x.lo,G x.ho,G x.li,G x.hi]
theorem Ydf (x:Iv) (h:Yfp x) (w:World) :
  Calls prog 215 #[X #[iI x.ln,iI x.ld,iI x.hn,iI x.hd,G x.lo,G x.ho,G x.li,G x.hi]] w fun e M => e = V (G true) /\ Bl w M:=by
 obtain ⟨ln,ld,hn,hd,lo,ho,li,hi⟩:=x;obtain ⟨h1,i,E⟩:=h;dsimp only at h1 i E ⊢;subst h1;rcases E with ⟨v,o,p,S⟩ | ⟨v,o,p⟩
 ·subst v o p S;have r:=ae (fun w => Zln ln ld lo i w);clear i;have u:=Blk.new w 181 #[iI ln,iI ld,iI 0,iI 0,G lo,G false,G false,G true];go_enter func215,ntmps215;go_wp2_with (first
   | (go_at_call_of 229 (Value.agg #[Value.int IntKind.i64 ln,Value.int IntKind.i64 ld]);(with_reducible refine (r.out _).mono ?_);rintro e w1 ⟨rfl,c⟩;have j:=u.keep c;have s:=j.c8)
   | (go_at_call 229;(with_reducible refine (Zzs _).mono ?_);rintro e w2 ⟨rfl,d⟩;have t:=j.keep d;have q:=t.c8)
   | (go_at_call 216;refine (Yc9 ln ld 0 0 lo false _).mono ?_;rintro e R ⟨rfl,g⟩)
   | (go_at_call 217;refine (Ydd ln ld lo _).mono ?_;rintro e P ⟨rfl,f⟩))
  have l:=Zaa (Zab _ _) c (by simp);have m:=Zaa l d l.size;have k:=Zaa m g m.size;go_ret;exact ⟨rfl,Zaa k f k.size⟩
 ·subst v;have r:=ae (fun w => Zln ln ld lo i w);have Q:=ae (fun w => Zln hn hd ho o w);obtain ⟨y,J,z,C⟩:=i.bd;obtain ⟨H,L,K,A⟩:=o.bd;have N:=ae (fun w => Yde ln ld hn hd lo (!ho) _ _ (Zjl (a:=ln) (b:=hd) z C H L) (Zjl (a:=hn) (b:=ld) K A y J) p w);clear i o p y J z C H L K A;have u:=Blk.new w 181 #[iI ln,iI ld,iI hn,iI hd,G lo,G ho,G false,G false];go_enter func215,ntmps215;go_wp2_with (first
   | (go_at_call_of 229 (Value.agg #[Value.int IntKind.i64 ln,Value.int IntKind.i64 ld]);(with_reducible refine (r.out _).mono ?_);rintro e w1 ⟨rfl,c⟩;have j:=u.keep c;have s:=j.c8)
   | (go_at_call_of 229 (Value.agg #[Value.int IntKind.i64 hn,Value.int IntKind.i64 hd]);(with_reducible refine (Q.out _).mono ?_);rintro e w2 ⟨rfl,d⟩;have t:=j.keep d;have q:=t.c8)
   | (go_at_call 216;refine (Yc8 ln ld hn hd lo ho _).mono ?_;rintro e R ⟨rfl,g⟩)
   | (go_at_call 217;refine (N.out _).mono ?_;rintro e P ⟨rfl,f⟩))
  have l:=Zaa (Zab _ _) c (by simp);have m:=Zaa l d l.size;have k:=Zaa m g m.size;go_ret;exact ⟨rfl,Zaa k f k.size⟩
theorem Rep.ivs {v:Value} {l:List Iv} (h:Rep w B v (.s 8 (l.flatMap Iv.cells))):∃ (A:Option Addr) (c:Nat),v = .slice A l.length c /\ l.length <= c /\
  ∀ (k:Nat) (t:k < l.length),∃ b o,A = some ⟨b,o,none⟩ /\ b < B /\ w.cell? ⟨b,o + k * 8,none⟩ = some (I Z l[k].ln) /\ w.cell? ⟨b,o + k * 8 + 1,none⟩ = some (I Z l[k].ld) /\ w.cell? ⟨b,o + k * 8 + 2,none⟩ = some (I Z l[k].hn) /\ w.cell? ⟨b,o + k * 8 + 3,none⟩ = some (I Z l[k].hd) /\
   w.cell? ⟨b,o + k * 8 + 4,none⟩ = some (G l[k].lo) /\ w.cell? ⟨b,o + k * 8 + 5,none⟩ = some (G l[k].ho) /\ w.cell? ⟨b,o + k * 8 + 6,none⟩ = some (G l[k].li) /\ w.cell? ⟨b,o + k * 8 + 7,none⟩ = some (G l[k].hi):=by
 obtain ⟨A,n,c,rfl,hn,hl,hc⟩:=h.slice;have p:=Zai (l:=l) (f:=Iv.cells) (k:=8) (fun x _ => x.cells_length);have m:n = l.length:=by omega
 subst m;refine ⟨A,c,rfl,hn,fun k t => ?_⟩;obtain ⟨b,o,cs,rfl,C,hr,e⟩:=hc (by omega);have u:=Zcd (l:=l) (f:=Iv.cells) (k:=8) (i:=k) (a:=l[k]) (fun x _ => x.cells_length) (ak t);have g:=(hr.drop (k * 8)).take 8;rw [u] at g;have q:cs.length = l.length * 8:=hr.1.trans p;have key:∀ j (d:Value),j < 8 -> (l[k].cells)[j]? = some (.v d) -> w.cell? ⟨b,o + k * 8 + j,none⟩ = some d:=fun j d y hd => by
  have h1:k * 8 + j < cs.length:=by omega
  have z:((cs.drop (k * 8)).take 8)[j]? = some cs[k * 8 + j]:=by
   rw [gi,if_pos y,fz,ak h1]
  have E:=g.2 j _ _ z hd;have r:=e (k * 8 + j) _ (ak h1);rw [E.plain,<- i7] at r;exact r
 exact ⟨b,o,rfl,C,key 0 _ (by omega) rfl,key 1 _ (by omega) rfl,key 2 _ (by omega) rfl,key 3 _ (by omega) rfl,key 4 _ (by omega) rfl,key 5 _ (by omega) rfl,key 6 _ (by omega) rfl,key 7 _ (by omega) rfl⟩
def Zxb (l:List Iv):Prop:=l.length <= 1 /\ ∀ x ∈ l,Yfp x
theorem Ygn (A:Option Addr) (n c:Nat) (h:n <= 32) (w:World) :
  Calls prog 218 #[.slice A n c] w fun e a => e = V (I Z 0) /\ w = a:=by
 go_enter func218,ntmps218;go_wp2;go_ret;exact ⟨rfl,rfl⟩
theorem Zon (l:List Iv) (hl:Zxb l) (v:Value) (w:World) (B:Nat) (E:B <= w.heap.size) (hr:Rep w B v (.s 8 (l.flatMap Iv.cells))) :
  Calls prog 199 #[v] w fun e y => e = V (I Z 0) /\ Bl w y:=by
 obtain ⟨A,c,rfl,hc,f⟩:=hr.ivs;clear hr;obtain ⟨u,h⟩:=hl;have C:=ae h;clear h;go_enter func199,ntmps199;go_wp2;go_loopw [11] (fun i wr => ∃ k:Nat,i = I Z (k:Int) /\ k <= l.length /\ Bl w wr) (fun i _ => l.length - (intOf i).toNat)
 case atStart => exact ⟨0,rfl,bi _,ap _ _⟩
 case round =>
  obtain ⟨k,rfl,M,d⟩:=hrel;by_cases g:k < l.length
  ·obtain rfl:k = 0:=by omega
   obtain ⟨b,o,rfl,K,t,c1,c2,q,c4,c5,m,j⟩:=f 0 g;have z:=ae (C.out _ (aw g));simp only [io,Nat.add_zero] at t c1 c2 q c4 c5 m j;have a:b < w.heap.size:=by omega
   have H:=(d.cell (p:=⟨b,o,none⟩) a).trans t;have d1:=(d.cell (p:=⟨b,o + 1,none⟩) a).trans c1;have d2:=(d.cell (p:=⟨b,o + 2,none⟩) a).trans c2;have R:=(d.cell (p:=⟨b,o + 3,none⟩) a).trans q;have P:=(d.cell (p:=⟨b,o + 4,none⟩) a).trans c4;have J:=(d.cell (p:=⟨b,o + 5,none⟩) a).trans c5;have N:=(d.cell (p:=⟨b,o + 6,none⟩) a).trans m;have L:=(d.cell (p:=⟨b,o + 7,none⟩) a).trans j;clear t c1 c2 q c4 c5 m j f;generalize l[0] = x at *;go_wp2_with (go_at_call 215;refine (Ydf x z.out _).mono ?_;rintro e w1 ⟨rfl,r⟩);have Q:=Zaa (d.alloc d.size _) r (aj d.size (by simp));go_roundw
   case rel => exact ⟨1,by go_num,by omega,Q⟩
   case measure => simp [intOf];omega
  ·obtain rfl:k = l.length:=by omega
   go_wp2_with (go_at_call 218;refine (Ygn _ _ _ (by omega) _).mono ?_;rintro e w1 ⟨rfl,rfl⟩);go_ret;exact ⟨rfl,d⟩
end Go.Proofs.YtglkadmfjaecmaaGreatDoor
