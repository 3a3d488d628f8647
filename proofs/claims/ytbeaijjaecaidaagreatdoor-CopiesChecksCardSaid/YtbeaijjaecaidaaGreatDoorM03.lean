/- The ends of an interval. Ratios: what Valid and its reference return, whatever the numbers (turned from the texts of the ratio seat by mkrat.py). Sets of at most one interval, as generated formulas have them, in the program: they are valid. -/
import Derived.Test.YtbeaijjaecaidaaGreatDoorM02
import Derived.Test.YtbeaijjaecaidaaGreatDoorM01
import Derived.Deep.QuietTactic
import Derived.BigQuiet
import Derived.Deep.RegionWith
import Derived.Deep.RegionHeld3
import Derived.Below
set_option maxRecDepth 100000
set_option maxHeartbeats 16000000
namespace Go.Proofs.YtbeaijjaecaidaaGreatDoor
open Go.RowKit Go.Shelf
attribute [local go_sem] Oper.semAt_some
attribute [local go_sem ↓] Go.wp_at_zero Go.wp_at_succ
theorem ends_fin (ln ld hn hd:Int) (lo ho:Bool) (w:World) :
  Calls Tryz.prog 196 #[.agg #[iI ln,iI ld,iI hn,iI hd,.bool lo,.bool ho,.bool false,.bool false]] w fun e w' => e = .returned (.tuple #[.agg #[.int .i64 0,.int .i64 ln,.int .i64 ld,.bool lo],.agg #[.int .i64 0,.int .i64 hn,.int .i64 hd,.bool (!ho)]]) ∧ Below w.heap.size w w':=by
 go_enter Tryz.func196,Tryz.ntmps196
 go_upto_region 1 with fail;have B0:=((Blk.new w 164 #[iI ln,iI ld,iI hn,iI hd,.bool lo,.bool ho,.bool false,.bool false]).alloc (.cells #[.int .i64 0,.int .i64 0,.int .i64 0,.bool false] 233)).alloc (.cells #[.int .i64 0,.int .i64 0,.int .i64 0,.bool false] 233);have B1:=(Blk.new (w.alloc (.cells #[iI ln,iI ld,iI hn,iI hd,.bool lo,.bool ho,.bool false,.bool false] 164)) 233 #[.int .i64 0,.int .i64 0,.int .i64 0,.bool false]).alloc (.cells #[.int .i64 0,.int .i64 0,.int .i64 0,.bool false] 233);have B2:=Blk.new ((w.alloc (.cells #[iI ln,iI ld,iI hn,iI hd,.bool lo,.bool ho,.bool false,.bool false] 164)).alloc (.cells #[.int .i64 0,.int .i64 0,.int .i64 0,.bool false] 233)) 233 #[.int .i64 0,.int .i64 0,.int .i64 0,.bool false];rw [World.size_alloc] at B1;rw [World.size_alloc,World.size_alloc] at B2;have HB:=((below_new w (.cells #[iI ln,iI ld,iI hn,iI hd,.bool lo,.bool ho,.bool false,.bool false] 164)).alloc (by simp) (.cells #[.int .i64 0,.int .i64 0,.int .i64 0,.bool false] 233)).alloc (by simp;omega) (.cells #[.int .i64 0,.int .i64 0,.int .i64 0,.bool false] 233)
 generalize ((w.alloc (.cells #[iI ln,iI ld,iI hn,iI hd,.bool lo,.bool ho,.bool false,.bool false] 164)).alloc (.cells #[.int .i64 0,.int .i64 0,.int .i64 0,.bool false] 233)).alloc (.cells #[.int .i64 0,.int .i64 0,.int .i64 0,.bool false] 233) = W0 at *;go_cut [4,5] (fun u v wx => ∃ g h,u = .pointer (some ⟨g,0,none⟩) ∧ v = .pointer (some ⟨h,0,none⟩) ∧ (g ≠ h ∧ w.heap.size + 1 + 1 < g ∧ w.heap.size + 1 + 1 < h) ∧ Blk wx g 233 #[.int .i64 0,.int .i64 ln,.int .i64 ld,.bool lo] ∧ Blk wx h 233 #[.int .i64 0,.int .i64 hn,.int .i64 hd,.bool (!ho)] ∧ Blk wx w.heap.size 164 #[iI ln,iI ld,iI hn,iI hd,.bool lo,.bool ho,.bool false,.bool false] ∧ Blk wx (w.heap.size + 1) 233 #[.int .i64 0,.int .i64 0,.int .i64 0,.bool false] ∧ Blk wx (w.heap.size + 1 + 1) 233 #[.int .i64 0,.int .i64 0,.int .i64 0,.bool false] ∧ Below w.heap.size w wx)
 case first =>
  refine wp_region_held_drew (S:=(fun w' => Blk w' w.heap.size 164 #[iI ln,iI ld,iI hn,iI hd,.bool lo,.bool ho,.bool false,.bool false] ∧ Blk w' (w.heap.size + 1) 233 #[.int .i64 0,.int .i64 0,.int .i64 0,.bool false] ∧ Blk w' (w.heap.size + 1 + 1) 233 #[.int .i64 0,.int .i64 0,.int .i64 0,.bool false] ∧ Below w.heap.size w w')) (by kernel_rfl) ?_ (fun hHeld => ?_)
  ·first | done | ((try dsimp only);exact ⟨B0,B1,B2,HB.drew⟩)
  refine tq 0 6 rfl ?_
  refine th 1 7 rfl (fun _ hSw => hSw.1.c8) ?_
  refine tq 2 8 rfl ?_
  refine th 3 9 rfl (fun _ hSw => hSw.1.c8) ?_
  refine tq 4 10 rfl ?_
  refine tq 5 11 rfl ?_
  refine th 6 12 rfl (fun _ hSw => hSw.1.c8) ?_
  refine tq 7 13 rfl ?_
  refine th 8 14 rfl (fun _ hSw => hSw.1.c8) ?_
  refine tq 9 15 rfl ?_
  refine tq 10 16 rfl ?_
  generalize W0.drew = W1 at *;have hz:w.heap.size + 1 + 1 < W1.heap.size:=hHeld.2.2.1.lt;clear B0 B1 B2 HB;refine rd2 11 (some 4) 12 (some 5) (by kernel_rfl) rfl rfl (fun K hK => ?_) fun K hK => ?_
  ·skip
   go_simp;skip;refine hK.out _ _ (⟨hHeld.1.alloc _,hHeld.2.1.alloc _,hHeld.2.2.1.alloc _,hHeld.2.2.2.alloc hHeld.2.2.2.size _⟩) fun hHeld => ?_
   clear hK K;(try simp only [pS,pB,pZ,pC]);have GA:=Blk.new W1 233 #[.int .i64 0,.int .i64 0,.int .i64 0,.bool false];have hz2:=World.size_alloc W1 (.cells #[.int .i64 0,.int .i64 0,.int .i64 0,.bool false] 233);refine rd 12 (some 5) rfl fun K hK => ?_
   go_simp;skip;refine hK.out _ _ (⟨hHeld.1.alloc _,hHeld.2.1.alloc _,hHeld.2.2.1.alloc _,hHeld.2.2.2.alloc hHeld.2.2.2.size _⟩) fun hHeld => ?_
   clear hK K;(try simp only [pS,pB,pZ,pC]);have GB:=Blk.new (W1.alloc (.cells #[.int .i64 0,.int .i64 0,.int .i64 0,.bool false] 233)) 233 #[.int .i64 0,.int .i64 0,.int .i64 0,.bool false];rw [World.size_alloc] at GB;replace GA:=GA.alloc (.cells #[.int .i64 0,.int .i64 0,.int .i64 0,.bool false] 233);clear hz2;have hz3:W1.heap.size < W1.heap.size + 1:=Nat.lt_succ_self _;generalize (W1.alloc (.cells #[.int .i64 0,.int .i64 0,.int .i64 0,.bool false] 233)).alloc (.cells #[.int .i64 0,.int .i64 0,.int .i64 0,.bool false] 233) = W2 at *;generalize hG:W1.heap.size + 1 = gb at *;generalize W1.heap.size = ga at *;have hz4:w.heap.size + 1 + 1 < gb:=by omega
   have hne:ga ≠ gb:=by omega
   clear hG hz3;rename_i hOld1 hOld2;clear hOld1 hOld2;have ca:=GA.c4;have fa:=GA.f4;have cb:=GB.c4;have fb:=GB.f4;have N1:=(Blk.far4 (g':=ga) hHeld.1 (by omega) (.int .i64 0) (.int .i64 ln) (.int .i64 ld) (.bool lo))
   have N2:=(Blk.far4 (g':=ga) hHeld.2.1 (by omega) (.int .i64 0) (.int .i64 ln) (.int .i64 ld) (.bool lo))
   have N3:=(Blk.far4 (g':=ga) hHeld.2.2.1 (by omega) (.int .i64 0) (.int .i64 ln) (.int .i64 ld) (.bool lo))
   have N4:=(below_set4 (g:=ga) hHeld.2.2.2 (by omega) (.int .i64 0) (.int .i64 ln) (.int .i64 ld) (.bool lo))
   have K1:=(Blk.set4 GA (.int .i64 0) (.int .i64 ln) (.int .i64 ld) (.bool lo));have K2:=(Blk.far4 (g':=ga) GB (by omega) (.int .i64 0) (.int .i64 ln) (.int .i64 ld) (.bool lo))
   refine rd 13 none rfl fun K hK => ?_
   go_simp;skip;refine hK.out _ _ (⟨N1,N2,N3,N4⟩) fun hHeld => ?_
   clear hK K;(try simp only [pS,pB,pZ,pC]);rename_i hO1;clear hO1 hHeld ca fa cb fb;have k2c:=K2.c4;have k2f:=K2.f4;change wpAnyH _ _ _ _ _ _ _ _ (st4 W2 ga (.int .i64 0) (.int .i64 ln) (.int .i64 ld) (.bool lo));generalize st4 W2 ga (.int .i64 0) (.int .i64 ln) (.int .i64 ld) (.bool lo) = W3 at *;have M1:=(Blk.far4 (g':=gb) N1 (by omega) (.int .i64 0) (.int .i64 hn) (.int .i64 hd) (.bool (!ho)))
   have M2:=(Blk.far4 (g':=gb) N2 (by omega) (.int .i64 0) (.int .i64 hn) (.int .i64 hd) (.bool (!ho)))
   have M3:=(Blk.far4 (g':=gb) N3 (by omega) (.int .i64 0) (.int .i64 hn) (.int .i64 hd) (.bool (!ho)))
   have M4:=(below_set4 (g:=gb) N4 (by omega) (.int .i64 0) (.int .i64 hn) (.int .i64 hd) (.bool (!ho)))
   have K3:=(Blk.far4 (g':=gb) K1 (by omega) (.int .i64 0) (.int .i64 hn) (.int .i64 hd) (.bool (!ho)))
   have K4:=(Blk.set4 K2 (.int .i64 0) (.int .i64 hn) (.int .i64 hd) (.bool (!ho)));refine rd 14 none rfl fun K hK => ?_
   go_simp;skip;refine hK.out _ _ (⟨M1,M2,M3,M4⟩) fun hHeld => ?_
   clear hK K;(try simp only [pS,pB,pZ,pC]);refine dn ?_
   go_wp2_with fail;go_meet;exact ⟨ga,gb,rfl,rfl,⟨by omega,by omega,by omega⟩,K3,K4,M1,M2,M3,M4⟩
  ·skip
   go_simp;skip;refine hK.out _ _ (⟨hHeld.1.alloc _,hHeld.2.1.alloc _,hHeld.2.2.1.alloc _,hHeld.2.2.2.alloc hHeld.2.2.2.size _⟩) fun hHeld => ?_
   clear hK K;(try simp only [pS,pB,pZ,pC]);have GA:=Blk.new W1 233 #[.int .i64 0,.int .i64 0,.int .i64 0,.bool false];have hz2:=World.size_alloc W1 (.cells #[.int .i64 0,.int .i64 0,.int .i64 0,.bool false] 233);refine rd 11 (some 4) rfl fun K hK => ?_
   go_simp;skip;refine hK.out _ _ (⟨hHeld.1.alloc _,hHeld.2.1.alloc _,hHeld.2.2.1.alloc _,hHeld.2.2.2.alloc hHeld.2.2.2.size _⟩) fun hHeld => ?_
   clear hK K;(try simp only [pS,pB,pZ,pC]);have GB:=Blk.new (W1.alloc (.cells #[.int .i64 0,.int .i64 0,.int .i64 0,.bool false] 233)) 233 #[.int .i64 0,.int .i64 0,.int .i64 0,.bool false];rw [World.size_alloc] at GB;replace GA:=GA.alloc (.cells #[.int .i64 0,.int .i64 0,.int .i64 0,.bool false] 233);clear hz2;have hz3:W1.heap.size < W1.heap.size + 1:=Nat.lt_succ_self _;generalize (W1.alloc (.cells #[.int .i64 0,.int .i64 0,.int .i64 0,.bool false] 233)).alloc (.cells #[.int .i64 0,.int .i64 0,.int .i64 0,.bool false] 233) = W2 at *;generalize hG:W1.heap.size + 1 = gb at *;generalize W1.heap.size = ga at *;have hz4:w.heap.size + 1 + 1 < gb:=by omega
   have hne:ga ≠ gb:=by omega
   clear hG hz3;rename_i hOld1 hOld2;clear hOld1 hOld2;have ca:=GA.c4;have fa:=GA.f4;have cb:=GB.c4;have fb:=GB.f4;have N1:=(Blk.far4 (g':=gb) hHeld.1 (by omega) (.int .i64 0) (.int .i64 ln) (.int .i64 ld) (.bool lo))
   have N2:=(Blk.far4 (g':=gb) hHeld.2.1 (by omega) (.int .i64 0) (.int .i64 ln) (.int .i64 ld) (.bool lo))
   have N3:=(Blk.far4 (g':=gb) hHeld.2.2.1 (by omega) (.int .i64 0) (.int .i64 ln) (.int .i64 ld) (.bool lo))
   have N4:=(below_set4 (g:=gb) hHeld.2.2.2 (by omega) (.int .i64 0) (.int .i64 ln) (.int .i64 ld) (.bool lo))
   have K1:=(Blk.set4 GB (.int .i64 0) (.int .i64 ln) (.int .i64 ld) (.bool lo));have K2:=(Blk.far4 (g':=gb) GA (by omega) (.int .i64 0) (.int .i64 ln) (.int .i64 ld) (.bool lo))
   refine rd 13 none rfl fun K hK => ?_
   go_simp;skip;refine hK.out _ _ (⟨N1,N2,N3,N4⟩) fun hHeld => ?_
   clear hK K;(try simp only [pS,pB,pZ,pC]);rename_i hO1;clear hO1 hHeld ca fa cb fb;have k2c:=K2.c4;have k2f:=K2.f4;change wpAnyH _ _ _ _ _ _ _ _ (st4 W2 gb (.int .i64 0) (.int .i64 ln) (.int .i64 ld) (.bool lo));generalize st4 W2 gb (.int .i64 0) (.int .i64 ln) (.int .i64 ld) (.bool lo) = W3 at *;have M1:=(Blk.far4 (g':=ga) N1 (by omega) (.int .i64 0) (.int .i64 hn) (.int .i64 hd) (.bool (!ho)))
   have M2:=(Blk.far4 (g':=ga) N2 (by omega) (.int .i64 0) (.int .i64 hn) (.int .i64 hd) (.bool (!ho)))
   have M3:=(Blk.far4 (g':=ga) N3 (by omega) (.int .i64 0) (.int .i64 hn) (.int .i64 hd) (.bool (!ho)))
   have M4:=(below_set4 (g:=ga) N4 (by omega) (.int .i64 0) (.int .i64 hn) (.int .i64 hd) (.bool (!ho)))
   have K3:=(Blk.far4 (g':=ga) K1 (by omega) (.int .i64 0) (.int .i64 hn) (.int .i64 hd) (.bool (!ho)))
   have K4:=(Blk.set4 K2 (.int .i64 0) (.int .i64 hn) (.int .i64 hd) (.bool (!ho)));refine rd 14 none rfl fun K hK => ?_
   go_simp;skip;refine hK.out _ _ (⟨M1,M2,M3,M4⟩) fun hHeld => ?_
   clear hK K;(try simp only [pS,pB,pZ,pC]);refine dn ?_
   go_wp2_with fail;go_meet;exact ⟨gb,ga,rfl,rfl,⟨by omega,by omega,by omega⟩,K3,K4,M1,M2,M3,M4⟩
 case rest =>
  obtain ⟨g,h,rfl,rfl,⟨hgh,hg,hh⟩,BG,BH,B0',B1',B2',HB'⟩:=hcut;obtain ⟨wx,rfl⟩:∃ z:World,z = wc:=⟨_,rfl⟩;clear B0 B1 B2 HB;have hc:=B0'.c8;have cg:=BG.c4;have ch:=BH.c4;have fh:=BH.f4;go_upto_region 6 with fail;clear B0' hc cg ch fh;obtain ⟨wy,rfl⟩:∃ z:World,z = wx:=⟨_,rfl⟩;refine wp_region_held_drew (S:=(fun w' => Blk w' g 233 #[.int .i64 0,.int .i64 ln,.int .i64 ld,.bool lo] ∧ Blk w' h 233 #[.int .i64 0,.int .i64 hn,.int .i64 hd,.bool (!ho)])) (by kernel_rfl) ?_ (fun hHeld => ?_)
  ·first | done | ((try dsimp only);exact ⟨BG,BH⟩)
  replace B1':=B1'.drew;replace B2':=B2'.drew;replace HB':=HB'.drew;clear BG BH;generalize wy.drew = wz at *;have cb:=B1'.c4;have fb:=B1'.f4;refine th 0 23 rfl (fun _ hSw => hSw.1.c4) ?_
  refine th 1 24 rfl (fun _ hSw => hSw.2.c4) ?_
  have N1:=(Blk.far4 (g':=(w.heap.size + 1)) hHeld.1 (by omega) (.int .i64 0) (.int .i64 ln) (.int .i64 ld) (.bool lo))
  have N2:=(Blk.far4 (g':=(w.heap.size + 1)) hHeld.2 (by omega) (.int .i64 0) (.int .i64 ln) (.int .i64 ld) (.bool lo))
  replace B1':=(Blk.set4 B1' (.int .i64 0) (.int .i64 ln) (.int .i64 ld) (.bool lo));replace B2':=(Blk.far4 (g':=(w.heap.size + 1)) B2' (by omega) (.int .i64 0) (.int .i64 ln) (.int .i64 ld) (.bool lo))
  replace HB':=(below_set4 (g:=(w.heap.size + 1)) HB' (by omega) (.int .i64 0) (.int .i64 ln) (.int .i64 ld) (.bool lo))
  refine rd 2 none rfl fun K hK => ?_
  go_simp;skip;refine hK.out _ _ (⟨N1,N2⟩) fun hHeld => ?_
  clear hK K;(try simp only [pS,pB,pZ,pC]);change wpAnyH _ _ _ _ _ _ _ _ (st4 wz (w.heap.size + 1) (.int .i64 0) (.int .i64 ln) (.int .i64 ld) (.bool lo));rename_i hO1;clear hHeld hO1 cb fb;generalize st4 wz (w.heap.size + 1) (.int .i64 0) (.int .i64 ln) (.int .i64 ld) (.bool lo) = wq at *;have cb:=B2'.c4;have fb:=B2'.f4;have M1:=(Blk.far4 (g':=(w.heap.size + 1 + 1)) N1 (by omega) (.int .i64 0) (.int .i64 hn) (.int .i64 hd) (.bool (!ho)))
  have M2:=(Blk.far4 (g':=(w.heap.size + 1 + 1)) N2 (by omega) (.int .i64 0) (.int .i64 hn) (.int .i64 hd) (.bool (!ho)))
  replace B1':=(Blk.far4 (g':=(w.heap.size + 1 + 1)) B1' (by omega) (.int .i64 0) (.int .i64 hn) (.int .i64 hd) (.bool (!ho)))
  replace B2':=(Blk.set4 B2' (.int .i64 0) (.int .i64 hn) (.int .i64 hd) (.bool (!ho)));replace HB':=(below_set4 (g:=(w.heap.size + 1 + 1)) HB' (by omega) (.int .i64 0) (.int .i64 hn) (.int .i64 hd) (.bool (!ho)))
  refine rd 3 none rfl fun K hK => ?_
  go_simp;skip;refine hK.out _ _ (⟨M1,M2⟩) fun hHeld => ?_
  clear hK K;(try simp only [pS,pB,pZ,pC]);change wpAnyH _ _ _ _ _ _ _ _ (st4 wq (w.heap.size + 1 + 1) (.int .i64 0) (.int .i64 hn) (.int .i64 hd) (.bool (!ho)));clear hHeld cb fb N1 N2 M1 M2;generalize st4 wq (w.heap.size + 1 + 1) (.int .i64 0) (.int .i64 hn) (.int .i64 hd) (.bool (!ho)) = wr at *;refine dn ?_
  go_wp2_with fail;obtain ⟨c0,c1,c2,c3⟩:=B1'.c4;obtain ⟨d0,d1,d2,d3⟩:=B2'.c4;exact bodyPost_ret (v:=.tuple #[.agg #[.int .i64 0,.int .i64 ln,.int .i64 ld,.bool lo],.agg #[.int .i64 0,.int .i64 hn,.int .i64 hd,.bool (!ho)]]) (by simp [results,Tryz.results196,go_sem,c0,c1,c2,c3,d0,d1,d2,d3]) rfl ⟨rfl,HB'⟩
theorem ends_inf (ln ld hn hd:Int) (lo ho:Bool) (w:World) :
  Calls Tryz.prog 196 #[.agg #[iI ln,iI ld,iI hn,iI hd,.bool lo,.bool ho,.bool false,.bool true]] w fun e w' => e = .returned (.tuple #[.agg #[.int .i64 0,.int .i64 ln,.int .i64 ld,.bool lo],.agg #[.int .i64 1,.int .i64 0,.int .i64 0,.bool false]]) ∧ Below w.heap.size w w':=by
 go_enter Tryz.func196,Tryz.ntmps196
 go_upto_region 1 with fail;have B0:=((Blk.new w 164 #[iI ln,iI ld,iI hn,iI hd,.bool lo,.bool ho,.bool false,.bool true]).alloc (.cells #[.int .i64 0,.int .i64 0,.int .i64 0,.bool false] 233)).alloc (.cells #[.int .i64 0,.int .i64 0,.int .i64 0,.bool false] 233);have B1:=(Blk.new (w.alloc (.cells #[iI ln,iI ld,iI hn,iI hd,.bool lo,.bool ho,.bool false,.bool true] 164)) 233 #[.int .i64 0,.int .i64 0,.int .i64 0,.bool false]).alloc (.cells #[.int .i64 0,.int .i64 0,.int .i64 0,.bool false] 233);have B2:=Blk.new ((w.alloc (.cells #[iI ln,iI ld,iI hn,iI hd,.bool lo,.bool ho,.bool false,.bool true] 164)).alloc (.cells #[.int .i64 0,.int .i64 0,.int .i64 0,.bool false] 233)) 233 #[.int .i64 0,.int .i64 0,.int .i64 0,.bool false];rw [World.size_alloc] at B1;rw [World.size_alloc,World.size_alloc] at B2;have HB:=((below_new w (.cells #[iI ln,iI ld,iI hn,iI hd,.bool lo,.bool ho,.bool false,.bool true] 164)).alloc (by simp) (.cells #[.int .i64 0,.int .i64 0,.int .i64 0,.bool false] 233)).alloc (by simp;omega) (.cells #[.int .i64 0,.int .i64 0,.int .i64 0,.bool false] 233)
 generalize ((w.alloc (.cells #[iI ln,iI ld,iI hn,iI hd,.bool lo,.bool ho,.bool false,.bool true] 164)).alloc (.cells #[.int .i64 0,.int .i64 0,.int .i64 0,.bool false] 233)).alloc (.cells #[.int .i64 0,.int .i64 0,.int .i64 0,.bool false] 233) = W0 at *;go_cut [4,5] (fun u v wx => ∃ g h,u = .pointer (some ⟨g,0,none⟩) ∧ v = .pointer (some ⟨h,0,none⟩) ∧ (g ≠ h ∧ w.heap.size + 1 + 1 < g ∧ w.heap.size + 1 + 1 < h) ∧ Blk wx g 233 #[.int .i64 0,.int .i64 ln,.int .i64 ld,.bool lo] ∧ Blk wx h 233 #[.int .i64 0,.int .i64 hn,.int .i64 hd,.bool (!ho)] ∧ Blk wx w.heap.size 164 #[iI ln,iI ld,iI hn,iI hd,.bool lo,.bool ho,.bool false,.bool true] ∧ Blk wx (w.heap.size + 1) 233 #[.int .i64 0,.int .i64 0,.int .i64 0,.bool false] ∧ Blk wx (w.heap.size + 1 + 1) 233 #[.int .i64 0,.int .i64 0,.int .i64 0,.bool false] ∧ Below w.heap.size w wx)
 case first =>
  refine wp_region_held_drew (S:=(fun w' => Blk w' w.heap.size 164 #[iI ln,iI ld,iI hn,iI hd,.bool lo,.bool ho,.bool false,.bool true] ∧ Blk w' (w.heap.size + 1) 233 #[.int .i64 0,.int .i64 0,.int .i64 0,.bool false] ∧ Blk w' (w.heap.size + 1 + 1) 233 #[.int .i64 0,.int .i64 0,.int .i64 0,.bool false] ∧ Below w.heap.size w w')) (by kernel_rfl) ?_ (fun hHeld => ?_)
  ·first | done | ((try dsimp only);exact ⟨B0,B1,B2,HB.drew⟩)
  refine tq 0 6 rfl ?_
  refine th 1 7 rfl (fun _ hSw => hSw.1.c8) ?_
  refine tq 2 8 rfl ?_
  refine th 3 9 rfl (fun _ hSw => hSw.1.c8) ?_
  refine tq 4 10 rfl ?_
  refine tq 5 11 rfl ?_
  refine th 6 12 rfl (fun _ hSw => hSw.1.c8) ?_
  refine tq 7 13 rfl ?_
  refine th 8 14 rfl (fun _ hSw => hSw.1.c8) ?_
  refine tq 9 15 rfl ?_
  refine tq 10 16 rfl ?_
  generalize W0.drew = W1 at *;have hz:w.heap.size + 1 + 1 < W1.heap.size:=hHeld.2.2.1.lt;clear B0 B1 B2 HB;refine rd2 11 (some 4) 12 (some 5) (by kernel_rfl) rfl rfl (fun K hK => ?_) fun K hK => ?_
  ·skip
   go_simp;skip;refine hK.out _ _ (⟨hHeld.1.alloc _,hHeld.2.1.alloc _,hHeld.2.2.1.alloc _,hHeld.2.2.2.alloc hHeld.2.2.2.size _⟩) fun hHeld => ?_
   clear hK K;(try simp only [pS,pB,pZ,pC]);have GA:=Blk.new W1 233 #[.int .i64 0,.int .i64 0,.int .i64 0,.bool false];have hz2:=World.size_alloc W1 (.cells #[.int .i64 0,.int .i64 0,.int .i64 0,.bool false] 233);refine rd 12 (some 5) rfl fun K hK => ?_
   go_simp;skip;refine hK.out _ _ (⟨hHeld.1.alloc _,hHeld.2.1.alloc _,hHeld.2.2.1.alloc _,hHeld.2.2.2.alloc hHeld.2.2.2.size _⟩) fun hHeld => ?_
   clear hK K;(try simp only [pS,pB,pZ,pC]);have GB:=Blk.new (W1.alloc (.cells #[.int .i64 0,.int .i64 0,.int .i64 0,.bool false] 233)) 233 #[.int .i64 0,.int .i64 0,.int .i64 0,.bool false];rw [World.size_alloc] at GB;replace GA:=GA.alloc (.cells #[.int .i64 0,.int .i64 0,.int .i64 0,.bool false] 233);clear hz2;have hz3:W1.heap.size < W1.heap.size + 1:=Nat.lt_succ_self _;generalize (W1.alloc (.cells #[.int .i64 0,.int .i64 0,.int .i64 0,.bool false] 233)).alloc (.cells #[.int .i64 0,.int .i64 0,.int .i64 0,.bool false] 233) = W2 at *;generalize hG:W1.heap.size + 1 = gb at *;generalize W1.heap.size = ga at *;have hz4:w.heap.size + 1 + 1 < gb:=by omega
   have hne:ga ≠ gb:=by omega
   clear hG hz3;rename_i hOld1 hOld2;clear hOld1 hOld2;have ca:=GA.c4;have fa:=GA.f4;have cb:=GB.c4;have fb:=GB.f4;have N1:=(Blk.far4 (g':=ga) hHeld.1 (by omega) (.int .i64 0) (.int .i64 ln) (.int .i64 ld) (.bool lo))
   have N2:=(Blk.far4 (g':=ga) hHeld.2.1 (by omega) (.int .i64 0) (.int .i64 ln) (.int .i64 ld) (.bool lo))
   have N3:=(Blk.far4 (g':=ga) hHeld.2.2.1 (by omega) (.int .i64 0) (.int .i64 ln) (.int .i64 ld) (.bool lo))
   have N4:=(below_set4 (g:=ga) hHeld.2.2.2 (by omega) (.int .i64 0) (.int .i64 ln) (.int .i64 ld) (.bool lo))
   have K1:=(Blk.set4 GA (.int .i64 0) (.int .i64 ln) (.int .i64 ld) (.bool lo));have K2:=(Blk.far4 (g':=ga) GB (by omega) (.int .i64 0) (.int .i64 ln) (.int .i64 ld) (.bool lo))
   refine rd 13 none rfl fun K hK => ?_
   go_simp;skip;refine hK.out _ _ (⟨N1,N2,N3,N4⟩) fun hHeld => ?_
   clear hK K;(try simp only [pS,pB,pZ,pC]);rename_i hO1;clear hO1 hHeld ca fa cb fb;have k2c:=K2.c4;have k2f:=K2.f4;change wpAnyH _ _ _ _ _ _ _ _ (st4 W2 ga (.int .i64 0) (.int .i64 ln) (.int .i64 ld) (.bool lo));generalize st4 W2 ga (.int .i64 0) (.int .i64 ln) (.int .i64 ld) (.bool lo) = W3 at *;have M1:=(Blk.far4 (g':=gb) N1 (by omega) (.int .i64 0) (.int .i64 hn) (.int .i64 hd) (.bool (!ho)))
   have M2:=(Blk.far4 (g':=gb) N2 (by omega) (.int .i64 0) (.int .i64 hn) (.int .i64 hd) (.bool (!ho)))
   have M3:=(Blk.far4 (g':=gb) N3 (by omega) (.int .i64 0) (.int .i64 hn) (.int .i64 hd) (.bool (!ho)))
   have M4:=(below_set4 (g:=gb) N4 (by omega) (.int .i64 0) (.int .i64 hn) (.int .i64 hd) (.bool (!ho)))
   have K3:=(Blk.far4 (g':=gb) K1 (by omega) (.int .i64 0) (.int .i64 hn) (.int .i64 hd) (.bool (!ho)))
   have K4:=(Blk.set4 K2 (.int .i64 0) (.int .i64 hn) (.int .i64 hd) (.bool (!ho)));refine rd 14 none rfl fun K hK => ?_
   go_simp;skip;refine hK.out _ _ (⟨M1,M2,M3,M4⟩) fun hHeld => ?_
   clear hK K;(try simp only [pS,pB,pZ,pC]);refine dn ?_
   go_wp2_with fail;go_meet;exact ⟨ga,gb,rfl,rfl,⟨by omega,by omega,by omega⟩,K3,K4,M1,M2,M3,M4⟩
  ·skip
   go_simp;skip;refine hK.out _ _ (⟨hHeld.1.alloc _,hHeld.2.1.alloc _,hHeld.2.2.1.alloc _,hHeld.2.2.2.alloc hHeld.2.2.2.size _⟩) fun hHeld => ?_
   clear hK K;(try simp only [pS,pB,pZ,pC]);have GA:=Blk.new W1 233 #[.int .i64 0,.int .i64 0,.int .i64 0,.bool false];have hz2:=World.size_alloc W1 (.cells #[.int .i64 0,.int .i64 0,.int .i64 0,.bool false] 233);refine rd 11 (some 4) rfl fun K hK => ?_
   go_simp;skip;refine hK.out _ _ (⟨hHeld.1.alloc _,hHeld.2.1.alloc _,hHeld.2.2.1.alloc _,hHeld.2.2.2.alloc hHeld.2.2.2.size _⟩) fun hHeld => ?_
   clear hK K;(try simp only [pS,pB,pZ,pC]);have GB:=Blk.new (W1.alloc (.cells #[.int .i64 0,.int .i64 0,.int .i64 0,.bool false] 233)) 233 #[.int .i64 0,.int .i64 0,.int .i64 0,.bool false];rw [World.size_alloc] at GB;replace GA:=GA.alloc (.cells #[.int .i64 0,.int .i64 0,.int .i64 0,.bool false] 233);clear hz2;have hz3:W1.heap.size < W1.heap.size + 1:=Nat.lt_succ_self _;generalize (W1.alloc (.cells #[.int .i64 0,.int .i64 0,.int .i64 0,.bool false] 233)).alloc (.cells #[.int .i64 0,.int .i64 0,.int .i64 0,.bool false] 233) = W2 at *;generalize hG:W1.heap.size + 1 = gb at *;generalize W1.heap.size = ga at *;have hz4:w.heap.size + 1 + 1 < gb:=by omega
   have hne:ga ≠ gb:=by omega
   clear hG hz3;rename_i hOld1 hOld2;clear hOld1 hOld2;have ca:=GA.c4;have fa:=GA.f4;have cb:=GB.c4;have fb:=GB.f4;have N1:=(Blk.far4 (g':=gb) hHeld.1 (by omega) (.int .i64 0) (.int .i64 ln) (.int .i64 ld) (.bool lo))
   have N2:=(Blk.far4 (g':=gb) hHeld.2.1 (by omega) (.int .i64 0) (.int .i64 ln) (.int .i64 ld) (.bool lo))
   have N3:=(Blk.far4 (g':=gb) hHeld.2.2.1 (by omega) (.int .i64 0) (.int .i64 ln) (.int .i64 ld) (.bool lo))
   have N4:=(below_set4 (g:=gb) hHeld.2.2.2 (by omega) (.int .i64 0) (.int .i64 ln) (.int .i64 ld) (.bool lo))
   have K1:=(Blk.set4 GB (.int .i64 0) (.int .i64 ln) (.int .i64 ld) (.bool lo));have K2:=(Blk.far4 (g':=gb) GA (by omega) (.int .i64 0) (.int .i64 ln) (.int .i64 ld) (.bool lo))
   refine rd 13 none rfl fun K hK => ?_
   go_simp;skip;refine hK.out _ _ (⟨N1,N2,N3,N4⟩) fun hHeld => ?_
   clear hK K;(try simp only [pS,pB,pZ,pC]);rename_i hO1;clear hO1 hHeld ca fa cb fb;have k2c:=K2.c4;have k2f:=K2.f4;change wpAnyH _ _ _ _ _ _ _ _ (st4 W2 gb (.int .i64 0) (.int .i64 ln) (.int .i64 ld) (.bool lo));generalize st4 W2 gb (.int .i64 0) (.int .i64 ln) (.int .i64 ld) (.bool lo) = W3 at *;have M1:=(Blk.far4 (g':=ga) N1 (by omega) (.int .i64 0) (.int .i64 hn) (.int .i64 hd) (.bool (!ho)))
   have M2:=(Blk.far4 (g':=ga) N2 (by omega) (.int .i64 0) (.int .i64 hn) (.int .i64 hd) (.bool (!ho)))
   have M3:=(Blk.far4 (g':=ga) N3 (by omega) (.int .i64 0) (.int .i64 hn) (.int .i64 hd) (.bool (!ho)))
   have M4:=(below_set4 (g:=ga) N4 (by omega) (.int .i64 0) (.int .i64 hn) (.int .i64 hd) (.bool (!ho)))
   have K3:=(Blk.far4 (g':=ga) K1 (by omega) (.int .i64 0) (.int .i64 hn) (.int .i64 hd) (.bool (!ho)))
   have K4:=(Blk.set4 K2 (.int .i64 0) (.int .i64 hn) (.int .i64 hd) (.bool (!ho)));refine rd 14 none rfl fun K hK => ?_
   go_simp;skip;refine hK.out _ _ (⟨M1,M2,M3,M4⟩) fun hHeld => ?_
   clear hK K;(try simp only [pS,pB,pZ,pC]);refine dn ?_
   go_wp2_with fail;go_meet;exact ⟨gb,ga,rfl,rfl,⟨by omega,by omega,by omega⟩,K3,K4,M1,M2,M3,M4⟩
 case rest =>
  obtain ⟨g,h,rfl,rfl,⟨hgh,hg,hh⟩,BG,BH,B0',B1',B2',HB'⟩:=hcut;obtain ⟨wx,rfl⟩:∃ z:World,z = wc:=⟨_,rfl⟩;clear B0 B1 B2 HB;have hc:=B0'.c8;have cg:=BG.c4;have ch:=BH.c4;have fh:=BH.f4;go_upto_region 5 with fail;go_upto_region 6 with fail;replace BG:=Blk.far4 (g':=h) BG hgh (.int .i64 1) (.int .i64 0) (.int .i64 0) (.bool false);replace B1':=Blk.far4 (g':=h) B1' (by omega) (.int .i64 1) (.int .i64 0) (.int .i64 0) (.bool false)
  replace B2':=Blk.far4 (g':=h) B2' (by omega) (.int .i64 1) (.int .i64 0) (.int .i64 0) (.bool false)
  replace HB':=below_set4 (g:=h) HB' (by omega) (.int .i64 1) (.int .i64 0) (.int .i64 0) (.bool false)
  replace BH:=Blk.set4 BH (.int .i64 1) (.int .i64 0) (.int .i64 0) (.bool false);clear B0' hc cg ch fh;change Code.wp _ _ _ _ (st4 wx h (.int .i64 1) (.int .i64 0) (.int .i64 0) (.bool false));generalize st4 wx h (.int .i64 1) (.int .i64 0) (.int .i64 0) (.bool false) = wy at *;refine wp_region_held_drew (S:=(fun w' => Blk w' g 233 #[.int .i64 0,.int .i64 ln,.int .i64 ld,.bool lo] ∧ Blk w' h 233 #[.int .i64 1,.int .i64 0,.int .i64 0,.bool false])) (by kernel_rfl) ?_ (fun hHeld => ?_)
  ·first | done | ((try dsimp only);exact ⟨BG,BH⟩)
  replace B1':=B1'.drew;replace B2':=B2'.drew;replace HB':=HB'.drew;clear BG BH;generalize wy.drew = wz at *;have cb:=B1'.c4;have fb:=B1'.f4;refine th 0 23 rfl (fun _ hSw => hSw.1.c4) ?_
  refine th 1 24 rfl (fun _ hSw => hSw.2.c4) ?_
  have N1:=(Blk.far4 (g':=(w.heap.size + 1)) hHeld.1 (by omega) (.int .i64 0) (.int .i64 ln) (.int .i64 ld) (.bool lo))
  have N2:=(Blk.far4 (g':=(w.heap.size + 1)) hHeld.2 (by omega) (.int .i64 0) (.int .i64 ln) (.int .i64 ld) (.bool lo))
  replace B1':=(Blk.set4 B1' (.int .i64 0) (.int .i64 ln) (.int .i64 ld) (.bool lo));replace B2':=(Blk.far4 (g':=(w.heap.size + 1)) B2' (by omega) (.int .i64 0) (.int .i64 ln) (.int .i64 ld) (.bool lo))
  replace HB':=(below_set4 (g:=(w.heap.size + 1)) HB' (by omega) (.int .i64 0) (.int .i64 ln) (.int .i64 ld) (.bool lo))
  refine rd 2 none rfl fun K hK => ?_
  go_simp;skip;refine hK.out _ _ (⟨N1,N2⟩) fun hHeld => ?_
  clear hK K;(try simp only [pS,pB,pZ,pC]);change wpAnyH _ _ _ _ _ _ _ _ (st4 wz (w.heap.size + 1) (.int .i64 0) (.int .i64 ln) (.int .i64 ld) (.bool lo));rename_i hO1;clear hHeld hO1 cb fb;generalize st4 wz (w.heap.size + 1) (.int .i64 0) (.int .i64 ln) (.int .i64 ld) (.bool lo) = wq at *;have cb:=B2'.c4;have fb:=B2'.f4;have M1:=(Blk.far4 (g':=(w.heap.size + 1 + 1)) N1 (by omega) (.int .i64 1) (.int .i64 0) (.int .i64 0) (.bool false))
  have M2:=(Blk.far4 (g':=(w.heap.size + 1 + 1)) N2 (by omega) (.int .i64 1) (.int .i64 0) (.int .i64 0) (.bool false))
  replace B1':=(Blk.far4 (g':=(w.heap.size + 1 + 1)) B1' (by omega) (.int .i64 1) (.int .i64 0) (.int .i64 0) (.bool false))
  replace B2':=(Blk.set4 B2' (.int .i64 1) (.int .i64 0) (.int .i64 0) (.bool false));replace HB':=(below_set4 (g:=(w.heap.size + 1 + 1)) HB' (by omega) (.int .i64 1) (.int .i64 0) (.int .i64 0) (.bool false))
  refine rd 3 none rfl fun K hK => ?_
  go_simp;skip;refine hK.out _ _ (⟨M1,M2⟩) fun hHeld => ?_
  clear hK K;(try simp only [pS,pB,pZ,pC]);change wpAnyH _ _ _ _ _ _ _ _ (st4 wq (w.heap.size + 1 + 1) (.int .i64 1) (.int .i64 0) (.int .i64 0) (.bool false));clear hHeld cb fb N1 N2 M1 M2;generalize st4 wq (w.heap.size + 1 + 1) (.int .i64 1) (.int .i64 0) (.int .i64 0) (.bool false) = wr at *;refine dn ?_
  go_wp2_with fail;obtain ⟨c0,c1,c2,c3⟩:=B1'.c4;obtain ⟨d0,d1,d2,d3⟩:=B2'.c4;exact bodyPost_ret (v:=.tuple #[.agg #[.int .i64 0,.int .i64 ln,.int .i64 ld,.bool lo],.agg #[.int .i64 1,.int .i64 0,.int .i64 0,.bool false]]) (by simp [results,Tryz.results196,go_sem,c0,c1,c2,c3,d0,d1,d2,d3]) rfl ⟨rfl,HB'⟩
theorem u64_wrap (n:Int):IntKind.u64.wrap n = n % 18446744073709551616:=by
 simp [IntKind.wrap,IntKind.bits,IntKind.signed]
theorem ratsize_any (n:Int) (w:World) (h0:-9223372036854775808 ≤ n) (h1:n ≤ 9223372036854775807) :
  Calls Tryz.prog 213 #[.int .i64 n] w fun e w' => e = .returned (.int .u64 (n.natAbs:Int)) ∧ w = w':=by
 by_cases h:n < 0
 ·go_enter Tryz.func213,Tryz.ntmps213
  go_wp2;go_ret;exact ⟨ret_int (a:=IntKind.u64.wrap (-IntKind.u64.wrap n)) (by simp only [u64_wrap];omega),rfl⟩
 ·go_enter Tryz.func213,Tryz.ntmps213
  go_wp2;go_ret;exact ⟨ret_int (a:=n) (by omega),rfl⟩
theorem ratgcd_any (a b:Nat) (w:World) (ha:a < 18446744073709551616) (hb:b < 18446744073709551616) :
  Calls Tryz.prog 222 #[.int .u64 (a:Int),.int .u64 (b:Int)] w fun e w' => e = .returned (.int .u64 (Nat.gcd a b:Int)) ∧ ∃ n,w' = w.drewN n:=by
 go_enter Tryz.func222,Tryz.ntmps222
 go_wp2;go_loopw [0,1] (fun x y wr => ∃ p q:Nat,p < 18446744073709551616 ∧ q < 18446744073709551616 ∧ Nat.gcd p q = Nat.gcd a b ∧ x = .int .u64 p ∧ y = .int .u64 q ∧ ∃ n,wr = w.drewN n) (fun _ y _ => (intOf y).toNat)
 case atStart => exact ⟨a,b,ha,hb,rfl,rfl,rfl,0,rfl⟩
 case round =>
  obtain ⟨p,q,hp,hq,hg,rfl,rfl,n,rfl⟩:=hrel;have HG:=Lib.hid hg;clear hg;by_cases hlt:0 < q
  ·have hm:p % q < q:=Nat.mod_lt _ hlt
   go_wp2;go_quiet (fail);go_wp2;go_roundw
   case rel => exact ⟨q,p % q,hq,by omega,by rw [← HG.out,Nat.gcd_comm q,← Nat.gcd_rec,Nat.gcd_comm],rfl,by simp,_,World.drewN_drewN _ _ _⟩
   case measure => simp [intOf];omega
  ·obtain rfl:q = 0:=by omega
   go_wp2;go_ret;exact ⟨ret_int (by rw [← HG.out];simp),n,rfl⟩
def newE (a b:Int):Int:=if b = 0 then 1 else if 1099511627776 < a.natAbs / Int.gcd a b ∨ 1048576 < b.natAbs / Int.gcd a b then 5 else 0
def newN (a b:Int):Int:=if newE a b = 0 then (if (a < 0) ↔ (b < 0) then ((a.natAbs / Int.gcd a b:Nat):Int) else -((a.natAbs / Int.gcd a b:Nat):Int)) else 0
def newD (a b:Int):Int:=if newE a b = 0 then ((b.natAbs / Int.gcd a b:Nat):Int) else 0
def valE (n d:Int):Int:=if 1 ≤ d ∧ d ≤ 1048576 ∧ -1099511627776 ≤ n ∧ n ≤ 1099511627776 ∧ Int.gcd n d = 1 then 0 else 1
theorem valE_cases (n d:Int):valE n d = 0 ∨ valE n d = 1:=by unfold valE;split <;> simp
theorem valE_ok {n d:Int} (h:valE n d = 0):1 ≤ d ∧ d ≤ 1048576 ∧ -1099511627776 ≤ n ∧ n ≤ 1099511627776 ∧ Int.gcd n d = 1:=by
 unfold valE at h;split at h
 ·assumption
 ·simp at h
theorem newE_zero {a b:Int} (h:newE a b = 0):b ≠ 0 ∧ a.natAbs / Int.gcd a b ≤ 1099511627776 ∧ b.natAbs / Int.gcd a b ≤ 1048576:=by
 unfold newE at h;by_cases hb:b = 0
 ·rw [if_pos hb] at h;simp at h
 ·rw [if_neg hb] at h
  by_cases hc:1099511627776 < a.natAbs / Int.gcd a b ∨ 1048576 < b.natAbs / Int.gcd a b
  ·rw [if_pos hc] at h;simp at h
  ·simp only [not_or,Nat.not_lt] at hc;exact ⟨hb,hc⟩
theorem newN_bd (a b:Int):-1099511627776 ≤ newN a b ∧ newN a b ≤ 1099511627776:=by
 unfold newN;by_cases h:newE a b = 0
 ·rw [if_pos h]
  have h1:=(newE_zero h).2.1;generalize a.natAbs / Int.gcd a b = x at *;split <;> omega
 ·rw [if_neg h];omega
theorem newD_bd (a b:Int):0 ≤ newD a b ∧ newD a b ≤ 1048576:=by
 unfold newD;by_cases h:newE a b = 0
 ·rw [if_pos h]
  have h1:=(newE_zero h).2.2;generalize b.natAbs / Int.gcd a b = x at *;omega
 ·rw [if_neg h];omega
theorem gcd_pos_right (a b:Int) (h:b ≠ 0):0 < Int.gcd a b:=by
 rcases Nat.eq_zero_or_pos (Int.gcd a b) with h0 | h0
 ·exact absurd (Int.gcd_eq_zero_iff.1 h0).2 h
 ·exact h0
theorem new_of_val {n d:Int} (h:valE n d = 0):newE n d = 0 ∧ newN n d = n ∧ newD n d = d:=by
 obtain ⟨h1,h2,h3,h4,h5⟩:=valE_ok h
 have he:newE n d = 0:=by
  unfold newE;rw [if_neg (by omega),h5,Nat.div_one,Nat.div_one,if_neg (by omega)]
 refine ⟨he,?_,?_⟩
 ·unfold newN
  rw [if_pos he,h5,Nat.div_one];split <;> omega
 ·unfold newD
  rw [if_pos he,h5,Nat.div_one];omega
theorem val_of_new {a b:Int} (h:newE a b = 0):valE (newN a b) (newD a b) = 0:=by
 have hb:b ≠ 0:=by
  intro hb;unfold newE at h;simp [hb] at h
 have hg:=gcd_pos_right a b hb;have hN:=newN_bd a b;have hD:=newD_bd a b;have h1:newD a b = ((b.natAbs / Int.gcd a b:Nat):Int):=by unfold newD;rw [if_pos h]
 have h2:(newN a b).natAbs = a.natAbs / Int.gcd a b:=by
  unfold newN;rw [if_pos h];generalize a.natAbs / Int.gcd a b = x;split <;> omega
 have hd1:1 ≤ b.natAbs / Int.gcd a b:=by
  rw [Nat.le_div_iff_mul_le hg,Nat.one_mul];exact Nat.le_of_dvd (by omega) (Nat.gcd_dvd_right _ _)
 have hgc:Int.gcd (newN a b) (newD a b) = 1:=by
  unfold Int.gcd;rw [h2,h1,Int.natAbs_natCast];rw [show Int.gcd a b = Nat.gcd a.natAbs b.natAbs from rfl,Nat.gcd_div (Nat.gcd_dvd_left _ _) (Nat.gcd_dvd_right _ _)]
  exact Nat.div_self hg
 unfold valE;rw [if_pos ⟨by omega,by omega,by omega,by omega,hgc⟩]
theorem valE_iff (n d:Int):valE n d = 0 ↔ 1 ≤ d ∧ newE n d = 0 ∧ newN n d = n ∧ newD n d = d:=by
 constructor
 ·intro h;exact ⟨(valE_ok h).1,new_of_val h⟩
 ·rintro ⟨_,h,e1,e2⟩
  have:=val_of_new h
  rwa [e1,e2] at this
theorem below_drewN {B:Nat} {a w:World} (h:Below B a w) (n:Nat):Below B a (w.drewN n):=⟨h.os,h.tape,h.output,h.size,h.block⟩
theorem bcell {W w1:World} (hb:Below W.heap.size W w1):(∀ b o,b < W.heap.size → w1.cell? ⟨b,o,none⟩ = W.cell? ⟨b,o,none⟩) ∧ (∀ b o,b < W.heap.size → w1.frozen? ⟨b,o,none⟩ = W.frozen? ⟨b,o,none⟩) ∧ W.heap.size ≤ w1.heap.size :=
 ⟨fun b o h => hb.cell (p:=⟨b,o,none⟩) h,fun b o h => hb.frozen (p:=⟨b,o,none⟩) h,hb.size⟩
theorem le_add_one' {a b:Nat} (h:a ≤ b):(a ≤ b + 1) = True:=by simp;omega
@[simp] theorem World.heap_size_setCell' (w:World) (p:Addr) (u:Value):(w.setCell p u).heap.size = w.heap.size:=by simp [World.setCell]
theorem after {B:Nat} {w W w1:World} (h:Below B w W) (hB:B ≤ W.heap.size) (h1:Below W.heap.size W w1):Below B w w1:=h.trans (h1.mono hB)
abbrev rat (n d:Int):Value:=.agg #[.int .i64 n,.int .i64 d]
theorem ret_rate {a b c a' b' c':Int} (h:a = a') (h':b = b') (h'':c = c'):Ending.returned (.tuple #[rat a b,.int .i64 c]) = .returned (.tuple #[rat a' b',.int .i64 c']):=by rw [h,h',h'']
def buE (n d:Nat):Int:=if 1099511627776 < n / Nat.gcd n d ∨ 1048576 < d / Nat.gcd n d then 5 else 0
def buN (b:Bool) (n d:Nat):Int:=if buE n d = 0 then (if b then -((n / Nat.gcd n d:Nat):Int) else ((n / Nat.gcd n d:Nat):Int)) else 0
def buD (n d:Nat):Int:=if buE n d = 0 then ((d / Nat.gcd n d:Nat):Int) else 0
theorem bu_no {n d:Nat} (h:1099511627776 < n / Nat.gcd n d ∨ 1048576 < d / Nat.gcd n d):buE n d = 5 ∧ (∀ b,buN b n d = 0) ∧ buD n d = 0:=by
 have e:buE n d = 5:=by unfold buE;rw [if_pos h]
 exact ⟨e,fun b => by unfold buN;rw [e];rfl,by unfold buD;rw [e];rfl⟩
theorem bu_yes {n d:Nat} (h:n / Nat.gcd n d ≤ 1099511627776) (h':d / Nat.gcd n d ≤ 1048576):buE n d = 0 ∧ buN true n d = -((n / Nat.gcd n d:Nat):Int) ∧ buN false n d = ((n / Nat.gcd n d:Nat):Int) ∧ buD n d = ((d / Nat.gcd n d:Nat):Int):=by
 have e:buE n d = 0:=by unfold buE;rw [if_neg (by omega)]
 exact ⟨e,by unfold buN;rw [e];rfl,by unfold buN;rw [e];rfl,by unfold buD;rw [e];rfl⟩
theorem ratbuild_any (b:Bool) (n d:Nat) (w:World) (hn:n < 18446744073709551616) (hd:d < 18446744073709551616) (hd0:0 < d) :
  Calls Tryz.prog 212 #[.bool b,.int .u64 (n:Int),.int .u64 (d:Int)] w fun e w' => e = .returned (.tuple #[rat (buN b n d) (buD n d),.int .i64 (buE n d)]) ∧ Below w.heap.size w w':=by
 have hg:0 < Nat.gcd n d:=Nat.gcd_pos_of_pos_right _ hd0;have H1:=Lib.hid (@bu_no n d);have H2:=Lib.hid (@bu_yes n d);generalize hgg:Nat.gcd n d = g at *;have HG:=Lib.hid hgg;clear hgg;have hng:0 ≤ (n:Int) / (g:Int) ∧ (n:Int) / (g:Int) ≤ n:=⟨Int.ediv_nonneg (by omega) (by omega),Int.ediv_le_self _ (by omega)⟩
 have hdg:0 ≤ (d:Int) / (g:Int) ∧ (d:Int) / (g:Int) ≤ d:=⟨Int.ediv_nonneg (by omega) (by omega),Int.ediv_le_self _ (by omega)⟩
 have K1:Hid (((n / g:Nat):Int) = (n:Int) / (g:Int)):=by exact Int.natCast_ediv n g
 have K2:Hid (((d / g:Nat):Int) = (d:Int) / (g:Int)):=by exact Int.natCast_ediv d g
 by_cases h1:(1099511627776:Int) < n / g
 ·go_enter Tryz.func212,Tryz.ntmps212
  go_wp2_with (go_at_call 222;refine (ratgcd_any n d _ hn hd).mono ?_;rintro e w' ⟨rfl,q,rfl⟩;rw [HG.out])
  go_quiet (fail);go_wp2;obtain ⟨e1,e2,e3⟩:=H1.out (by have:=K1.out;omega)
  exact bodyPost_ret (v:=.tuple #[rat 0 0,.int .i64 5]) (by simp [results,Tryz.results212,go_sem]) rfl ⟨ret_rate (e2 b).symm e3.symm e1.symm,(by repeat (first | exact Below.refl _ _ | assumption | refine Below.setCell ?_ (by (first | omega | (simp <;> omega))) _ | refine below_drewN ?_ _ | refine Below.drew ?_ | refine Below.alloc ?_ (by (first | omega | (simp <;> omega))) _ | (refine after (h1:=by assumption) ?_ ?_;rotate_left;(first | omega | (simp <;> omega)))))⟩
 by_cases h2:(1048576:Int) < d / g
 ·go_enter Tryz.func212,Tryz.ntmps212
  go_wp2_with (go_at_call 222;refine (ratgcd_any n d _ hn hd).mono ?_;rintro e w' ⟨rfl,q,rfl⟩;rw [HG.out])
  go_quiet (fail);go_wp2;obtain ⟨e1,e2,e3⟩:=H1.out (by have:=K2.out;omega)
  exact bodyPost_ret (v:=.tuple #[rat 0 0,.int .i64 5]) (by simp [results,Tryz.results212,go_sem]) rfl ⟨ret_rate (e2 b).symm e3.symm e1.symm,(by repeat (first | exact Below.refl _ _ | assumption | refine Below.setCell ?_ (by (first | omega | (simp <;> omega))) _ | refine below_drewN ?_ _ | refine Below.drew ?_ | refine Below.alloc ?_ (by (first | omega | (simp <;> omega))) _ | (refine after (h1:=by assumption) ?_ ?_;rotate_left;(first | omega | (simp <;> omega)))))⟩
 ·cases b
  ·go_enter Tryz.func212,Tryz.ntmps212
   go_wp2_with (go_at_call 222;refine (ratgcd_any n d _ hn hd).mono ?_;rintro e w' ⟨rfl,q,rfl⟩;rw [HG.out])
   go_quiet (fail);go_wp2;obtain ⟨e1,e2,e3,e4⟩:=H2.out (by have:=K1.out;omega) (by have:=K2.out;omega)
   exact bodyPost_ret (v:=.tuple #[rat (n / g) (d / g),.int .i64 0]) (by simp [results,Tryz.results212,go_sem]) rfl ⟨ret_rate (K1.out.symm.trans e3.symm) (K2.out.symm.trans e4.symm) e1.symm,(by repeat (first | exact Below.refl _ _ | assumption | refine Below.setCell ?_ (by (first | omega | (simp <;> omega))) _ | refine below_drewN ?_ _ | refine Below.drew ?_ | refine Below.alloc ?_ (by (first | omega | (simp <;> omega))) _ | (refine after (h1:=by assumption) ?_ ?_;rotate_left;(first | omega | (simp <;> omega)))))⟩
  ·go_enter Tryz.func212,Tryz.ntmps212
   go_wp2_with (go_at_call 222;refine (ratgcd_any n d _ hn hd).mono ?_;rintro e w' ⟨rfl,q,rfl⟩;rw [HG.out])
   go_quiet (fail);go_wp2;obtain ⟨e1,e2,e3,e4⟩:=H2.out (by have:=K1.out;omega) (by have:=K2.out;omega)
   exact bodyPost_ret (v:=.tuple #[rat (-(n / g)) (d / g),.int .i64 0]) (by simp [results,Tryz.results212,go_sem]) rfl ⟨ret_rate (by rw [e2,K1.out]) (K2.out.symm.trans e4.symm) e1.symm,(by repeat (first | exact Below.refl _ _ | assumption | refine Below.setCell ?_ (by (first | omega | (simp <;> omega))) _ | refine below_drewN ?_ _ | refine Below.drew ?_ | refine Below.alloc ?_ (by (first | omega | (simp <;> omega))) _ | (refine after (h1:=by assumption) ?_ ?_;rotate_left;(first | omega | (simp <;> omega)))))⟩
theorem new_bu (a b:Int) (h:b ≠ 0):newE a b = buE a.natAbs b.natAbs ∧ newN a b = buN (decide (a < 0) != decide (b < 0)) a.natAbs b.natAbs ∧ newD a b = buD a.natAbs b.natAbs:=by
 have e:newE a b = buE a.natAbs b.natAbs:=by
  unfold newE buE;rw [if_neg h];rfl
 refine ⟨e,?_,?_⟩
 ·unfold newN buN
  rw [e]
  show (if buE a.natAbs b.natAbs = 0 then (if a < 0 ↔ b < 0 then ((a.natAbs / Nat.gcd a.natAbs b.natAbs:Nat):Int) else -((a.natAbs / Nat.gcd a.natAbs b.natAbs:Nat):Int)) else 0) = _
  by_cases h1:a < 0 <;> by_cases h2:b < 0 <;> simp [h1,h2]
 ·unfold newD buD
  rw [e];rfl
theorem ratnew_any (a b:Int) (w:World) (ha0:-9223372036854775808 ≤ a) (ha:a ≤ 9223372036854775807) (hb0:-9223372036854775808 ≤ b) (hb:b ≤ 9223372036854775807) :
  Calls Tryz.prog 203 #[.int .i64 a,.int .i64 b] w fun e w' => e = .returned (.tuple #[rat (newN a b) (newD a b),.int .i64 (newE a b)]) ∧ Below w.heap.size w w':=by
 by_cases h0:b = 0
 ·have e1:newE a b = 1:=by unfold newE;rw [if_pos h0]
  have e2:newN a b = 0:=by unfold newN;rw [e1];rfl
  have e3:newD a b = 0:=by unfold newD;rw [e1];rfl
  rw [e1,e2,e3];subst h0;clear e1 e2 e3;go_enter Tryz.func203,Tryz.ntmps203
  go_wp2;exact bodyPost_ret (v:=.tuple #[rat 0 0,.int .i64 1]) (by simp [results,Tryz.results203,go_sem]) rfl ⟨rfl,(by repeat (first | exact Below.refl _ _ | assumption | refine Below.setCell ?_ (by (first | omega | (simp <;> omega))) _ | refine below_drewN ?_ _ | refine Below.drew ?_ | refine Below.alloc ?_ (by (first | omega | (simp <;> omega))) _ | (refine after (h1:=by assumption) ?_ ?_;rotate_left;(first | omega | (simp <;> omega)))))⟩
 ·obtain ⟨e1,e2,e3⟩:=new_bu a b h0
  rw [e1,e2,e3];clear e1 e2 e3;have hb':0 < b.natAbs:=by omega
  by_cases h1:a < 0 <;> by_cases h2:b < 0
  all_goals
   simp only [h1,h2,decide_true,decide_false,Bool.true_bne,Bool.false_bne,Bool.not_true,Bool.not_false];go_enter Tryz.func203,Tryz.ntmps203
   go_wp2_with (first | (go_at_call_of 213 (Value.int IntKind.i64 a);refine (ratsize_any a _ ha0 ha).mono ?_;rintro e w' ⟨rfl,rfl⟩) | (go_at_call_of 213 (Value.int IntKind.i64 b);refine (ratsize_any b _ hb0 hb).mono ?_;rintro e w' ⟨rfl,rfl⟩) | (go_at_call 212;refine (ratbuild_any _ a.natAbs b.natAbs _ (by omega) (by omega) hb').mono ?_;rintro e w1 ⟨rfl,hb1⟩;obtain ⟨hc1,hf1,hz1⟩:=bcell hb1;(try simp at hz1);(try have hw1_0:w.heap.size < w1.heap.size:=by omega);(try have hw1_1:w.heap.size + 1 < w1.heap.size:=by omega);(try have hw1_2:w.heap.size + 1 + 1 < w1.heap.size:=by omega);(try have hw1_3:w.heap.size + 1 + 1 + 1 < w1.heap.size:=by omega);(try have hw1_4:w.heap.size + 1 + 1 + 1 + 1 < w1.heap.size:=by omega);(try have hw1_5:w.heap.size + 1 + 1 + 1 + 1 + 1 < w1.heap.size:=by omega)))
   first | exact bodyPost_ret (v:=.tuple #[rat (buN true a.natAbs b.natAbs) (buD a.natAbs b.natAbs),.int .i64 (buE a.natAbs b.natAbs)]) (by simp [*,results,Tryz.results203,go_sem]) rfl ⟨rfl,(by repeat (first | exact Below.refl _ _ | assumption | refine Below.setCell ?_ (by (first | omega | (simp <;> omega))) _ | refine below_drewN ?_ _ | refine Below.drew ?_ | refine Below.alloc ?_ (by (first | omega | (simp <;> omega))) _ | (refine after (h1:=by assumption) ?_ ?_;rotate_left;(first | omega | (simp <;> omega)))))⟩ | exact bodyPost_ret (v:=.tuple #[rat (buN false a.natAbs b.natAbs) (buD a.natAbs b.natAbs),.int .i64 (buE a.natAbs b.natAbs)]) (by simp [*,results,Tryz.results203,go_sem]) rfl ⟨rfl,(by repeat (first | exact Below.refl _ _ | assumption | refine Below.setCell ?_ (by (first | omega | (simp <;> omega))) _ | refine below_drewN ?_ _ | refine Below.drew ?_ | refine Below.alloc ?_ (by (first | omega | (simp <;> omega))) _ | (refine after (h1:=by assumption) ?_ ?_;rotate_left;(first | omega | (simp <;> omega)))))⟩
theorem gcd_tmod (p q:Int):Int.gcd q (p.tmod q) = Int.gcd p q:=by
 unfold Int.gcd;rw [Int.natAbs_tmod,Nat.gcd_comm p.natAbs,Nat.gcd_comm q.natAbs,← Nat.gcd_rec]
theorem tmod_lt (p q:Int) (h:q ≠ 0):(p.tmod q).natAbs < q.natAbs:=by
 rw [Int.natAbs_tmod];exact Nat.mod_lt _ (by omega)
theorem ratcommon_any (a b:Int) (w:World) (ha0:-9223372036854775807 ≤ a) (ha:a ≤ 9223372036854775807) (hb0:-9223372036854775807 ≤ b) (hb:b ≤ 9223372036854775807) :
  Calls Tryz.prog 189 #[.int .i64 a,.int .i64 b] w fun e w' => e = .returned (.int .i64 (Int.gcd a b:Int)) ∧ ∃ n,w' = w.drewN n:=by
 go_enter Tryz.func189,Tryz.ntmps189
 go_wp2;go_loopw [0,1] (fun x y wr => ∃ p q:Int,(-9223372036854775807 ≤ p ∧ p ≤ 9223372036854775807) ∧ (-9223372036854775807 ≤ q ∧ q ≤ 9223372036854775807) ∧ Int.gcd p q = Int.gcd a b ∧ x = .int .i64 p ∧ y = .int .i64 q ∧ ∃ n,wr = w.drewN n) (fun _ y _ => (intOf y).natAbs)
 case atStart => exact ⟨a,b,⟨ha0,ha⟩,⟨hb0,hb⟩,rfl,rfl,rfl,0,rfl⟩
 case round =>
  obtain ⟨p,q,⟨hp0,hp⟩,⟨hq0,hq⟩,hg,rfl,rfl,n,rfl⟩:=hrel;have HG:=Lib.hid hg;clear hg;by_cases hlt:q = 0
  ·subst hlt
   by_cases h0:p < 0
   ·go_wp2
    go_ret;exact ⟨ret_int (a:=-p) (by rw [← HG.out];simp;omega),n,rfl⟩
   ·go_wp2
    go_ret;exact ⟨ret_int (a:=p) (by rw [← HG.out];simp;omega),n,rfl⟩
  ·have hm:=tmod_lt p q hlt
   have hq1:(q != 0) = true:=by simp [hlt]
   have hq2:(q == 0) = false:=by simp [hlt]
   have hm2:-9223372036854775807 ≤ p.tmod q ∧ p.tmod q ≤ 9223372036854775807:=by
    generalize p.tmod q = r at *;omega
   have hm3:(p.tmod q).natAbs < q.natAbs ∧ True:=⟨hm,trivial⟩;clear hm;have hw1:IntKind.i64.wrap (p.tmod q) = p.tmod q:=IntWalk.i64_in _ (by omega)
   go_wp2;go_quiet (fail);go_wp2;go_roundw
   case rel => exact ⟨q,p.tmod q,⟨hq0,hq⟩,by omega,by rw [gcd_tmod,HG.out],rfl,rfl,_,World.drewN_drewN _ _ _⟩
   case measure => exact hm3.1
attribute [local go_sem] le_add_one'
theorem val_bad {n d:Int} (h:¬ (1 ≤ d ∧ newE n d = 0 ∧ newN n d = n ∧ newD n d = d)):valE n d = 1:=by
 rcases valE_cases n d with h1 | h1
 ·exact absurd ((valE_iff n d).1 h1) h
 ·exact h1
theorem ratvalid_any (n d:Int) (w:World) (hn0:-9223372036854775808 ≤ n) (hn:n ≤ 9223372036854775807) (hd0:-9223372036854775808 ≤ d) (hd:d ≤ 9223372036854775807) :
  Calls Tryz.prog 192 #[rat n d] w fun e w' => e = .returned (.int .i64 (valE n d)) ∧ Below w.heap.size w w':=by
 by_cases h1:d < 1
 ·rw [val_bad (by omega)]
  go_enter Tryz.func192,Tryz.ntmps192
  go_wp2;go_ret;exact ⟨rfl,(by repeat (first | exact Below.refl _ _ | assumption | refine Below.setCell ?_ (by (first | omega | (simp <;> omega))) _ | refine below_drewN ?_ _ | refine Below.drew ?_ | refine Below.alloc ?_ (by (first | omega | (simp <;> omega))) _ | (refine after (h1:=by assumption) ?_ ?_;rotate_left;(first | omega | (simp <;> omega)))))⟩
 ·by_cases h2:newE n d = 0
  ·by_cases h3:newN n d = n ∧ newD n d = d
   ·rw [(valE_iff n d).2 ⟨by omega,h2,h3⟩]
    have H:=Lib.hid (ratnew_any n d);rw [h2,h3.1,h3.2] at H;clear h2 h3;go_enter Tryz.func192,Tryz.ntmps192
    go_wp2_with (go_at_call 203;refine (H.out _ hn0 hn hd0 hd).mono ?_;rintro e w1 ⟨rfl,hb1⟩;obtain ⟨hc1,hf1,hz1⟩:=bcell hb1;(try simp at hz1);(try have hw1_0:w.heap.size < w1.heap.size:=by omega);(try have hw1_1:w.heap.size + 1 < w1.heap.size:=by omega);(try have hw1_2:w.heap.size + 1 + 1 < w1.heap.size:=by omega);(try have hw1_3:w.heap.size + 1 + 1 + 1 < w1.heap.size:=by omega);(try have hw1_4:w.heap.size + 1 + 1 + 1 + 1 < w1.heap.size:=by omega);(try have hw1_5:w.heap.size + 1 + 1 + 1 + 1 + 1 < w1.heap.size:=by omega))
    all_goals (go_ret;exact ⟨rfl,(by repeat (first | exact Below.refl _ _ | assumption | refine Below.setCell ?_ (by (first | omega | (simp <;> omega))) _ | refine below_drewN ?_ _ | refine Below.drew ?_ | refine Below.alloc ?_ (by (first | omega | (simp <;> omega))) _ | (refine after (h1:=by assumption) ?_ ?_;rotate_left;(first | omega | (simp <;> omega)))))⟩)
   ·rw [val_bad (by intro h;exact h3 h.2.2)]
    have H:=Lib.hid (ratnew_any n d);rw [h2] at H;clear h2;generalize newN n d = N at *;generalize newD n d = D at *;go_enter Tryz.func192,Tryz.ntmps192
    go_wp2_with (go_at_call 203;refine (H.out _ hn0 hn hd0 hd).mono ?_;rintro e w1 ⟨rfl,hb1⟩;obtain ⟨hc1,hf1,hz1⟩:=bcell hb1;(try simp at hz1);(try have hw1_0:w.heap.size < w1.heap.size:=by omega);(try have hw1_1:w.heap.size + 1 < w1.heap.size:=by omega);(try have hw1_2:w.heap.size + 1 + 1 < w1.heap.size:=by omega);(try have hw1_3:w.heap.size + 1 + 1 + 1 < w1.heap.size:=by omega);(try have hw1_4:w.heap.size + 1 + 1 + 1 + 1 < w1.heap.size:=by omega);(try have hw1_5:w.heap.size + 1 + 1 + 1 + 1 + 1 < w1.heap.size:=by omega))
    all_goals (go_ret;exact ⟨rfl,(by repeat (first | exact Below.refl _ _ | assumption | refine Below.setCell ?_ (by (first | omega | (simp <;> omega))) _ | refine below_drewN ?_ _ | refine Below.drew ?_ | refine Below.alloc ?_ (by (first | omega | (simp <;> omega))) _ | (refine after (h1:=by assumption) ?_ ?_;rotate_left;(first | omega | (simp <;> omega)))))⟩)
  ·rw [val_bad (by intro h;exact h2 h.2.1)]
   have h2':(newE n d == 0) = false:=by simp [h2]
   have h2'':(newE n d != 0) = true:=by simp [h2]
   go_enter Tryz.func192,Tryz.ntmps192
   go_wp2_with (go_at_call 203;refine (ratnew_any n d _ hn0 hn hd0 hd).mono ?_;rintro e w1 ⟨rfl,hb1⟩;obtain ⟨hc1,hf1,hz1⟩:=bcell hb1;(try simp at hz1);(try have hw1_0:w.heap.size < w1.heap.size:=by omega);(try have hw1_1:w.heap.size + 1 < w1.heap.size:=by omega);(try have hw1_2:w.heap.size + 1 + 1 < w1.heap.size:=by omega);(try have hw1_3:w.heap.size + 1 + 1 + 1 < w1.heap.size:=by omega);(try have hw1_4:w.heap.size + 1 + 1 + 1 + 1 < w1.heap.size:=by omega);(try have hw1_5:w.heap.size + 1 + 1 + 1 + 1 + 1 < w1.heap.size:=by omega))
   all_goals (go_ret;exact ⟨rfl,(by repeat (first | exact Below.refl _ _ | assumption | refine Below.setCell ?_ (by (first | omega | (simp <;> omega))) _ | refine below_drewN ?_ _ | refine Below.drew ?_ | refine Below.alloc ?_ (by (first | omega | (simp <;> omega))) _ | (refine after (h1:=by assumption) ?_ ?_;rotate_left;(first | omega | (simp <;> omega)))))⟩)
theorem val_no {n d:Int} (h:¬ (1 ≤ d ∧ d ≤ 1048576 ∧ -1099511627776 ≤ n ∧ n ≤ 1099511627776 ∧ Int.gcd n d = 1)):valE n d = 1:=by
 unfold valE;rw [if_neg h]
theorem ratrefvalid_any (n d:Int) (w:World) :
  Calls Tryz.prog 168 #[rat n d] w fun e w' => e = .returned (.int .i64 (valE n d)) ∧ Below w.heap.size w w':=by
 by_cases h1:d < 1
 ·rw [val_no (by omega)]
  go_enter Tryz.func168,Tryz.ntmps168
  go_wp2;go_ret;exact ⟨rfl,(by repeat (first | exact Below.refl _ _ | assumption | refine Below.setCell ?_ (by (first | omega | (simp <;> omega))) _ | refine below_drewN ?_ _ | refine Below.drew ?_ | refine Below.alloc ?_ (by (first | omega | (simp <;> omega))) _ | (refine after (h1:=by assumption) ?_ ?_;rotate_left;(first | omega | (simp <;> omega)))))⟩
 by_cases h2:1048576 < d
 ·rw [val_no (by omega)]
  go_enter Tryz.func168,Tryz.ntmps168
  go_wp2;go_ret;exact ⟨rfl,(by repeat (first | exact Below.refl _ _ | assumption | refine Below.setCell ?_ (by (first | omega | (simp <;> omega))) _ | refine below_drewN ?_ _ | refine Below.drew ?_ | refine Below.alloc ?_ (by (first | omega | (simp <;> omega))) _ | (refine after (h1:=by assumption) ?_ ?_;rotate_left;(first | omega | (simp <;> omega)))))⟩
 by_cases h3:1099511627776 < n
 ·rw [val_no (by omega)]
  go_enter Tryz.func168,Tryz.ntmps168
  go_wp2;go_ret;exact ⟨rfl,(by repeat (first | exact Below.refl _ _ | assumption | refine Below.setCell ?_ (by (first | omega | (simp <;> omega))) _ | refine below_drewN ?_ _ | refine Below.drew ?_ | refine Below.alloc ?_ (by (first | omega | (simp <;> omega))) _ | (refine after (h1:=by assumption) ?_ ?_;rotate_left;(first | omega | (simp <;> omega)))))⟩
 by_cases h4:n < -1099511627776
 ·rw [val_no (by omega)]
  go_enter Tryz.func168,Tryz.ntmps168
  go_wp2;go_ret;exact ⟨rfl,(by repeat (first | exact Below.refl _ _ | assumption | refine Below.setCell ?_ (by (first | omega | (simp <;> omega))) _ | refine below_drewN ?_ _ | refine Below.drew ?_ | refine Below.alloc ?_ (by (first | omega | (simp <;> omega))) _ | (refine after (h1:=by assumption) ?_ ?_;rotate_left;(first | omega | (simp <;> omega)))))⟩
 by_cases h5:Int.gcd n d = 1
 ·rw [show valE n d = 0 from by unfold valE;rw [if_pos ⟨by omega,by omega,by omega,by omega,h5⟩]]
  have H5:=Lib.hid h5;clear h5;go_enter Tryz.func168,Tryz.ntmps168
  go_wp2_with (go_at_call 189;refine (ratcommon_any n d _ (by omega) (by omega) (by omega) (by omega)).mono ?_;rintro e w' ⟨rfl,q,rfl⟩;rw [H5.out])
  go_ret;exact ⟨rfl,(by repeat (first | exact Below.refl _ _ | assumption | refine Below.setCell ?_ (by (first | omega | (simp <;> omega))) _ | refine below_drewN ?_ _ | refine Below.drew ?_ | refine Below.alloc ?_ (by (first | omega | (simp <;> omega))) _ | (refine after (h1:=by assumption) ?_ ?_;rotate_left;(first | omega | (simp <;> omega)))))⟩
 ·rw [val_no (by omega)]
  have h6:((Int.gcd n d:Int) == 1) = false:=by simp;omega
  have h7:((Int.gcd n d:Int) != 1) = true:=by simp;omega
  generalize hg:Int.gcd n d = g at *;have HG:=Lib.hid hg;clear hg;go_enter Tryz.func168,Tryz.ntmps168
  go_wp2_with (go_at_call 189;refine (ratcommon_any n d _ (by omega) (by omega) (by omega) (by omega)).mono ?_;rintro e w' ⟨rfl,q,rfl⟩;rw [HG.out])
  go_ret;exact ⟨rfl,(by repeat (first | exact Below.refl _ _ | assumption | refine Below.setCell ?_ (by (first | omega | (simp <;> omega))) _ | refine below_drewN ?_ _ | refine Below.drew ?_ | refine Below.alloc ?_ (by (first | omega | (simp <;> omega))) _ | (refine after (h1:=by assumption) ?_ ?_;rotate_left;(first | omega | (simp <;> omega)))))⟩
theorem less_inf (ln ld:Int) (lo:Bool) (w:World) :
  Calls Tryz.prog 197 #[.agg #[.int .i64 0,.int .i64 ln,.int .i64 ld,.bool lo],.agg #[.int .i64 1,.int .i64 0,.int .i64 0,.bool false]] w fun e w' => e = .returned (.bool true) ∧ Below w.heap.size w w':=by
 go_enter Tryz.func197,Tryz.ntmps197
 go_wp2;go_ret;exact ⟨rfl,(below_new _ _).alloc (by simp) _⟩
theorem less_fin (ln ld hn hd:Int) (lo ho:Bool) (P Q:Int) (hP:IntKind.i64.wrap (ln * hd) = P) (hQ:IntKind.i64.wrap (hn * ld) = Q) (h:P < Q) (w:World) :
  Calls Tryz.prog 197 #[.agg #[.int .i64 0,.int .i64 ln,.int .i64 ld,.bool lo],.agg #[.int .i64 0,.int .i64 hn,.int .i64 hd,.bool ho]] w fun e w' => e = .returned (.bool true) ∧ Below w.heap.size w w':=by
 have h1:(P != Q) = true:=by simp;omega
 have h2:(P == Q) = false:=by simp;omega
 go_enter Tryz.func197,Tryz.ntmps197
 go_upto_region 5 with fail;go_quiet (fail);go_wp2;go_ret;exact ⟨rfl,below_drewN ((below_new _ _).alloc (by simp) _) _⟩
def SmallR (n d:Int):Prop:=valE n d = 0 ∧ -1073741824 ≤ n ∧ n ≤ 1073741824 ∧ d ≤ 32768
theorem SmallR.bd {n d:Int} (h:SmallR n d):1 ≤ d ∧ d ≤ 32768 ∧ -1073741824 ≤ n ∧ n ≤ 1073741824:=⟨(valE_ok h.1).1,h.2.2.2,h.2.1,h.2.2.1⟩
theorem small_any (n d:Int) (h:SmallR n d) (w:World) :
  Calls Tryz.prog 208 #[.agg #[.int .i64 n,.int .i64 d]] w fun e w' => e = .returned (.bool true) ∧ Below w.heap.size w w':=by
 obtain ⟨b1,b2,b3,b4⟩:=h.bd;have HV:=Lib.hid (fun w => ratvalid_any n d w (by omega) (by omega) (by omega) (by omega))
 rw [h.1] at HV;clear h;have B0:=Blk.new w 31 #[.int .i64 n,.int .i64 d];go_enter Tryz.func208,Tryz.ntmps208
 go_wp2_with (go_at_call 192;refine (HV.out _).mono ?_;rintro e w1 ⟨rfl,hb1⟩;have hc:=(B0.keep hb1).c2)
 go_ret;exact ⟨rfl,below_up (below_new _ _) hb1 (by simp)⟩
theorem limit_inf (w:World) :
  Calls Tryz.prog 207 #[.agg #[.int .i64 0,.int .i64 0],.bool false,.bool true] w fun e w' => e = .returned (.bool true) ∧ Below w.heap.size w w':=by
 go_enter Tryz.func207,Tryz.ntmps207
 go_wp2;go_ret;exact ⟨rfl,below_new _ _⟩
theorem limit_fin (n d:Int) (o:Bool) (h:SmallR n d) (w:World) :
  Calls Tryz.prog 207 #[.agg #[.int .i64 n,.int .i64 d],.bool o,.bool false] w fun e w' => e = .returned (.bool true) ∧ Below w.heap.size w w':=by
 have HS:=Lib.hid (fun w => small_any n d h w)
 go_enter Tryz.func207,Tryz.ntmps207
 go_wp2_with (go_at_call 208;refine (HS.out _).mono ?_;rintro e w1 ⟨rfl,hb1⟩)
 go_ret;exact ⟨rfl,below_up (below_new _ _) hb1 (by simp)⟩
def OkIv (x:Iv):Prop:=x.li = false ∧ SmallR x.ln x.ld ∧ ((x.hi = true ∧ x.hn = 0 ∧ x.hd = 0 ∧ x.ho = false) ∨ (x.hi = false ∧ SmallR x.hn x.hd ∧ x.ln * x.hd < x.hn * x.ld))
theorem prod_in {a b:Int} (h1:-1073741824 ≤ a) (h2:a ≤ 1073741824) (h3:1 ≤ b) (h4:b ≤ 32768):IntKind.i64.wrap (a * b) = a * b:=by
 have h5:a * b ≤ 1073741824 * 32768:=by
  rcases Int.le_total 0 a with h | h
  ·exact Int.mul_le_mul h2 h4 (by omega) (by omega)
  ·exact Int.le_trans (Int.mul_nonpos_of_nonpos_of_nonneg h (by omega)) (by decide)
 have h6:-(1073741824 * 32768) ≤ a * b:=by
  rcases Int.le_total 0 a with h | h
  ·exact Int.le_trans (by decide) (Int.mul_nonneg h (by omega))
  ·have:(-a) * b ≤ 1073741824 * 32768:=Int.mul_le_mul (by omega) h4 (by omega) (by omega)
   rw [Int.neg_mul] at this;omega
 exact IntWalk.i64_in _ (by omega)
def Iv.vals (x:Iv):Array Value:=#[iI x.ln,iI x.ld,iI x.hn,iI x.hd,.bool x.lo,.bool x.ho,.bool x.li,.bool x.hi]
theorem good_any (x:Iv) (h:OkIv x) (w:World) :
  Calls Tryz.prog 195 #[.agg #[iI x.ln,iI x.ld,iI x.hn,iI x.hd,.bool x.lo,.bool x.ho,.bool x.li,.bool x.hi]] w fun e w' => e = .returned (.bool true) ∧ Below w.heap.size w w':=by
 obtain ⟨ln,ld,hn,hd,lo,ho,li,hi⟩:=x;obtain ⟨h1,h2,h3⟩:=h;dsimp only at h1 h2 h3 ⊢;subst h1;rcases h3 with ⟨h4,h5,h6,h7⟩ | ⟨h4,h5,h6⟩
 ·subst h4 h5 h6 h7
  have HL:=Lib.hid (fun w => limit_fin ln ld lo h2 w)
  clear h2;have B0:=Blk.new w 164 #[iI ln,iI ld,iI 0,iI 0,.bool lo,.bool false,.bool false,.bool true];go_enter Tryz.func195,Tryz.ntmps195
  go_wp2_with (first
   | (go_at_call_of 207 (Value.agg #[Value.int IntKind.i64 ln,Value.int IntKind.i64 ld]);(with_reducible refine (HL.out _).mono ?_);rintro e w1 ⟨rfl,hb1⟩;have B1:=B0.keep hb1;have hc1:=B1.c8)
   | (go_at_call 207;(with_reducible refine (limit_inf _).mono ?_);rintro e w2 ⟨rfl,hb2⟩;have B2:=B1.keep hb2;have hc2:=B2.c8)
   | (go_at_call 196;refine (ends_inf ln ld 0 0 lo false _).mono ?_;rintro e w3 ⟨rfl,hb3⟩)
   | (go_at_call 197;refine (less_inf ln ld lo _).mono ?_;rintro e w4 ⟨rfl,hb4⟩))
  have Q1:=below_up (below_new _ _) hb1 (by simp)
  have Q2:=below_up Q1 hb2 Q1.size;have Q3:=below_up Q2 hb3 Q2.size;go_ret;exact ⟨rfl,below_up Q3 hb4 Q3.size⟩
 ·subst h4
  have HL:=Lib.hid (fun w => limit_fin ln ld lo h2 w)
  have HR:=Lib.hid (fun w => limit_fin hn hd ho h5 w)
  obtain ⟨b1,b2,b3,b4⟩:=h2.bd;obtain ⟨b5,b6,b7,b8⟩:=h5.bd;have HP:=Lib.hid (fun w => less_fin ln ld hn hd lo (!ho) _ _ (prod_in (a:=ln) (b:=hd) b3 b4 b5 b6) (prod_in (a:=hn) (b:=ld) b7 b8 b1 b2) h6 w)
  clear h2 h5 h6 b1 b2 b3 b4 b5 b6 b7 b8;have B0:=Blk.new w 164 #[iI ln,iI ld,iI hn,iI hd,.bool lo,.bool ho,.bool false,.bool false];go_enter Tryz.func195,Tryz.ntmps195
  go_wp2_with (first
   | (go_at_call_of 207 (Value.agg #[Value.int IntKind.i64 ln,Value.int IntKind.i64 ld]);(with_reducible refine (HL.out _).mono ?_);rintro e w1 ⟨rfl,hb1⟩;have B1:=B0.keep hb1;have hc1:=B1.c8)
   | (go_at_call_of 207 (Value.agg #[Value.int IntKind.i64 hn,Value.int IntKind.i64 hd]);(with_reducible refine (HR.out _).mono ?_);rintro e w2 ⟨rfl,hb2⟩;have B2:=B1.keep hb2;have hc2:=B2.c8)
   | (go_at_call 196;refine (ends_fin ln ld hn hd lo ho _).mono ?_;rintro e w3 ⟨rfl,hb3⟩)
   | (go_at_call 197;refine (HP.out _).mono ?_;rintro e w4 ⟨rfl,hb4⟩))
  have Q1:=below_up (below_new _ _) hb1 (by simp)
  have Q2:=below_up Q1 hb2 Q1.size;have Q3:=below_up Q2 hb3 Q2.size;go_ret;exact ⟨rfl,below_up Q3 hb4 Q3.size⟩
theorem Rep.ivs {w:World} {B:Nat} {v:Value} {l:List Iv} (h:Rep w B v (.s 8 (l.flatMap Iv.cells))):∃ (A:Option Addr) (c:Nat),v = .slice A l.length c ∧ l.length ≤ c ∧
  ∀ (k:Nat) (hk:k < l.length),∃ b o,A = some ⟨b,o,none⟩ ∧ b < B ∧ w.cell? ⟨b,o + k * 8,none⟩ = some (.int .i64 l[k].ln) ∧ w.cell? ⟨b,o + k * 8 + 1,none⟩ = some (.int .i64 l[k].ld) ∧ w.cell? ⟨b,o + k * 8 + 2,none⟩ = some (.int .i64 l[k].hn) ∧ w.cell? ⟨b,o + k * 8 + 3,none⟩ = some (.int .i64 l[k].hd) ∧
   w.cell? ⟨b,o + k * 8 + 4,none⟩ = some (.bool l[k].lo) ∧ w.cell? ⟨b,o + k * 8 + 5,none⟩ = some (.bool l[k].ho) ∧ w.cell? ⟨b,o + k * 8 + 6,none⟩ = some (.bool l[k].li) ∧ w.cell? ⟨b,o + k * 8 + 7,none⟩ = some (.bool l[k].hi):=by
 obtain ⟨A,n,c,rfl,hn,hl,hc⟩:=h.slice;have hfl:=flat_length (l:=l) (f:=Iv.cells) (k:=8) (fun x _ => x.cells_length)
 have hnl:n = l.length:=by omega
 subst hnl;refine ⟨A,c,rfl,hn,fun k hk => ?_⟩
 obtain ⟨b,o,cs,rfl,hb,hr,hcell⟩:=hc (by omega)
 have hp:=flat_part (l:=l) (f:=Iv.cells) (k:=8) (i:=k) (a:=l[k]) (fun x _ => x.cells_length) (List.getElem?_eq_getElem hk)
 have hr2:=(hr.drop (k * 8)).take 8;rw [hp] at hr2;have hlen:cs.length = l.length * 8:=hr.1.trans hfl
 have key:∀ j (d:Value),j < 8 → (l[k].cells)[j]? = some (.v d) → w.cell? ⟨b,o + k * 8 + j,none⟩ = some d:=fun j d hj hd => by
  have h1:k * 8 + j < cs.length:=by omega
  have h2:((cs.drop (k * 8)).take 8)[j]? = some cs[k * 8 + j]:=by
   rw [List.getElem?_take,if_pos hj,List.getElem?_drop,List.getElem?_eq_getElem h1]
  have h3:=hr2.2 j _ _ h2 hd;have h4:=hcell (k * 8 + j) _ (List.getElem?_eq_getElem h1)
  rw [h3.plain,← Nat.add_assoc] at h4;exact h4
 exact ⟨b,o,rfl,hb,key 0 _ (by omega) rfl,key 1 _ (by omega) rfl,key 2 _ (by omega) rfl,key 3 _ (by omega) rfl,key 4 _ (by omega) rfl,key 5 _ (by omega) rfl,key 6 _ (by omega) rfl,key 7 _ (by omega) rfl⟩
def OkIvs (l:List Iv):Prop:=l.length ≤ 1 ∧ ∀ x ∈ l,OkIv x
theorem few_any (A:Option Addr) (n c:Nat) (h:n ≤ 32) (w:World) :
  Calls Tryz.prog 198 #[.slice A n c] w fun e w' => e = .returned (.int .i64 0) ∧ w = w':=by
 go_enter Tryz.func198,Tryz.ntmps198
 go_wp2;go_ret;exact ⟨rfl,rfl⟩
theorem spanvalid_any (l:List Iv) (hl:OkIvs l) (v:Value) (w:World) (B:Nat) (hBw:B ≤ w.heap.size) (hr:Rep w B v (.s 8 (l.flatMap Iv.cells))) :
  Calls Tryz.prog 178 #[v] w fun e w' => e = .returned (.int .i64 0) ∧ Below w.heap.size w w':=by
 obtain ⟨A,c,rfl,hc,hcell⟩:=hr.ivs;clear hr;obtain ⟨hl1,hok⟩:=hl;have HO:=Lib.hid hok;clear hok;go_enter Tryz.func178,Tryz.ntmps178
 go_wp2;go_loopw [11] (fun i wr => ∃ k:Nat,i = .int .i64 (k:Int) ∧ k ≤ l.length ∧ Below w.heap.size w wr) (fun i _ => l.length - (intOf i).toNat)
 case atStart => exact ⟨0,rfl,Nat.zero_le _,Below.refl _ _⟩
 case round =>
  obtain ⟨k,rfl,hk,hB⟩:=hrel;by_cases hlt:k < l.length
  ·obtain rfl:k = 0:=by omega
   obtain ⟨b,o,rfl,hb,c0,c1,c2,c3,c4,c5,c6,c7⟩:=hcell 0 hlt;have HX:=Lib.hid (HO.out _ (List.getElem_mem hlt));simp only [Nat.zero_mul,Nat.add_zero] at c0 c1 c2 c3 c4 c5 c6 c7;have hb':b < w.heap.size:=by omega
   have d0:=(hB.cell (p:=⟨b,o,none⟩) hb').trans c0;have d1:=(hB.cell (p:=⟨b,o + 1,none⟩) hb').trans c1;have d2:=(hB.cell (p:=⟨b,o + 2,none⟩) hb').trans c2;have d3:=(hB.cell (p:=⟨b,o + 3,none⟩) hb').trans c3;have d4:=(hB.cell (p:=⟨b,o + 4,none⟩) hb').trans c4;have d5:=(hB.cell (p:=⟨b,o + 5,none⟩) hb').trans c5;have d6:=(hB.cell (p:=⟨b,o + 6,none⟩) hb').trans c6;have d7:=(hB.cell (p:=⟨b,o + 7,none⟩) hb').trans c7;clear c0 c1 c2 c3 c4 c5 c6 c7 hcell;generalize l[0] = x at *;go_wp2_with (go_at_call 195;refine (good_any x HX.out _).mono ?_;rintro e w1 ⟨rfl,hb1⟩)
   have Q:=below_up (hB.alloc hB.size _) hb1 (Nat.le_trans hB.size (by simp))
   go_roundw
   case rel => exact ⟨1,by go_num,by omega,Q⟩
   case measure => simp [intOf];omega
  ·obtain rfl:k = l.length:=by omega
   go_wp2_with (go_at_call 198;refine (few_any _ _ _ (by omega) _).mono ?_;rintro e w1 ⟨rfl,rfl⟩)
   go_ret;exact ⟨rfl,hB⟩
end Go.Proofs.YtbeaijjaecaidaaGreatDoor
