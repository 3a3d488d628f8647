/- Heads signed by the reference. Heads as they should be, in the program: formed and Check. head.Check: in the program. Logs of one entry: the root, the path, the check of a path, in the program and in the reference. logtree.Check of a log of one entry. A log of one entry in the program: New, Add, Root. A drawing region in which some operations may come up in any order: each keeps an invariant. acts.bare of a filing: it has no field that filings do not have. Filings: what is said of them, and acts.filing. acts.filing, acts.formed and acts.Valid of filings. acts.formed and acts.Valid of filings. -/
import Derived.Test.YtbeaijjaecaidaaGreatDoorM10
import Derived.Test.YtbeaijjaecaidaaGreatDoorM01
import Derived.Maps.RangeWalk
import Derived.Deep.MidRow
set_option maxRecDepth 100000
set_option maxHeartbeats 16000000
namespace Go.Proofs.YtbeaijjaecaidaaGreatDoor
open Go.RowKit Go.Shelf
attribute [local go_sem] Oper.semAt_some
theorem refsignature_any (key:Nat) (hk:key<18446744073709551616) (o t d s:Int) (l m:Nat) (hl:l<18446744073709551616) (hm:m<18446744073709551616) (sl:Int) (sg:Nat) (w:World) :
  Calls Tryz.prog 93 #[.int .u64 (key:Int),.agg #[iI o,iI t,iI d,iI s,uI (l:Int),uI (m:Int),iI sl,uI (sg:Int)]] w fun e w'=>e=.returned (.int .u64 (sigN key ⟨o,t,d,s,l,m,sl,sg⟩:Int))∧Below w.heap.size w w':=by
 have HA:=Lib.hid (u64_wordI hk);have HB:=Lib.hid (u64_wordI hl);have HC:=Lib.hid (u64_wordI hm);clear hk hl hm;have HX:IntKind.i64.wrap (key:Int)=wordI key:=rfl;have HY:IntKind.i64.wrap (l:Int)=wordI l:=rfl;have HZ:IntKind.i64.wrap (m:Int)=wordI m:=rfl;go_enter Tryz.func93,Tryz.ntmps93
 go_wp2_with (go_at_call 67;refine (refsum_fresh sSign (by decide) [wordI key,o,t,d,s,wordI l,wordI m,sl] [key,u64 o,u64 t,u64 d,u64 s,l,m,u64 sl] 8 _ (w.alloc (.cells #[iI o,iI t,iI d,iI s,uI (l:Int),uI (m:Int),iI sl,uI (sg:Int)] 29)) _ (by simp) rfl rfl (by unfold u64L;simp only [List.map_cons,List.map_nil,HA.out,HB.out,HC.out]) (Nat.le_of_ble_eq_true rfl)).mono ?_;rintro e w' ⟨rfl,hb⟩)
 go_ret;exact ⟨rfl,below_up (below_new _ _) hb (by simp)⟩
theorem refsign_any (sec:Nat) (hk:sec<18446744073709551616) (o t d s:Int) (l m:Nat) (hl:l<18446744073709551616) (hm:m<18446744073709551616) (sl:Int) (sg:Nat) (w:World) :
  Calls Tryz.prog 40 #[.int .u64 (sec:Int),.agg #[iI o,iI t,iI d,iI s,uI (l:Int),uI (m:Int),iI sl,uI (sg:Int)]] w fun e w' =>
   e=.returned (.agg #[iI o,iI t,iI d,iI s,uI (l:Int),uI (m:Int),iI sl,uI (sigN (keyN sec) ⟨o,t,d,s,l,m,sl,sg⟩:Int)])∧Below w.heap.size w w':=by
 have HK:=Lib.hid hk;have HL:=Lib.hid hl;have HM:=Lib.hid hm;clear hk hl hm;go_enter Tryz.func40,Tryz.ntmps40
 go_upto_region 1 with fail;have B0:=(Blk.new w 29 #[iI o,iI t,iI d,iI s,uI (l:Int),uI (m:Int),iI sl,uI (sg:Int)]).alloc (.cells #[iI 0,iI 0,iI 0,iI 0,uI 0,uI 0,iI 0,uI 0] 29);have B1:=Blk.new (w.alloc (.cells #[iI o,iI t,iI d,iI s,uI (l:Int),uI (m:Int),iI sl,uI (sg:Int)] 29)) 29 #[iI 0,iI 0,iI 0,iI 0,uI 0,uI 0,iI 0,uI 0];rw [World.size_alloc] at B1;have HB:=(below_new w (.cells #[iI o,iI t,iI d,iI s,uI (l:Int),uI (m:Int),iI sl,uI (sg:Int)] 29)).alloc (by simp) (.cells #[iI 0,iI 0,iI 0,iI 0,uI 0,uI 0,iI 0,uI 0] 29)
 generalize (w.alloc (.cells #[iI o,iI t,iI d,iI s,uI (l:Int),uI (m:Int),iI sl,uI (sg:Int)] 29)).alloc (.cells #[iI 0,iI 0,iI 0,iI 0,uI 0,uI 0,iI 0,uI 0] 29)=W0 at *;go_cut [] (fun wx=>Blk wx w.heap.size 29 #[iI o,iI t,iI d,iI s,uI (l:Int),uI (m:Int),iI sl,uI (sigN (keyN sec) ⟨o,t,d,s,l,m,sl,sg⟩:Int)]∧Blk wx (w.heap.size+1) 29 #[iI 0,iI 0,iI 0,iI 0,uI 0,uI 0,iI 0,uI 0]∧Below w.heap.size w wx)
 case first =>
  refine wp_region_held_drew (S:=(fun _=>True)) (by kernel_rfl) ?_ (fun hHeld=>?_)
  ·first | done | ((try dsimp only);(try trivial))
  have HB':=HB.drew;have B0':=B0.drew;have B1':=B1.drew;clear HB B0 B1;generalize W0.drew=W1 at *;refine tq 0 5 rfl ?_
  refine rd2 1 (some 6) 2 (some 7) (by kernel_rfl) rfl rfl (fun K hK=>?_) fun K hK=>?_
  ·skip
   go_simp
   (refine (refkey_any sec HK.out _).mono ?_;rintro e w1 ⟨rfl,hb1⟩)
   refine hK.out _ _ ?_ (fun hHeld=>?_)
   ·first | done | ((try dsimp only);(try trivial))
   clear hK K;(try simp only [pS,pB,pZ,pC]);have B2:=B0'.keep hb1;have C2:=B1'.keep hb1;have HB2:=HB'.trans (hb1.mono HB'.size);have hc:=B2.c8;refine rd 2 (some 7) rfl fun K hK=>?_
   go_simp;skip;refine hK.out _ _ ?_ (fun hHeld=>?_)
   ·first | done | ((try dsimp only);(try trivial))
   clear hK K;(try simp only [pS,pB,pZ,pC]);refine rd 3 (some 8) rfl fun K hK=>?_
   go_simp
   (refine (refsignature_any (keyN sec) (lab_lt _ _) o t d s l m HL.out HM.out sl sg _).mono ?_;rintro e w2 ⟨rfl,hb2⟩)
   refine hK.out _ _ ?_ (fun hHeld=>?_)
   ·first | done | ((try dsimp only);(try trivial))
   clear hK K;(try simp only [pS,pB,pZ,pC]);have B3:=B2.keep hb2;have C3:=C2.keep hb2;have HB3:=HB2.trans (hb2.mono HB2.size);have hc:=B3.c8;have hf:=B3.f8;refine tq 4 9 rfl ?_
   refine rd 5 none rfl fun K hK=>?_
   go_simp;skip;refine hK.out _ _ ?_ (fun hHeld=>?_)
   ·first | done | ((try dsimp only);(try trivial))
   clear hK K;(try simp only [pS,pB,pZ,pC]);refine dn ?_
   go_wp2_with fail;go_meet;exact ⟨B3.set 7 _,C3.far (by simp) _,HB3.setCell (Nat.le_refl _) _⟩
  ·have hc:=B0'.c8
   go_simp;skip;refine hK.out _ _ ?_ (fun hHeld=>?_)
   ·first | done | ((try dsimp only);(try trivial))
   clear hK K;(try simp only [pS,pB,pZ,pC]);refine rd 1 (some 6) rfl fun K hK=>?_
   go_simp
   (refine (refkey_any sec HK.out _).mono ?_;rintro e w1 ⟨rfl,hb1⟩)
   refine hK.out _ _ ?_ (fun hHeld=>?_)
   ·first | done | ((try dsimp only);(try trivial))
   clear hK K;(try simp only [pS,pB,pZ,pC]);have B2:=B0'.keep hb1;have C2:=B1'.keep hb1;have HB2:=HB'.trans (hb1.mono HB'.size);refine rd 3 (some 8) rfl fun K hK=>?_
   go_simp
   (refine (refsignature_any (keyN sec) (lab_lt _ _) o t d s l m HL.out HM.out sl sg _).mono ?_;rintro e w2 ⟨rfl,hb2⟩)
   refine hK.out _ _ ?_ (fun hHeld=>?_)
   ·first | done | ((try dsimp only);(try trivial))
   clear hK K;(try simp only [pS,pB,pZ,pC]);have B3:=B2.keep hb2;have C3:=C2.keep hb2;have HB3:=HB2.trans (hb2.mono HB2.size);have hc:=B3.c8;have hf:=B3.f8;refine tq 4 9 rfl ?_
   refine rd 5 none rfl fun K hK=>?_
   go_simp;skip;refine hK.out _ _ ?_ (fun hHeld=>?_)
   ·first | done | ((try dsimp only);(try trivial))
   clear hK K;(try simp only [pS,pB,pZ,pC]);refine dn ?_
   go_wp2_with fail;go_meet;exact ⟨B3.set 7 _,C3.far (by simp) _,HB3.setCell (Nat.le_refl _) _⟩
 case rest =>
  obtain ⟨B3,C3,HB3⟩:=hcut;obtain ⟨wx,rfl⟩:∃ z:World,z=wc:=⟨_,rfl⟩;clear B0 B1 HB;have hc:=B3.c8;have hd:=C3.c8;have he:=C3.f8;go_wp2_with fail;have C4:Blk _ (w.heap.size+1) 29 #[iI o,iI t,iI d,iI s,uI (l:Int),uI (m:Int),iI sl,uI (sigN (keyN sec) ⟨o,t,d,s,l,m,sl,sg⟩:Int)]:=((((((((C3.set 0 (.int .i64 o)).set 1 (.int .i64 t)).set 2 (.int .i64 d)).set 3 (.int .i64 s)).set 4 (.int .u64 (l:Int))).set 5 (.int .u64 (m:Int))).set 6 (.int .i64 sl)).set 7 (.int .u64 (sigN (keyN sec) ⟨o,t,d,s,l,m,sl,sg⟩:Int)));have HB4:=((((((((HB3.setCell (p:=⟨w.heap.size+1,0,none⟩) (Nat.le_succ _) (.int .i64 o)).setCell (p:=⟨w.heap.size+1,1,none⟩) (Nat.le_succ _) (.int .i64 t)).setCell (p:=⟨w.heap.size+1,2,none⟩) (Nat.le_succ _) (.int .i64 d)).setCell (p:=⟨w.heap.size+1,3,none⟩) (Nat.le_succ _) (.int .i64 s)).setCell (p:=⟨w.heap.size+1,4,none⟩) (Nat.le_succ _) (.int .u64 (l:Int))).setCell (p:=⟨w.heap.size+1,5,none⟩) (Nat.le_succ _) (.int .u64 (m:Int))).setCell (p:=⟨w.heap.size+1,6,none⟩) (Nat.le_succ _) (.int .i64 sl)).setCell (p:=⟨w.heap.size+1,7,none⟩) (Nat.le_succ _) (.int .u64 (sigN (keyN sec) ⟨o,t,d,s,l,m,sl,sg⟩:Int)));clear hc hd he
  revert C4 HB4
  generalize World.setCell _ _ _=wz;intro C4 HB4;obtain ⟨c0,c1,c2,c3,c4,c5,c6,c7⟩:=C4.c8;exact bodyPost_ret (v:=.agg #[iI o,iI t,iI d,iI s,uI (l:Int),uI (m:Int),iI sl,uI (sigN (keyN sec) ⟨o,t,d,s,l,m,sl,sg⟩:Int)]) (by simp [results,Tryz.results40,go_sem,c0,c1,c2,c3,c4,c5,c6,c7]) rfl ⟨rfl,HB4⟩
def OkHd (o t d s sl:Int):Prop:=(0≤o∧o≤11)∧(0≤t∧t≤1099511627776)∧(0≤d∧d≤131072)∧(0≤s∧s≤4096)∧(0≤sl∧sl≤s)
theorem hdin_any (n hi:Int) (h0:0≤n) (h1:n≤hi) (w:World) :
  Calls Tryz.prog 142 #[.int .i64 n,.int .i64 hi] w fun e w'=>e=.returned (.bool true)∧w'=w:=by
 have d0:decide (0≤n)=true:=decide_eq_true h0;have d1:decide (n≤hi)=true:=decide_eq_true h1;go_enter Tryz.func142,Tryz.ntmps142
 go_wp2_with fail;go_ret;exact ⟨rfl,rfl⟩
theorem hdformed_any (o t d s:Int) (l m:Nat) (sl:Int) (sg:Nat) (hok:OkHd o t d s sl) (g:Nat) (w:World) (hg:Blk w g 49 #[iI o,iI t,iI d,iI s,uI (l:Int),uI (m:Int),iI sl,uI (sg:Int)]) :
  Calls Tryz.prog 97 #[.slice (some ⟨g,0,none⟩) 1 1] w fun e w'=>e=.returned (.bool true)∧Below w.heap.size w w':=by
 obtain ⟨⟨h1,h2⟩,⟨h3,h4⟩,⟨h5,h6⟩,⟨h7,h8⟩,h9,h10⟩:=hok;have H1:=Lib.hid (fun W=>hdin_any o 11 h1 h2 W)
 have H2:=Lib.hid (fun W=>hdin_any t 1099511627776 h3 h4 W)
 have H3:=Lib.hid (fun W=>hdin_any d 131072 h5 h6 W)
 have H4:=Lib.hid (fun W=>hdin_any s 4096 h7 h8 W)
 have H5:=Lib.hid (fun W=>hdin_any sl s h9 h10 W)
 clear h1 h2 h3 h4 h5 h6 h7 h8 h9 h10;go_enter Tryz.func97,Tryz.ntmps97
 go_wp2_with fail;go_loopw [8] (fun i wr=>(i=.int .i64 0∧w=wr)∨(i=.int .i64 1∧Below w.heap.size w wr)) (fun i _=>1 - (intOf i).toNat)
 case atStart=>exact .inl ⟨rfl,rfl⟩
 case round =>
  rcases hrel with ⟨rfl,rfl⟩ | ⟨rfl,hB⟩
  ·have hc:=hg.c8
   have P0:=below_new w (.cells #[iI o,iI t,iI d,iI s,uI (l:Int),uI (m:Int),iI sl,uI (sg:Int)] 49);go_wp2_with fail;refine (H1.out _).mono ?_
   rintro e w' ⟨rfl,rfl⟩;go_wp2_with fail;refine (H2.out _).mono ?_
   rintro e w' ⟨rfl,rfl⟩;go_wp2_with fail;refine (H3.out _).mono ?_
   rintro e w' ⟨rfl,rfl⟩;go_wp2_with fail;refine (H4.out _).mono ?_
   rintro e w' ⟨rfl,rfl⟩;go_wp2_with fail;refine (H5.out _).mono ?_
   rintro e w' ⟨rfl,rfl⟩;go_wp2_with fail;go_roundw
   case rel=>exact .inr ⟨rfl,P0⟩
   case measure=>simp [intOf]
  ·go_wp2_with fail
   go_ret;exact ⟨rfl,hB⟩
theorem hdcheck_ok (key:Nat) (hk:key<18446744073709551616) (o t d s:Int) (l m:Nat) (hl:l<18446744073709551616) (hm:m<18446744073709551616) (sl:Int) (sg:Nat) (hok:OkHd o t d s sl) (hs:sg=sigN key ⟨o,t,d,s,l,m,sl,sg⟩) (w:World) :
  Calls Tryz.prog 47 #[.int .u64 (key:Int),.agg #[iI o,iI t,iI d,iI s,uI (l:Int),uI (m:Int),iI sl,uI (sg:Int)]] w fun e w'=>e=.returned (.int .i64 0)∧Below w.heap.size w w':=by
 have hne:((sg:Int) != (sigN key ⟨o,t,d,s,l,m,sl,sg⟩:Int))=false:=by rw [← hs];simp
 have X0:=Blk.new w 49 #[iI o,iI t,iI d,iI s,uI (l:Int),uI (m:Int),iI sl,uI (sg:Int)];have P0:=below_new w (.cells #[iI o,iI t,iI d,iI s,uI (l:Int),uI (m:Int),iI sl,uI (sg:Int)] 49);have Y0:=Blk.new (w.alloc (.cells #[iI o,iI t,iI d,iI s,uI (l:Int),uI (m:Int),iI sl,uI (sg:Int)] 49)) 49 #[iI o,iI t,iI d,iI s,uI (l:Int),uI (m:Int),iI sl,uI (sg:Int)];rw [World.size_alloc] at Y0;have HF:=Lib.hid (hdformed_any o t d s l m sl sg hok (w.heap.size+1) _ Y0);have HS:=Lib.hid (fun W=>signature_any key hk o t d s l m hl hm sl sg W)
 have X1:=X0.alloc (.cells #[iI o,iI t,iI d,iI s,uI (l:Int),uI (m:Int),iI sl,uI (sg:Int)] 49);have P1:=P0.alloc P0.size (.cells #[iI o,iI t,iI d,iI s,uI (l:Int),uI (m:Int),iI sl,uI (sg:Int)] 49);generalize sigN key ⟨o,t,d,s,l,m,sl,sg⟩=sn at *;clear hs hok hk hl hm X0 P0 Y0;go_enter Tryz.func47,Tryz.ntmps47
 go_wp2_with fail;refine HF.out.mono ?_
 rintro e w1 ⟨rfl,hb1⟩;have X2:=X1.keep hb1;have P2:=below_up P1 hb1 P1.size;clear X1 P1 hb1 HF;go_upto_region 3 with fail;refine wp_region_held_drew (S:=(fun w'=>Blk w' w.heap.size 49 #[iI o,iI t,iI d,iI s,uI (l:Int),uI (m:Int),iI sl,uI (sg:Int)]∧Below w.heap.size w w')) (by kernel_rfl) ?_ (fun hHeld=>?_)
 ·first | done | ((try dsimp only);exact ⟨X2,P2.drew⟩)
 clear X2 P2;generalize w1.drew=wb at *;refine tq 0 11 rfl ?_
 refine th 1 12 rfl (fun _ hSw=>hSw.1.c8) ?_
 refine tq 2 13 rfl ?_
 refine th 3 14 rfl (fun _ hSw=>hSw.1.c8) ?_
 refine rd 4 (some 15) rfl fun K hK=>?_
 go_simp
 (refine (HS.out _).mono ?_;rintro e w2 ⟨rfl,hb2⟩)
 refine hK.out _ _ (⟨hHeld.1.keep hb2,below_up hHeld.2 hb2 hHeld.2.size⟩) fun hHeld=>?_
 clear hK K;(try simp only [pS,pB,pZ,pC]);refine tq 5 16 rfl ?_
 refine tq 6 10 rfl ?_
 refine dn ?_
 have HB:=Lib.hid hHeld.2;clear hHeld;go_wp2_with fail;go_ret;exact ⟨rfl,HB.out⟩
theorem hdcheck_bad (key:Nat) (hk:key<18446744073709551616) (o t d s:Int) (l m:Nat) (hl:l<18446744073709551616) (hm:m<18446744073709551616) (sl:Int) (sg:Nat) (hok:OkHd o t d s sl) (hs:sg≠sigN key ⟨o,t,d,s,l,m,sl,sg⟩) (w:World) :
  Calls Tryz.prog 47 #[.int .u64 (key:Int),.agg #[iI o,iI t,iI d,iI s,uI (l:Int),uI (m:Int),iI sl,uI (sg:Int)]] w fun e w'=>e=.returned (.int .i64 23)∧Below w.heap.size w w':=by
 have hne:((sg:Int) != (sigN key ⟨o,t,d,s,l,m,sl,sg⟩:Int))=true:=by
  simp only [bne_iff_ne,ne_eq];intro e;exact hs (by exact_mod_cast e)
 have X0:=Blk.new w 49 #[iI o,iI t,iI d,iI s,uI (l:Int),uI (m:Int),iI sl,uI (sg:Int)];have P0:=below_new w (.cells #[iI o,iI t,iI d,iI s,uI (l:Int),uI (m:Int),iI sl,uI (sg:Int)] 49);have Y0:=Blk.new (w.alloc (.cells #[iI o,iI t,iI d,iI s,uI (l:Int),uI (m:Int),iI sl,uI (sg:Int)] 49)) 49 #[iI o,iI t,iI d,iI s,uI (l:Int),uI (m:Int),iI sl,uI (sg:Int)];rw [World.size_alloc] at Y0;have HF:=Lib.hid (hdformed_any o t d s l m sl sg hok (w.heap.size+1) _ Y0);have HS:=Lib.hid (fun W=>signature_any key hk o t d s l m hl hm sl sg W)
 have X1:=X0.alloc (.cells #[iI o,iI t,iI d,iI s,uI (l:Int),uI (m:Int),iI sl,uI (sg:Int)] 49);have P1:=P0.alloc P0.size (.cells #[iI o,iI t,iI d,iI s,uI (l:Int),uI (m:Int),iI sl,uI (sg:Int)] 49);generalize sigN key ⟨o,t,d,s,l,m,sl,sg⟩=sn at *;clear hs hok hk hl hm X0 P0 Y0;go_enter Tryz.func47,Tryz.ntmps47
 go_wp2_with fail;refine HF.out.mono ?_
 rintro e w1 ⟨rfl,hb1⟩;have X2:=X1.keep hb1;have P2:=below_up P1 hb1 P1.size;clear X1 P1 hb1 HF;go_upto_region 3 with fail;refine wp_region_held_drew (S:=(fun w'=>Blk w' w.heap.size 49 #[iI o,iI t,iI d,iI s,uI (l:Int),uI (m:Int),iI sl,uI (sg:Int)]∧Below w.heap.size w w')) (by kernel_rfl) ?_ (fun hHeld=>?_)
 ·first | done | ((try dsimp only);exact ⟨X2,P2.drew⟩)
 clear X2 P2;generalize w1.drew=wb at *;refine tq 0 11 rfl ?_
 refine th 1 12 rfl (fun _ hSw=>hSw.1.c8) ?_
 refine tq 2 13 rfl ?_
 refine th 3 14 rfl (fun _ hSw=>hSw.1.c8) ?_
 refine rd 4 (some 15) rfl fun K hK=>?_
 go_simp
 (refine (HS.out _).mono ?_;rintro e w2 ⟨rfl,hb2⟩)
 refine hK.out _ _ (⟨hHeld.1.keep hb2,below_up hHeld.2 hb2 hHeld.2.size⟩) fun hHeld=>?_
 clear hK K;(try simp only [pS,pB,pZ,pC]);refine tq 5 16 rfl ?_
 refine tq 6 10 rfl ?_
 refine dn ?_
 have HB:=Lib.hid hHeld.2;clear hHeld;go_wp2_with fail;go_ret;exact ⟨rfl,HB.out⟩
theorem refroot_one (h:Nat) (hh:h<18446744073709551616) (b o c:Nat) (w:World) (hc:w.cell? ⟨b,o,none⟩=some (.int .u64 (h:Int))) :
  Calls Tryz.prog 28 #[.slice (some ⟨b,o,none⟩) 1 c] w fun e w'=>e=.returned (.int .u64 (leafN h:Int))∧Below w.heap.size w w':=by
 have HL:=Lib.hid (fun W=>refleaf_any h hh W)
 clear hh;go_enter Tryz.func28,Tryz.ntmps28
 go_wp2_with fail;refine (HL.out _).mono ?_
 rintro e w' ⟨rfl,hb⟩;go_wp2_with fail;go_ret;exact ⟨rfl,hb⟩
theorem refpath_one (A:Option Addr) (c:Nat) (i:Int) (w:World) :
  Calls Tryz.prog 42 #[.slice A 1 c,.int .i64 i] w fun e w'=>e=.returned (.slice none 0 0)∧w'=w:=by
 go_enter Tryz.func42,Tryz.ntmps42
 go_wp2_with fail;go_ret;exact ⟨rfl,rfl⟩
theorem climb_one (h:Nat) (hh:h<18446744073709551616) (A:Option Addr) (c bg bh:Nat) (f:Value) (w:World) (hg:Blk w bg 4 #[.bool true]) (hb:Blk w bh 27 #[.int .u64 (h:Int)]) :
  Calls Tryz.prog 143 #[iI 0,iI 1,.slice A 0 c,.pointer (some ⟨bg,0,none⟩),.pointer (some ⟨bh,0,none⟩),f] w fun e w'=>e=.returned (.int .u64 (leafN h:Int))∧Below (w.heap.size) (w.setCell ⟨bg,0,none⟩ (.bool true)) w':=by
 have HL:=Lib.hid (fun W=>leaf_any h hh W)
 have hc:=hg.c1;have hd:=hb.c1;have hne:bh≠bg:=hb.ne hg (by decide)
 have hd2:=(hb.far (p:=⟨bg,0,none⟩) hne (.bool true)).c1;clear hh hg hb;go_enter Tryz.func143,Tryz.ntmps143
 go_wp2_with fail;refine (HL.out _).mono ?_
 rintro e w' ⟨rfl,hb⟩;go_wp2_with fail;go_ret;exact ⟨rfl,by simpa using hb⟩
theorem logcheck_ok (root h:Nat) (hh:h<18446744073709551616) (hr:root=leafN h) (A:Option Addr) (c:Nat) (w:World) :
  Calls Tryz.prog 98 #[.int .u64 (root:Int),.int .i64 0,.int .i64 1,.int .u64 (h:Int),.slice A 0 c] w fun e w'=>e=.returned (.int .i64 0)∧Below w.heap.size w w':=by
 have hne:((leafN h:Int) != (root:Int))=false:=by rw [hr];simp
 have X0:=(Blk.new w 27 #[.int .u64 (h:Int)]).alloc (.cells #[.bool true] 4);have G0:=Blk.new (w.alloc (.cells #[.int .u64 (h:Int)] 27)) 4 #[.bool true];rw [World.size_alloc] at G0;have P0:=(below_new w (.cells #[.int .u64 (h:Int)] 27)).alloc (by simp) (.cells #[.bool true] 4)
 have X1:=X0.alloc (.cells #[.func (.func 143) #[] #[.pointer (some ⟨w.heap.size+1,0,none⟩),.pointer (some ⟨w.heap.size,0,none⟩),.pointer (some ⟨w.heap.size+1+1,0,none⟩)]] 196)
 have G1:=G0.alloc (.cells #[.func (.func 143) #[] #[.pointer (some ⟨w.heap.size+1,0,none⟩),.pointer (some ⟨w.heap.size,0,none⟩),.pointer (some ⟨w.heap.size+1+1,0,none⟩)]] 196)
 have P1:=P0.alloc (by simp;omega) (.cells #[.func (.func 143) #[] #[.pointer (some ⟨w.heap.size+1,0,none⟩),.pointer (some ⟨w.heap.size,0,none⟩),.pointer (some ⟨w.heap.size+1+1,0,none⟩)]] 196)
 have HC:=Lib.hid (fun (W:World) (hg:Blk W (w.heap.size+1) 4 #[.bool true]) (hx:Blk W w.heap.size 27 #[.int .u64 (h:Int)])=>climb_one h hh A c (w.heap.size+1) w.heap.size (.pointer (some ⟨w.heap.size+1+1,0,none⟩)) W hg hx)
 generalize leafN h=lf at *;clear hr hh X0 G0 P0;go_enter Tryz.func98,Tryz.ntmps98
 go_wp2_with fail;refine (HC.out _ G1 X1).mono ?_
 rintro e w1 ⟨rfl,hb1⟩;have G2:=(G1.set1 (.bool true)).under hb1 (by simp)
 have hc2:=G2.c1;have P2:=(P1.setCell (p:=⟨w.heap.size+1,0,none⟩) (by simp) (.bool true)).trans (hb1.mono P1.size)
 clear G1 X1 P1 hb1;go_wp2_with fail;go_ret;exact ⟨rfl,P2⟩
theorem logcheck_bad (root h:Nat) (hh:h<18446744073709551616) (hr:root≠leafN h) (A:Option Addr) (c:Nat) (w:World) :
  Calls Tryz.prog 98 #[.int .u64 (root:Int),.int .i64 0,.int .i64 1,.int .u64 (h:Int),.slice A 0 c] w fun e w'=>e=.returned (.int .i64 10)∧Below w.heap.size w w':=by
 have hne:((leafN h:Int) != (root:Int))=true:=by
  simp only [bne_iff_ne,ne_eq];intro e;exact hr (by exact_mod_cast e.symm)
 have X0:=(Blk.new w 27 #[.int .u64 (h:Int)]).alloc (.cells #[.bool true] 4);have G0:=Blk.new (w.alloc (.cells #[.int .u64 (h:Int)] 27)) 4 #[.bool true];rw [World.size_alloc] at G0;have P0:=(below_new w (.cells #[.int .u64 (h:Int)] 27)).alloc (by simp) (.cells #[.bool true] 4)
 have X1:=X0.alloc (.cells #[.func (.func 143) #[] #[.pointer (some ⟨w.heap.size+1,0,none⟩),.pointer (some ⟨w.heap.size,0,none⟩),.pointer (some ⟨w.heap.size+1+1,0,none⟩)]] 196)
 have G1:=G0.alloc (.cells #[.func (.func 143) #[] #[.pointer (some ⟨w.heap.size+1,0,none⟩),.pointer (some ⟨w.heap.size,0,none⟩),.pointer (some ⟨w.heap.size+1+1,0,none⟩)]] 196)
 have P1:=P0.alloc (by simp;omega) (.cells #[.func (.func 143) #[] #[.pointer (some ⟨w.heap.size+1,0,none⟩),.pointer (some ⟨w.heap.size,0,none⟩),.pointer (some ⟨w.heap.size+1+1,0,none⟩)]] 196)
 have HC:=Lib.hid (fun (W:World) (hg:Blk W (w.heap.size+1) 4 #[.bool true]) (hx:Blk W w.heap.size 27 #[.int .u64 (h:Int)])=>climb_one h hh A c (w.heap.size+1) w.heap.size (.pointer (some ⟨w.heap.size+1+1,0,none⟩)) W hg hx)
 generalize leafN h=lf at *;clear hr hh X0 G0 P0;go_enter Tryz.func98,Tryz.ntmps98
 go_wp2_with fail;refine (HC.out _ G1 X1).mono ?_
 rintro e w1 ⟨rfl,hb1⟩;have G2:=(G1.set1 (.bool true)).under hb1 (by simp)
 have hc2:=G2.c1;have P2:=(P1.setCell (p:=⟨w.heap.size+1,0,none⟩) (by simp) (.bool true)).trans (hb1.mono P1.size)
 clear G1 X1 P1 hb1;go_wp2_with fail;go_ret;exact ⟨rfl,P2⟩
theorem mem_ready {md:Region.Mode} {ops:Array Oper} {L:Array Bool} {i:Nat}:i∈Region.ready md ops L↔i<ops.size∧L.getD i true=false∧((ops[i]?).map (·.after.all fun e=>!Region.binds md e || L.getD e.on false)).getD false=true:=by
 unfold Region.ready;simp only [List.mem_filter,List.mem_range,Bool.and_eq_true,Bool.not_eq_true']
theorem anyH_bag0 {P:Program} {md:Region.Mode} {ops:Array Oper} {Q:Exit→Act→World→Prop} {S:World→Prop} (J:List Nat) (hnd:J.Nodup) (I:Nat→World→Prop) (a:Act) (L0 L1:Array Bool) (f0:Nat)
  (hJ0:∀ j∈J,L0[j]?=some false)
  (hA:∀ j∈J,∃ o,ops[j]?=some o∧o.after.all (fun e=>!Region.binds md e || L0.getD e.on false)=true)
  (hB:∀ i,L0.getD i true=false→i ∉ J→∀ j∈J,∃ o,ops[i]?=some o∧∃ e∈o.after,Region.binds md e=true∧(e.on=j∨(L0.getD e.on false=false∧e.on ∉ J)))
  (h1:∀ i∈J,L1[i]?=some true) (h2:∀ i,i ∉ J→L1[i]?=L0[i]?)
  (hJ:∀ j∈J,∀ (m:Nat) (w:World) (K:Act→World→Prop),I (m+1) w→S w→(∀ w',I m w'→S w'→K a w')→wpOp P ops Q j K a w)
  (hend:∀ w,I 0 w→S w→wpAnyH P md ops Q S f0 L1 a w) :
  ∀ (m:Nat) (L:Array Bool),(J.filter (fun j=>!L.getD j true)).length=m→(∀ i,i ∉ J→L[i]?=L0[i]?)→(∀ j∈J,j<L.size)→∀ w,I m w→S w→wpAnyH P md ops Q S (f0+m) L a w:=by
 intro m
 induction m with
 | zero =>
  intro L hm hL hsz w hI hS
  have e:L=L1:=by
   refine Array.ext_getElem? fun i=>?_
   by_cases hi:i∈J
   ·rw [h1 i hi]
    have h3:¬ (!L.getD i true)=true:=fun h4=>by
     have h5:i∈J.filter (fun j=>!L.getD j true):=List.mem_filter.2 ⟨hi,h4⟩
     have:=List.length_pos_of_mem h5;omega
    have hlt:=hsz i hi;rw [Array.getElem?_eq_getElem hlt]
    rw [Array.getD_eq_getD_getElem?,Array.getElem?_eq_getElem hlt] at h3
    simpa using h3
   ·rw [hL i hi,h2 i hi]
  rw [e];exact hend w hI hS
 | succ m ih =>
  intro L hm hL hsz w hI hS
  obtain ⟨j0,hj0⟩:∃ j,j∈J.filter (fun j=>!L.getD j true):=by
   cases hf:J.filter (fun j=>!L.getD j true) with
   | nil=>rw [hf] at hm;simp at hm
   | cons x l=>exact ⟨x,by simp⟩
  obtain ⟨hj0J,hj0u⟩:=List.mem_filter.1 hj0;simp only [Bool.not_eq_true'] at hj0u;have hget:∀ i,i ∉ J→∀ d,L.getD i d=L0.getD i d:=fun i hi d=>by rw [Array.getD_eq_getD_getElem?,Array.getD_eq_getD_getElem?,hL i hi]
  show (Region.ready md ops L=[]→Q .normal a w)∧∀ i∈Region.ready md ops L,wpOp P ops Q i (fun a' w'=>S w'∧wpAnyH P md ops Q S (f0+m) (L.setIfInBounds i true) a' w') a w
  refine ⟨fun hr=>?_,fun i hi=>?_⟩
  ·exfalso
   obtain ⟨o,ho,hall⟩:=hA j0 hj0J
   have:j0∈Region.ready md ops L:=mem_ready.2 ⟨(Array.getElem?_eq_some_iff.1 ho).1,hj0u,by
    rw [ho];simp only [Option.map_some,Option.getD_some,Array.all_eq_true_iff_forall_mem] at hall ⊢;intro e he;have h3:=hall e he;simp only [Bool.or_eq_true] at h3 ⊢;rcases h3 with h3 | h3
    ·exact .inl h3
    ·refine .inr ?_
     by_cases heJ:e.on∈J
     ·rw [Array.getD_eq_getD_getElem?,hJ0 _ heJ] at h3
      simp at h3
     ·rw [hget _ heJ]
      exact h3⟩
   rw [hr] at this;simp at this
  ·obtain ⟨hi1,hi2,hi3⟩:=mem_ready.1 hi
   have hiJ:i∈J:=by
    refine Classical.byContradiction fun hiJ=>?_
    obtain ⟨o,ho,e,he,hb,hor⟩:=hB i (by rw [← hget i hiJ];exact hi2) hiJ j0 hj0J
    rw [ho] at hi3;simp only [Option.map_some,Option.getD_some,Array.all_eq_true_iff_forall_mem] at hi3;have h3:=hi3 e he;rw [hb] at h3;simp only [Bool.not_true,Bool.false_or] at h3;rcases hor with rfl | ⟨h4,h5⟩
    ·have hlt:=hsz _ hj0J
     rw [Array.getD_eq_getD_getElem?,Array.getElem?_eq_getElem hlt] at h3 hj0u
     simp at h3 hj0u;rw [h3] at hj0u;cases hj0u
    ·rw [hget _ h5,h4] at h3
     cases h3
   refine hJ i hiJ m w _ hI hS (fun w' hI' hS'=>⟨hS',ih (L.setIfInBounds i true) ?_ (fun k hk=>?_) (fun k hk=>by rw [Array.size_setIfInBounds];exact hsz k hk) w' hI' hS'⟩)
   ·have hlt:=hsz i hiJ
    have e:J.filter (fun j=>!(L.setIfInBounds i true).getD j true)=(J.filter (fun j=>!L.getD j true)).erase i:=by
     rw [List.Nodup.erase_eq_filter (List.Pairwise.filter _ hnd:List.Nodup _),List.filter_filter];refine List.filter_congr fun k hk=>?_
     by_cases hki:k=i
     ·subst hki
      simp [Array.getD_eq_getD_getElem?,hlt]
     ·have:(k != i)=true:=by simpa using hki
      rw [this,Bool.true_and,Array.getD_eq_getD_getElem?,Array.getD_eq_getD_getElem?,Array.getElem?_setIfInBounds_ne (Ne.symm hki)]
    rw [e,List.length_erase_of_mem (List.mem_filter.2 ⟨hiJ,by simpa using hi2⟩),hm]
    rfl
   ·rw [Array.getElem?_setIfInBounds_ne (fun e:i=k=>hk (e ▸ hiJ))]
    exact hL k hk
def bagOk (md:Region.Mode) (ops:Array Oper) (L0:Array Bool) (J:List Nat):Bool :=
 J.all (fun j=>(L0[j]? == some false) && (match ops[j]? with | some o=>o.after.all (fun e=>!Region.binds md e || L0.getD e.on false) | none=>false)) &&
  (List.range L0.size).all (fun i=>L0.getD i true || J.contains i || J.all (fun j=>match ops[i]? with | some o=>o.after.any (fun e=>Region.binds md e && (e.on == j || (!L0.getD e.on false && !J.contains e.on))) | none=>false))
theorem foldl_out:∀ (J:List Nat) (L:Array Bool) (i:Nat),i ∉ J→(J.foldl (fun L j=>L.setIfInBounds j true) L)[i]?=L[i]?
 | [],_,_,_=>rfl
 | j::J,L,i,h=>by
  simp only [List.mem_cons,not_or] at h;rw [List.foldl_cons,foldl_out J _ i h.2,Array.getElem?_setIfInBounds_ne (Ne.symm h.1)]
theorem foldl_in:∀ (J:List Nat) (L:Array Bool) (i:Nat),i∈J→i<L.size→(J.foldl (fun L j=>L.setIfInBounds j true) L)[i]?=some true
 | [],_,_,h,_=>by cases h
 | j::J,L,i,h,hi=>by
  rw [List.foldl_cons];by_cases h2:i∈J
  ·exact foldl_in J _ i h2 (by rw [Array.size_setIfInBounds];exact hi)
  ·have:i=j:=by simpa [h2] using h
   subst this;rw [foldl_out J _ i h2,Array.getElem?_setIfInBounds_self_of_lt hi]
theorem anyH_bag {P:Program} {md:Region.Mode} {ops:Array Oper} {Q:Exit→Act→World→Prop} {S:World→Prop} {L0:Array Bool} (J:List Nat) (hnd:J.Nodup) (hok:bagOk md ops L0 J=true) (I:Nat→World→Prop) (a:Act) (f0:Nat)
  (hJ:∀ j∈J,∀ (m:Nat) (w:World) (K:Act→World→Prop),I (m+1) w→S w→(∀ w',I m w'→S w'→K a w')→wpOp P ops Q j K a w)
  (hend:∀ w,I 0 w→S w→wpAnyH P md ops Q S f0 (J.foldl (fun L j=>L.setIfInBounds j true) L0) a w) (w:World) (hI:I J.length w) (hS:S w):wpAnyH P md ops Q S (f0+J.length) L0 a w:=by
 unfold bagOk at hok;simp only [Bool.and_eq_true,List.all_eq_true,beq_iff_eq,List.mem_range,Bool.or_eq_true] at hok;have hlt:∀ j∈J,j<L0.size:=fun j hj=>(Array.getElem?_eq_some_iff.1 (hok.1 j hj).1).1
 refine anyH_bag0 J hnd I a L0 _ f0 (fun j hj=>(hok.1 j hj).1) (fun j hj=>?_) (fun i hi hn j hj=>?_) (fun i hi=>foldl_in J L0 i hi (hlt i hi)) (fun i hi=>foldl_out J L0 i hi) hJ hend J.length L0 ?_ (fun _ _=>rfl) hlt w hI hS
 ·have h:=(hok.1 j hj).2
  cases ho:ops[j]? with
  | none=>rw [ho] at h;cases h
  | some o=>rw [ho] at h;exact ⟨o,rfl,h⟩
 ·have hil:i<L0.size:=by
   refine Classical.byContradiction fun h=>?_
   rw [Array.getD_eq_getD_getElem?,Array.getElem?_eq_none (by omega)] at hi
   cases hi
  rcases hok.2 i hil with (h | h) | h
  ·rw [h] at hi;cases hi
  ·exact absurd (by simpa using h) hn
  ·have h:=h j hj
   cases ho:ops[i]? with
   | none=>rw [ho] at h;cases h
   | some o =>
    rw [ho] at h;dsimp only at h;rw [← Array.any_toList,List.any_eq_true] at h;obtain ⟨e,he,h⟩:=h;simp only [Bool.and_eq_true,Bool.or_eq_true,beq_iff_eq,Bool.not_eq_true'] at h;refine ⟨o,rfl,e,by simpa using he,h.1,?_⟩
    rcases h.2 with h | ⟨h1,h2⟩
    ·exact .inl h
    ·exact .inr ⟨h1,by simpa using h2⟩
 ·congr 1
  refine List.filter_eq_self.2 fun j hj=>?_
  have h:=(hok.1 j hj).1;rw [Array.getD_eq_getD_getElem?,h];rfl
def boolR:Value→Option (DataW Unit × List MemPlace)
 | .bool b=>some (.lit (.bool b),[])
 | _=>none
def bitsD:List (Int × Bool)→DataW Unit
 | []=>.map []
 | p::l=>(bitsD l).put (.int .i64 p.1) (.lit (.bool p.2))
theorem bitsD_map:∀ l:List (Int × Bool),Maps.IsMap (bitsD l)
 | []=>⟨[],rfl⟩
 | _::l=>(bitsD_map l).put _ _
theorem bitsD_at (x:Int):∀ (l:List (Int × Bool)),(∀ zd:DataW Unit,(bitsD l).atKey (.int .i64 x) zd=.lit (.bool true))→∃ p∈l,p.1=x∧p.2=true
 | [],h=>by
  have:=h .nil;unfold bitsD at this;simp [DataW.atKey] at this
 | p::l,h=>by
  by_cases hx:p.1=x
  ·have:=h .nil
   rw [bitsD,hx,Maps.atKey_put_same (bitsD_map l) (by trivial)] at this
   injection this with this
   injection this with this
   exact ⟨p,by simp,hx,this⟩
  ·obtain ⟨q,hq,h3⟩:=bitsD_at x l (fun zd=>by
    have:=h zd;rw [bitsD,Maps.atKey_put_other (fun e=>hx (by injection e with _ e;exact e.symm))] at this
    exact this)
   exact ⟨q,by simp [hq],h3⟩
theorem wpOp_ins {ops:Array Oper} {o:Oper} {i:Nat} {a:Act} {w:World} {Q:Exit→Act→World→Prop} {K:Act→World→Prop} (ho:ops[i]?=some o) (hg:o.guard=none) (hd:o.dst=none) (m x v:Operand) (hop:o.op=Op.insert 197 m x v)
  (mb n:Nat) (l:List (Int × Bool)) (hm:a.eval m=.map (some mb)) (hown:w.ownsMap Tryz.prog 3 boolR mb n (bitsD l)) (hn:n<1000) (k:Int) (b:Bool) (hx:a.eval x=.int .i64 k) (hk0:0≤k) (hk1:k≤1000000) (hv:a.eval v=.bool b)
  (hK:∀ w',w'.ownsMap Tryz.prog 3 boolR mb (n+1) (bitsD ((k,b)::l))→w.grownBy w' (some mb)→K a w'):wpOp Tryz.prog ops Q i K a w:=by
 refine wpOp_step ho fun K' hK'=>?_
 rw [if_pos (by simp only [Region.wanted,hg])]
 obtain ⟨w',hrun,r1,r2⟩:=hown.store (Maps.int_keyed Tryz.underlying3) Tryz.underlying197 (by unfold maxLen;omega) (key:=.int .i64 k) (val:=.bool b) (Maps.keyOf_int_mk Tryz.underlying3 (WalkArith.wf_i64 ⟨by omega,by omega⟩)) (d:=.lit (.bool b)) (ps:=[]) rfl
 unfold Oper.wp;simp [execOp,hop,hm,hx,hv,hrun,Result.andThen];simp only [Oper.upon,hg,hd] at *;exact hK' _ _ (hK w' r1 r2.grown)
def BagI (mb m:Nat) (w:World):Prop:=∃ l:List (Int × Bool),l.length+m=11∧w.ownsMap Tryz.prog 3 boolR mb l.length (bitsD l)∧∀ p∈l,p.2=true→p.1=1∨p.1=2∨p.1=4∨p.1=8∨p.1=128∨p.1=512
theorem bareS {w W W':World} {mb:Nat} {cA cF:Array Value} (h:Blk W w.heap.size 41 cA∧Blk W (w.heap.size+1) 39 cF∧Below w.heap.size w W) {row:Option Nat} (hg:W.grownBy W' row) (hr:∀ q,row=some q→q=mb) (hmb:w.heap.size+1<mb) :
  Blk W' w.heap.size 41 cA∧Blk W' (w.heap.size+1) 39 cF∧Below w.heap.size w W' :=
 ⟨h.1.grown hg (fun e=>by have:=hr _ e.symm;omega),h.2.1.grown hg (fun e=>by have:=hr _ e.symm;omega),h.2.2.grown hg h.2.2.size (fun q e=>by have:=hr _ e;omega)⟩
def OkM (m:Int):Prop:=∃ b:BitVec 64,b ||| 655#64=655#64∧m=(b.toNat:Int)
theorem OkM.zero:OkM 0:=⟨0#64,by decide,rfl⟩
theorem OkM.bound {m:Int} (h:OkM m):0≤m∧m≤655:=by
 obtain ⟨b,hb,rfl⟩:=h;refine ⟨by omega,?_⟩
 have h1:(b ||| 655#64).toNat=655:=by rw [hb];rfl
 rw [BitVec.toNat_or] at h1;have h2:b.toNat≤b.toNat ||| (655#64).toNat:=Nat.left_le_or
 omega
theorem ofInt_toNat (b:BitVec 64):BitVec.ofInt 64 (b.toNat:Int)=b:=by
 rw [BitVec.ofInt_natCast,BitVec.ofNat_toNat];simp
theorem OkM.or {m k:Int} (h:OkM m) (hk:k=1∨k=2∨k=4∨k=8∨k=128∨k=512):OkM (IntKind.i64.wrap (((BitVec.ofInt 64 m ||| BitVec.ofInt 64 k).toNat:Nat):Int)):=by
 obtain ⟨b,hb,rfl⟩:=h;rw [ofInt_toNat];have hkk:BitVec.ofInt 64 k ||| 655#64=655#64:=by rcases hk with rfl | rfl | rfl | rfl | rfl | rfl <;> decide
 have h1:(b ||| BitVec.ofInt 64 k) ||| 655#64=655#64:=by rw [BitVec.or_assoc,hkk,hb]
 have h2:=OkM.bound ⟨_,h1,rfl⟩;rw [show IntKind.i64.wrap (((b ||| BitVec.ofInt 64 k).toNat:Nat):Int)=(((b ||| BitVec.ofInt 64 k).toNat:Nat):Int) from by rw [IntKind.wrap_i64];omega]
 exact ⟨_,h1,rfl⟩
theorem OkM.clear {m:Int} (h:OkM m):(BitVec.ofInt 64 m &&& ~~~(BitVec.ofInt 64 655)).toNat=0:=by
 obtain ⟨b,hb,rfl⟩:=h;rw [ofInt_toNat]
 have:b &&& ~~~(655#64)=0#64:=by
  rw [← hb];apply BitVec.eq_of_getLsbD_eq;intro i hi;simp only [BitVec.getLsbD_and,BitVec.getLsbD_not,BitVec.getLsbD_or,BitVec.getLsbD_zero];cases b.getLsbD i <;> simp
 show (b &&& ~~~(655#64)).toNat=0
 rw [this];rfl
theorem wpList_next_bits {w:World} {ops:Array Oper} {rest:List Oper} {o:Oper} {a:Act} {Q:Exit→Act→World→Prop} (hg:o.guard=none) (it:Operand) (hop:o.op=Op.next it false) (l:List (Int × Bool)) (hk:∀ p∈l,p.2=true→p.1=1∨p.1=2∨p.1=4∨p.1=8∨p.1=128∨p.1=512)
  (b r n:Nat) (left:Lit→Bool) (cnt:Nat) (hit:a.eval it=.pointer (some ⟨r,0,none⟩)) (h:w.ranges Tryz.prog 3 boolR b r n (bitsD l) left cnt)
  (hDone:wpList Tryz.prog ops Q rest (a.put o.dst (.tuple #[.bool false])) w)
  (hF:∀ (x:Int) (w':World) (left':Lit→Bool) (cnt':Nat),Hid (w'.ranges Tryz.prog 3 boolR b r n (bitsD l) left' cnt')→cnt'<cnt→w.grownBy w' (some r)→(Instr.entry (.pointer (some ⟨r,0,none⟩))).run Tryz.prog w'=.ok (.tuple #[.int .i64 x,.bool false]) w' →
   wpList Tryz.prog ops Q rest (a.put o.dst (.tuple #[.bool true,.int .i64 x,.bool false])) w')
  (hT:∀ (x:Int) (w':World) (left':Lit→Bool) (cnt':Nat),Hid (x=1∨x=2∨x=4∨x=8∨x=128∨x=512)→Hid (w'.ranges Tryz.prog 3 boolR b r n (bitsD l) left' cnt')→cnt'<cnt→w.grownBy w' (some r)→(Instr.entry (.pointer (some ⟨r,0,none⟩))).run Tryz.prog w'=.ok (.tuple #[.int .i64 x,.bool true]) w' →
   wpList Tryz.prog ops Q rest (a.put o.dst (.tuple #[.bool true,.int .i64 x,.bool true])) w') :
  wpList Tryz.prog ops Q (o::rest) a w:=by
 refine wpList_next_ranges w hg it hop 3 (Maps.int_keyed Tryz.underlying3) boolR (Value.int .i64) Value.bool (fun key kl hkey=>by obtain ⟨x,rfl,_⟩:=Maps.keyOf_int_inv Tryz.underlying3 hkey;exact ⟨x,rfl⟩) (fun u y hu=>by cases u <;> simp [boolR] at hu;exact ⟨_,rfl⟩) b r n _ left cnt hit h (fun _ _=>hDone) ?_
 intro x c kl y w' cnt' hkey hlk hv hat hrg hlt hgr hsz hen
 cases c with
 | false=>exact hF x w' _ cnt' hrg hlt hgr hen
 | true =>
  refine hT x w' _ cnt' ?_ hrg hlt hgr hen
  obtain ⟨x',ex,rfl,_⟩:=Maps.keyOf_int_inv Tryz.underlying3 hkey;cases ex
  cases hv
  obtain ⟨p,hp,rfl,hp2⟩:=bitsD_at x l hat;exact hk p hp hp2
theorem bare_any (w:World) (hG:w.cell? ⟨0,0,none⟩=some (.int .i64 655)) (h0:0<w.heap.size) (day known file office party other:Int) (Ad Ac Al Ae Ai Ak:Option Addr) (nd cd nc cc cl ne ce ci ck:Nat) (hnd:nd≤1000000) (hnc:nc≤1000000) :
  Calls Tryz.prog 100 #[.agg #[iI 0,iI day,iI known,iI file,iI office,iI party,iI other,iI 0,iI 0,iI 0,iI 0,.slice Ad nd cd,.slice Ac nc cc,.slice Al 0 cl,.slice Ae ne ce,iI 0,iI 0,.slice Ai 0 ci,.slice Ak 0 ck]] w
   fun e w'=>e=.returned (.bool true)∧Below w.heap.size w w':=by
 have X0:=(Blk.new w 41 #[iI 0,iI day,iI known,iI file,iI office,iI party,iI other,iI 0,iI 0,iI 0,iI 0,.slice Ad nd cd,.slice Ac nc cc,.slice Al 0 cl,.slice Ae ne ce,iI 0,iI 0,.slice Ai 0 ci,.slice Ak 0 ck]);have P0:=below_new w (.cells #[iI 0,iI day,iI known,iI file,iI office,iI party,iI other,iI 0,iI 0,iI 0,iI 0,.slice Ad nd cd,.slice Ac nc cc,.slice Al 0 cl,.slice Ae ne ce,iI 0,iI 0,.slice Ai 0 ci,.slice Ak 0 ck] 41);have hc:=X0.c19;go_enter Tryz.func100,Tryz.ntmps100
 have X1:=X0.alloc (.cells #[.int .i64 0,.int .i64 0,.slice Ai 0 ci,.slice Ak 0 ck] 39);have Y1:=Blk.new (w.alloc (.cells #[iI 0,iI day,iI known,iI file,iI office,iI party,iI other,iI 0,iI 0,iI 0,iI 0,.slice Ad nd cd,.slice Ac nc cc,.slice Al 0 cl,.slice Ae ne ce,iI 0,iI 0,.slice Ai 0 ci,.slice Ak 0 ck] 41)) 39 #[.int .i64 0,.int .i64 0,.slice Ai 0 ci,.slice Ak 0 ck];rw [World.size_alloc] at Y1;have P1:=P0.alloc P0.size (.cells #[.int .i64 0,.int .i64 0,.slice Ai 0 ci,.slice Ak 0 ck] 39);go_upto_region 3 with fail;clear hc X0 P0;generalize ((w.alloc (.cells #[iI 0,iI day,iI known,iI file,iI office,iI party,iI other,iI 0,iI 0,iI 0,iI 0,.slice Ad nd cd,.slice Ac nc cc,.slice Al 0 cl,.slice Ae ne ce,iI 0,iI 0,.slice Ai 0 ci,.slice Ak 0 ck] 41)).alloc (.cells #[.int .i64 0,.int .i64 0,.slice Ai 0 ci,.slice Ak 0 ck] 39))=w2 at *;refine wp_region_held_drew (S:=(fun w'=>Blk w' w.heap.size 41 #[iI 0,iI day,iI known,iI file,iI office,iI party,iI other,iI 0,iI 0,iI 0,iI 0,.slice Ad nd cd,.slice Ac nc cc,.slice Al 0 cl,.slice Ae ne ce,iI 0,iI 0,.slice Ai 0 ci,.slice Ak 0 ck]∧Blk w' (w.heap.size+1) 39 #[.int .i64 0,.int .i64 0,.slice Ai 0 ci,.slice Ak 0 ck]∧Below w.heap.size w w')) (by kernel_rfl) ?_ (fun hHeld=>?_)
 ·first | done | ((try dsimp only);exact ⟨X1.drew,Y1.drew,P1.drew⟩)
 clear X1 Y1 P1;refine tq 1 10 rfl ?_
 refine th 2 11 rfl (fun _ hSw=>hSw.1.cell 3) ?_
 refine tq 3 12 rfl ?_
 refine tq 5 13 rfl ?_
 refine th 6 14 rfl (fun _ hSw=>hSw.1.cell 4) ?_
 refine tq 7 15 rfl ?_
 refine tq 9 16 rfl ?_
 refine th 10 17 rfl (fun _ hSw=>hSw.1.cell 5) ?_
 refine tq 11 18 rfl ?_
 refine tq 13 19 rfl ?_
 refine th 14 20 rfl (fun _ hSw=>hSw.1.cell 6) ?_
 refine tq 15 21 rfl ?_
 refine tq 17 22 rfl ?_
 refine th 18 23 rfl (fun _ hSw=>hSw.1.cell 7) ?_
 refine tq 19 24 rfl ?_
 refine tq 21 25 rfl ?_
 refine th 22 26 rfl (fun _ hSw=>hSw.1.cell 8) ?_
 refine tq 23 27 rfl ?_
 refine tq 25 28 rfl ?_
 refine tq 26 29 rfl ?_ (hy:=by intro w' hSw;(try dsimp only at hSw);have hc:=hSw.1.cell 9;have hc2:=hSw.1.cell 10;go_simp;try (with_reducible rfl))
 refine tq 27 30 rfl ?_
 refine tq 28 31 rfl ?_
 refine tq 30 32 rfl ?_
 refine tq 31 33 rfl ?_
 refine th 32 34 rfl (fun _ hSw=>hSw.1.cell 11) ?_
 refine tq 33 35 rfl ?_
 refine tq 34 36 rfl ?_
 refine tq 35 37 rfl ?_
 refine th 36 38 rfl (fun _ hSw=>hSw.1.cell 12) ?_
 refine tq 37 39 rfl ?_
 refine tq 38 40 rfl ?_
 refine tq 39 41 rfl ?_
 refine tq 41 42 rfl ?_
 refine th 42 43 rfl (fun _ hSw=>hSw.1.cell 13) ?_
 refine tq 43 44 rfl ?_
 refine tq 44 45 rfl ?_
 refine tq 46 46 rfl ?_
 refine th 47 47 rfl (fun _ hSw=>hSw.1.cell 14) ?_
 refine tq 48 48 rfl ?_
 refine tq 49 49 rfl ?_
 refine tq 51 50 rfl ?_
 refine th 52 51 rfl (fun _ hSw=>hSw.2.1.cell 0) ?_
 refine tq 53 52 rfl ?_
 refine tq 54 53 rfl ?_
 refine tq 55 54 rfl ?_
 refine th 56 55 rfl (fun _ hSw=>hSw.2.1.cell 1) ?_
 refine tq 57 56 rfl ?_
 refine tq 58 57 rfl ?_
 refine tq 59 58 rfl ?_
 refine tq 60 59 rfl ?_
 refine th 61 60 rfl (fun _ hSw=>hSw.2.1.cell 2) ?_
 refine tq 62 61 rfl ?_
 refine tq 63 62 rfl ?_
 refine th 64 63 rfl (fun _ hSw=>hSw.2.1.cell 3) ?_
 refine tq 65 64 rfl ?_
 refine tq 66 65 rfl ?_
 refine tq 67 66 rfl ?_
 refine tq 68 67 rfl ?_
 have hmk:=run_makeMap (P:=Tryz.prog) 197 w2.drew;have hlt1:w.heap.size+1<w2.drew.heap.size:=hHeld.2.1.lt;have M0:(w2.drew.alloc (.map #[] 0)).ownsMap Tryz.prog 3 boolR w2.drew.heap.size 0 (bitsD []):=World.ownsMap_made w2.drew Tryz.prog 3 boolR;refine rd 0 (some 9) rfl fun K hK=>?_
 go_simp;skip;refine hK.out _ _ (⟨hHeld.1.alloc _,hHeld.2.1.alloc _,hHeld.2.2.alloc hHeld.2.2.size _⟩) fun hHeld=>?_
 clear hK K;(try simp only [pS,pB,pZ,pC]);clear hmk;refine anyH_bag [4,8,12,16,20,24,29,40,45,50,69] (by decide) (by kernel_rfl) (BagI w2.drew.heap.size) _ 2 ?_ ?_ _ ⟨[],rfl,M0,by simp⟩ hHeld
 ·intro j hj m wj K ⟨l,hl,hown,hk⟩ hS hK
  simp only [List.mem_cons,List.not_mem_nil,or_false] at hj;rcases hj with rfl | rfl | rfl | rfl | rfl | rfl | rfl | rfl | rfl | rfl | rfl
  ·refine wpOp_ins (o:=⟨none,_,_,_,_,_⟩) rfl rfl rfl _ _ _ rfl w2.drew.heap.size _ _ rfl hown (by omega) 1 _ rfl (by omega) (by omega) rfl (fun w' hown' hgr=>hK w' ⟨_::l,by simp only [List.length_cons];omega,hown',fun p hp hpb=>?_⟩ (bareS hS hgr (fun q e=>by cases e;rfl) hlt1))
   rcases List.mem_cons.1 hp with rfl | hp
   ·exact by simp
   ·exact hk p hp hpb
  ·refine wpOp_ins (o:=⟨none,_,_,_,_,_⟩) rfl rfl rfl _ _ _ rfl w2.drew.heap.size _ _ rfl hown (by omega) 2 _ rfl (by omega) (by omega) rfl (fun w' hown' hgr=>hK w' ⟨_::l,by simp only [List.length_cons];omega,hown',fun p hp hpb=>?_⟩ (bareS hS hgr (fun q e=>by cases e;rfl) hlt1))
   rcases List.mem_cons.1 hp with rfl | hp
   ·exact by simp
   ·exact hk p hp hpb
  ·refine wpOp_ins (o:=⟨none,_,_,_,_,_⟩) rfl rfl rfl _ _ _ rfl w2.drew.heap.size _ _ rfl hown (by omega) 4 _ rfl (by omega) (by omega) rfl (fun w' hown' hgr=>hK w' ⟨_::l,by simp only [List.length_cons];omega,hown',fun p hp hpb=>?_⟩ (bareS hS hgr (fun q e=>by cases e;rfl) hlt1))
   rcases List.mem_cons.1 hp with rfl | hp
   ·exact by simp
   ·exact hk p hp hpb
  ·refine wpOp_ins (o:=⟨none,_,_,_,_,_⟩) rfl rfl rfl _ _ _ rfl w2.drew.heap.size _ _ rfl hown (by omega) 8 _ rfl (by omega) (by omega) rfl (fun w' hown' hgr=>hK w' ⟨_::l,by simp only [List.length_cons];omega,hown',fun p hp hpb=>?_⟩ (bareS hS hgr (fun q e=>by cases e;rfl) hlt1))
   rcases List.mem_cons.1 hp with rfl | hp
   ·exact by simp
   ·exact hk p hp hpb
  ·refine wpOp_ins (o:=⟨none,_,_,_,_,_⟩) rfl rfl rfl _ _ _ rfl w2.drew.heap.size _ _ rfl hown (by omega) 16 _ rfl (by omega) (by omega) rfl (fun w' hown' hgr=>hK w' ⟨_::l,by simp only [List.length_cons];omega,hown',fun p hp hpb=>?_⟩ (bareS hS hgr (fun q e=>by cases e;rfl) hlt1))
   rcases List.mem_cons.1 hp with rfl | hp
   ·exact by cases hpb
   ·exact hk p hp hpb
  ·refine wpOp_ins (o:=⟨none,_,_,_,_,_⟩) rfl rfl rfl _ _ _ rfl w2.drew.heap.size _ _ rfl hown (by omega) 32 _ rfl (by omega) (by omega) rfl (fun w' hown' hgr=>hK w' ⟨_::l,by simp only [List.length_cons];omega,hown',fun p hp hpb=>?_⟩ (bareS hS hgr (fun q e=>by cases e;rfl) hlt1))
   rcases List.mem_cons.1 hp with rfl | hp
   ·exact by cases hpb
   ·exact hk p hp hpb
  ·refine wpOp_ins (o:=⟨none,_,_,_,_,_⟩) rfl rfl rfl _ _ _ rfl w2.drew.heap.size _ _ rfl hown (by omega) 64 _ rfl (by omega) (by omega) rfl (fun w' hown' hgr=>hK w' ⟨_::l,by simp only [List.length_cons];omega,hown',fun p hp hpb=>?_⟩ (bareS hS hgr (fun q e=>by cases e;rfl) hlt1))
   rcases List.mem_cons.1 hp with rfl | hp
   ·exact by cases hpb
   ·exact hk p hp hpb
  ·refine wpOp_ins (o:=⟨none,_,_,_,_,_⟩) rfl rfl rfl _ _ _ rfl w2.drew.heap.size _ _ rfl hown (by omega) 128 _ rfl (by omega) (by omega) rfl (fun w' hown' hgr=>hK w' ⟨_::l,by simp only [List.length_cons];omega,hown',fun p hp hpb=>?_⟩ (bareS hS hgr (fun q e=>by cases e;rfl) hlt1))
   rcases List.mem_cons.1 hp with rfl | hp
   ·exact by simp
   ·exact hk p hp hpb
  ·refine wpOp_ins (o:=⟨none,_,_,_,_,_⟩) rfl rfl rfl _ _ _ rfl w2.drew.heap.size _ _ rfl hown (by omega) 256 _ rfl (by omega) (by omega) rfl (fun w' hown' hgr=>hK w' ⟨_::l,by simp only [List.length_cons];omega,hown',fun p hp hpb=>?_⟩ (bareS hS hgr (fun q e=>by cases e;rfl) hlt1))
   rcases List.mem_cons.1 hp with rfl | hp
   ·exact by cases hpb
   ·exact hk p hp hpb
  ·refine wpOp_ins (o:=⟨none,_,_,_,_,_⟩) rfl rfl rfl _ _ _ rfl w2.drew.heap.size _ _ rfl hown (by omega) 512 _ rfl (by omega) (by omega) rfl (fun w' hown' hgr=>hK w' ⟨_::l,by simp only [List.length_cons];omega,hown',fun p hp hpb=>?_⟩ (bareS hS hgr (fun q e=>by cases e;rfl) hlt1))
   rcases List.mem_cons.1 hp with rfl | hp
   ·exact by simp
   ·exact hk p hp hpb
  ·refine wpOp_ins (o:=⟨none,_,_,_,_,_⟩) rfl rfl rfl _ _ _ rfl w2.drew.heap.size _ _ rfl hown (by omega) 1024 _ rfl (by omega) (by omega) rfl (fun w' hown' hgr=>hK w' ⟨_::l,by simp only [List.length_cons];omega,hown',fun p hp hpb=>?_⟩ (bareS hS hgr (fun q e=>by cases e;rfl) hlt1))
   rcases List.mem_cons.1 hp with rfl | hp
   ·exact by cases hpb
   ·exact hk p hp hpb
 ·intro w4 ⟨l,hl,hown,hk⟩ hS
  obtain ⟨w5,hrun,r1,r2,r3⟩:=hown.range (Maps.int_keyed Tryz.underlying3) Tryz.underlying197;have hrun:(Instr.range 197 (.map (some w2.heap.size))).run Tryz.prog w4=.ok (.pointer (some ⟨w4.heap.size,0,none⟩)) w5:=hrun;refine tq 70 68 rfl ?_
  have hS5:=bareS hS r2 (fun q e=>by cases e) hlt1
  refine rd 71 (some 69) rfl fun K hK=>?_
  go_simp;skip;refine hK.out _ _ (hS5) fun hHeld=>?_
  clear hK K;(try simp only [pS,pB,pZ,pC]);refine dn ?_
  obtain ⟨X2,Y2,P2⟩:=hS5;have hlt4:w.heap.size<w4.heap.size:=hS.1.lt;have HKK:=Lib.hid hk;have r1:w5.ranges Tryz.prog 3 boolR w2.heap.size w4.heap.size l.length (bitsD l) _ _:=r1;have HR1:=Lib.hid r1;clear hrun hk hHeld hS Y2 M0 hlt1 r1 hown r2 r3;generalize w2.heap.size=mb at *;have hwr:IntKind.i64.wrap ((nd:Int)+(nc:Int))=(nd:Int)+nc:=by rw [IntKind.wrap_i64];omega
  simp only [hwr];clear hwr;generalize (nd:Int)+(nc:Int)=nn at *;go_wp2_with fail;go_loopw [4] (fun m wr=>∃ (v:Int) (left:Lit→Bool) (cnt:Nat),m=.int .i64 v∧OkM v∧wr.ranges Tryz.prog 3 boolR mb w4.heap.size l.length (bitsD l) left cnt∧Below w.heap.size w wr∧Blk wr w.heap.size 41 #[iI 0,iI day,iI known,iI file,iI office,iI party,iI other,iI 0,iI 0,iI 0,iI 0,.slice Ad nd cd,.slice Ac nc cc,.slice Al 0 cl,.slice Ae ne ce,iI 0,iI 0,.slice Ai 0 ci,.slice Ak 0 ck]) (fun _ wr=>wr.rangeLeft mb w4.heap.size)
  case atStart=>exact ⟨0,_,_,rfl,OkM.zero,HR1.out,P2,X2⟩
  case round =>
   obtain ⟨v,left,cnt,rfl,hv,hrg,hB,hX⟩:=hrel;have HV:=Lib.hid hv;have HRG:=Lib.hid hrg;clear hv hrg;have hc:wr.cell? ⟨w.heap.size,0,none⟩=some (.int .i64 0):=hX.cell 0;have hG2:=(hB.cell (p:=⟨0,0,none⟩) h0).trans hG;go_wp2_with (at_next;refine wpList_next_bits rfl _ rfl l HKK.out mb w4.heap.size _ _ _ rfl HRG.out ?_ (fun x w6 left6 cnt6 hr6 hlt6 hg6 he6=>?_) (fun x w6 left6 cnt6 hx6 hr6 hlt6 hg6 he6=>?_))
   ·go_ret
    refine ⟨?_,hB⟩
    refine congrArg (fun b=>Ending.returned (Value.bool b)) (a₂:=true) ?_
    have h7:=OkM.clear HV.out
    show (IntKind.i64.wrap (((BitVec.ofInt 64 v &&& ~~~(BitVec.ofInt 64 655)).toNat:Nat):Int) == 0)=true
    rw [h7];rfl
   ·have X6:=hX.grown hg6 (fun e=>by injection e with e;omega)
    have P6:=hB.grown hg6 hB.size (fun q e=>by injection e with e;omega)
    have hm6:w6.rangeLeft mb w4.heap.size<wr.rangeLeft mb w4.heap.size:=by rw [hr6.out.left_eq,HRG.out.left_eq];omega
    go_roundw
    case rel=>exact ⟨_,_,_,_,_,_,_,_,_,_,_,_,⟨v,left6,cnt6,rfl,HV.out,hr6.out,P6,X6⟩,rfl⟩
    case measure=>exact hm6
   ·have X6:=hX.grown hg6 (fun e=>by injection e with e;omega)
    have P6:=hB.grown hg6 hB.size (fun q e=>by injection e with e;omega)
    have hm6:w6.rangeLeft mb w4.heap.size<wr.rangeLeft mb w4.heap.size:=by rw [hr6.out.left_eq,HRG.out.left_eq];omega
    go_roundw
    case rel=>exact ⟨_,_,_,_,_,_,_,_,_,_,_,_,⟨_,left6,cnt6,rfl,OkM.or HV.out hx6.out,hr6.out,P6,X6⟩,rfl⟩
    case measure=>exact hm6
def prD (e:List (Int × Int)):List D:=e.flatMap fun p=>[.v (.int .i64 p.1),.v (.int .i64 p.2)]
theorem prD_length (e:List (Int × Int)):(prD e).length=e.length * 2:=flat_length (fun _ _=>rfl)
theorem Rep.pairs {W:World} {B:Nat} {v:Value} {l:List (Int × Int)} (h:Rep W B v (.s 2 (prD l))):∃ (A:Option Addr) (c:Nat),v=.slice A l.length c∧l.length≤c ∧
  ∀ (k:Nat) (hk:k<l.length),∃ b o,A=some ⟨b,o,none⟩∧b<B∧W.cell? ⟨b,o+k * 2,none⟩=some (.int .i64 l[k].1)∧W.cell? ⟨b,o+k * 2+1,none⟩=some (.int .i64 l[k].2):=by
 obtain ⟨A,n,c,rfl,hn,hl,hc⟩:=h.slice;rw [prD_length] at hl;obtain rfl:n=l.length:=by omega
 refine ⟨A,c,rfl,hn,fun k hk=>?_⟩
 obtain ⟨b,o,cs,rfl,hb,hr,hcell⟩:=hc (by omega)
 have hp:=flat_part (l:=l) (f:=fun p=>[D.v (.int .i64 p.1),D.v (.int .i64 p.2)]) (k:=2) (i:=k) (a:=l[k]) (fun _ _=>rfl) (List.getElem?_eq_getElem hk)
 have hr2:=(hr.drop (k * 2)).take 2;unfold prD at hr2;rw [hp] at hr2;have hlen:=hr.1;rw [prD_length] at hlen;have g0:k * 2<cs.length:=by omega
 have g1:k * 2+1<cs.length:=by omega
 have e:(cs.drop (k * 2)).take 2=[cs[k * 2],cs[k * 2+1]]:=by
  rw [List.drop_eq_getElem_cons g0,List.drop_eq_getElem_cons g1];rfl
 rw [e] at hr2;have q0:=(hr2.2 0 _ _ rfl rfl).plain;have q1:=(hr2.2 1 _ _ rfl rfl).plain;refine ⟨b,o,rfl,hb,?_,?_⟩
 ·rw [← q0];exact hcell _ _ (List.getElem?_eq_getElem g0)
 ·rw [← q1];exact hcell _ _ (List.getElem?_eq_getElem g1)
structure Fil where
 day:Int
 known:Int
 file:Int
 office:Int
 party:Int
 other:Int
 d:List F
 c:List Cl
 e:List (Int × Int)
def Fil.vals (f:Fil) (dv cv ev:Value):Array Value :=
 #[iI 0,iI f.day,iI f.known,iI f.file,iI f.office,iI f.party,iI f.other,iI 0,iI 0,iI 0,iI 0,dv,cv,nN,ev,iI 0,iI 0,nN,nN]
def OkFil (f:Fil):Prop:=(0≤f.day∧f.day≤131072)∧(0≤f.known∧f.known≤1099511627776)∧(0≤f.file∧f.file≤4095)∧(0≤f.office∧f.office≤11)∧(1≤f.party∧f.party≤4095)∧(-1≤f.other∧f.other≤4095∧f.other≠f.file) ∧
 OkTx f.d f.c∧f.e.length≤8∧(∀ p∈f.e,(0≤p.1∧p.1≤4095)∧(0≤p.2∧p.2≤131072)∧p.1≠f.file)∧(f.e.map Prod.fst).Nodup
def FilAt (W:World) (B:Nat) (f:Fil) (dv cv ev:Value):Prop:=Rep W B dv (.s 4 (f.d.flatMap F.cells))∧Rep W B cv (.s 5 (f.c.flatMap Cl.cells))∧Rep W B ev (.s 2 (prD f.e))
theorem FilAt.keep {W W':World} {B B':Nat} {f:Fil} {dv cv ev:Value} (h:FilAt W B f dv cv ev) (hk:∀ p:Addr,p.block<B→W'.cell? p=W.cell? p) (hB:B≤B'):FilAt W' B' f dv cv ev:=⟨h.1.keep hk hB,h.2.1.keep hk hB,h.2.2.keep hk hB⟩
theorem actwithin_any (x lo hi:Int) (h0:lo≤x) (h1:x≤hi) (w:World) :
  Calls Tryz.prog 99 #[.int .i64 x,.int .i64 lo,.int .i64 hi] w fun e w'=>e=.returned (.bool true)∧w'=w:=by
 have d0:decide (lo≤x)=true:=decide_eq_true h0;have d1:decide (x≤hi)=true:=decide_eq_true h1;go_enter Tryz.func99,Tryz.ntmps99
 go_wp2_with fail;go_ret;exact ⟨rfl,rfl⟩
def seen (l:List Int):List (Int × Bool):=l.map fun x=>(x,true)
theorem bitsD_none (x:Int) (zd:DataW Unit):∀ (l:List (Int × Bool)),(∀ p∈l,p.1≠x)→(bitsD l).atKey (.int .i64 x) zd=zd
 | [],_=>by unfold bitsD;simp [DataW.atKey]
 | p::l,h=>by
  rw [bitsD,Maps.atKey_put_other (fun e=>h p (by simp) (by injection e with _ e;exact e.symm))]
  exact bitsD_none x zd l (fun q hq=>h q (by simp [hq]))
theorem zero_bool (w:World):(zeroValue 4).run Tryz.prog w=.ok (.bool false) w:=by
 kernel_rfl
def Seen (W:World) (mb:Nat) (l:List Int):Prop:=W.ownsMap Tryz.prog 3 boolR mb l.length (bitsD (seen l))
theorem afil1_any (x day:Int) (hx0:0≤x) (hx1:x≤4095) (hd0:0≤day) (hd1:day≤131072) (kb mb:Nat) (l:List Int) (hne:x ∉ l) (hl:l.length≤100) (W:World) (hk:Blk W kb 197 #[.map (some mb)]) (hm:Seen W mb l) :
  Calls Tryz.prog 173 #[.agg #[.int .i64 x,.int .i64 day],.pointer (some ⟨kb,0,none⟩)] W fun e w'=>e=.returned (.bool false)∧Seen w' mb (x::l)∧W.grownBy w' (some mb):=by
 have HA:=Lib.hid (fun W=>actwithin_any x 0 4095 hx0 hx1 W)
 have HB:=Lib.hid (fun W=>actwithin_any day 0 131072 hd0 hd1 W)
 have hc:=(hk.alloc (.cells #[.int .i64 x,.int .i64 day] 106)).c1;have X0:=Blk.new W 106 #[.int .i64 x,.int .i64 day];have hmW:Seen (W.alloc (.cells #[.int .i64 x,.int .i64 day] 106)) mb l:=hm.kept (World.grownBy_alloc W _ none) (by simp)
 have hmb:mb<W.heap.size:=hm.lt;have hkey:keyOf Tryz.prog 3 (.int .i64 x)=some (.int .i64 x):=Maps.keyOf_int_mk Tryz.underlying3 (WalkArith.wf_i64 ⟨by omega,by omega⟩)
 obtain ⟨v,ps,hrun,hv⟩:=hmW.lookup (Maps.int_keyed Tryz.underlying3) Tryz.underlying197 (zero_bool _) (zd:=.lit (.bool false)) (zp:=[]) rfl hkey
 rw [bitsD_none x _ (seen l) (fun p hp=>by
  obtain ⟨y,hy,rfl⟩:=List.mem_map.1 hp;exact fun e=>hne (e ▸ hy))] at hv
 obtain rfl:v=.bool false:=by
  cases v with
  | bool b=>simp [boolR] at hv;rw [hv.1]
  | _=>simp [boolR] at hv
 have HM:=Lib.hid hmW;clear hv hm hmW hk;have hc2:=X0.c2;go_enter Tryz.func173,Tryz.ntmps173
 go_wp2_with (at_mapUpdate;refine wpList_mapUpdate_own _ rfl _ _ _ 197 rfl 3 4 (Maps.int_keyed Tryz.underlying3) Tryz.underlying197 boolR mb l.length (bitsD (seen l)) rfl HM.out (by unfold maxLen;omega) (.int .i64 x) (.bool true) (.int .i64 x) rfl rfl hkey (.lit (.bool true)) [] rfl ?_;intro w4 ho4 hg4;have X4:=(X0.grown hg4 (fun e=>by injection e with e;omega)).c2)
 refine (HA.out _).mono ?_
 rintro e w5 ⟨rfl,rfl⟩;go_wp2_with fail;refine (HB.out _).mono ?_
 rintro e w5 ⟨rfl,rfl⟩;go_wp2_with fail;go_ret;exact ⟨rfl,ho4,grown_up (World.grownBy_alloc W _ (some mb)) hg4 (fun k e _=>e)⟩
theorem eindex_any (w:World) (e:List (Int × Int)) (v:Value) (B:Nat) (hr:Rep w B v (.s 2 (prD e))) (he:e.length≤8) (hok:∀ p∈e,(0≤p.1∧p.1≤4095)∧(0≤p.2∧p.2≤131072)) (file:Int) (hne:∀ p∈e,p.1≠file) (hnd:(e.map Prod.fst).Nodup)
  (kb mb:Nat) (hkb:B≤kb) (hmb:B≤mb) (hlt:kb≠mb) (hk:Blk w kb 197 #[.map (some mb)]) (hm:Seen w mb [file]) :
  Calls Tryz.prog 191 #[v,.func (.func 173) #[] #[.pointer (some ⟨kb,0,none⟩)]] w fun x w'=>x=.returned (.int .i64 (-1))∧w.grownBy w' (some mb):=by
 obtain ⟨A,c,rfl,hc,hcell⟩:=hr.pairs;clear hr;have HCELL:=Lib.hid hcell;have HOK:=Lib.hid hok;have HNE:=Lib.hid hne;have HND:=Lib.hid hnd;clear hcell hok hne hnd;go_enter Tryz.func191,Tryz.ntmps191
 go_wp2;go_loopw [8] (fun i wr=>∃ k:Nat,i=.int .i64 (k:Int)∧k≤e.length∧Seen wr mb (file::(e.take k).map Prod.fst).reverse∧w.grownBy wr (some mb)) (fun i _=>e.length - (intOf i).toNat)
 case atStart=>exact ⟨0,rfl,Nat.zero_le _,hm,World.grownBy.refl w _⟩
 case round =>
  obtain ⟨k,rfl,hk2,hS,hG⟩:=hrel;by_cases hlt2:k<e.length
  ·obtain ⟨b,o,rfl,hb,c0,c1⟩:=HCELL.out k hlt2
   obtain ⟨⟨p0,p1⟩,p2,p3⟩:=HOK.out e[k] (List.getElem_mem hlt2);have d0:=(World.cell?_of_block (a:=⟨b,o+k * 2,none⟩) (hG.block b (Nat.lt_trans (Nat.lt_of_lt_of_le hb hkb) hk.lt) (fun e=>by injection e with e;omega))).trans c0
   have d1:=(World.cell?_of_block (a:=⟨b,o+k * 2+1,none⟩) (hG.block b (Nat.lt_trans (Nat.lt_of_lt_of_le hb hkb) hk.lt) (fun e=>by injection e with e;omega))).trans c1
   have hkk:=hk.grown hG (fun e=>by injection e with e;omega)
   have hns:e[k].1 ∉ (file::(e.take k).map Prod.fst).reverse:=by
    rw [List.mem_reverse,List.mem_cons];rintro (h | h)
    ·exact HNE.out e[k] (List.getElem_mem hlt2) h
    ·obtain ⟨q,hq,h⟩:=List.mem_map.1 h
     obtain ⟨j,hj,rfl⟩:=List.getElem_of_mem hq;rw [List.length_take] at hj;have:=(List.nodup_iff_pairwise_ne.1 HND.out);rw [List.pairwise_iff_getElem] at this;refine this j k (by simp;omega) (by simp;omega) (by omega) ?_
     simpa using h
   have HC:=Lib.hid (afil1_any e[k].1 e[k].2 p0 p1 p2 p3 kb mb _ hns (by simp;omega) wr hkk hS)
   have hrev:e[k].1::(file::(e.take k).map Prod.fst).reverse=(file::(e.take (k+1)).map Prod.fst).reverse:=by
    rw [List.take_add_one,List.getElem?_eq_getElem hlt2,Option.toList_some,List.map_append,List.map_cons,List.map_nil,← List.cons_append,List.reverse_append]
    rfl
   rw [hrev] at HC;clear c0 c1 hkk hns hrev hS;generalize e[k].1=x at *;generalize e[k].2=y at *;go_wp2_with (refine HC.out.mono ?_;rintro x2 w2 ⟨rfl,hJ2,hk2⟩)
   go_roundw
   case rel=>exact ⟨k+1,by go_num,by omega,hJ2,grown_up hG hk2 (fun _ e _=>e)⟩
   case measure=>simp [intOf];omega
  ·obtain rfl:k=e.length:=by omega
   go_wp2_with fail;go_ret;exact ⟨rfl,hG⟩
theorem econtains_any (w:World) (e:List (Int × Int)) (v:Value) (B:Nat) (hr:Rep w B v (.s 2 (prD e))) (he:e.length≤8) (hok:∀ p∈e,(0≤p.1∧p.1≤4095)∧(0≤p.2∧p.2≤131072)) (file:Int) (hne:∀ p∈e,p.1≠file) (hnd:(e.map Prod.fst).Nodup)
  (kb mb:Nat) (hkb:B≤kb) (hmb:B≤mb) (hlt:kb≠mb) (hk:Blk w kb 197 #[.map (some mb)]) (hm:Seen w mb [file]) :
  Calls Tryz.prog 172 #[v,.func (.func 173) #[] #[.pointer (some ⟨kb,0,none⟩)]] w fun x w'=>x=.returned (.bool false)∧w.grownBy w' (some mb):=by
 have HI:=Lib.hid (eindex_any w e v B hr he hok file hne hnd kb mb hkb hmb hlt hk hm);obtain ⟨A,c,rfl,hc,hcell⟩:=hr.pairs;clear hr hcell hok hne hnd hk hm;go_enter Tryz.func172,Tryz.ntmps172
 go_wp2_with (go_at_call 191;refine HI.out.mono ?_;rintro x w2 ⟨rfl,hJ2⟩)
 go_ret;exact ⟨rfl,hJ2⟩
theorem afiling_any (f:Fil) (hok:OkFil f) (dv cv ev:Value) (w:World) (B:Nat) (hBw:B≤w.heap.size) (h:FilAt w B f dv cv ev) :
  Calls Tryz.prog 147 #[.agg (f.vals dv cv ev)] w fun e w'=>e=.returned (.bool true)∧Below w.heap.size w w':=by
 obtain ⟨day,known,file,office,party,other,d,c,el⟩:=f;obtain ⟨hda,hkn,hfi,hof,hpa,hot,htx,hel,hep,hnd⟩:=hok;obtain ⟨hd,hc,he⟩:=h;dsimp only at hda hkn hfi hof hpa hot htx hel hep hnd hd hc he;unfold Fil.vals;dsimp only;have HV:=Lib.hid (fun (W:World) (hW:Below w.heap.size w W)=>textvalid_any d c htx dv cv W B (Nat.le_trans hBw hW.size) (hd.keep (fun p hp=>hW.cell (Nat.lt_of_lt_of_le hp hBw)) (Nat.le_refl _)) (hc.keep (fun p hp=>hW.cell (Nat.lt_of_lt_of_le hp hBw)) (Nat.le_refl _)))
 have HC:=Lib.hid (fun (W:World) (hW:Below w.heap.size w W)=>econtains_any W el ev B (he.keep (fun p hp=>hW.cell (Nat.lt_of_lt_of_le hp hBw)) (Nat.le_refl _)) hel (fun p hp=>⟨(hep p hp).1,(hep p hp).2.1⟩) file (fun p hp=>(hep p hp).2.2) hnd)
 have HO:=Lib.hid (fun W=>actwithin_any other (-1) 4095 hot.1 hot.2.1 W)
 obtain ⟨Ad,cd,rfl,x1,x2⟩:=hd.formulas;obtain ⟨Ac,cc,rfl,x3,x4⟩:=hc.claims;obtain ⟨Ae,ce,rfl,x5,x6⟩:=he.pairs;clear hd hc he htx hep hnd x1 x2 x3 x4 x5 x6;generalize d.length=nd at *;generalize c.length=nc at *;generalize hne:el.length=ne at *;have hof2:(other == file)=false:=by simpa using hot.2.2
 have hlen:decide (8<(ne:Int))=false:=by simp;omega
 clear hot hda hkn hof hpa;have hkey:keyOf Tryz.prog 3 (.int .i64 file)=some (.int .i64 file):=Maps.keyOf_int_mk Tryz.underlying3 (WalkArith.wf_i64 ⟨by omega,by omega⟩)
 have X0:=Blk.new w 41 #[iI 0,iI day,iI known,iI file,iI office,iI party,iI other,iI 0,iI 0,iI 0,iI 0,.slice Ad nd cd,.slice Ac nc cc,nN,.slice Ae ne ce,iI 0,iI 0,nN,nN];have P0:=below_new w (.cells #[iI 0,iI day,iI known,iI file,iI office,iI party,iI other,iI 0,iI 0,iI 0,iI 0,.slice Ad nd cd,.slice Ac nc cc,nN,.slice Ae ne ce,iI 0,iI 0,nN,nN] 41);have hcell:=X0.c19;go_enter Tryz.func147,Tryz.ntmps147
 go_wp2_with fail;refine (HO.out _).mono ?_
 rintro e w1 ⟨rfl,rfl⟩;go_wp2_with fail;refine (HV.out _ P0).mono ?_
 rintro e w1 ⟨rfl,hb1⟩;have X1:=X0.keep hb1;have P1:=below_up P0 hb1 P0.size;clear hcell X0 P0 hb1;have hcell:=(X1.alloc (.map #[] 0)).c19;have hmk:=run_makeMap (P:=Tryz.prog) 197 w1;have M0:(w1.alloc (.map #[] 0)).ownsMap Tryz.prog 3 boolR w1.heap.size 0 (bitsD []):=World.ownsMap_made w1 Tryz.prog 3 boolR;obtain ⟨w4,hrun,ho4,hg4'⟩:=M0.store (Maps.int_keyed Tryz.underlying3) Tryz.underlying197 (by unfold maxLen;omega) (key:=.int .i64 file) (val:=.bool true) hkey (d:=.lit (.bool true)) (ps:=[]) rfl
 have hg4:=hg4'.grown;have hlt1:=X1.lt;have X4:=(X1.alloc (.map #[] 0)).grown hg4 (fun e=>by injection e with e;omega)
 have P4:=(P1.alloc P1.size (.map #[] 0)).grown hg4 (Nat.le_trans P1.size (by simp)) (fun q e=>by injection e with e;omega)
 have hs4:w1.heap.size<w4.heap.size:=Nat.lt_of_lt_of_le (by simp) hg4.size
 have K5:=Blk.new w4 197 #[.map (some w1.heap.size)];have g5:w4.grownBy (w4.alloc (.cells #[.map (some w1.heap.size)] 197)) none:=World.grownBy_alloc w4 _ none;have X5:=(X4.grown g5 (by simp)).c19
 have P5:=P4.grown g5 P4.size (fun _ e=>by cases e)
 have S5:Seen (w4.alloc (.cells #[.map (some w1.heap.size)] 197)) w1.heap.size [file]:=ho4.kept g5 (by simp)
 have HM:=Lib.hid M0;have HS:=Lib.hid S5;clear M0 ho4 hg4' S5;go_wp2_with fail;refine (HC.out _ P5 w4.heap.size w1.heap.size ?_ ?_ ?_ K5 HS.out).mono ?_
 ·omega
 ·omega
 ·omega
 rintro e w6 ⟨rfl,hg6⟩;have P6:=P5.grown hg6 P5.size (fun q e=>by injection e with e;omega)
 clear hrun hmk X5 hcell;go_wp2_with fail;go_ret;exact ⟨rfl,P6⟩
theorem has_any (k:Int) (hk:k=1∨k=2∨k=4) (g:Nat) (W:World) (hX:W.cell? ⟨g,0,none⟩=some (.int .i64 0)) (hG:W.cell? ⟨0,0,none⟩=some (.int .i64 655)) :
  Calls Tryz.prog 101 #[.int .i64 k,.pointer (some ⟨g,0,none⟩)] W fun e w'=>e=.returned (.bool true)∧w'=W:=by
 rcases hk with rfl | rfl | rfl
 ·go_enter Tryz.func101,Tryz.ntmps101
  go_wp2_with fail;go_ret;exact ⟨rfl,rfl⟩
 ·go_enter Tryz.func101,Tryz.ntmps101
  go_wp2_with fail;go_ret;exact ⟨rfl,rfl⟩
 ·go_enter Tryz.func101,Tryz.ntmps101
  go_wp2_with fail;go_ret;exact ⟨rfl,rfl⟩
theorem wp_loadA {w:World} {g:Nat} {cs:Array Value} (h:Blk w g 41 cs) (hs:cs.size=19) {o:Oper} {a:Act} {K:Act→World→Prop} {Q:Exit→Act→World→Prop} (x:Operand) (ho:o.op=.load 41 x)
  (hx:a.eval x=.pointer (some ⟨g,0,none⟩)) (hK:K (a.put o.dst (.agg cs)) w):o.wp Tryz.prog a w K Q:=by
 refine wp_load_mid 41 x ho g 0 hx cs.toList _ (fun j v hv=>by rw [Nat.zero_add,h.cell j,← Array.getElem?_toList];exact hv) Tryz.underlying41 rfl (by rw [Array.length_toList,hs];kernel_rfl) ?_
 rw [Array.toArray_toList];exact hK
theorem wpList_loadA {w:World} {g:Nat} {cs:Array Value} (h:Blk w g 41 cs) (hs:cs.size=19) {ops:Array Oper} {rest:List Oper} {o:Oper} {a:Act} {Q:Exit→Act→World→Prop} (x:Operand) (ho:o.op=.load 41 x) (hw:Region.wanted o (yielded ops a.tmps)=true)
  (hx:a.eval x=.pointer (some ⟨g,0,none⟩)) (hK:wpList Tryz.prog ops Q rest (a.put o.dst (.agg cs)) w):wpList Tryz.prog ops Q (o::rest) a w :=
 wpList_step fun _ h2=>by
  rw [if_pos hw];exact wp_loadA h hs x ho hx (h2 _ _ hK)
theorem aformed_any (f:Fil) (hok:OkFil f) (dv cv ev:Value) (w:World) (B:Nat) (hBw:B≤w.heap.size) (h:FilAt w B f dv cv ev) :
  Calls Tryz.prog 102 #[.agg (f.vals dv cv ev)] w fun e w'=>e=.returned (.bool true)∧Below w.heap.size w w':=by
 have HF:=Lib.hid (fun (W:World) (hW:Below w.heap.size w W)=>afiling_any f hok dv cv ev W B (Nat.le_trans hBw hW.size) (h.keep (fun p hp=>hW.cell (Nat.lt_of_lt_of_le hp hBw)) (Nat.le_refl _)))
 clear h hok hBw;obtain ⟨day,known,file,office,party,other,d,c,el⟩:=f;unfold Fil.vals at *;dsimp only at *;clear d c el;have X0:=Blk.new w 41 #[iI 0,iI day,iI known,iI file,iI office,iI party,iI other,iI 0,iI 0,iI 0,iI 0,dv,cv,nN,ev,iI 0,iI 0,nN,nN];have P0:=below_new w (.cells #[iI 0,iI day,iI known,iI file,iI office,iI party,iI other,iI 0,iI 0,iI 0,iI 0,dv,cv,nN,ev,iI 0,iI 0,nN,nN] 41);have hcell:=X0.cell 0;go_enter Tryz.func102,Tryz.ntmps102
 go_wp2_with (refine wpList_loadA X0 rfl _ rfl rfl rfl ?_)
 refine (HF.out _ P0).mono ?_
 rintro e w1 ⟨rfl,hb1⟩;have P1:=below_up P0 hb1 P0.size;clear hcell;go_wp2_with fail;go_ret;exact ⟨rfl,P1⟩
theorem avalid_any (f:Fil) (hok:OkFil f) (dv cv ev:Value) (w:World) (hG:w.cell? ⟨0,0,none⟩=some (.int .i64 655)) (h0:0<w.heap.size) (B:Nat) (hBw:B≤w.heap.size) (h:FilAt w B f dv cv ev) :
  Calls Tryz.prog 49 #[.agg (f.vals dv cv ev)] w fun e w'=>e=.returned (.int .i64 0)∧Below w.heap.size w w':=by
 have HF:=Lib.hid (fun (W:World) (hW:Below w.heap.size w W)=>aformed_any f hok dv cv ev W B (Nat.le_trans hBw hW.size) (h.keep (fun p hp=>hW.cell (Nat.lt_of_lt_of_le hp hBw)) (Nat.le_refl _)))
 obtain ⟨day,known,file,office,party,other,d,c,el⟩:=f;obtain ⟨hda,hkn,hfi,hof,hpa,hot,htx,hel,hep,hnd⟩:=hok;obtain ⟨hd,hc,he⟩:=h;unfold Fil.vals at *;dsimp only at *;have hdl:=htx.1;have hcl:=htx.2.2.1.1;obtain ⟨Ad,cd,rfl,x1,x2⟩:=hd.formulas;obtain ⟨Ac,cc,rfl,x3,x4⟩:=hc.claims;obtain ⟨Ae,ce,rfl,x5,x6⟩:=he.pairs;clear hd hc he htx hep hnd x1 x2 x3 x4 x5 x6 hot;generalize d.length=nd at *;generalize c.length=nc at *;generalize hne:el.length=ne at *;have HBa:=Lib.hid (fun (W:World) (hW:Below w.heap.size w W)=>bare_any W ((hW.cell (p:=⟨0,0,none⟩) h0).trans hG) (Nat.lt_of_lt_of_le h0 hW.size) day known file office party other Ad Ac none Ae none none nd cd nc cc 0 ne ce 0 0 (by omega) (by omega))
 have HK:=Lib.hid (fun W=>actwithin_any 0 0 21 (by omega) (by omega) W)
 have HD:=Lib.hid (fun W=>actwithin_any day 0 131072 hda.1 hda.2 W)
 have HN:=Lib.hid (fun W=>actwithin_any known 0 1099511627776 hkn.1 hkn.2 W)
 have HFi:=Lib.hid (fun W=>actwithin_any file 0 4095 hfi.1 hfi.2 W)
 have HOf:=Lib.hid (fun W=>actwithin_any office 0 11 hof.1 hof.2 W)
 have HPa:=Lib.hid (fun W=>actwithin_any party 1 4095 hpa.1 hpa.2 W)
 clear hda hkn hfi hof hpa hel;have X0:=Blk.new w 41 #[iI 0,iI day,iI known,iI file,iI office,iI party,iI other,iI 0,iI 0,iI 0,iI 0,.slice Ad nd cd,.slice Ac nc cc,nN,.slice Ae ne ce,iI 0,iI 0,nN,nN];have P0:=below_new w (.cells #[iI 0,iI day,iI known,iI file,iI office,iI party,iI other,iI 0,iI 0,iI 0,iI 0,.slice Ad nd cd,.slice Ac nc cc,nN,.slice Ae ne ce,iI 0,iI 0,nN,nN] 41);have hcell:=X0.c19;go_enter Tryz.func49,Tryz.ntmps49
 go_wp2_with fail;refine (HK.out _).mono ?_
 rintro e w1 ⟨rfl,rfl⟩;go_wp2_with fail;refine (HD.out _).mono ?_
 rintro e w1 ⟨rfl,rfl⟩;go_wp2_with fail;refine (HN.out _).mono ?_
 rintro e w1 ⟨rfl,rfl⟩;go_wp2_with (refine wpList_loadA X0 rfl _ rfl rfl rfl ?_)
 refine (HBa.out _ P0).mono ?_
 rintro e w1 ⟨rfl,hb1⟩;have X1:=X0.keep hb1;have P1:=below_up P0 hb1 P0.size;clear hcell X0 P0 hb1;have hcell:=X1.c19;have HH1:=Lib.hid (fun k (hk:k=1∨k=2∨k=4)=>has_any k hk w.heap.size w1 (X1.cell 0) ((P1.cell (p:=⟨0,0,none⟩) h0).trans hG))
 go_wp2_with fail;refine (HH1.out 1 (by omega)).mono ?_
 rintro e w2 ⟨rfl,rfl⟩;go_wp2_with fail;refine (HFi.out _).mono ?_
 rintro e w2 ⟨rfl,rfl⟩;go_wp2_with fail;refine (HH1.out 2 (by omega)).mono ?_
 rintro e w2 ⟨rfl,rfl⟩;go_wp2_with fail;refine (HOf.out _).mono ?_
 rintro e w2 ⟨rfl,rfl⟩;go_wp2_with fail;refine (HH1.out 4 (by omega)).mono ?_
 rintro e w2 ⟨rfl,rfl⟩;go_wp2_with fail;refine (HPa.out _).mono ?_
 rintro e w2 ⟨rfl,rfl⟩;go_wp2_with (refine wpList_loadA X1 rfl _ rfl rfl rfl ?_)
 refine (HF.out _ P1).mono ?_
 rintro e w3 ⟨rfl,hb3⟩;have P3:=below_up P1 hb3 P1.size;clear hcell;go_wp2_with fail;go_ret;exact ⟨rfl,P3⟩
end Go.Proofs.YtbeaijjaecaidaaGreatDoor
