/- Copies: made of their parts, in the program and out of the reference's. The features that generated acts use. Written by mkfeat.py. The maker's features and claims. append(row, element) where the elements' data lie elsewhere: at any type of elements. The maker's claims. -/
import Derived.Test.YtbeaijjaecaidaaGreatDoorM12
import Derived.Test.YtbeaijjaecaidaaGreatDoorM10
import Derived.Test.YtbeaijjaecaidaaGreatDoorM07
import Derived.Test.YtbeaijjaecaidaaGreatDoorM02
import Derived.Test.YtbeaijjaecaidaaGreatDoorM01
import Derived.Maps.AppendAt
set_option maxRecDepth 100000
set_option maxHeartbeats 16000000
namespace Go.Proofs.YtbeaijjaecaidaaGreatDoor
open Go.RowKit Go.Shelf
attribute [local go_sem] Oper.semAt_some
theorem wpList_storeW {T:TypeId} {n:Nat} (hi:(Tryz.prog.info? T).map (·.size)=some n) {w:World} {g:Nat} {old:Array Value} (h:Blk w g T old) (hs:old.size=n) {ops:Array Oper} {rest:List Oper} {o:Oper} {a:Act} {Q:Exit→Act→World→Prop} (p v:Operand) (ho:o.op=.store T p v) (hg:o.guard=none)
  (hp:a.eval p=.pointer (some ⟨g,0,none⟩)) (vs:Array Value) (hv:a.eval v=.agg vs) (hvs:vs.size=n) (h1:vs.all (·.oneCell')=true)
  (hK:∀ w',Blk w' g T vs→w.grownBy w' (some g)→wpList Tryz.prog ops Q rest (a.put o.dst undef) w'):wpList Tryz.prog ops Q (o::rest) a w :=
 wpList_store_row hg T p v ho g vs hp hv T old h (by rw [hvs];exact hi) (by rw [hs,hvs]) h1 (hK _ (h.setRow vs) (grown_setRow w g vs))
theorem wp_storeW {T:TypeId} {n:Nat} (hi:(Tryz.prog.info? T).map (·.size)=some n) {w:World} {g:Nat} {old:Array Value} (h:Blk w g T old) (hs:old.size=n) {o:Oper} {a:Act} {K:Act→World→Prop} {Q:Exit→Act→World→Prop} (p v:Operand) (ho:o.op=.store T p v)
  (hp:a.eval p=.pointer (some ⟨g,0,none⟩)) (vs:Array Value) (hv:a.eval v=.agg vs) (hvs:vs.size=n) (h1:vs.all (·.oneCell')=true)
  (hK:∀ w',Blk w' g T vs→w.grownBy w' (some g)→K (a.put o.dst undef) w'):o.wp Tryz.prog a w K Q :=
 wp_store_row T p v ho g vs hp hv T old h (by rw [hvs];exact hi) (by rw [hs,hvs]) h1 (hK _ (h.setRow vs) (grown_setRow w g vs))
theorem results_H {fn:Func} {p:Tmp} (h:fn.results=#[.cell p 49]) (tmps:Array Value) {w:World} {g:Nat} {cs:Array Value} (hp:tmps.getD p undef=.pointer (some ⟨g,0,none⟩)) (hb:Blk w g 49 cs) (hs:cs.size=8) :
  (results fn tmps).run Tryz.prog w=.ok (.agg cs) w :=
 results_cell_row h tmps w g 49 cs _ _ hp hb Tryz.underlying49 rfl (by rw [hs];kernel_rfl)
theorem results_C {fn:Func} {p:Tmp} (h:fn.results=#[.cell p 51]) (tmps:Array Value) {w:World} {g:Nat} {cs:Array Value} (hp:tmps.getD p undef=.pointer (some ⟨g,0,none⟩)) (hb:Blk w g 51 cs) (hs:cs.size=30) :
  (results fn tmps).run Tryz.prog w=.ok (.agg cs) w :=
 results_cell_row h tmps w g 51 cs _ _ hp hb Tryz.underlying51 rfl (by rw [hs];kernel_rfl)
theorem results_K {fn:Func} {p:Tmp} (h:fn.results=#[.cell p 44]) (tmps:Array Value) {w:World} {g:Nat} {cs:Array Value} (hp:tmps.getD p undef=.pointer (some ⟨g,0,none⟩)) (hb:Blk w g 44 cs) (hs:cs.size=30) :
  (results fn tmps).run Tryz.prog w=.ok (.agg cs) w :=
 results_cell_row h tmps w g 44 cs _ _ hp hb Tryz.underlying44 rfl (by rw [hs];kernel_rfl)
theorem exec_buildC (d:Option Tmp) (ty:TypeId) (pos:String) (after:Array Edge) (gd:Option (Nat × Bool)) (r:Operand→Value) (x0 x1 x2 x3 x4:Operand) (h:Hd) (i:Int) (f:Fil) (dv cv ev:Value) (salt:Nat) (A:Option Addr) (n c:Nat)
  (h0:r x0=.agg h.vals) (h1:r x1=.int .i64 i) (h2:r x2=.agg (f.vals dv cv ev)) (h3:r x3=.int .u64 (salt:Int)) (h4:r x4=.slice A n c) (w:World) :
  (execOp r ⟨d,.build 51 #[(0,x0),(1,x1),(2,x2),(3,x3),(4,x4)],ty,pos,after,gd⟩).run Tryz.prog w=.ok (.value (.agg (cop h i f dv cv ev salt (.slice A n c)))) w:=by
 unfold Hd.vals at h0;unfold Fil.vals at h2;unfold cop;simp only [execOp];go_simp
theorem exec_buildK (d:Option Tmp) (ty:TypeId) (pos:String) (after:Array Edge) (gd:Option (Nat × Bool)) (r:Operand→Value) (x0 x1 x2 x3 x4:Operand) (h:Hd) (i:Int) (f:Fil) (dv cv ev:Value) (salt:Nat) (A:Option Addr) (n c:Nat)
  (h0:r x0=.agg h.vals) (h1:r x1=.int .i64 i) (h2:r x2=.agg (f.vals dv cv ev)) (h3:r x3=.int .u64 (salt:Int)) (h4:r x4=.slice A n c) (w:World) :
  (execOp r ⟨d,.build 44 #[(0,x0),(1,x1),(2,x2),(3,x3),(4,x4)],ty,pos,after,gd⟩).run Tryz.prog w=.ok (.value (.agg (cop h i f dv cv ev salt (.slice A n c)))) w:=by
 unfold Hd.vals at h0;unfold Fil.vals at h2;unfold cop;simp only [execOp];go_simp
theorem own_any (h:Hd) (w:World):Calls Tryz.prog 18 #[.agg h.vals] w fun e w'=>e=.returned (.agg h.vals)∧Below w.heap.size w w':=by
 obtain ⟨o,t,d,s,l,m,sl,sg⟩:=h;unfold Hd.vals;dsimp only;have X0:=(Blk.new w 29 #[iI o,iI t,iI d,iI s,uI (l:Int),uI (m:Int),iI sl,uI (sg:Int)]).alloc (.cells #[iI 0,iI 0,iI 0,iI 0,uI 0,uI 0,iI 0,uI 0] 49);have Y0:=Blk.new (w.alloc (.cells #[iI o,iI t,iI d,iI s,uI (l:Int),uI (m:Int),iI sl,uI (sg:Int)] 29)) 49 #[iI 0,iI 0,iI 0,iI 0,uI 0,uI 0,iI 0,uI 0];rw [World.size_alloc] at Y0;have P0:=(below_new w (.cells #[iI o,iI t,iI d,iI s,uI (l:Int),uI (m:Int),iI sl,uI (sg:Int)] 29)).alloc (by simp) (.cells #[iI 0,iI 0,iI 0,iI 0,uI 0,uI 0,iI 0,uI 0] 49)
 go_enter Tryz.func18,Tryz.ntmps18
 go_upto_region 1 with fail;generalize (w.alloc (.cells #[iI o,iI t,iI d,iI s,uI (l:Int),uI (m:Int),iI sl,uI (sg:Int)] 29)).alloc (.cells #[iI 0,iI 0,iI 0,iI 0,uI 0,uI 0,iI 0,uI 0] 49)=w1 at *;have hc:=X0.c8;go_wp2_with (refine wpList_storeW (T:=49) (n:=8) (by kernel_rfl) Y0 rfl _ _ rfl rfl rfl _ rfl rfl (by kernel_rfl) ?_;intro w2 Y2 g2)
 exact bodyPost_ret (results_H rfl _ rfl Y2 rfl) rfl ⟨rfl,P0.grown g2 P0.size (fun k e=>by injection e with e;omega)⟩
def OneV (dv cv ev:Value):Prop:=(∃ A n c,dv=.slice A n c)∧(∃ A n c,cv=.slice A n c)∧(∃ A n c,ev=.slice A n c)
theorem Rep.one {W:World} {B sz:Nat} {v:Value} {ds:List D} (h:Rep W B v (.s sz ds)):∃ A n c,v=.slice A n c:=by
 obtain ⟨A,n,c,rfl,_⟩:=h.slice;exact ⟨A,n,c,rfl⟩
theorem FilAt.one {W:World} {B:Nat} {f:Fil} {dv cv ev:Value} (h:FilAt W B f dv cv ev):OneV dv cv ev:=⟨Rep.one h.1,Rep.one h.2.1,Rep.one h.2.2⟩
theorem cop_one (h:Hd) (i:Int) (f:Fil) {dv cv ev:Value} (salt:Nat) (A:Option Addr) (n c:Nat) (hv:OneV dv cv ev):(cop h i f dv cv ev salt (.slice A n c)).all (·.oneCell')=true:=by
 obtain ⟨⟨_,_,_,rfl⟩,⟨_,_,_,rfl⟩,_,_,_,rfl⟩:=hv;simp [cop,Value.oneCell']
def zeroC:Array Value:=#[iI 0,iI 0,iI 0,iI 0,uI 0,uI 0,iI 0,uI 0,iI 0,iI 0,iI 0,iI 0,iI 0,iI 0,iI 0,iI 0,iI 0,iI 0,iI 0,iI 0,nN,nN,nN,nN,iI 0,iI 0,nN,nN,uI 0,nN]
theorem yieldsCH {T:TypeId} {C:Array Value} {h:Hd} {i:Int} {f:Fil} {dv cv ev:Value} {salt:Nat} {p:Value} (hC:IsCop C h i f dv cv ev salt p) {HT:TypeId} {S:World→Prop} {ops:Array Oper} {g:Nat} {o:Oper} {a:Act} {d:TypeDesc} (x:Operand) (ho:o.op=.load HT x) (hx:a.eval x=.pointer (some ⟨g,0,none⟩)) (hS:∀ W,S W→Blk W g T C) (hu:Tryz.prog.underlying HT=some d) (hd:d.isRow=true) (hi:(Tryz.prog.info? HT).map (·.size)=some 8) (hw:Region.wanted o (yielded ops a.tmps)=true):YieldsIf Tryz.prog ops S o (.agg h.vals) a:=by
 have h:=yieldsIf_load_mid (P:=Tryz.prog) (ops:=ops) (S:=S) hw HT x ho g 0 hx h.vals.toList d (fun w h=>hC.hrange (hS w h)) hu hd hi
 rwa [Array.toArray_toList] at h
theorem yieldsCA {T:TypeId} {C:Array Value} {h:Hd} {i:Int} {f:Fil} {dv cv ev:Value} {salt:Nat} {p:Value} (hC:IsCop C h i f dv cv ev salt p) {S:World→Prop} {ops:Array Oper} {g:Nat} {o:Oper} {a:Act} (x:Operand) (ho:o.op=.load 41 x) (hx:a.eval x=.pointer (some ⟨g,9,none⟩)) (hS:∀ W,S W→Blk W g T C) (hw:Region.wanted o (yielded ops a.tmps)=true):YieldsIf Tryz.prog ops S o (.agg (f.vals dv cv ev)) a:=by
 have h:=yieldsIf_load_mid (P:=Tryz.prog) (ops:=ops) (S:=S) hw 41 x ho g 9 hx (f.vals dv cv ev).toList _ (fun w h=>hC.range (hS w h)) Tryz.underlying41 rfl (by kernel_rfl)
 rwa [Array.toArray_toList] at h
theorem real_any {C:Array Value} {h:Hd} {i:Int} {f:Fil} {dv cv ev:Value} {salt:Nat} {A:Option Addr} {n c:Nat} (hC:IsCop C h i f dv cv ev salt (.slice A n c)) (hv:OneV dv cv ev) (w:World) :
  Calls Tryz.prog 14 #[.agg C] w fun e w'=>e=.returned (.agg (cop h i f dv cv ev salt (.slice A n c)))∧Below w.heap.size w w':=by
 have HO:=Lib.hid (fun W=>own_any h W)
 have X0:=(Blk.new w 44 C).alloc (.cells zeroC 51);have Y0:=Blk.new (w.alloc (.cells C 44)) 51 zeroC;rw [World.size_alloc] at Y0;have P0:=(below_new w (.cells C 44)).alloc (by simp) (.cells zeroC 51)
 unfold zeroC at X0 Y0 P0;have hcs:=hC.size;go_enter Tryz.func14,Tryz.ntmps14
 go_upto_region 1 with fail;generalize (w.alloc (.cells C 44)).alloc (.cells #[iI 0,iI 0,iI 0,iI 0,uI 0,uI 0,iI 0,uI 0,iI 0,iI 0,iI 0,iI 0,iI 0,iI 0,iI 0,iI 0,iI 0,iI 0,iI 0,iI 0,nN,nN,nN,nN,iI 0,iI 0,nN,nN,uI 0,nN] 51)=w1 at *;refine wp_region_held_drew (S:=(fun W=>Blk W w.heap.size 44 C∧(∃ cs,Blk W (w.heap.size+1) 51 cs∧cs.size=30)∧Below w.heap.size w W)) (by kernel_rfl) ?_ (fun hHeld=>?_)
 ·first | done | ((try dsimp only);exact ⟨X0,⟨_,Y0,rfl⟩,P0.drew⟩)
 clear X0 Y0 P0;generalize w1.drew=wb at *;refine tq 0 3 rfl ?_
 refine ty 1 4 rfl (yieldsCH hC _ rfl rfl (fun _ h=>h.1) Tryz.underlying29 rfl (by kernel_rfl) rfl) ?_
 refine tq 3 6 rfl ?_
 refine th 4 7 rfl (fun _ hSw=>hC.cells hSw.1) ?_
 refine tq 5 8 rfl ?_
 refine ty 6 9 rfl (yieldsCA hC _ rfl rfl (fun _ h=>h.1) rfl) ?_
 refine tq 7 10 rfl ?_
 refine th 8 11 rfl (fun _ hSw=>hC.cells hSw.1) ?_
 refine tq 9 12 rfl ?_
 refine th 10 13 rfl (fun _ hSw=>hC.cells hSw.1) ?_
 refine rd 2 (some 5) rfl fun K hK=>?_
 go_simp
 (refine (HO.out _).mono ?_;rintro e w2 ⟨rfl,hb2⟩)
 refine hK.out _ _ ?_ (fun hHeld=>?_)
 ·first | done | ((try dsimp only);exact ⟨hHeld.1.keep hb2,(by obtain ⟨cs,k1,k2⟩:=hHeld.2.1;exact ⟨cs,k1.keep hb2,k2⟩),below_up hHeld.2.2 hb2 hHeld.2.2.size⟩)
 clear hK K;(try simp only [pS,pB,pZ,pC]);refine tq 11 14 rfl ?_ (hy:=by intro w' hSw;(try dsimp only at hSw);refine exec_buildC _ _ _ _ _ _ (.tmp 5) (.tmp 7) (.tmp 9) (.tmp 11) (.tmp 13) h i f dv cv ev salt A n c ?_ ?_ ?_ ?_ ?_ _ <;> rfl;try (with_reducible rfl))
 have ⟨K1,⟨zs,K2,K3⟩,K4⟩:=hHeld;refine rd 12 none rfl fun K hK=>?_
 rw [if_pos (by rfl)]
 refine wp_storeW (T:=51) (n:=30) (by kernel_rfl) K2 K3 _ _ rfl rfl _ rfl rfl (cop_one h i f salt A n c hv) (fun w3 K5 gs=>?_)
 have K6:Below w.heap.size w w3:=K4.grown gs K4.size (fun k e=>by injection e with e;omega)
 refine hK.out _ _ ?_ (fun hHeld=>?_)
 ·exact ⟨K1.grown gs (fun e=>by injection e with e;omega),⟨_,K5,rfl⟩,K6⟩
 clear hK K;refine dn ?_
 go_wp2_with fail;exact bodyPost_ret (results_C rfl _ rfl K5 rfl) rfl ⟨rfl,K6⟩
def TS:List TypeId:=[144,41,169]
theorem Blk.newAt {W:World} {n:Nat} {t:TypeId} {cs:Array Value} (h:W.heap.size=n):Blk (W.alloc (.cells cs t)) n t cs:=h ▸ Blk.new W t cs
theorem below_al {w W:World} (h:Below w.heap.size w W) (o:Obj):Below w.heap.size w (W.alloc o):=h.alloc h.size o
def fc (n:Int):F:=.mk 1 n [] []
def fv (n:Int) (x:Iv):F:=.mk 2 n [x] []
theorem fc_rep (H:List Nat) (W:World) (n:Int):RepML TS H W [.int .i64 1,.int .i64 n,.slice none 0 0,.slice none 0 0] (fc n).cells:=by
 rw [F.cells_eq];exact RepL.cons (.v _) (RepL.cons (.v _) (RepL.cons (.nil 8) (RepL.cons (.nil 4) (RepL.nil _ _))))
theorem fv_rep {H:List Nat} {W:World} {n:Int} {x:Iv} {ib:Nat} (h:Blk W ib 164 x.vals) (hr:ib ∉ H):RepML TS H W [.int .i64 2,.int .i64 n,.slice (some ⟨ib,0,none⟩) 1 1,.slice none 0 0] (fv n x).cells:=by
 rw [F.cells_eq];refine RepL.cons (.v _) (RepL.cons (.v _) (RepL.cons ?_ (RepL.cons (.nil 4) (RepL.nil _ _))))
 show RepM TS H W _ (.s 8 (([x]:List Iv).flatMap Iv.cells))
 refine RepM.of_blk h (by decide) hr rfl ?_
 rw [List.flatMap_cons,List.flatMap_nil,List.append_nil];exact RepL.of_plain _ _ x.vals.toList
theorem fn_rep {H:List Nat} {W:World} {op:Int} {ks:List F} {kb n:Nat} {cs:Array Value} (h:Blk W kb 39 cs) (hk:kb ∉ H) (hs:cs.size=n * 4) (hr:RepML TS H W cs.toList (ks.flatMap F.cells)):RepML TS H W [.int .i64 op,.int .i64 0,.slice none 0 0,.slice (some ⟨kb,0,none⟩) n n] (F.mk op 0 [] ks).cells:=by
 rw [F.cells_eq];exact RepL.cons (.v _) (RepL.cons (.v _) (RepL.cons (.nil 8) (RepL.cons (RepM.of_blk h (by decide) hk hs hr) (RepL.nil _ _))))
theorem two_rep {H:List Nat} {W:World} {vs us:List Value} {a b:F} (h:RepML TS H W vs a.cells) (k:RepML TS H W us b.cells):RepML TS H W (vs++us) ([a,b].flatMap F.cells):=by
 have:RepML TS H W (vs++us) (a.cells++b.cells):=RepL.append h k
 rwa [show [a,b].flatMap F.cells=a.cells++b.cells from by simp]
theorem one_rep {H:List Nat} {W:World} {vs:List Value} {a:F} (h:RepML TS H W vs a.cells):RepML TS H W vs ([a].flatMap F.cells):=by
 rwa [show [a].flatMap F.cells=a.cells from by simp]
theorem results_F {fn:Func} {p:Tmp} (h:fn.results=#[.cell p 39]) (tmps:Array Value) {w:World} {g:Nat} {cs:Array Value} (hp:tmps.getD p undef=.pointer (some ⟨g,0,none⟩)) (hb:Blk w g 39 cs) (hs:cs.size=4) :
  (results fn tmps).run Tryz.prog w=.ok (.agg cs) w :=
 results_cell_row h tmps w g 39 cs _ _ hp hb Tryz.underlying39 rfl (by rw [hs];kernel_rfl)
def FeatRet (w:World) (e:Ending) (w':World):Prop:=∃ a b c d t,e=.returned (.agg #[a,b,c,d])∧(∀ H:List Nat,(∀ g∈H,g<w.heap.size)→RepML TS H w' [a,b,c,d] t.cells)∧Feat t∧Below w.heap.size w w'
theorem okIvs_one {x:Iv} (h:OkIv x):OkIvs [x]:=⟨Nat.le_refl _,fun y hy=>by rw [List.mem_singleton.1 hy];exact h⟩
theorem fc_node {n:Int} (h0:0≤n) (h1:n<64):OkNode (fc n):=.inr (.inl ⟨rfl,⟨h0,h1⟩,rfl,rfl⟩)
theorem fv_node {n:Int} {x:Iv} (h0:0≤n) (h1:n<32) (hx:OkIv x):OkNode (fv n x):=.inr (.inr (.inl ⟨rfl,⟨h0,h1⟩,okIvs_one hx,rfl⟩))
theorem fp_node {op:Int} {a:F} (h:op=3∨op=6):OkNode (.mk op 0 [] [a]):=.inr (.inr (.inr (.inl ⟨h,rfl,rfl,rfl⟩)))
theorem fa_node {op:Int} {l:List F} (h:op=4∨op=5):OkNode (.mk op 0 [] l):=.inr (.inr (.inr (.inr ⟨h,rfl,rfl⟩)))
theorem feat0_ok:Feat (fc 0):=by
 refine ⟨⟨by decide,by decide,?_⟩,by decide⟩
 intro y hy;have hy:y∈[fc 0]:=hy;simp only [List.mem_cons,List.not_mem_nil,or_false] at hy;rcases hy with rfl
 ·exact fc_node (by decide) (by decide)
theorem feature0_any (w:World):Calls Tryz.prog 171 #[.int .i64 0] w (FeatRet w):=by
 have HA:=Lib.hid (fun W=>around_any 0 1048576 W (by omega) (by omega) (by omega) (by omega))
 have har:arN 0 1048576=0:=by decide
 rw [har] at HA;clear har;go_enter Tryz.func171,Tryz.ntmps171
 go_wp2_with fail;refine (HA.out _).mono ?_
 rintro e w1 ⟨rfl,rfl⟩;go_wp2_with fail;refine bodyPost_ret (results_F rfl _ rfl (g:=w.heap.size) (cs:=#[.int .i64 1,.int .i64 0,.slice none 0 0,.slice none 0 0]) ?_ rfl) rfl ⟨_,_,_,_,(fc 0),rfl,?_,feat0_ok,?_⟩
 ·exact (((((Blk.newAt (by simp)).alloc _).alloc _).alloc _).alloc _).alloc _
 ·intro H hH
  exact (fc_rep _ _ 0)
 ·repeat' first | exact Below.refl _ _ | refine below_al ?_ _
theorem feat7_ok:Feat (.mk 4 0 [] [(fc 0),(fv 0 ⟨0,1,1,1,false,false,false,false⟩)]):=by
 refine ⟨⟨by decide,by decide,?_⟩,by decide⟩
 intro y hy;have hy:y∈[.mk 4 0 [] [(fc 0),(fv 0 ⟨0,1,1,1,false,false,false,false⟩)],fc 0,fv 0 ⟨0,1,1,1,false,false,false,false⟩]:=hy;simp only [List.mem_cons,List.not_mem_nil,or_false] at hy;rcases hy with rfl | rfl | rfl
 ·exact fa_node (by decide)
 ·exact fc_node (by decide) (by decide)
 ·exact fv_node (by decide) (by decide) ⟨rfl,⟨by decide,by decide,by decide,by decide⟩,.inr ⟨rfl,⟨by decide,by decide,by decide,by decide⟩,by decide⟩⟩
theorem feature7_any (w:World):Calls Tryz.prog 171 #[.int .i64 7] w (FeatRet w):=by
 have HA:=Lib.hid (fun W=>around_any 7 1048576 W (by omega) (by omega) (by omega) (by omega))
 have har:arN 7 1048576=7:=by decide
 rw [har] at HA;clear har;go_enter Tryz.func171,Tryz.ntmps171
 go_wp2_with fail;refine (HA.out _).mono ?_
 rintro e w1 ⟨rfl,rfl⟩;go_wp2_with fail;refine bodyPost_ret (results_F rfl _ rfl (g:=w.heap.size) (cs:=#[.int .i64 4,.int .i64 0,.slice none 0 0,.slice (some ⟨w.heap.size+1+1+1+1+1+1,0,none⟩) 2 2]) ?_ rfl) rfl ⟨_,_,_,_,(.mk 4 0 [] [(fc 0),(fv 0 ⟨0,1,1,1,false,false,false,false⟩)]),rfl,?_,feat7_ok,?_⟩
 ·exact ((((((Blk.newAt (by simp)).alloc _).alloc _).alloc _).alloc _).alloc _).alloc _
 ·intro H hH
  exact (fun (H4:Blk _ (w.heap.size+1+1+1+1) 164 (Iv.vals ⟨0,1,1,1,false,false,false,false⟩)) (H6:Blk _ (w.heap.size+1+1+1+1+1+1) 39 #[iI 1,iI 0,nN,nN,iI 2,iI 0,.slice (some ⟨w.heap.size+1+1+1+1,0,none⟩) 1 1,nN])=>(fn_rep (n:=2) H6 (fun h=>by have:=hH _ h;omega) rfl (two_rep (fc_rep _ _ 0) (fv_rep H4 (fun h=>by have:=hH _ h;omega))))) (((Blk.newAt (by simp)).alloc _).alloc _) (Blk.newAt (by simp))
 ·repeat' first | exact Below.refl _ _ | refine below_al ?_ _
theorem feat9_ok:Feat (.mk 5 0 [] [(fc 0),(fv 0 ⟨0,1,1,1,false,false,false,false⟩)]):=by
 refine ⟨⟨by decide,by decide,?_⟩,by decide⟩
 intro y hy;have hy:y∈[.mk 5 0 [] [(fc 0),(fv 0 ⟨0,1,1,1,false,false,false,false⟩)],fc 0,fv 0 ⟨0,1,1,1,false,false,false,false⟩]:=hy;simp only [List.mem_cons,List.not_mem_nil,or_false] at hy;rcases hy with rfl | rfl | rfl
 ·exact fa_node (by decide)
 ·exact fc_node (by decide) (by decide)
 ·exact fv_node (by decide) (by decide) ⟨rfl,⟨by decide,by decide,by decide,by decide⟩,.inr ⟨rfl,⟨by decide,by decide,by decide,by decide⟩,by decide⟩⟩
theorem feature9_any (w:World):Calls Tryz.prog 171 #[.int .i64 9] w (FeatRet w):=by
 have HA:=Lib.hid (fun W=>around_any 9 1048576 W (by omega) (by omega) (by omega) (by omega))
 have har:arN 9 1048576=9:=by decide
 rw [har] at HA;clear har;go_enter Tryz.func171,Tryz.ntmps171
 go_wp2_with fail;refine (HA.out _).mono ?_
 rintro e w1 ⟨rfl,rfl⟩;go_wp2_with fail;refine bodyPost_ret (results_F rfl _ rfl (g:=w.heap.size) (cs:=#[.int .i64 5,.int .i64 0,.slice none 0 0,.slice (some ⟨w.heap.size+1+1+1+1+1+1,0,none⟩) 2 2]) ?_ rfl) rfl ⟨_,_,_,_,(.mk 5 0 [] [(fc 0),(fv 0 ⟨0,1,1,1,false,false,false,false⟩)]),rfl,?_,feat9_ok,?_⟩
 ·exact ((((((Blk.newAt (by simp)).alloc _).alloc _).alloc _).alloc _).alloc _).alloc _
 ·intro H hH
  exact (fun (H4:Blk _ (w.heap.size+1+1+1+1) 164 (Iv.vals ⟨0,1,1,1,false,false,false,false⟩)) (H6:Blk _ (w.heap.size+1+1+1+1+1+1) 39 #[iI 1,iI 0,nN,nN,iI 2,iI 0,.slice (some ⟨w.heap.size+1+1+1+1,0,none⟩) 1 1,nN])=>(fn_rep (n:=2) H6 (fun h=>by have:=hH _ h;omega) rfl (two_rep (fc_rep _ _ 0) (fv_rep H4 (fun h=>by have:=hH _ h;omega))))) (((Blk.newAt (by simp)).alloc _).alloc _) (Blk.newAt (by simp))
 ·repeat' first | exact Below.refl _ _ | refine below_al ?_ _
theorem feat20_ok:Feat (fv 1 ⟨0,1,1,1,false,false,false,false⟩):=by
 refine ⟨⟨by decide,by decide,?_⟩,by decide⟩
 intro y hy;have hy:y∈[fv 1 ⟨0,1,1,1,false,false,false,false⟩]:=hy;simp only [List.mem_cons,List.not_mem_nil,or_false] at hy;rcases hy with rfl
 ·exact fv_node (by decide) (by decide) ⟨rfl,⟨by decide,by decide,by decide,by decide⟩,.inr ⟨rfl,⟨by decide,by decide,by decide,by decide⟩,by decide⟩⟩
theorem feature20_any (w:World):Calls Tryz.prog 171 #[.int .i64 20] w (FeatRet w):=by
 have HA:=Lib.hid (fun W=>around_any 20 1048576 W (by omega) (by omega) (by omega) (by omega))
 have har:arN 20 1048576=20:=by decide
 rw [har] at HA;clear har;go_enter Tryz.func171,Tryz.ntmps171
 go_wp2_with fail;refine (HA.out _).mono ?_
 rintro e w1 ⟨rfl,rfl⟩;go_wp2_with fail;refine bodyPost_ret (results_F rfl _ rfl (g:=w.heap.size) (cs:=#[.int .i64 2,.int .i64 1,.slice (some ⟨w.heap.size+1+1+1+1,0,none⟩) 1 1,.slice none 0 0]) ?_ rfl) rfl ⟨_,_,_,_,(fv 1 ⟨0,1,1,1,false,false,false,false⟩),rfl,?_,feat20_ok,?_⟩
 ·exact (((((Blk.newAt (by simp)).alloc _).alloc _).alloc _).alloc _).alloc _
 ·intro H hH
  exact (fun (H4:Blk _ (w.heap.size+1+1+1+1) 164 (Iv.vals ⟨0,1,1,1,false,false,false,false⟩))=>(fv_rep H4 (fun h=>by have:=hH _ h;omega))) ((Blk.newAt (by simp)).alloc _)
 ·repeat' first | exact Below.refl _ _ | refine below_al ?_ _
theorem feat36_ok:Feat (fv 0 ⟨0,1,0,0,false,false,false,true⟩):=by
 refine ⟨⟨by decide,by decide,?_⟩,by decide⟩
 intro y hy;have hy:y∈[fv 0 ⟨0,1,0,0,false,false,false,true⟩]:=hy;simp only [List.mem_cons,List.not_mem_nil,or_false] at hy;rcases hy with rfl
 ·exact fv_node (by decide) (by decide) ⟨rfl,⟨by decide,by decide,by decide,by decide⟩,.inl ⟨rfl,rfl,rfl,rfl⟩⟩
theorem feature36_any (w:World):Calls Tryz.prog 171 #[.int .i64 36] w (FeatRet w):=by
 have HA:=Lib.hid (fun W=>around_any 36 1048576 W (by omega) (by omega) (by omega) (by omega))
 have har:arN 36 1048576=36:=by decide
 rw [har] at HA;clear har;go_enter Tryz.func171,Tryz.ntmps171
 go_wp2_with fail;refine (HA.out _).mono ?_
 rintro e w1 ⟨rfl,rfl⟩;go_wp2_with fail;refine bodyPost_ret (results_F rfl _ rfl (g:=w.heap.size) (cs:=#[.int .i64 2,.int .i64 0,.slice (some ⟨w.heap.size+1+1+1+1,0,none⟩) 1 1,.slice none 0 0]) ?_ rfl) rfl ⟨_,_,_,_,(fv 0 ⟨0,1,0,0,false,false,false,true⟩),rfl,?_,feat36_ok,?_⟩
 ·exact (((((Blk.newAt (by simp)).alloc _).alloc _).alloc _).alloc _).alloc _
 ·intro H hH
  exact (fun (H4:Blk _ (w.heap.size+1+1+1+1) 164 (Iv.vals ⟨0,1,0,0,false,false,false,true⟩))=>(fv_rep H4 (fun h=>by have:=hH _ h;omega))) ((Blk.newAt (by simp)).alloc _)
 ·repeat' first | exact Below.refl _ _ | refine below_al ?_ _
theorem feat52_ok:Feat (fv 1 ⟨0,1,1,1,false,false,false,false⟩):=by
 refine ⟨⟨by decide,by decide,?_⟩,by decide⟩
 intro y hy;have hy:y∈[fv 1 ⟨0,1,1,1,false,false,false,false⟩]:=hy;simp only [List.mem_cons,List.not_mem_nil,or_false] at hy;rcases hy with rfl
 ·exact fv_node (by decide) (by decide) ⟨rfl,⟨by decide,by decide,by decide,by decide⟩,.inr ⟨rfl,⟨by decide,by decide,by decide,by decide⟩,by decide⟩⟩
theorem feature52_any (w:World):Calls Tryz.prog 171 #[.int .i64 52] w (FeatRet w):=by
 have HA:=Lib.hid (fun W=>around_any 52 1048576 W (by omega) (by omega) (by omega) (by omega))
 have har:arN 52 1048576=52:=by decide
 rw [har] at HA;clear har;go_enter Tryz.func171,Tryz.ntmps171
 go_wp2_with fail;refine (HA.out _).mono ?_
 rintro e w1 ⟨rfl,rfl⟩;go_wp2_with fail;refine bodyPost_ret (results_F rfl _ rfl (g:=w.heap.size) (cs:=#[.int .i64 2,.int .i64 1,.slice (some ⟨w.heap.size+1+1+1+1,0,none⟩) 1 1,.slice none 0 0]) ?_ rfl) rfl ⟨_,_,_,_,(fv 1 ⟨0,1,1,1,false,false,false,false⟩),rfl,?_,feat52_ok,?_⟩
 ·exact (((((Blk.newAt (by simp)).alloc _).alloc _).alloc _).alloc _).alloc _
 ·intro H hH
  exact (fun (H4:Blk _ (w.heap.size+1+1+1+1) 164 (Iv.vals ⟨0,1,1,1,false,false,false,false⟩))=>(fv_rep H4 (fun h=>by have:=hH _ h;omega))) ((Blk.newAt (by simp)).alloc _)
 ·repeat' first | exact Below.refl _ _ | refine below_al ?_ _
theorem feat23_ok:Feat (.mk 4 0 [] [(fc 1),(fv 1 ⟨0,1,1,1,true,false,false,false⟩)]):=by
 refine ⟨⟨by decide,by decide,?_⟩,by decide⟩
 intro y hy;have hy:y∈[.mk 4 0 [] [(fc 1),(fv 1 ⟨0,1,1,1,true,false,false,false⟩)],fc 1,fv 1 ⟨0,1,1,1,true,false,false,false⟩]:=hy;simp only [List.mem_cons,List.not_mem_nil,or_false] at hy;rcases hy with rfl | rfl | rfl
 ·exact fa_node (by decide)
 ·exact fc_node (by decide) (by decide)
 ·exact fv_node (by decide) (by decide) ⟨rfl,⟨by decide,by decide,by decide,by decide⟩,.inr ⟨rfl,⟨by decide,by decide,by decide,by decide⟩,by decide⟩⟩
theorem feature23_any (w:World):Calls Tryz.prog 171 #[.int .i64 23] w (FeatRet w):=by
 have HA:=Lib.hid (fun W=>around_any 23 1048576 W (by omega) (by omega) (by omega) (by omega))
 have har:arN 23 1048576=23:=by decide
 rw [har] at HA;clear har;go_enter Tryz.func171,Tryz.ntmps171
 go_wp2_with fail;refine (HA.out _).mono ?_
 rintro e w1 ⟨rfl,rfl⟩;go_wp2_with fail;refine bodyPost_ret (results_F rfl _ rfl (g:=w.heap.size) (cs:=#[.int .i64 4,.int .i64 0,.slice none 0 0,.slice (some ⟨w.heap.size+1+1+1+1+1+1,0,none⟩) 2 2]) ?_ rfl) rfl ⟨_,_,_,_,(.mk 4 0 [] [(fc 1),(fv 1 ⟨0,1,1,1,true,false,false,false⟩)]),rfl,?_,feat23_ok,?_⟩
 ·exact ((((((Blk.newAt (by simp)).alloc _).alloc _).alloc _).alloc _).alloc _).alloc _
 ·intro H hH
  exact (fun (H4:Blk _ (w.heap.size+1+1+1+1) 164 (Iv.vals ⟨0,1,1,1,true,false,false,false⟩)) (H6:Blk _ (w.heap.size+1+1+1+1+1+1) 39 #[iI 1,iI 1,nN,nN,iI 2,iI 1,.slice (some ⟨w.heap.size+1+1+1+1,0,none⟩) 1 1,nN])=>(fn_rep (n:=2) H6 (fun h=>by have:=hH _ h;omega) rfl (two_rep (fc_rep _ _ 1) (fv_rep H4 (fun h=>by have:=hH _ h;omega))))) (((Blk.newAt (by simp)).alloc _).alloc _) (Blk.newAt (by simp))
 ·repeat' first | exact Below.refl _ _ | refine below_al ?_ _
theorem feat100_ok:Feat (fv 0 ⟨1,1,2,1,false,false,false,false⟩):=by
 refine ⟨⟨by decide,by decide,?_⟩,by decide⟩
 intro y hy;have hy:y∈[fv 0 ⟨1,1,2,1,false,false,false,false⟩]:=hy;simp only [List.mem_cons,List.not_mem_nil,or_false] at hy;rcases hy with rfl
 ·exact fv_node (by decide) (by decide) ⟨rfl,⟨by decide,by decide,by decide,by decide⟩,.inr ⟨rfl,⟨by decide,by decide,by decide,by decide⟩,by decide⟩⟩
theorem feature100_any (w:World):Calls Tryz.prog 171 #[.int .i64 100] w (FeatRet w):=by
 have HA:=Lib.hid (fun W=>around_any 100 1048576 W (by omega) (by omega) (by omega) (by omega))
 have har:arN 100 1048576=100:=by decide
 rw [har] at HA;clear har;go_enter Tryz.func171,Tryz.ntmps171
 go_wp2_with fail;refine (HA.out _).mono ?_
 rintro e w1 ⟨rfl,rfl⟩;go_wp2_with fail;refine bodyPost_ret (results_F rfl _ rfl (g:=w.heap.size) (cs:=#[.int .i64 2,.int .i64 0,.slice (some ⟨w.heap.size+1+1+1+1,0,none⟩) 1 1,.slice none 0 0]) ?_ rfl) rfl ⟨_,_,_,_,(fv 0 ⟨1,1,2,1,false,false,false,false⟩),rfl,?_,feat100_ok,?_⟩
 ·exact (((((Blk.newAt (by simp)).alloc _).alloc _).alloc _).alloc _).alloc _
 ·intro H hH
  exact (fun (H4:Blk _ (w.heap.size+1+1+1+1) 164 (Iv.vals ⟨1,1,2,1,false,false,false,false⟩))=>(fv_rep H4 (fun h=>by have:=hH _ h;omega))) ((Blk.newAt (by simp)).alloc _)
 ·repeat' first | exact Below.refl _ _ | refine below_al ?_ _
theorem feat215_ok:Feat (.mk 4 0 [] [(fc 1),(fv 1 ⟨2,1,0,0,true,false,false,true⟩)]):=by
 refine ⟨⟨by decide,by decide,?_⟩,by decide⟩
 intro y hy;have hy:y∈[.mk 4 0 [] [(fc 1),(fv 1 ⟨2,1,0,0,true,false,false,true⟩)],fc 1,fv 1 ⟨2,1,0,0,true,false,false,true⟩]:=hy;simp only [List.mem_cons,List.not_mem_nil,or_false] at hy;rcases hy with rfl | rfl | rfl
 ·exact fa_node (by decide)
 ·exact fc_node (by decide) (by decide)
 ·exact fv_node (by decide) (by decide) ⟨rfl,⟨by decide,by decide,by decide,by decide⟩,.inl ⟨rfl,rfl,rfl,rfl⟩⟩
theorem feature215_any (w:World):Calls Tryz.prog 171 #[.int .i64 215] w (FeatRet w):=by
 have HA:=Lib.hid (fun W=>around_any 215 1048576 W (by omega) (by omega) (by omega) (by omega))
 have har:arN 215 1048576=215:=by decide
 rw [har] at HA;clear har;go_enter Tryz.func171,Tryz.ntmps171
 go_wp2_with fail;refine (HA.out _).mono ?_
 rintro e w1 ⟨rfl,rfl⟩;go_wp2_with fail;refine bodyPost_ret (results_F rfl _ rfl (g:=w.heap.size) (cs:=#[.int .i64 4,.int .i64 0,.slice none 0 0,.slice (some ⟨w.heap.size+1+1+1+1+1+1,0,none⟩) 2 2]) ?_ rfl) rfl ⟨_,_,_,_,(.mk 4 0 [] [(fc 1),(fv 1 ⟨2,1,0,0,true,false,false,true⟩)]),rfl,?_,feat215_ok,?_⟩
 ·exact ((((((Blk.newAt (by simp)).alloc _).alloc _).alloc _).alloc _).alloc _).alloc _
 ·intro H hH
  exact (fun (H4:Blk _ (w.heap.size+1+1+1+1) 164 (Iv.vals ⟨2,1,0,0,true,false,false,true⟩)) (H6:Blk _ (w.heap.size+1+1+1+1+1+1) 39 #[iI 1,iI 1,nN,nN,iI 2,iI 1,.slice (some ⟨w.heap.size+1+1+1+1,0,none⟩) 1 1,nN])=>(fn_rep (n:=2) H6 (fun h=>by have:=hH _ h;omega) rfl (two_rep (fc_rep _ _ 1) (fv_rep H4 (fun h=>by have:=hH _ h;omega))))) (((Blk.newAt (by simp)).alloc _).alloc _) (Blk.newAt (by simp))
 ·repeat' first | exact Below.refl _ _ | refine below_al ?_ _
theorem feat13_ok:Feat (.mk 3 0 [] [(fc 0)]):=by
 refine ⟨⟨by decide,by decide,?_⟩,by decide⟩
 intro y hy;have hy:y∈[.mk 3 0 [] [(fc 0)],fc 0]:=hy;simp only [List.mem_cons,List.not_mem_nil,or_false] at hy;rcases hy with rfl | rfl
 ·exact fp_node (by decide)
 ·exact fc_node (by decide) (by decide)
theorem feature13_any (w:World):Calls Tryz.prog 171 #[.int .i64 13] w (FeatRet w):=by
 have HA:=Lib.hid (fun W=>around_any 13 1048576 W (by omega) (by omega) (by omega) (by omega))
 have har:arN 13 1048576=13:=by decide
 rw [har] at HA;clear har;go_enter Tryz.func171,Tryz.ntmps171
 go_wp2_with fail;refine (HA.out _).mono ?_
 rintro e w1 ⟨rfl,rfl⟩;go_wp2_with fail;refine bodyPost_ret (results_F rfl _ rfl (g:=w.heap.size) (cs:=#[.int .i64 3,.int .i64 0,.slice none 0 0,.slice (some ⟨w.heap.size+1+1+1+1+1+1,0,none⟩) 1 1]) ?_ rfl) rfl ⟨_,_,_,_,(.mk 3 0 [] [(fc 0)]),rfl,?_,feat13_ok,?_⟩
 ·exact ((((((Blk.newAt (by simp)).alloc _).alloc _).alloc _).alloc _).alloc _).alloc _
 ·intro H hH
  exact (fun (H6:Blk _ (w.heap.size+1+1+1+1+1+1) 39 #[.int .i64 1,.int .i64 0,.slice none 0 0,.slice none 0 0])=>(fn_rep (n:=1) H6 (fun h=>by have:=hH _ h;omega) rfl (one_rep (fc_rep _ _ 0)))) (Blk.newAt (by simp))
 ·repeat' first | exact Below.refl _ _ | refine below_al ?_ _
theorem feat47_ok:Feat (.mk 4 0 [] [(fc 2),.mk 3 0 [] [(fv 0 ⟨0,1,1,1,true,false,false,false⟩)]]):=by
 refine ⟨⟨by decide,by decide,?_⟩,by decide⟩
 intro y hy;have hy:y∈[.mk 4 0 [] [(fc 2),.mk 3 0 [] [(fv 0 ⟨0,1,1,1,true,false,false,false⟩)]],fc 2,.mk 3 0 [] [(fv 0 ⟨0,1,1,1,true,false,false,false⟩)],fv 0 ⟨0,1,1,1,true,false,false,false⟩]:=hy;simp only [List.mem_cons,List.not_mem_nil,or_false] at hy;rcases hy with rfl | rfl | rfl | rfl
 ·exact fa_node (by decide)
 ·exact fc_node (by decide) (by decide)
 ·exact fp_node (by decide)
 ·exact fv_node (by decide) (by decide) ⟨rfl,⟨by decide,by decide,by decide,by decide⟩,.inr ⟨rfl,⟨by decide,by decide,by decide,by decide⟩,by decide⟩⟩
theorem feature47_any (w:World):Calls Tryz.prog 171 #[.int .i64 47] w (FeatRet w):=by
 have HA:=Lib.hid (fun W=>around_any 47 1048576 W (by omega) (by omega) (by omega) (by omega))
 have har:arN 47 1048576=47:=by decide
 rw [har] at HA;clear har;go_enter Tryz.func171,Tryz.ntmps171
 go_wp2_with fail;refine (HA.out _).mono ?_
 rintro e w1 ⟨rfl,rfl⟩;go_wp2_with fail;refine bodyPost_ret (results_F rfl _ rfl (g:=w.heap.size) (cs:=#[.int .i64 4,.int .i64 0,.slice none 0 0,.slice (some ⟨w.heap.size+1+1+1+1+1+1+1,0,none⟩) 2 2]) ?_ rfl) rfl ⟨_,_,_,_,(.mk 4 0 [] [(fc 2),.mk 3 0 [] [(fv 0 ⟨0,1,1,1,true,false,false,false⟩)]]),rfl,?_,feat47_ok,?_⟩
 ·exact (((((((Blk.newAt (by simp)).alloc _).alloc _).alloc _).alloc _).alloc _).alloc _).alloc _
 ·intro H hH
  exact (fun (H4:Blk _ (w.heap.size+1+1+1+1) 164 (Iv.vals ⟨0,1,1,1,true,false,false,false⟩)) (H6:Blk _ (w.heap.size+1+1+1+1+1+1) 39 #[.int .i64 2,.int .i64 0,.slice (some ⟨w.heap.size+1+1+1+1,0,none⟩) 1 1,.slice none 0 0]) (H7:Blk _ (w.heap.size+1+1+1+1+1+1+1) 39 #[iI 1,iI 2,nN,nN,iI 3,iI 0,nN,.slice (some ⟨w.heap.size+1+1+1+1+1+1,0,none⟩) 1 1])=>(fn_rep (n:=2) H7 (fun h=>by have:=hH _ h;omega) rfl (two_rep (fc_rep _ _ 2) (fn_rep (n:=1) H6 (fun h=>by have:=hH _ h;omega) rfl (one_rep (fv_rep H4 (fun h=>by have:=hH _ h;omega))))))) ((((Blk.newAt (by simp)).alloc _).alloc _).alloc _) ((Blk.newAt (by simp)).alloc _) (Blk.newAt (by simp))
 ·repeat' first | exact Below.refl _ _ | refine below_al ?_ _
theorem feat12_ok:Feat (.mk 4 0 [] [(fc 0),.mk 6 0 [] [fc 0]]):=by
 refine ⟨⟨by decide,by decide,?_⟩,by decide⟩
 intro y hy;have hy:y∈[.mk 4 0 [] [(fc 0),.mk 6 0 [] [fc 0]],fc 0,.mk 6 0 [] [fc 0],fc 0]:=hy;simp only [List.mem_cons,List.not_mem_nil,or_false] at hy;rcases hy with rfl | rfl | rfl | rfl
 ·exact fa_node (by decide)
 ·exact fc_node (by decide) (by decide)
 ·exact fp_node (by decide)
 ·exact fc_node (by decide) (by decide)
theorem feature12_any (w:World):Calls Tryz.prog 171 #[.int .i64 12] w (FeatRet w):=by
 have HA:=Lib.hid (fun W=>around_any 12 1048576 W (by omega) (by omega) (by omega) (by omega))
 have har:arN 12 1048576=12:=by decide
 rw [har] at HA;clear har;go_enter Tryz.func171,Tryz.ntmps171
 go_wp2_with fail;refine (HA.out _).mono ?_
 rintro e w1 ⟨rfl,rfl⟩;go_wp2_with fail;refine bodyPost_ret (results_F rfl _ rfl (g:=w.heap.size) (cs:=#[.int .i64 4,.int .i64 0,.slice none 0 0,.slice (some ⟨w.heap.size+1+1+1+1+1+1+1,0,none⟩) 2 2]) ?_ rfl) rfl ⟨_,_,_,_,(.mk 4 0 [] [(fc 0),.mk 6 0 [] [fc 0]]),rfl,?_,feat12_ok,?_⟩
 ·exact (((((((Blk.newAt (by simp)).alloc _).alloc _).alloc _).alloc _).alloc _).alloc _).alloc _
 ·intro H hH
  exact (fun (H6:Blk _ (w.heap.size+1+1+1+1+1+1) 39 #[.int .i64 1,.int .i64 0,.slice none 0 0,.slice none 0 0]) (H7:Blk _ (w.heap.size+1+1+1+1+1+1+1) 39 #[iI 1,iI 0,nN,nN,iI 6,iI 0,nN,.slice (some ⟨w.heap.size+1+1+1+1+1+1,0,none⟩) 1 1])=>(fn_rep (n:=2) H7 (fun h=>by have:=hH _ h;omega) rfl (two_rep (fc_rep _ _ 0) (fn_rep (n:=1) H6 (fun h=>by have:=hH _ h;omega) rfl (one_rep (fc_rep _ _ 0)))))) ((Blk.newAt (by simp)).alloc _) (Blk.newAt (by simp))
 ·repeat' first | exact Below.refl _ _ | refine below_al ?_ _
theorem feat123456_ok:Feat (fc 0):=by
 refine ⟨⟨by decide,by decide,?_⟩,by decide⟩
 intro y hy;have hy:y∈[fc 0]:=hy;simp only [List.mem_cons,List.not_mem_nil,or_false] at hy;rcases hy with rfl
 ·exact fc_node (by decide) (by decide)
theorem feature123456_any (w:World):Calls Tryz.prog 171 #[.int .i64 123456] w (FeatRet w):=by
 have HA:=Lib.hid (fun W=>around_any 123456 1048576 W (by omega) (by omega) (by omega) (by omega))
 have har:arN 123456 1048576=123456:=by decide
 rw [har] at HA;clear har;go_enter Tryz.func171,Tryz.ntmps171
 go_wp2_with fail;refine (HA.out _).mono ?_
 rintro e w1 ⟨rfl,rfl⟩;go_wp2_with fail;refine bodyPost_ret (results_F rfl _ rfl (g:=w.heap.size) (cs:=#[.int .i64 1,.int .i64 0,.slice none 0 0,.slice none 0 0]) ?_ rfl) rfl ⟨_,_,_,_,(fc 0),rfl,?_,feat123456_ok,?_⟩
 ·exact (((((Blk.newAt (by simp)).alloc _).alloc _).alloc _).alloc _).alloc _
 ·intro H hH
  exact (fc_rep _ _ 0)
 ·repeat' first | exact Below.refl _ _ | refine below_al ?_ _
theorem feat5000_ok:Feat (.mk 4 0 [] [(fc 0),(fv 0 ⟨2,1,4,1,true,false,false,false⟩)]):=by
 refine ⟨⟨by decide,by decide,?_⟩,by decide⟩
 intro y hy;have hy:y∈[.mk 4 0 [] [(fc 0),(fv 0 ⟨2,1,4,1,true,false,false,false⟩)],fc 0,fv 0 ⟨2,1,4,1,true,false,false,false⟩]:=hy;simp only [List.mem_cons,List.not_mem_nil,or_false] at hy;rcases hy with rfl | rfl | rfl
 ·exact fa_node (by decide)
 ·exact fc_node (by decide) (by decide)
 ·exact fv_node (by decide) (by decide) ⟨rfl,⟨by decide,by decide,by decide,by decide⟩,.inr ⟨rfl,⟨by decide,by decide,by decide,by decide⟩,by decide⟩⟩
theorem feature5000_any (w:World):Calls Tryz.prog 171 #[.int .i64 5000] w (FeatRet w):=by
 have HA:=Lib.hid (fun W=>around_any 5000 1048576 W (by omega) (by omega) (by omega) (by omega))
 have har:arN 5000 1048576=5000:=by decide
 rw [har] at HA;clear har;go_enter Tryz.func171,Tryz.ntmps171
 go_wp2_with fail;refine (HA.out _).mono ?_
 rintro e w1 ⟨rfl,rfl⟩;go_wp2_with fail;refine bodyPost_ret (results_F rfl _ rfl (g:=w.heap.size) (cs:=#[.int .i64 4,.int .i64 0,.slice none 0 0,.slice (some ⟨w.heap.size+1+1+1+1+1+1,0,none⟩) 2 2]) ?_ rfl) rfl ⟨_,_,_,_,(.mk 4 0 [] [(fc 0),(fv 0 ⟨2,1,4,1,true,false,false,false⟩)]),rfl,?_,feat5000_ok,?_⟩
 ·exact ((((((Blk.newAt (by simp)).alloc _).alloc _).alloc _).alloc _).alloc _).alloc _
 ·intro H hH
  exact (fun (H4:Blk _ (w.heap.size+1+1+1+1) 164 (Iv.vals ⟨2,1,4,1,true,false,false,false⟩)) (H6:Blk _ (w.heap.size+1+1+1+1+1+1) 39 #[iI 1,iI 0,nN,nN,iI 2,iI 0,.slice (some ⟨w.heap.size+1+1+1+1,0,none⟩) 1 1,nN])=>(fn_rep (n:=2) H6 (fun h=>by have:=hH _ h;omega) rfl (two_rep (fc_rep _ _ 0) (fv_rep H4 (fun h=>by have:=hH _ h;omega))))) (((Blk.newAt (by simp)).alloc _).alloc _) (Blk.newAt (by simp))
 ·repeat' first | exact Below.refl _ _ | refine below_al ?_ _
def featN:List Int:=[0,7,9,20,36,52,23,100,215,13,47,12,123456,5000]
theorem feature_any (n:Int) (hn:n∈featN) (w:World):Calls Tryz.prog 171 #[.int .i64 n] w (FeatRet w):=by
 unfold featN at hn;simp only [List.mem_cons,List.not_mem_nil,or_false] at hn;rcases hn with rfl | rfl | rfl | rfl | rfl | rfl | rfl | rfl | rfl | rfl | rfl | rfl | rfl | rfl
 ·exact feature0_any w
 ·exact feature7_any w
 ·exact feature9_any w
 ·exact feature20_any w
 ·exact feature36_any w
 ·exact feature52_any w
 ·exact feature23_any w
 ·exact feature100_any w
 ·exact feature215_any w
 ·exact feature13_any w
 ·exact feature47_any w
 ·exact feature12_any w
 ·exact feature123456_any w
 ·exact feature5000_any w
theorem grown_st4 (w:World) (g:Nat) (a b c d:Value):w.grownBy (st4 w g a b c d) (some g) :=
 grown_up (grown_up (grown_up (grown_set w g 0 a) (grown_set _ g 1 b) (fun _ e _=>e)) (grown_set _ g 2 c) (fun _ e _=>e)) (grown_set _ g 3 d) (fun _ e _=>e)
theorem mkfeature_any {w:World} {base g:Nat} {A:Option Addr} {n c:Nat} {day:Int} {fv:Value} (h:Mk w base g A n c day fv) :
  Calls Tryz.prog 138 #[.pointer (some ⟨g,0,none⟩)] w fun e w'=>(∃ a b c d t,e=.returned (.agg #[a,b,c,d])∧(∀ H:List Nat,(∀ i∈H,i<w.heap.size)→RepML TS H w' [a,b,c,d] t.cells)∧Feat t)∧w.grownBy w' (some g)∧Mk w' base g A n c day fv:=by
 have hlt:=h.lt;have hbase:=h.base;have Z0:=Blk.new w 39 #[.int .i64 0,.int .i64 0,.slice none 0 0,.slice none 0 0];have G0:=World.grownBy_alloc w (.cells #[.int .i64 0,.int .i64 0,.slice none 0 0,.slice none 0 0] 39) (some g);have M0:=h.step (World.grownBy_alloc w (.cells #[.int .i64 0,.int .i64 0,.slice none 0 0,.slice none 0 0] 39) none) (fun _ e=>by cases e)
 have hs0:(w.alloc (.cells #[.int .i64 0,.int .i64 0,.slice none 0 0,.slice none 0 0] 39)).heap.size=w.heap.size+1:=World.size_alloc ..;clear h;go_enter Tryz.func138,Tryz.ntmps138
 go_upto_region 1 with fail;generalize w.alloc (.cells #[.int .i64 0,.int .i64 0,.slice none 0 0,.slice none 0 0] 39)=w1 at *;have R1:=Blk.new w1 3 (ints featN).toArray;have Z1:=Z0.alloc (.cells (ints featN).toArray 3);have G1:=grown_up G0 (World.grownBy_alloc w1 (.cells (ints featN).toArray 3) none) (fun _ e=>by cases e)
 have M1:=M0.step (World.grownBy_alloc w1 (.cells (ints featN).toArray 3) none) (fun _ e=>by cases e)
 have HM1:=Lib.hid M1;have HG1:=Lib.hid G1;have HR1:=Lib.hid R1;have HZ1:=Lib.hid Z1;rw [hs0] at HR1;clear M0 G0 Z0 R1 Z1 G1 M1;go_wp2_with fail;refine (next_any HM1.out 14 (by omega) (by omega)).mono ?_
 rintro e w3 ⟨⟨r,rfl,hr0,hr1⟩,g3,M3⟩;obtain ⟨k,rfl⟩:∃ k:Nat,r=(k:Int):=⟨r.toNat,by omega⟩
 have hk:k<featN.length:=by show k<14;omega
 have R3:=HR1.out.grown g3 (fun e=>by injection e with e;omega)
 have Z3:=HZ1.out.grown g3 (fun e=>by injection e with e;omega)
 have G3:=grown_up HG1.out g3 (fun _ e _=>e)
 have hcell:w3.cell? ⟨w.heap.size+1,k,none⟩=some (.int .i64 featN[k]):=R3.cellAt k _ (by rw [List.getElem?_toArray];exact ints_get featN k hk)
 have hx:featN[k]∈featN:=List.getElem_mem hk;generalize featN[k]=x at *;have HX:=Lib.hid (feature_any x hx);have hs3:=Z3.lt;clear HM1 HG1 HR1 HZ1 g3 R3 hx hs0;go_wp2_with fail;refine (HX.out w3).mono ?_
 rintro e w4 ⟨a,b,c',d,t,rfl,hrep,hft,hb4⟩;obtain ⟨A1,n1,q1,A2,n2,q2,rfl,rfl,rfl,rfl⟩:=node_form (hrep [] (fun _ h=>by cases h)).out
 have Z4:=Z3.keep hb4;have hc4:=Z4.c4;have hf4:=Z4.f4;have HR:=Lib.hid hrep;clear hcell hrep Z3;generalize t.op=op at *;generalize t.n=tn at *;go_wp2_with fail;refine bodyPost_ret (results_F rfl _ rfl (Z4.set4 (.int .i64 op) (.int .i64 tn) (.slice A1 n1 q1) (.slice A2 n2 q2)) rfl) rfl ⟨⟨_,_,_,_,t,rfl,fun H hH=>?_,hft⟩,?_,?_⟩
 ·refine RepML.step (HR.out (w.heap.size::H) (fun i hi=>?_)) (grown_st4 w4 w.heap.size _ _ _ _) (fun i e _=>.inr (by injection e with e;subst e;simp)) (fun i hi=>.inl (by simp [hi]))
  rcases List.mem_cons.1 hi with rfl | hi
  ·exact hs3
  ·have:=hH i hi
   omega
 ·exact grown_up (grown_up G3 (grown_of_below (row:=none) hb4) (fun _ e=>by cases e)) (grown_st4 w4 w.heap.size _ _ _ _) (fun i e hi=>by injection e with e;omega)
 ·exact (M3.step (grown_of_below (row:=none) hb4) (fun _ e=>by cases e)).step (grown_st4 w4 w.heap.size _ _ _ _) (fun i e=>by injection e with e;omega)
theorem OwnM.slice {ts:List TypeId} {H:List Nat} {w:World} {base:Nat} {e:TypeId} {size:Nat} {v:Value} {ds:List D} (h:OwnM ts H w base e size v ds):∃ A n c,v=.slice A n c∧ds.length=n * size∧n≤c:=by
 obtain ⟨n,xs,h1,h2⟩:=h;have h3:=h1.1;have h4:=h2.1;rcases h1.2 with ⟨rfl,rfl⟩ | ⟨g,cap,cur,rfl,_,_,hnc,_⟩
 ·exact ⟨none,0,0,rfl,by omega,Nat.le_refl _⟩
 ·exact ⟨_,n,cap,rfl,by omega,hnc⟩
theorem run_appM {T e:TypeId} {z:Value} {size bytes:Nat} (hT:Tryz.prog.underlying T=some (.slice e)) (hinf:(Tryz.prog.info? e).map (fun i=>(i.zero,i.size,i.bytes))=some (some z,size,bytes)) (hz:z.cells.size=size) (hp:0<size) (hby:bytes≤1000)
  {ts:List TypeId} {H:List Nat} {w:World} {base:Nat} {v:Value} {ds:List D} (hown:OwnM ts H w base e size v ds) {g m c:Nat} {cs:Array Value} (hb:Blk w g e cs) (hcs:cs.size=m * size) (h1:cs.all (·.oneCell')=true) {es:List D} (hn:RepML ts (v.ownBlock.toList++H) w cs.toList es)
  (hlen:ds.length≤100000) (hm:m≤1000) (hbase:base≤w.heap.size) {ty:TypeId} :
  ∃ v' w',(Builtin.append_ #[T,T] ty #[v,.slice (some ⟨g,0,none⟩) m c]).run Tryz.prog w=.ok v' w'∧OwnM ts H w' base e size v' (ds++es)∧w.grownBy w' v.ownBlock∧(v'.ownBlock=v.ownBlock∨v'.ownBlock=some w.heap.size):=by
 obtain ⟨n,xs,q1,q2⟩:=hown;obtain ⟨i0,hi,hz0,hz1,hz2⟩:=info_parts hinf;have hl1:=q1.1;have hl2:=q2.1
 have hn1:n≤100000:=by
  have:n * 1≤n * size:=Nat.mul_le_mul_left n hp;omega
 have hall:∀ u∈cs.toList,u.oneCell'=true:=fun u hu=>(Array.all_eq_true_iff_forall_mem.1 h1) u (by simpa using hu)
 obtain ⟨v',w',r1,r2,r3,_,r5⟩:=run_append_own_at (P:=Tryz.prog) w base T ty e i0 z size bytes hT hi hz0 hz1 hz2 hz hp v n xs q1 ⟨g,0,none⟩ m c cs.toList (by rw [Array.length_toList,hcs])
  (fun j u hu=>by
   rw [Addr.add_lit,Nat.zero_add,hb.cell j,← Array.getElem?_toList]
   exact hu) hall (by unfold maxLen;omega) (by
   have:=Nat.mul_le_mul (show n+m≤101000 by omega) hby
   omega) hbase
 exact ⟨v',w',r1,OwnM.app q2 hn r2 r3 r5,r3,r5⟩
theorem wpList_appM {T e:TypeId} {z:Value} {size bytes:Nat} (hT:Tryz.prog.underlying T=some (.slice e)) (hinf:(Tryz.prog.info? e).map (fun i=>(i.zero,i.size,i.bytes))=some (some z,size,bytes)) (hz:z.cells.size=size) (hp:0<size) (hby:bytes≤1000)
  {ts:List TypeId} {H:List Nat} {w:World} {base:Nat} {v:Value} {ds:List D} (hown:OwnM ts H w base e size v ds) {g m c:Nat} {cs:Array Value} (hb:Blk w g e cs) (hcs:cs.size=m * size) (h1:cs.all (·.oneCell')=true) {es:List D} (hn:RepML ts (v.ownBlock.toList++H) w cs.toList es)
  (hlen:ds.length≤100000) (hm:m≤1000) (hbase:base≤w.heap.size)
  {ops:Array Oper} {rest:List Oper} {o:Oper} {a:Act} {Q:Exit→Act→World→Prop} (hgd:o.guard=none) (s x:Operand) (ho:o.op=.call { callee:=.builtin .append,args:=#[s,x],argTypes:=#[T,T] }) (hs:a.eval s=v) (hx:a.eval x=.slice (some ⟨g,0,none⟩) m c)
  (hK:∀ v' w',OwnM ts H w' base e size v' (ds++es)→w.grownBy w' v.ownBlock→(v'.ownBlock=v.ownBlock∨v'.ownBlock=some w.heap.size)→wpList Tryz.prog ops Q rest (a.put o.dst v') w'):wpList Tryz.prog ops Q (o::rest) a w :=
 let ⟨v',w',r1,r2,r3,r4⟩:=run_appM hT hinf hz hp hby hown hb hcs h1 hn hlen hm hbase (ty:=o.type) (c:=c)
 wpList_plain hgd fun _ hK'=>wp_app_run s x T v _ v' ho hs hx r1 (hK' _ _ (hK v' w' r2 r3 r4))
theorem Tryz.info169:(Tryz.prog.info? 169).map (fun i=>(i.zero,i.size,i.bytes))=some (some (.agg #[.slice none 0 0,.int .i64 0,.int .i64 0,.slice none 0 0,.slice none 0 0]),5,88):=by kernel_rfl
theorem Tryz.info106:(Tryz.prog.info? 106).map (fun i=>(i.zero,i.size,i.bytes))=some (some (.agg #[.int .i64 0,.int .i64 0]),2,16):=by kernel_rfl
theorem Tryz.info41:(Tryz.prog.info? 41).map (fun i=>(i.zero,i.size,i.bytes))=some (some (.agg #[iI 0,iI 0,iI 0,iI 0,iI 0,iI 0,iI 0,iI 0,iI 0,iI 0,iI 0,nN,nN,nN,nN,iI 0,iI 0,nN,nN]),19,248):=by kernel_rfl
def TA:List TypeId:=[144,41]
theorem TA_sub:∀ t∈TA,t∈TS:=by decide
theorem mkc_next {w W:World} {u rv:Value} {cl:List Cl} {refs:List Int} {t:F} {a b c d:Value} (O:OwnM TS (List.range w.heap.size) W w.heap.size 169 5 u (cl.flatMap Cl.cells)) (RR:RepM TS (u.ownBlock.toList++List.range w.heap.size) W rv (.s 1 (valD (ints refs))))
  (RF:RepML TS (u.ownBlock.toList++List.range w.heap.size) W [a,b,c,d] t.cells) (_:True):OwnM TS (List.range w.heap.size) (W.alloc (.cells #[rv,a,b,c,d] 169)) w.heap.size 169 5 u (cl.flatMap Cl.cells) ∧
   RepML TS (u.ownBlock.toList++List.range w.heap.size) (W.alloc (.cells #[rv,a,b,c,d] 169)) #[rv,a,b,c,d].toList (Cl.cells ⟨refs,t⟩) :=
 ⟨O.step (World.grownBy_alloc W _ none) (fun _ e=>by cases e) (fun i hi=>.inl hi),RepML.step (RepL.cons RR RF) (World.grownBy_alloc W _ none) (fun _ e=>by cases e) (fun i hi=>.inl hi)⟩
theorem refs_nil (k:Nat):RefsOk [] k:=fun j h=>by simp at h
theorem refs_one {k:Nat} {r:Int} (h0:0≤r) (h1:r<(k:Int)):RefsOk [r] k:=fun j h=>by
 have:j=0:=by simp at h;omega
 subst this;exact ⟨h0,h1,fun h=>absurd h (Nat.lt_irrefl _)⟩
theorem refs_two {k:Nat} (h:k=2):RefsOk [0,1] k:=fun j hj=>by
 subst h;have:j=0∨j=1:=by simp at hj;omega
 rcases this with rfl | rfl
 ·exact ⟨(by omega:(0:Int)≤0),(by omega:(0:Int)<((2:Nat):Int)),fun h=>absurd h (Nat.lt_irrefl _)⟩
 ·exact ⟨(by omega:(0:Int)≤1),(by omega:(1:Int)<((2:Nat):Int)),fun _=>(by omega:(0:Int)<1)⟩
theorem mkc_ok {cl:List Cl} {k:Nat} {refs:List Int} {t:F} (hk:cl.length=k) (h:∀ i (h:i<cl.length),RefsOk cl[i].refs i∧Feat cl[i].body) (hr:RefsOk refs k) (hf:Feat t):∀ i (h:i<(cl++[Cl.mk refs t]).length),RefsOk (cl++[Cl.mk refs t])[i].refs i∧Feat (cl++[Cl.mk refs t])[i].body:=by
 intro i hi;by_cases hlt:i<cl.length
 ·rw [List.getElem_append_left hlt]
  exact h i hlt
 ·have:i=k:=by simp at hi;omega
  subst this;rw [List.getElem_append_right (by omega)]
  simp only [hk,Nat.sub_self,List.getElem_cons_zero];exact ⟨hr,hf⟩
theorem mkclaims_any {w:World} {base g:Nat} {A:Option Addr} {n c:Nat} {day:Int} {fv:Value} (h:Mk w base g A n c day fv) :
  Calls Tryz.prog 139 #[.pointer (some ⟨g,0,none⟩)] w fun e w'=>(∃ u cl,e=.returned u∧RepM TA (List.range w.heap.size) w' u (.s 5 (cl.flatMap Cl.cells))∧GenCl cl)∧w.grownBy w' (some g)∧Mk w' base g A n c day fv:=by
 have hlt:=h.lt;have hbase:=h.base;have HM:=Lib.hid h;clear h;go_enter Tryz.func139,Tryz.ntmps139
 go_wp2_with fail;refine (next_any HM.out 3 (by omega) (by omega)).mono ?_
 rintro e w1 ⟨⟨r,rfl,hr0,hr1⟩,G1,M1⟩;obtain ⟨m,rfl⟩:∃ m:Nat,r=(m:Int):=⟨r.toNat,by omega⟩
 have hm:m<3:=by omega
 clear hr0 hr1 HM;go_wp2_with fail;have O1:OwnM TS (List.range w.heap.size) w1 w.heap.size 169 5 (.slice none 0 0) (([]:List Cl).flatMap Cl.cells):=OwnM.nil ..;go_loopw [3,5] (fun u j wr=>∃ (k:Nat) (cl:List Cl),j=.int .i64 (k:Int)∧k≤m+1∧cl.length=k∧(∀ i (h:i<cl.length),RefsOk cl[i].refs i∧Feat cl[i].body)∧OwnM TS (List.range w.heap.size) wr w.heap.size 169 5 u (cl.flatMap Cl.cells)∧w.grownBy wr (some g)∧Mk wr base g A n c day fv) (fun _ j _=>m+1 - (intOf j).toNat)
 case atStart=>exact ⟨0,[],rfl,Nat.zero_le _,rfl,fun i h=>by simp at h,O1,G1,M1⟩
 case round =>
  obtain ⟨k,cl,rfl,hk,hcl,hok,hO,hG,hM⟩:=hrel;have HOK:=Lib.hid hok;clear O1 G1 M1 hok;by_cases hlt2:k<m+1
  ·have hM':=Lib.hid (mkfeature_any hM)
   have hs:=hM.lt;have HO:=Lib.hid hO;have hul:=hO.lt;go_wp2_with fail;refine hM'.out.mono ?_
   rintro e w2 ⟨⟨a,b,c',d,t,rfl,hrep,hft⟩,g2,M2⟩
   have RF:=hrep (u3.ownBlock.toList++List.range w.heap.size) (fun i hi=>by
    have h1:=hG.size;rcases List.mem_append.1 hi with hi | hi
    ·exact (hul _ (Option.mem_toList.1 hi)).2
    ·have:=List.mem_range.1 hi
     omega)
   obtain ⟨A1,n1,q1,A2,n2,q2,rfl,rfl,rfl,rfl⟩:=node_form RF.out;have O:=HO.out.step g2 (fun i e _=>by injection e with e;subst e;exact ⟨.inl (hM.hidden (by decide)),fun e2=>by have:=(hul _ e2).1;omega⟩) (fun i hi=>.inl hi)
   have G:=grown_up hG g2 (fun _ e _=>e)
   have HTF:Hid True:=trivial;clear hrep HO hM' hG hO g2;generalize t.op=op at *;generalize t.n=tn at *;have X:=Blk.new w2 169 #[.slice none 0 0,.int .i64 op,.int .i64 tn,.slice A1 n1 q1,.slice A2 n2 q2];have g3:=World.grownBy_alloc w2 (.cells #[.slice none 0 0,.int .i64 op,.int .i64 tn,.slice A1 n1 q1,.slice A2 n2 q2] 169) none;have M:=M2.step g3 (fun _ e=>by cases e)
   have HCB:Hid (∀ i,u3.ownBlock=some i→i≠w2.heap.size):=fun i e=>by have:=(O.lt i e).2;omega
   have RF:=RF.step g3 (fun _ e=>by cases e) (fun i hi=>.inl hi)
   have O:=O.step g3 (fun _ e=>by cases e) (fun i hi=>.inl hi)
   have RR:RepM TS (u3.ownBlock.toList++List.range w.heap.size) (w2.alloc (.cells #[.slice none 0 0,.int .i64 op,.int .i64 tn,.slice A1 n1 q1,.slice A2 n2 q2] 169)) (.slice none 0 0) (.s 1 (valD (ints []))):=Rep.nil 1;have hcb1:=G.size;have hcb2:=M2.lt;have G:=grown_up G g3 (fun _ e=>by cases e)
   clear M2 g3;go_upto_region 7 with fail;generalize w2.alloc (.cells #[.slice none 0 0,.int .i64 op,.int .i64 tn,.slice A1 n1 q1,.slice A2 n2 q2] 169)=w3 at *;generalize w2.heap.size=cb at *;have hcbl:=X.lt;by_cases hk0:k=0
   ·have e0:decide (0<(k:Int))=false:=by simp;omega
    have e2:((k:Int) == 2)=false:=by simp;omega
    go_upto_region 11 with fail;obtain ⟨O8,N8⟩:=mkc_next O RR RF HTF.out;have Y8:=Blk.new w3 169 #[.slice none 0 0,.int .i64 op,.int .i64 tn,.slice A1 n1 q1,.slice A2 n2 q2];have G8:=grown_up G (World.grownBy_alloc w3 (.cells #[.slice none 0 0,.int .i64 op,.int .i64 tn,.slice A1 n1 q1,.slice A2 n2 q2] 169) none) (fun _ e=>by cases e)
    have M8:=M.step (World.grownBy_alloc w3 (.cells #[.slice none 0 0,.int .i64 op,.int .i64 tn,.slice A1 n1 q1,.slice A2 n2 q2] 169) none) (fun _ e=>by cases e)
    have hlt8:=O8.lt;have hc5:=X.c5;have HRO:=Lib.hid (refs_nil k);clear O RR RF G M X;go_wp2_with (at_builtin;refine wpList_appM Tryz.underlying33 Tryz.info169 rfl (by omega) (by omega) O8 Y8 rfl (by kernel_rfl) N8 (by rw [flat_length (fun x _=>x.cells_length)];omega) (by omega) (Nat.le_trans G8.size (Nat.le_refl _)) rfl _ _ rfl rfl rfl ?_;intro v9 w9 o9 g9 l9)
    have G9:=grown_up G8 g9 (fun q e hq=>by have:=(hlt8 q e).1;omega)
    have M9:=M8.step g9 (fun q e=>by have:=(hlt8 q e).1;omega)
    go_roundw
    case rel=>exact ⟨k+1,cl++[⟨[],t⟩],by go_num,by omega,by simp [hcl],mkc_ok hcl HOK.out HRO.out hft,by rw [List.flatMap_append,List.flatMap_cons,List.flatMap_nil,List.append_nil];exact o9,G9,M9⟩
    case measure=>simp [intOf];omega
   ·have e0:decide (0<(k:Int))=true:=by simp;omega
    go_wp2_with fail;refine (next_any M 2 (by omega) (by omega)).mono ?_
    rintro e w4 ⟨⟨r2,rfl,hr20,hr21⟩,gn,Mn⟩;have X:=X.grown gn (fun e=>by injection e with e;omega)
    have RF:=RF.step gn (fun i e _=>.inl (by injection e with e;subst e;exact M.hidden (by decide))) (fun i hi=>.inl hi)
    have RR:=RR.step gn (fun i e _=>.inl (by injection e with e;subst e;exact M.hidden (by decide))) (fun i hi=>.inl hi)
    have O:=O.step gn (fun i e _=>by injection e with e;subst e;exact ⟨.inl (M.hidden (by decide)),fun e2=>by have:=(O.lt _ e2).1;omega⟩) (fun i hi=>.inl hi)
    have G:=grown_up G gn (fun _ e _=>e)
    have M:=Mn;have hcbl:=X.lt;clear gn Mn;by_cases h2:r2=0
    ·subst h2
     go_wp2_with fail;refine (next_any M (k:Int) (by omega) (by omega)).mono ?_
     rintro e w5 ⟨⟨r3,rfl,hr30,hr31⟩,gn,Mn⟩;have X:=X.grown gn (fun e=>by injection e with e;omega)
     have RF:=RF.step gn (fun i e _=>.inl (by injection e with e;subst e;exact M.hidden (by decide))) (fun i hi=>.inl hi)
     have RR:=RR.step gn (fun i e _=>.inl (by injection e with e;subst e;exact M.hidden (by decide))) (fun i hi=>.inl hi)
     have O:=O.step gn (fun i e _=>by injection e with e;subst e;exact ⟨.inl (M.hidden (by decide)),fun e2=>by have:=(O.lt _ e2).1;omega⟩) (fun i hi=>.inl hi)
     have G:=grown_up G gn (fun _ e _=>e)
     have M:=Mn;have hcbl:=X.lt;clear gn Mn;have hc6:=(X.alloc (.cells #[.int .i64 r3] 3)).c5;have hf6:(w5.alloc (.cells #[.int .i64 r3] 3)).frozen? ⟨cb,0,none⟩=false:=(X.alloc (.cells #[.int .i64 r3] 3)).frozen 0;have HX:=Lib.hid X;have HRF:=Lib.hid RF;have HO:=Lib.hid O;have HG:=Lib.hid G;have HM:=Lib.hid M;clear X RF O G M RR;go_upto_region 9 with fail;have gs:=grown_set w5 cb 0 (.slice (some ⟨w5.heap.size,0,none⟩) 1 1);have ga:=World.grownBy_alloc (w5.setCell ⟨cb,0,none⟩ (.slice (some ⟨w5.heap.size,0,none⟩) 1 1)) (.cells #[.int .i64 r3] 3) none;have X:=(HX.out.set 0 (.slice (some ⟨w5.heap.size,0,none⟩) 1 1)).alloc (.cells #[.int .i64 r3] 3);simp only [pB,pZ] at X;have RF:=(HRF.out.step gs (fun i e _=>.inl (by injection e with e;subst e;exact HX.out.hidden (by decide))) (fun i hi=>.inl hi)).step ga (fun _ e=>by cases e) (fun i hi=>.inl hi)
     have O:=(HO.out.step gs (fun i e _=>by injection e with e;subst e;exact ⟨.inl (HX.out.hidden (by decide)),fun e2=>HCB.out _ e2 rfl⟩) (fun i hi=>.inl hi)).step ga (fun _ e=>by cases e) (fun i hi=>.inl hi)
     have G:=grown_up (grown_up HG.out gs (fun i e hi=>by injection e with e;omega)) ga (fun _ e=>by cases e)
     have M:=(HM.out.step gs (fun i e=>by injection e with e;omega)).step ga (fun _ e=>by cases e)
     have RR:RepM TS (u3.ownBlock.toList++List.range w.heap.size) ((w5.setCell ⟨cb,0,none⟩ (.slice (some ⟨w5.heap.size,0,none⟩) 1 1)).alloc (.cells #[.int .i64 r3] 3)) (.slice (some ⟨w5.heap.size,0,none⟩) 1 1) (.s 1 (valD (ints [r3]))):=RepM.of_blk (Blk.newAt (by simp [World.setCell])) (by decide) (fun hi=>by
      have h1:=HG.out.size;rcases List.mem_append.1 hi with hi | hi
      ·have:=(HO.out.lt _ (Option.mem_toList.1 hi)).2
       omega
      ·have:=List.mem_range.1 hi
       omega) rfl (RepL.of_plain _ _ (ints [r3]))
     clear HX hc6 hf6 HRF HO HG HM gs ga;generalize (w5.setCell ⟨cb,0,none⟩ (.slice (some ⟨w5.heap.size,0,none⟩) 1 1)).alloc (.cells #[.int .i64 r3] 3)=w6 at *;generalize w5.heap.size=rbw6 at *;by_cases hk2:k=2
     ·have e2:((k:Int) == 2)=true:=by simp;omega
      go_wp2_with fail;refine (next_any M 4 (by omega) (by omega)).mono ?_
      rintro e w7 ⟨⟨r4,rfl,hr40,hr41⟩,gn,Mn⟩;have X:=X.grown gn (fun e=>by injection e with e;omega)
      have RF:=RF.step gn (fun i e _=>.inl (by injection e with e;subst e;exact M.hidden (by decide))) (fun i hi=>.inl hi)
      have RR:=RR.step gn (fun i e _=>.inl (by injection e with e;subst e;exact M.hidden (by decide))) (fun i hi=>.inl hi)
      have O:=O.step gn (fun i e _=>by injection e with e;subst e;exact ⟨.inl (M.hidden (by decide)),fun e2=>by have:=(O.lt _ e2).1;omega⟩) (fun i hi=>.inl hi)
      have G:=grown_up G gn (fun _ e _=>e)
      have M:=Mn;have hcbl:=X.lt;clear gn Mn;by_cases h4:r4=0
      ·subst h4
       go_upto_region 10 with fail;have hc6:=(X.alloc (.cells #[.int .i64 0,.int .i64 1] 3)).c5;have hf6:(w7.alloc (.cells #[.int .i64 0,.int .i64 1] 3)).frozen? ⟨cb,0,none⟩=false:=(X.alloc (.cells #[.int .i64 0,.int .i64 1] 3)).frozen 0;have HX:=Lib.hid X;have HRF:=Lib.hid RF;have HO:=Lib.hid O;have HG:=Lib.hid G;have HM:=Lib.hid M;clear X RF O G M RR;go_upto_region 11 with fail;have gs:=grown_set w7 cb 0 (.slice (some ⟨w7.heap.size,0,none⟩) 2 2);have ga:=World.grownBy_alloc (w7.setCell ⟨cb,0,none⟩ (.slice (some ⟨w7.heap.size,0,none⟩) 2 2)) (.cells #[.int .i64 0,.int .i64 1] 3) none;have X:=(HX.out.set 0 (.slice (some ⟨w7.heap.size,0,none⟩) 2 2)).alloc (.cells #[.int .i64 0,.int .i64 1] 3);simp only [pB,pZ] at X;have RF:=(HRF.out.step gs (fun i e _=>.inl (by injection e with e;subst e;exact HX.out.hidden (by decide))) (fun i hi=>.inl hi)).step ga (fun _ e=>by cases e) (fun i hi=>.inl hi)
       have O:=(HO.out.step gs (fun i e _=>by injection e with e;subst e;exact ⟨.inl (HX.out.hidden (by decide)),fun e2=>HCB.out _ e2 rfl⟩) (fun i hi=>.inl hi)).step ga (fun _ e=>by cases e) (fun i hi=>.inl hi)
       have G:=grown_up (grown_up HG.out gs (fun i e hi=>by injection e with e;omega)) ga (fun _ e=>by cases e)
       have M:=(HM.out.step gs (fun i e=>by injection e with e;omega)).step ga (fun _ e=>by cases e)
       have RR:RepM TS (u3.ownBlock.toList++List.range w.heap.size) ((w7.setCell ⟨cb,0,none⟩ (.slice (some ⟨w7.heap.size,0,none⟩) 2 2)).alloc (.cells #[.int .i64 0,.int .i64 1] 3)) (.slice (some ⟨w7.heap.size,0,none⟩) 2 2) (.s 1 (valD (ints [0,1]))):=RepM.of_blk (Blk.newAt (by simp [World.setCell])) (by decide) (fun hi=>by
        have h1:=HG.out.size;rcases List.mem_append.1 hi with hi | hi
        ·have:=(HO.out.lt _ (Option.mem_toList.1 hi)).2
         omega
        ·have:=List.mem_range.1 hi
         omega) rfl (RepL.of_plain _ _ (ints [0,1]))
       clear HX hc6 hf6 HRF HO HG HM gs ga;generalize (w7.setCell ⟨cb,0,none⟩ (.slice (some ⟨w7.heap.size,0,none⟩) 2 2)).alloc (.cells #[.int .i64 0,.int .i64 1] 3)=w7a at *;generalize w7.heap.size=rbw7a at *;obtain ⟨O8,N8⟩:=mkc_next O RR RF HTF.out;have Y8:=Blk.new w7a 169 #[.slice (some ⟨rbw7a,0,none⟩) 2 2,.int .i64 op,.int .i64 tn,.slice A1 n1 q1,.slice A2 n2 q2];have G8:=grown_up G (World.grownBy_alloc w7a (.cells #[.slice (some ⟨rbw7a,0,none⟩) 2 2,.int .i64 op,.int .i64 tn,.slice A1 n1 q1,.slice A2 n2 q2] 169) none) (fun _ e=>by cases e)
       have M8:=M.step (World.grownBy_alloc w7a (.cells #[.slice (some ⟨rbw7a,0,none⟩) 2 2,.int .i64 op,.int .i64 tn,.slice A1 n1 q1,.slice A2 n2 q2] 169) none) (fun _ e=>by cases e)
       have hlt8:=O8.lt;have hc5:=X.c5;have HRO:=Lib.hid (refs_two hk2);clear O RR RF G M X;go_wp2_with (at_builtin;refine wpList_appM Tryz.underlying33 Tryz.info169 rfl (by omega) (by omega) O8 Y8 rfl (by kernel_rfl) N8 (by rw [flat_length (fun x _=>x.cells_length)];omega) (by omega) (Nat.le_trans G8.size (Nat.le_refl _)) rfl _ _ rfl rfl rfl ?_;intro v9 w9 o9 g9 l9)
       have G9:=grown_up G8 g9 (fun q e hq=>by have:=(hlt8 q e).1;omega)
       have M9:=M8.step g9 (fun q e=>by have:=(hlt8 q e).1;omega)
       go_roundw
       case rel=>exact ⟨k+1,cl++[⟨[0,1],t⟩],by go_num,by omega,by simp [hcl],mkc_ok hcl HOK.out HRO.out hft,by rw [List.flatMap_append,List.flatMap_cons,List.flatMap_nil,List.append_nil];exact o9,G9,M9⟩
       case measure=>simp [intOf];omega
      ·have e4:(r4 == 0)=false:=by simpa using h4
       go_upto_region 11 with fail;obtain ⟨O8,N8⟩:=mkc_next O RR RF HTF.out;have Y8:=Blk.new w7 169 #[.slice (some ⟨rbw6,0,none⟩) 1 1,.int .i64 op,.int .i64 tn,.slice A1 n1 q1,.slice A2 n2 q2];have G8:=grown_up G (World.grownBy_alloc w7 (.cells #[.slice (some ⟨rbw6,0,none⟩) 1 1,.int .i64 op,.int .i64 tn,.slice A1 n1 q1,.slice A2 n2 q2] 169) none) (fun _ e=>by cases e)
       have M8:=M.step (World.grownBy_alloc w7 (.cells #[.slice (some ⟨rbw6,0,none⟩) 1 1,.int .i64 op,.int .i64 tn,.slice A1 n1 q1,.slice A2 n2 q2] 169) none) (fun _ e=>by cases e)
       have hlt8:=O8.lt;have hc5:=X.c5;have HRO:=Lib.hid (refs_one hr30 hr31);clear O RR RF G M X;go_wp2_with (at_builtin;refine wpList_appM Tryz.underlying33 Tryz.info169 rfl (by omega) (by omega) O8 Y8 rfl (by kernel_rfl) N8 (by rw [flat_length (fun x _=>x.cells_length)];omega) (by omega) (Nat.le_trans G8.size (Nat.le_refl _)) rfl _ _ rfl rfl rfl ?_;intro v9 w9 o9 g9 l9)
       have G9:=grown_up G8 g9 (fun q e hq=>by have:=(hlt8 q e).1;omega)
       have M9:=M8.step g9 (fun q e=>by have:=(hlt8 q e).1;omega)
       go_roundw
       case rel=>exact ⟨k+1,cl++[⟨[r3],t⟩],by go_num,by omega,by simp [hcl],mkc_ok hcl HOK.out HRO.out hft,by rw [List.flatMap_append,List.flatMap_cons,List.flatMap_nil,List.append_nil];exact o9,G9,M9⟩
       case measure=>simp [intOf];omega
     ·have e2:((k:Int) == 2)=false:=by simp;omega
      go_upto_region 11 with fail;obtain ⟨O8,N8⟩:=mkc_next O RR RF HTF.out;have Y8:=Blk.new w6 169 #[.slice (some ⟨rbw6,0,none⟩) 1 1,.int .i64 op,.int .i64 tn,.slice A1 n1 q1,.slice A2 n2 q2];have G8:=grown_up G (World.grownBy_alloc w6 (.cells #[.slice (some ⟨rbw6,0,none⟩) 1 1,.int .i64 op,.int .i64 tn,.slice A1 n1 q1,.slice A2 n2 q2] 169) none) (fun _ e=>by cases e)
      have M8:=M.step (World.grownBy_alloc w6 (.cells #[.slice (some ⟨rbw6,0,none⟩) 1 1,.int .i64 op,.int .i64 tn,.slice A1 n1 q1,.slice A2 n2 q2] 169) none) (fun _ e=>by cases e)
      have hlt8:=O8.lt;have hc5:=X.c5;have HRO:=Lib.hid (refs_one hr30 hr31);clear O RR RF G M X;go_wp2_with (at_builtin;refine wpList_appM Tryz.underlying33 Tryz.info169 rfl (by omega) (by omega) O8 Y8 rfl (by kernel_rfl) N8 (by rw [flat_length (fun x _=>x.cells_length)];omega) (by omega) (Nat.le_trans G8.size (Nat.le_refl _)) rfl _ _ rfl rfl rfl ?_;intro v9 w9 o9 g9 l9)
      have G9:=grown_up G8 g9 (fun q e hq=>by have:=(hlt8 q e).1;omega)
      have M9:=M8.step g9 (fun q e=>by have:=(hlt8 q e).1;omega)
      go_roundw
      case rel=>exact ⟨k+1,cl++[⟨[r3],t⟩],by go_num,by omega,by simp [hcl],mkc_ok hcl HOK.out HRO.out hft,by rw [List.flatMap_append,List.flatMap_cons,List.flatMap_nil,List.append_nil];exact o9,G9,M9⟩
      case measure=>simp [intOf];omega
    ·have e3:(r2 == 0)=false:=by simpa using h2
     go_upto_region 9 with fail;by_cases hk2:k=2
     ·have e2:((k:Int) == 2)=true:=by simp;omega
      go_wp2_with fail;refine (next_any M 4 (by omega) (by omega)).mono ?_
      rintro e w7 ⟨⟨r4,rfl,hr40,hr41⟩,gn,Mn⟩;have X:=X.grown gn (fun e=>by injection e with e;omega)
      have RF:=RF.step gn (fun i e _=>.inl (by injection e with e;subst e;exact M.hidden (by decide))) (fun i hi=>.inl hi)
      have RR:=RR.step gn (fun i e _=>.inl (by injection e with e;subst e;exact M.hidden (by decide))) (fun i hi=>.inl hi)
      have O:=O.step gn (fun i e _=>by injection e with e;subst e;exact ⟨.inl (M.hidden (by decide)),fun e2=>by have:=(O.lt _ e2).1;omega⟩) (fun i hi=>.inl hi)
      have G:=grown_up G gn (fun _ e _=>e)
      have M:=Mn;have hcbl:=X.lt;clear gn Mn;by_cases h4:r4=0
      ·subst h4
       go_upto_region 10 with fail;have hc6:=(X.alloc (.cells #[.int .i64 0,.int .i64 1] 3)).c5;have hf6:(w7.alloc (.cells #[.int .i64 0,.int .i64 1] 3)).frozen? ⟨cb,0,none⟩=false:=(X.alloc (.cells #[.int .i64 0,.int .i64 1] 3)).frozen 0;have HX:=Lib.hid X;have HRF:=Lib.hid RF;have HO:=Lib.hid O;have HG:=Lib.hid G;have HM:=Lib.hid M;clear X RF O G M RR;go_upto_region 11 with fail;have gs:=grown_set w7 cb 0 (.slice (some ⟨w7.heap.size,0,none⟩) 2 2);have ga:=World.grownBy_alloc (w7.setCell ⟨cb,0,none⟩ (.slice (some ⟨w7.heap.size,0,none⟩) 2 2)) (.cells #[.int .i64 0,.int .i64 1] 3) none;have X:=(HX.out.set 0 (.slice (some ⟨w7.heap.size,0,none⟩) 2 2)).alloc (.cells #[.int .i64 0,.int .i64 1] 3);simp only [pB,pZ] at X;have RF:=(HRF.out.step gs (fun i e _=>.inl (by injection e with e;subst e;exact HX.out.hidden (by decide))) (fun i hi=>.inl hi)).step ga (fun _ e=>by cases e) (fun i hi=>.inl hi)
       have O:=(HO.out.step gs (fun i e _=>by injection e with e;subst e;exact ⟨.inl (HX.out.hidden (by decide)),fun e2=>HCB.out _ e2 rfl⟩) (fun i hi=>.inl hi)).step ga (fun _ e=>by cases e) (fun i hi=>.inl hi)
       have G:=grown_up (grown_up HG.out gs (fun i e hi=>by injection e with e;omega)) ga (fun _ e=>by cases e)
       have M:=(HM.out.step gs (fun i e=>by injection e with e;omega)).step ga (fun _ e=>by cases e)
       have RR:RepM TS (u3.ownBlock.toList++List.range w.heap.size) ((w7.setCell ⟨cb,0,none⟩ (.slice (some ⟨w7.heap.size,0,none⟩) 2 2)).alloc (.cells #[.int .i64 0,.int .i64 1] 3)) (.slice (some ⟨w7.heap.size,0,none⟩) 2 2) (.s 1 (valD (ints [0,1]))):=RepM.of_blk (Blk.newAt (by simp [World.setCell])) (by decide) (fun hi=>by
        have h1:=HG.out.size;rcases List.mem_append.1 hi with hi | hi
        ·have:=(HO.out.lt _ (Option.mem_toList.1 hi)).2
         omega
        ·have:=List.mem_range.1 hi
         omega) rfl (RepL.of_plain _ _ (ints [0,1]))
       clear HX hc6 hf6 HRF HO HG HM gs ga;generalize (w7.setCell ⟨cb,0,none⟩ (.slice (some ⟨w7.heap.size,0,none⟩) 2 2)).alloc (.cells #[.int .i64 0,.int .i64 1] 3)=w7a at *;generalize w7.heap.size=rbw7a at *;obtain ⟨O8,N8⟩:=mkc_next O RR RF HTF.out;have Y8:=Blk.new w7a 169 #[.slice (some ⟨rbw7a,0,none⟩) 2 2,.int .i64 op,.int .i64 tn,.slice A1 n1 q1,.slice A2 n2 q2];have G8:=grown_up G (World.grownBy_alloc w7a (.cells #[.slice (some ⟨rbw7a,0,none⟩) 2 2,.int .i64 op,.int .i64 tn,.slice A1 n1 q1,.slice A2 n2 q2] 169) none) (fun _ e=>by cases e)
       have M8:=M.step (World.grownBy_alloc w7a (.cells #[.slice (some ⟨rbw7a,0,none⟩) 2 2,.int .i64 op,.int .i64 tn,.slice A1 n1 q1,.slice A2 n2 q2] 169) none) (fun _ e=>by cases e)
       have hlt8:=O8.lt;have hc5:=X.c5;have HRO:=Lib.hid (refs_two hk2);clear O RR RF G M X;go_wp2_with (at_builtin;refine wpList_appM Tryz.underlying33 Tryz.info169 rfl (by omega) (by omega) O8 Y8 rfl (by kernel_rfl) N8 (by rw [flat_length (fun x _=>x.cells_length)];omega) (by omega) (Nat.le_trans G8.size (Nat.le_refl _)) rfl _ _ rfl rfl rfl ?_;intro v9 w9 o9 g9 l9)
       have G9:=grown_up G8 g9 (fun q e hq=>by have:=(hlt8 q e).1;omega)
       have M9:=M8.step g9 (fun q e=>by have:=(hlt8 q e).1;omega)
       go_roundw
       case rel=>exact ⟨k+1,cl++[⟨[0,1],t⟩],by go_num,by omega,by simp [hcl],mkc_ok hcl HOK.out HRO.out hft,by rw [List.flatMap_append,List.flatMap_cons,List.flatMap_nil,List.append_nil];exact o9,G9,M9⟩
       case measure=>simp [intOf];omega
      ·have e4:(r4 == 0)=false:=by simpa using h4
       go_upto_region 11 with fail;obtain ⟨O8,N8⟩:=mkc_next O RR RF HTF.out;have Y8:=Blk.new w7 169 #[.slice none 0 0,.int .i64 op,.int .i64 tn,.slice A1 n1 q1,.slice A2 n2 q2];have G8:=grown_up G (World.grownBy_alloc w7 (.cells #[.slice none 0 0,.int .i64 op,.int .i64 tn,.slice A1 n1 q1,.slice A2 n2 q2] 169) none) (fun _ e=>by cases e)
       have M8:=M.step (World.grownBy_alloc w7 (.cells #[.slice none 0 0,.int .i64 op,.int .i64 tn,.slice A1 n1 q1,.slice A2 n2 q2] 169) none) (fun _ e=>by cases e)
       have hlt8:=O8.lt;have hc5:=X.c5;have HRO:=Lib.hid (refs_nil k);clear O RR RF G M X;go_wp2_with (at_builtin;refine wpList_appM Tryz.underlying33 Tryz.info169 rfl (by omega) (by omega) O8 Y8 rfl (by kernel_rfl) N8 (by rw [flat_length (fun x _=>x.cells_length)];omega) (by omega) (Nat.le_trans G8.size (Nat.le_refl _)) rfl _ _ rfl rfl rfl ?_;intro v9 w9 o9 g9 l9)
       have G9:=grown_up G8 g9 (fun q e hq=>by have:=(hlt8 q e).1;omega)
       have M9:=M8.step g9 (fun q e=>by have:=(hlt8 q e).1;omega)
       go_roundw
       case rel=>exact ⟨k+1,cl++[⟨[],t⟩],by go_num,by omega,by simp [hcl],mkc_ok hcl HOK.out HRO.out hft,by rw [List.flatMap_append,List.flatMap_cons,List.flatMap_nil,List.append_nil];exact o9,G9,M9⟩
       case measure=>simp [intOf];omega
     ·have e2:((k:Int) == 2)=false:=by simp;omega
      go_upto_region 11 with fail;obtain ⟨O8,N8⟩:=mkc_next O RR RF HTF.out;have Y8:=Blk.new w4 169 #[.slice none 0 0,.int .i64 op,.int .i64 tn,.slice A1 n1 q1,.slice A2 n2 q2];have G8:=grown_up G (World.grownBy_alloc w4 (.cells #[.slice none 0 0,.int .i64 op,.int .i64 tn,.slice A1 n1 q1,.slice A2 n2 q2] 169) none) (fun _ e=>by cases e)
      have M8:=M.step (World.grownBy_alloc w4 (.cells #[.slice none 0 0,.int .i64 op,.int .i64 tn,.slice A1 n1 q1,.slice A2 n2 q2] 169) none) (fun _ e=>by cases e)
      have hlt8:=O8.lt;have hc5:=X.c5;have HRO:=Lib.hid (refs_nil k);clear O RR RF G M X;go_wp2_with (at_builtin;refine wpList_appM Tryz.underlying33 Tryz.info169 rfl (by omega) (by omega) O8 Y8 rfl (by kernel_rfl) N8 (by rw [flat_length (fun x _=>x.cells_length)];omega) (by omega) (Nat.le_trans G8.size (Nat.le_refl _)) rfl _ _ rfl rfl rfl ?_;intro v9 w9 o9 g9 l9)
      have G9:=grown_up G8 g9 (fun q e hq=>by have:=(hlt8 q e).1;omega)
      have M9:=M8.step g9 (fun q e=>by have:=(hlt8 q e).1;omega)
      go_roundw
      case rel=>exact ⟨k+1,cl++[⟨[],t⟩],by go_num,by omega,by simp [hcl],mkc_ok hcl HOK.out HRO.out hft,by rw [List.flatMap_append,List.flatMap_cons,List.flatMap_nil,List.append_nil];exact o9,G9,M9⟩
      case measure=>simp [intOf];omega
  ·obtain rfl:k=m+1:=by omega
   have HO:=Lib.hid hO;go_wp2_with fail;go_ret;exact ⟨⟨u3,cl,rfl,HO.out.rep TA_sub (by decide) (fun i hi=>List.mem_range.1 hi),⟨by omega,HOK.out⟩⟩,hG,hM⟩
end Go.Proofs.YtbeaijjaecaidaaGreatDoor
