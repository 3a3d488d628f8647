import Derived.Test.YtglkadmfjaecmaaGreatDoorD12
set_option maxRecDepth 100000
set_option maxHeartbeats 16000000
namespace Go.Proofs.YtglkadmfjaecmaaGreatDoor
open Go.RowKit Go.Shelf _root_.Go.Proofs.Tryz
open Go.Value renaming slice->I, int->Z, pointer->O, agg->U
open Go.IntKind renaming i64->G, u64->Y
open Go.Obj renaming cells->V
open Go.Ending renaming returned->X
attribute [local go_sem] Oper.semAt_some
variable {A:Option Addr} {B bytes cp g m:Nat} {C cs old:Array Value} {H:List Nat} {K:Act->World->Prop} {Q:Exit->Act->World->Prop} {S:World->Prop} {T:TypeId} {W w:World} {ds:List D} {i:Int} {o:Oper} {ops:Array Oper} {ts:List TypeId} {xs:List Value} {z:Value}
def TS:List TypeId:=[77,48,129]
theorem Blk.newAt {n:Nat} {t:TypeId} (h:W.heap.size=n):Blk (W.alloc (V cs t)) n t cs:=h ▸ Blk.new W t cs
theorem Zcy (h:Bl w W) (o:Obj):Bl w (W.alloc o):=h.alloc h.size o
def fc (n:Int):F:=.mk 1 n [] []
def fv (n:Int) (x:Iv):F:=.mk 2 n [x] []
theorem Zg2 (H:List Nat) (W:World) (n:Int):Zb0 TS H W [Z G 1,Z G n,I none 0 0,I none 0 0] (fc n).cells:=by
 rw [F.cells_eq];exact Zax.cons (.v _) (Zax.cons (.v _) (Zax.cons (.nil 8) (Zax.cons (.nil 4) (Zax.nil _ _))))
theorem Zhs {n:Int} {x:Iv} {a:Nat} (h:Blk W a 181 x.vals) (hr:a ∉ H):Zb0 TS H W [Z G 2,Z G n,I (some ⟨a,0,none⟩) 1 1,I none 0 0] (fv n x).cells:=by
 rw [F.cells_eq];refine Zax.cons (.v _) (Zax.cons (.v _) (Zax.cons ?_ (Zax.cons (.nil 4) (Zax.nil _ _))));show Zdf TS H W _ (.s 8 (([x]:List Iv).flatMap Iv.cells));refine Zdf.of_blk h (by decide) hr rfl ?_;rw [de,er,bv];exact Zax.of_plain _ _ x.vals.toList
theorem Zht {op:Int} {b:List F} {a n:Nat} (h:Blk W a 46 cs) (c:a ∉ H) (hs:cs.size=n * 4) (hr:Zb0 TS H W cs.toList (b.flatMap F.cells)):Zb0 TS H W [Z G op,Z G 0,I none 0 0,I (some ⟨a,0,none⟩) n n] (F.mk op 0 [] b).cells:=by
 rw [F.cells_eq];exact Zax.cons (.v _) (Zax.cons (.v _) (Zax.cons (.nil 8) (Zax.cons (Zdf.of_blk h (by decide) c hs hr) (Zax.nil _ _))))
theorem Zh3 {vs us:List Value} {a b:F} (h:Zb0 TS H W vs a.cells) (k:Zb0 TS H W us b.cells):Zb0 TS H W (vs++us) ([a,b].flatMap F.cells):=by
 have:Zb0 TS H W (vs++us) (a.cells++b.cells):=Zax.append h k
 rwa [show [a,b].flatMap F.cells=a.cells++b.cells from by simp]
theorem Ztt {vs:List Value} {a:F} (h:Zb0 TS H W vs a.cells):Zb0 TS H W vs ([a].flatMap F.cells):=by
 rwa [show [a].flatMap F.cells=a.cells from by simp]
theorem Zb3 {fn:Func} {p:Tmp} (h:fn.results=#[.cell p 46]) (a:Array Value) (b:a.getD p undef=O (some ⟨g,0,none⟩)) (c:Blk w g 46 cs) (hs:cs.size=4) :
  (results fn a).run prog w=.ok (U cs) w :=
 results_cell_row h a w g 46 cs _ _ b c underlying46 rfl (by rw [hs];kernel_rfl)
def Zdp (w:World) (e:Ending) (w':World):Prop:=∃ a b c d t,e=X (U #[a,b,c,d])/\(∀ H:List Nat,(∀ g∈H,g<w.heap.size)->Zb0 TS H w' [a,b,c,d] t.cells)/\Zkp t/\Bl w w'
theorem Yah {x:Iv} (h:Yfp x):Zxb [x]:=⟨ag _,fun y hy=>by rw [List.mem_singleton.1 hy];exact h⟩
theorem Ze6 {n:Int} (a:0<=n) (h1:n<64):Zeg (fc n):=.inr (.inl ⟨rfl,⟨a,h1⟩,rfl,rfl⟩)
theorem Zfd {n:Int} {x:Iv} (b:0<=n) (h1:n<32) (a:Yfp x):Zeg (fv n x):=.inr (.inr (.inl ⟨rfl,⟨b,h1⟩,Yah a,rfl⟩))
theorem Ztu {op:Int} {a:F} (h:op=3∨op=6):Zeg (.mk op 0 [] [a]):=.inr (.inr (.inr (.inl ⟨h,rfl,rfl,rfl⟩)))
theorem Zh4 {op:Int} {l:List F} (h:op=4∨op=5):Zeg (.mk op 0 [] l):=.inr (.inr (.inr (.inr ⟨h,rfl,rfl⟩)))
theorem Yea:Zkp (fc 0):=by
 refine ⟨⟨by decide,by decide,?_⟩,by decide⟩;intro y hy;have hy:y∈[fc 0]:=hy;simp only [dt,dl,or_false] at hy;rcases hy with rfl
 ·exact Ze6 (by decide) (by decide)
theorem Zro (w:World):Calls prog 104 #[Z G 0] w (Zdp w):=by
 have b:=ae (fun W=>Zaz 0 1048576 W (by omega) (by omega) (by omega) (by omega));have a:arN 0 1048576=0:=by decide
 rw [a] at b;clear a;go_enter func104,ntmps104;go_wp2_with fail;refine (b.out _).mono ?_;rintro e c ⟨rfl,rfl⟩;go_wp2_with fail;refine bodyPost_ret (Zb3 rfl _ rfl (g:=w.heap.size) (cs:=#[Z G 1,Z G 0,I none 0 0,I none 0 0]) ?_ rfl) rfl ⟨_,_,_,_,(fc 0),rfl,?_,Yea,?_⟩
 ·exact (((((Blk.newAt (by simp)).alloc _).alloc _).alloc _).alloc _).alloc _
 ·intro H d;exact (Zg2 _ _ 0)
 ·repeat' first | exact ap _ _ | refine Zcy ?_ _
theorem Yeb:Zkp (.mk 4 0 [] [(fc 0),(fv 0 ⟨0,1,1,1,false,false,false,false⟩)]):=by
 refine ⟨⟨by decide,by decide,?_⟩,by decide⟩;intro y hy;have hy:y∈[.mk 4 0 [] [(fc 0),(fv 0 ⟨0,1,1,1,false,false,false,false⟩)],fc 0,fv 0 ⟨0,1,1,1,false,false,false,false⟩]:=hy;simp only [dt,dl,or_false] at hy;rcases hy with rfl | rfl | rfl
 ·exact Zh4 (by decide)
 ·exact Ze6 (by decide) (by decide)
 ·exact Zfd (by decide) (by decide) ⟨rfl,⟨by decide,by decide,by decide,by decide⟩,.inr ⟨rfl,⟨by decide,by decide,by decide,by decide⟩,by decide⟩⟩
theorem Zrp (w:World):Calls prog 104 #[Z G 7] w (Zdp w):=by
 have b:=ae (fun W=>Zaz 7 1048576 W (by omega) (by omega) (by omega) (by omega));have a:arN 7 1048576=7:=by decide
 rw [a] at b;clear a;go_enter func104,ntmps104;go_wp2_with fail;refine (b.out _).mono ?_;rintro e k ⟨rfl,rfl⟩;go_wp2_with fail;refine bodyPost_ret (Zb3 rfl _ rfl (g:=w.heap.size) (cs:=#[Z G 4,Z G 0,I none 0 0,I (some ⟨w.heap.size+1+1+1+1+1+1,0,none⟩) 2 2]) ?_ rfl) rfl ⟨_,_,_,_,(.mk 4 0 [] [(fc 0),(fv 0 ⟨0,1,1,1,false,false,false,false⟩)]),rfl,?_,Yeb,?_⟩
 ·exact ((((((Blk.newAt (by simp)).alloc _).alloc _).alloc _).alloc _).alloc _).alloc _
 ·intro H c;exact (fun (j:Blk _ (w.heap.size+1+1+1+1) 181 (Iv.vals ⟨0,1,1,1,false,false,false,false⟩)) (d:Blk _ (w.heap.size+1+1+1+1+1+1) 46 #[iI 1,iI 0,nN,nN,iI 2,iI 0,I (some ⟨w.heap.size+1+1+1+1,0,none⟩) 1 1,nN])=>(Zht (n:=2) d (fun h=>by have:=c _ h;omega) rfl (Zh3 (Zg2 _ _ 0) (Zhs j (fun h=>by have:=c _ h;omega))))) (((Blk.newAt (by simp)).alloc _).alloc _) (Blk.newAt (by simp))
 ·repeat' first | exact ap _ _ | refine Zcy ?_ _
theorem Yec:Zkp (.mk 5 0 [] [(fc 0),(fv 0 ⟨0,1,1,1,false,false,false,false⟩)]):=by
 refine ⟨⟨by decide,by decide,?_⟩,by decide⟩;intro y hy;have hy:y∈[.mk 5 0 [] [(fc 0),(fv 0 ⟨0,1,1,1,false,false,false,false⟩)],fc 0,fv 0 ⟨0,1,1,1,false,false,false,false⟩]:=hy;simp only [dt,dl,or_false] at hy;rcases hy with rfl | rfl | rfl
 ·exact Zh4 (by decide)
 ·exact Ze6 (by decide) (by decide)
 ·exact Zfd (by decide) (by decide) ⟨rfl,⟨by decide,by decide,by decide,by decide⟩,.inr ⟨rfl,⟨by decide,by decide,by decide,by decide⟩,by decide⟩⟩
theorem Zrq (w:World):Calls prog 104 #[Z G 9] w (Zdp w):=by
 have b:=ae (fun W=>Zaz 9 1048576 W (by omega) (by omega) (by omega) (by omega));have a:arN 9 1048576=9:=by decide
 rw [a] at b;clear a;go_enter func104,ntmps104;go_wp2_with fail;refine (b.out _).mono ?_;rintro e k ⟨rfl,rfl⟩;go_wp2_with fail;refine bodyPost_ret (Zb3 rfl _ rfl (g:=w.heap.size) (cs:=#[Z G 5,Z G 0,I none 0 0,I (some ⟨w.heap.size+1+1+1+1+1+1,0,none⟩) 2 2]) ?_ rfl) rfl ⟨_,_,_,_,(.mk 5 0 [] [(fc 0),(fv 0 ⟨0,1,1,1,false,false,false,false⟩)]),rfl,?_,Yec,?_⟩
 ·exact ((((((Blk.newAt (by simp)).alloc _).alloc _).alloc _).alloc _).alloc _).alloc _
 ·intro H c;exact (fun (j:Blk _ (w.heap.size+1+1+1+1) 181 (Iv.vals ⟨0,1,1,1,false,false,false,false⟩)) (d:Blk _ (w.heap.size+1+1+1+1+1+1) 46 #[iI 1,iI 0,nN,nN,iI 2,iI 0,I (some ⟨w.heap.size+1+1+1+1,0,none⟩) 1 1,nN])=>(Zht (n:=2) d (fun h=>by have:=c _ h;omega) rfl (Zh3 (Zg2 _ _ 0) (Zhs j (fun h=>by have:=c _ h;omega))))) (((Blk.newAt (by simp)).alloc _).alloc _) (Blk.newAt (by simp))
 ·repeat' first | exact ap _ _ | refine Zcy ?_ _
theorem Yai:Zkp (fv 1 ⟨0,1,1,1,false,false,false,false⟩):=by
 refine ⟨⟨by decide,by decide,?_⟩,by decide⟩;intro y hy;have hy:y∈[fv 1 ⟨0,1,1,1,false,false,false,false⟩]:=hy;simp only [dt,dl,or_false] at hy;rcases hy with rfl
 ·exact Zfd (by decide) (by decide) ⟨rfl,⟨by decide,by decide,by decide,by decide⟩,.inr ⟨rfl,⟨by decide,by decide,by decide,by decide⟩,by decide⟩⟩
theorem Zo7 (w:World):Calls prog 104 #[Z G 20] w (Zdp w):=by
 have b:=ae (fun W=>Zaz 20 1048576 W (by omega) (by omega) (by omega) (by omega));have a:arN 20 1048576=20:=by decide
 rw [a] at b;clear a;go_enter func104,ntmps104;go_wp2_with fail;refine (b.out _).mono ?_;rintro e j ⟨rfl,rfl⟩;go_wp2_with fail;refine bodyPost_ret (Zb3 rfl _ rfl (g:=w.heap.size) (cs:=#[Z G 2,Z G 1,I (some ⟨w.heap.size+1+1+1+1,0,none⟩) 1 1,I none 0 0]) ?_ rfl) rfl ⟨_,_,_,_,(fv 1 ⟨0,1,1,1,false,false,false,false⟩),rfl,?_,Yai,?_⟩
 ·exact (((((Blk.newAt (by simp)).alloc _).alloc _).alloc _).alloc _).alloc _
 ·intro H c;exact (fun (d:Blk _ (w.heap.size+1+1+1+1) 181 (Iv.vals ⟨0,1,1,1,false,false,false,false⟩))=>(Zhs d (fun h=>by have:=c _ h;omega))) ((Blk.newAt (by simp)).alloc _)
 ·repeat' first | exact ap _ _ | refine Zcy ?_ _
theorem Yaj:Zkp (fv 0 ⟨0,1,0,0,false,false,false,true⟩):=by
 refine ⟨⟨by decide,by decide,?_⟩,by decide⟩;intro y hy;have hy:y∈[fv 0 ⟨0,1,0,0,false,false,false,true⟩]:=hy;simp only [dt,dl,or_false] at hy;rcases hy with rfl
 ·exact Zfd (by decide) (by decide) ⟨rfl,⟨by decide,by decide,by decide,by decide⟩,.inl ⟨rfl,rfl,rfl,rfl⟩⟩
theorem Zo8 (w:World):Calls prog 104 #[Z G 36] w (Zdp w):=by
 have b:=ae (fun W=>Zaz 36 1048576 W (by omega) (by omega) (by omega) (by omega));have a:arN 36 1048576=36:=by decide
 rw [a] at b;clear a;go_enter func104,ntmps104;go_wp2_with fail;refine (b.out _).mono ?_;rintro e j ⟨rfl,rfl⟩;go_wp2_with fail;refine bodyPost_ret (Zb3 rfl _ rfl (g:=w.heap.size) (cs:=#[Z G 2,Z G 0,I (some ⟨w.heap.size+1+1+1+1,0,none⟩) 1 1,I none 0 0]) ?_ rfl) rfl ⟨_,_,_,_,(fv 0 ⟨0,1,0,0,false,false,false,true⟩),rfl,?_,Yaj,?_⟩
 ·exact (((((Blk.newAt (by simp)).alloc _).alloc _).alloc _).alloc _).alloc _
 ·intro H c;exact (fun (d:Blk _ (w.heap.size+1+1+1+1) 181 (Iv.vals ⟨0,1,0,0,false,false,false,true⟩))=>(Zhs d (fun h=>by have:=c _ h;omega))) ((Blk.newAt (by simp)).alloc _)
 ·repeat' first | exact ap _ _ | refine Zcy ?_ _
theorem Yak:Zkp (fv 1 ⟨0,1,1,1,false,false,false,false⟩):=by
 refine ⟨⟨by decide,by decide,?_⟩,by decide⟩;intro y hy;have hy:y∈[fv 1 ⟨0,1,1,1,false,false,false,false⟩]:=hy;simp only [dt,dl,or_false] at hy;rcases hy with rfl
 ·exact Zfd (by decide) (by decide) ⟨rfl,⟨by decide,by decide,by decide,by decide⟩,.inr ⟨rfl,⟨by decide,by decide,by decide,by decide⟩,by decide⟩⟩
theorem Zo9 (w:World):Calls prog 104 #[Z G 52] w (Zdp w):=by
 have b:=ae (fun W=>Zaz 52 1048576 W (by omega) (by omega) (by omega) (by omega));have a:arN 52 1048576=52:=by decide
 rw [a] at b;clear a;go_enter func104,ntmps104;go_wp2_with fail;refine (b.out _).mono ?_;rintro e j ⟨rfl,rfl⟩;go_wp2_with fail;refine bodyPost_ret (Zb3 rfl _ rfl (g:=w.heap.size) (cs:=#[Z G 2,Z G 1,I (some ⟨w.heap.size+1+1+1+1,0,none⟩) 1 1,I none 0 0]) ?_ rfl) rfl ⟨_,_,_,_,(fv 1 ⟨0,1,1,1,false,false,false,false⟩),rfl,?_,Yak,?_⟩
 ·exact (((((Blk.newAt (by simp)).alloc _).alloc _).alloc _).alloc _).alloc _
 ·intro H c;exact (fun (d:Blk _ (w.heap.size+1+1+1+1) 181 (Iv.vals ⟨0,1,1,1,false,false,false,false⟩))=>(Zhs d (fun h=>by have:=c _ h;omega))) ((Blk.newAt (by simp)).alloc _)
 ·repeat' first | exact ap _ _ | refine Zcy ?_ _
theorem Yal:Zkp (.mk 4 0 [] [(fc 1),(fv 1 ⟨0,1,1,1,true,false,false,false⟩)]):=by
 refine ⟨⟨by decide,by decide,?_⟩,by decide⟩;intro y hy;have hy:y∈[.mk 4 0 [] [(fc 1),(fv 1 ⟨0,1,1,1,true,false,false,false⟩)],fc 1,fv 1 ⟨0,1,1,1,true,false,false,false⟩]:=hy;simp only [dt,dl,or_false] at hy;rcases hy with rfl | rfl | rfl
 ·exact Zh4 (by decide)
 ·exact Ze6 (by decide) (by decide)
 ·exact Zfd (by decide) (by decide) ⟨rfl,⟨by decide,by decide,by decide,by decide⟩,.inr ⟨rfl,⟨by decide,by decide,by decide,by decide⟩,by decide⟩⟩
theorem Zpa (w:World):Calls prog 104 #[Z G 23] w (Zdp w):=by
 have b:=ae (fun W=>Zaz 23 1048576 W (by omega) (by omega) (by omega) (by omega));have a:arN 23 1048576=23:=by decide
 rw [a] at b;clear a;go_enter func104,ntmps104;go_wp2_with fail;refine (b.out _).mono ?_;rintro e k ⟨rfl,rfl⟩;go_wp2_with fail;refine bodyPost_ret (Zb3 rfl _ rfl (g:=w.heap.size) (cs:=#[Z G 4,Z G 0,I none 0 0,I (some ⟨w.heap.size+1+1+1+1+1+1,0,none⟩) 2 2]) ?_ rfl) rfl ⟨_,_,_,_,(.mk 4 0 [] [(fc 1),(fv 1 ⟨0,1,1,1,true,false,false,false⟩)]),rfl,?_,Yal,?_⟩
 ·exact ((((((Blk.newAt (by simp)).alloc _).alloc _).alloc _).alloc _).alloc _).alloc _
 ·intro H c;exact (fun (j:Blk _ (w.heap.size+1+1+1+1) 181 (Iv.vals ⟨0,1,1,1,true,false,false,false⟩)) (d:Blk _ (w.heap.size+1+1+1+1+1+1) 46 #[iI 1,iI 1,nN,nN,iI 2,iI 1,I (some ⟨w.heap.size+1+1+1+1,0,none⟩) 1 1,nN])=>(Zht (n:=2) d (fun h=>by have:=c _ h;omega) rfl (Zh3 (Zg2 _ _ 1) (Zhs j (fun h=>by have:=c _ h;omega))))) (((Blk.newAt (by simp)).alloc _).alloc _) (Blk.newAt (by simp))
 ·repeat' first | exact ap _ _ | refine Zcy ?_ _
theorem Zx2:Zkp (fv 0 ⟨1,1,2,1,false,false,false,false⟩):=by
 refine ⟨⟨by decide,by decide,?_⟩,by decide⟩;intro y hy;have hy:y∈[fv 0 ⟨1,1,2,1,false,false,false,false⟩]:=hy;simp only [dt,dl,or_false] at hy;rcases hy with rfl
 ·exact Zfd (by decide) (by decide) ⟨rfl,⟨by decide,by decide,by decide,by decide⟩,.inr ⟨rfl,⟨by decide,by decide,by decide,by decide⟩,by decide⟩⟩
theorem Zm8 (w:World):Calls prog 104 #[Z G 100] w (Zdp w):=by
 have b:=ae (fun W=>Zaz 100 1048576 W (by omega) (by omega) (by omega) (by omega));have a:arN 100 1048576=100:=by decide
 rw [a] at b;clear a;go_enter func104,ntmps104;go_wp2_with fail;refine (b.out _).mono ?_;rintro e j ⟨rfl,rfl⟩;go_wp2_with fail;refine bodyPost_ret (Zb3 rfl _ rfl (g:=w.heap.size) (cs:=#[Z G 2,Z G 0,I (some ⟨w.heap.size+1+1+1+1,0,none⟩) 1 1,I none 0 0]) ?_ rfl) rfl ⟨_,_,_,_,(fv 0 ⟨1,1,2,1,false,false,false,false⟩),rfl,?_,Zx2,?_⟩
 ·exact (((((Blk.newAt (by simp)).alloc _).alloc _).alloc _).alloc _).alloc _
 ·intro H c;exact (fun (d:Blk _ (w.heap.size+1+1+1+1) 181 (Iv.vals ⟨1,1,2,1,false,false,false,false⟩))=>(Zhs d (fun h=>by have:=c _ h;omega))) ((Blk.newAt (by simp)).alloc _)
 ·repeat' first | exact ap _ _ | refine Zcy ?_ _
theorem Zx3:Zkp (.mk 4 0 [] [(fc 1),(fv 1 ⟨2,1,0,0,true,false,false,true⟩)]):=by
 refine ⟨⟨by decide,by decide,?_⟩,by decide⟩;intro y hy;have hy:y∈[.mk 4 0 [] [(fc 1),(fv 1 ⟨2,1,0,0,true,false,false,true⟩)],fc 1,fv 1 ⟨2,1,0,0,true,false,false,true⟩]:=hy;simp only [dt,dl,or_false] at hy;rcases hy with rfl | rfl | rfl
 ·exact Zh4 (by decide)
 ·exact Ze6 (by decide) (by decide)
 ·exact Zfd (by decide) (by decide) ⟨rfl,⟨by decide,by decide,by decide,by decide⟩,.inl ⟨rfl,rfl,rfl,rfl⟩⟩
theorem Zm9 (w:World):Calls prog 104 #[Z G 215] w (Zdp w):=by
 have b:=ae (fun W=>Zaz 215 1048576 W (by omega) (by omega) (by omega) (by omega));have a:arN 215 1048576=215:=by decide
 rw [a] at b;clear a;go_enter func104,ntmps104;go_wp2_with fail;refine (b.out _).mono ?_;rintro e k ⟨rfl,rfl⟩;go_wp2_with fail;refine bodyPost_ret (Zb3 rfl _ rfl (g:=w.heap.size) (cs:=#[Z G 4,Z G 0,I none 0 0,I (some ⟨w.heap.size+1+1+1+1+1+1,0,none⟩) 2 2]) ?_ rfl) rfl ⟨_,_,_,_,(.mk 4 0 [] [(fc 1),(fv 1 ⟨2,1,0,0,true,false,false,true⟩)]),rfl,?_,Zx3,?_⟩
 ·exact ((((((Blk.newAt (by simp)).alloc _).alloc _).alloc _).alloc _).alloc _).alloc _
 ·intro H c;exact (fun (j:Blk _ (w.heap.size+1+1+1+1) 181 (Iv.vals ⟨2,1,0,0,true,false,false,true⟩)) (d:Blk _ (w.heap.size+1+1+1+1+1+1) 46 #[iI 1,iI 1,nN,nN,iI 2,iI 1,I (some ⟨w.heap.size+1+1+1+1,0,none⟩) 1 1,nN])=>(Zht (n:=2) d (fun h=>by have:=c _ h;omega) rfl (Zh3 (Zg2 _ _ 1) (Zhs j (fun h=>by have:=c _ h;omega))))) (((Blk.newAt (by simp)).alloc _).alloc _) (Blk.newAt (by simp))
 ·repeat' first | exact ap _ _ | refine Zcy ?_ _
theorem Yam:Zkp (.mk 3 0 [] [(fc 0)]):=by
 refine ⟨⟨by decide,by decide,?_⟩,by decide⟩;intro y hy;have hy:y∈[.mk 3 0 [] [(fc 0)],fc 0]:=hy;simp only [dt,dl,or_false] at hy;rcases hy with rfl | rfl
 ·exact Ztu (by decide)
 ·exact Ze6 (by decide) (by decide)
theorem Zpb (w:World):Calls prog 104 #[Z G 13] w (Zdp w):=by
 have b:=ae (fun W=>Zaz 13 1048576 W (by omega) (by omega) (by omega) (by omega));have a:arN 13 1048576=13:=by decide
 rw [a] at b;clear a;go_enter func104,ntmps104;go_wp2_with fail;refine (b.out _).mono ?_;rintro e j ⟨rfl,rfl⟩;go_wp2_with fail;refine bodyPost_ret (Zb3 rfl _ rfl (g:=w.heap.size) (cs:=#[Z G 3,Z G 0,I none 0 0,I (some ⟨w.heap.size+1+1+1+1+1+1,0,none⟩) 1 1]) ?_ rfl) rfl ⟨_,_,_,_,(.mk 3 0 [] [(fc 0)]),rfl,?_,Yam,?_⟩
 ·exact ((((((Blk.newAt (by simp)).alloc _).alloc _).alloc _).alloc _).alloc _).alloc _
 ·intro H d;exact (fun (c:Blk _ (w.heap.size+1+1+1+1+1+1) 46 #[Z G 1,Z G 0,I none 0 0,I none 0 0])=>(Zht (n:=1) c (fun h=>by have:=d _ h;omega) rfl (Ztt (Zg2 _ _ 0)))) (Blk.newAt (by simp))
 ·repeat' first | exact ap _ _ | refine Zcy ?_ _
theorem Yan:Zkp (.mk 4 0 [] [(fc 2),.mk 3 0 [] [(fv 0 ⟨0,1,1,1,true,false,false,false⟩)]]):=by
 refine ⟨⟨by decide,by decide,?_⟩,by decide⟩;intro y hy;have hy:y∈[.mk 4 0 [] [(fc 2),.mk 3 0 [] [(fv 0 ⟨0,1,1,1,true,false,false,false⟩)]],fc 2,.mk 3 0 [] [(fv 0 ⟨0,1,1,1,true,false,false,false⟩)],fv 0 ⟨0,1,1,1,true,false,false,false⟩]:=hy;simp only [dt,dl,or_false] at hy;rcases hy with rfl | rfl | rfl | rfl
 ·exact Zh4 (by decide)
 ·exact Ze6 (by decide) (by decide)
 ·exact Ztu (by decide)
 ·exact Zfd (by decide) (by decide) ⟨rfl,⟨by decide,by decide,by decide,by decide⟩,.inr ⟨rfl,⟨by decide,by decide,by decide,by decide⟩,by decide⟩⟩
theorem Zpc (w:World):Calls prog 104 #[Z G 47] w (Zdp w):=by
 have c:=ae (fun W=>Zaz 47 1048576 W (by omega) (by omega) (by omega) (by omega));have a:arN 47 1048576=47:=by decide
 rw [a] at c;clear a;go_enter func104,ntmps104;go_wp2_with fail;refine (c.out _).mono ?_;rintro e l ⟨rfl,rfl⟩;go_wp2_with fail;refine bodyPost_ret (Zb3 rfl _ rfl (g:=w.heap.size) (cs:=#[Z G 4,Z G 0,I none 0 0,I (some ⟨w.heap.size+1+1+1+1+1+1+1,0,none⟩) 2 2]) ?_ rfl) rfl ⟨_,_,_,_,(.mk 4 0 [] [(fc 2),.mk 3 0 [] [(fv 0 ⟨0,1,1,1,true,false,false,false⟩)]]),rfl,?_,Yan,?_⟩
 ·exact (((((((Blk.newAt (by simp)).alloc _).alloc _).alloc _).alloc _).alloc _).alloc _).alloc _
 ·intro H b;exact (fun (k:Blk _ (w.heap.size+1+1+1+1) 181 (Iv.vals ⟨0,1,1,1,true,false,false,false⟩)) (j:Blk _ (w.heap.size+1+1+1+1+1+1) 46 #[Z G 2,Z G 0,I (some ⟨w.heap.size+1+1+1+1,0,none⟩) 1 1,I none 0 0]) (d:Blk _ (w.heap.size+1+1+1+1+1+1+1) 46 #[iI 1,iI 2,nN,nN,iI 3,iI 0,nN,I (some ⟨w.heap.size+1+1+1+1+1+1,0,none⟩) 1 1])=>(Zht (n:=2) d (fun h=>by have:=b _ h;omega) rfl (Zh3 (Zg2 _ _ 2) (Zht (n:=1) j (fun h=>by have:=b _ h;omega) rfl (Ztt (Zhs k (fun h=>by have:=b _ h;omega))))))) ((((Blk.newAt (by simp)).alloc _).alloc _).alloc _) ((Blk.newAt (by simp)).alloc _) (Blk.newAt (by simp))
 ·repeat' first | exact ap _ _ | refine Zcy ?_ _
theorem Yao:Zkp (.mk 4 0 [] [(fc 0),.mk 6 0 [] [fc 0]]):=by
 refine ⟨⟨by decide,by decide,?_⟩,by decide⟩;intro y hy;have hy:y∈[.mk 4 0 [] [(fc 0),.mk 6 0 [] [fc 0]],fc 0,.mk 6 0 [] [fc 0],fc 0]:=hy;simp only [dt,dl,or_false] at hy;rcases hy with rfl | rfl | rfl | rfl
 ·exact Zh4 (by decide)
 ·exact Ze6 (by decide) (by decide)
 ·exact Ztu (by decide)
 ·exact Ze6 (by decide) (by decide)
theorem Zpd (w:World):Calls prog 104 #[Z G 12] w (Zdp w):=by
 have b:=ae (fun W=>Zaz 12 1048576 W (by omega) (by omega) (by omega) (by omega));have a:arN 12 1048576=12:=by decide
 rw [a] at b;clear a;go_enter func104,ntmps104;go_wp2_with fail;refine (b.out _).mono ?_;rintro e k ⟨rfl,rfl⟩;go_wp2_with fail;refine bodyPost_ret (Zb3 rfl _ rfl (g:=w.heap.size) (cs:=#[Z G 4,Z G 0,I none 0 0,I (some ⟨w.heap.size+1+1+1+1+1+1+1,0,none⟩) 2 2]) ?_ rfl) rfl ⟨_,_,_,_,(.mk 4 0 [] [(fc 0),.mk 6 0 [] [fc 0]]),rfl,?_,Yao,?_⟩
 ·exact (((((((Blk.newAt (by simp)).alloc _).alloc _).alloc _).alloc _).alloc _).alloc _).alloc _
 ·intro H c;exact (fun (j:Blk _ (w.heap.size+1+1+1+1+1+1) 46 #[Z G 1,Z G 0,I none 0 0,I none 0 0]) (d:Blk _ (w.heap.size+1+1+1+1+1+1+1) 46 #[iI 1,iI 0,nN,nN,iI 6,iI 0,nN,I (some ⟨w.heap.size+1+1+1+1+1+1,0,none⟩) 1 1])=>(Zht (n:=2) d (fun h=>by have:=c _ h;omega) rfl (Zh3 (Zg2 _ _ 0) (Zht (n:=1) j (fun h=>by have:=c _ h;omega) rfl (Ztt (Zg2 _ _ 0)))))) ((Blk.newAt (by simp)).alloc _) (Blk.newAt (by simp))
 ·repeat' first | exact ap _ _ | refine Zcy ?_ _
theorem Zpe:Zkp (fc 0):=by
 refine ⟨⟨by decide,by decide,?_⟩,by decide⟩;intro y hy;have hy:y∈[fc 0]:=hy;simp only [dt,dl,or_false] at hy;rcases hy with rfl
 ·exact Ze6 (by decide) (by decide)
theorem Zjx (w:World):Calls prog 104 #[Z G 123456] w (Zdp w):=by
 have b:=ae (fun W=>Zaz 123456 1048576 W (by omega) (by omega) (by omega) (by omega));have a:arN 123456 1048576=123456:=by decide
 rw [a] at b;clear a;go_enter func104,ntmps104;go_wp2_with fail;refine (b.out _).mono ?_;rintro e c ⟨rfl,rfl⟩;go_wp2_with fail;refine bodyPost_ret (Zb3 rfl _ rfl (g:=w.heap.size) (cs:=#[Z G 1,Z G 0,I none 0 0,I none 0 0]) ?_ rfl) rfl ⟨_,_,_,_,(fc 0),rfl,?_,Zpe,?_⟩
 ·exact (((((Blk.newAt (by simp)).alloc _).alloc _).alloc _).alloc _).alloc _
 ·intro H d;exact (Zg2 _ _ 0)
 ·repeat' first | exact ap _ _ | refine Zcy ?_ _
theorem Ztv:Zkp (.mk 4 0 [] [(fc 0),(fv 0 ⟨2,1,4,1,true,false,false,false⟩)]):=by
 refine ⟨⟨by decide,by decide,?_⟩,by decide⟩;intro y hy;have hy:y∈[.mk 4 0 [] [(fc 0),(fv 0 ⟨2,1,4,1,true,false,false,false⟩)],fc 0,fv 0 ⟨2,1,4,1,true,false,false,false⟩]:=hy;simp only [dt,dl,or_false] at hy;rcases hy with rfl | rfl | rfl
 ·exact Zh4 (by decide)
 ·exact Ze6 (by decide) (by decide)
 ·exact Zfd (by decide) (by decide) ⟨rfl,⟨by decide,by decide,by decide,by decide⟩,.inr ⟨rfl,⟨by decide,by decide,by decide,by decide⟩,by decide⟩⟩
theorem Zmc (w:World):Calls prog 104 #[Z G 5000] w (Zdp w):=by
 have b:=ae (fun W=>Zaz 5000 1048576 W (by omega) (by omega) (by omega) (by omega));have a:arN 5000 1048576=5000:=by decide
 rw [a] at b;clear a;go_enter func104,ntmps104;go_wp2_with fail;refine (b.out _).mono ?_;rintro e k ⟨rfl,rfl⟩;go_wp2_with fail;refine bodyPost_ret (Zb3 rfl _ rfl (g:=w.heap.size) (cs:=#[Z G 4,Z G 0,I none 0 0,I (some ⟨w.heap.size+1+1+1+1+1+1,0,none⟩) 2 2]) ?_ rfl) rfl ⟨_,_,_,_,(.mk 4 0 [] [(fc 0),(fv 0 ⟨2,1,4,1,true,false,false,false⟩)]),rfl,?_,Ztv,?_⟩
 ·exact ((((((Blk.newAt (by simp)).alloc _).alloc _).alloc _).alloc _).alloc _).alloc _
 ·intro H c;exact (fun (j:Blk _ (w.heap.size+1+1+1+1) 181 (Iv.vals ⟨2,1,4,1,true,false,false,false⟩)) (d:Blk _ (w.heap.size+1+1+1+1+1+1) 46 #[iI 1,iI 0,nN,nN,iI 2,iI 0,I (some ⟨w.heap.size+1+1+1+1,0,none⟩) 1 1,nN])=>(Zht (n:=2) d (fun h=>by have:=c _ h;omega) rfl (Zh3 (Zg2 _ _ 0) (Zhs j (fun h=>by have:=c _ h;omega))))) (((Blk.newAt (by simp)).alloc _).alloc _) (Blk.newAt (by simp))
 ·repeat' first | exact ap _ _ | refine Zcy ?_ _
def Zku:List Int:=[0,7,9,20,36,52,23,100,215,13,47,12,123456,5000]
theorem Ztw (n:Int) (hn:n∈Zku) (w:World):Calls prog 104 #[Z G n] w (Zdp w):=by
 unfold Zku at hn;simp only [dt,dl,or_false] at hn;rcases hn with rfl | rfl | rfl | rfl | rfl | rfl | rfl | rfl | rfl | rfl | rfl | rfl | rfl | rfl
 ·exact Zro w
 ·exact Zrp w
 ·exact Zrq w
 ·exact Zo7 w
 ·exact Zo8 w
 ·exact Zo9 w
 ·exact Zpa w
 ·exact Zm8 w
 ·exact Zm9 w
 ·exact Zpb w
 ·exact Zpc w
 ·exact Zpd w
 ·exact Zjx w
 ·exact Zmc w
theorem Zmd (w:World) (g:Nat) (a b c d:Value):w.grownBy (st4 w g a b c d) (some g) :=
 Zac (Zac (Zac (Zaj w g 0 a) (Zaj _ g 1 b) (fun _ e _=>e)) (Zaj _ g 2 c) (fun _ e _=>e)) (Zaj _ g 3 d) (fun _ e _=>e)
theorem Zey {base:Nat} {n c:Nat} {day:Int} {fv:Value} (h:Mk w base g A n c day fv) :
  Calls prog 61 #[O (some ⟨g,0,none⟩)] w fun e N=>(∃ a b c d t,e=X (U #[a,b,c,d])/\(∀ H:List Nat,(∀ i∈H,i<w.heap.size)->Zb0 TS H N [a,b,c,d] t.cells)/\Zkp t)/\w.grownBy N (some g)/\Mk N base g A n c day fv:=by
 have am:=h.lt;have aa:=h.base;have Z0:=Blk.new w 46 #[Z G 0,Z G 0,I none 0 0,I none 0 0];have G0:=ao w (V #[Z G 0,Z G 0,I none 0 0,I none 0 0] 46) (some g);have M0:=h.step (ao w (V #[Z G 0,Z G 0,I none 0 0,I none 0 0] 46) none) (fun _ e=>by cases e);have E:(w.alloc (V #[Z G 0,Z G 0,I none 0 0,I none 0 0] 46)).heap.size=w.heap.size+1:=ax ..;clear h;go_enter func61,ntmps61;go_upto_region 1 with fail;generalize w.alloc _=w1 at *;have R1:=Blk.new w1 3 (Zdj Zku).toArray;have Z1:=Z0.alloc (V (Zdj Zku).toArray 3);have G1:=Zac G0 (ao w1 (V (Zdj Zku).toArray 3) none) (fun _ e=>by cases e);have M1:=M0.step (ao w1 (V (Zdj Zku).toArray 3) none) (fun _ e=>by cases e);have u:=ae M1;have y:=ae G1;have q:=ae R1;have v:=ae Z1;rw [E] at q;clear M0 G0 Z0 R1 Z1 G1 M1;go_wp2_with fail;refine (Zak u.out 14 (by omega) (by omega)).mono ?_;rintro e w3 ⟨⟨r,rfl,al,ad⟩,J,M3⟩;obtain ⟨k,rfl⟩:∃ k:Nat,r=(k:Int):=⟨r.toNat,by omega⟩
 have hk:k<Zku.length:=by show k<14;omega
 have R3:=q.out.grown J (fun e=>by injection e with e;omega);have L:=v.out.grown J (fun e=>by injection e with e;omega);have G3:=Zac y.out J (fun _ e _=>e);have s:w3.cell? ⟨w.heap.size+1,k,none⟩=some (Z G Zku[k]):=R3.cellAt k _ (by rw [ep];exact Zbx Zku k hk);have hx:Zku[k]∈Zku:=aw hk;generalize Zku[k]=x at *;have HX:=ae (Ztw x hx);have R:=L.lt;clear u y q v J R3 hx E;go_wp2_with fail;refine (HX.out w3).mono ?_;rintro e M ⟨a,b,c',d,t,rfl,j,P,l⟩;obtain ⟨A1,n1,q1,A2,n2,q2,rfl,rfl,rfl,rfl⟩:=Zaq (j [] (fun _ h=>by cases h)).out;have Z4:=L.keep l;have af:=Z4.c4;have ab:=Z4.f4;have HR:=ae j;clear s j L;generalize t.op=op at *;generalize t.n=tn at *;go_wp2_with fail;refine bodyPost_ret (Zb3 rfl _ rfl (Z4.set4 (Z G op) (Z G tn) (I A1 n1 q1) (I A2 n2 q2)) rfl) rfl ⟨⟨_,_,_,_,t,rfl,fun H hH=>?_,P⟩,?_,?_⟩
 ·refine Zb0.step (HR.out (w.heap.size::H) (fun i hi=>?_)) (Zmd M w.heap.size _ _ _ _) (fun i e _=>.inr (by injection e with e;subst e;simp)) (fun i hi=>.inl (by simp [hi]));rcases List.mem_cons.1 hi with rfl | hi
  ·exact R
  ·have:=hH i hi;omega
 ·exact Zac (Zac G3 (Zaf (row:=none) l) (fun _ e=>by cases e)) (Zmd M w.heap.size _ _ _ _) (fun i e hi=>by injection e with e;omega)
 ·exact (M3.step (Zaf (row:=none) l) (fun _ e=>by cases e)).step (Zmd M w.heap.size _ _ _ _) (fun i e=>by injection e with e;omega)
theorem Zbv.slice {base:Nat} {e:TypeId} {size:Nat} {v:Value} (h:Zbv ts H w base e size v ds):∃ A n c,v=I A n c/\ds.length=n * size/\n<=c:=by
 obtain ⟨n,xs,h1,b⟩:=h;have j:=h1.1;have k:=b.1;rcases h1.2 with ⟨rfl,rfl⟩ | ⟨g,cap,d,rfl,_,_,a,_⟩
 ·exact ⟨none,0,0,rfl,by omega,ag _⟩
 ·exact ⟨_,n,cap,rfl,by omega,a⟩
theorem Zv0 {e:TypeId} {size:Nat} (hT:prog.underlying T=some (.slice e)) (q:(prog.info? e).map (fun i=>(i.zero,i.size,i.bytes))=some (some z,size,bytes)) (hz:z.cells.size=size) (J:0<size) (E:bytes<=1000)
  {base:Nat} {v:Value} (d:Zbv ts H w base e size v ds) {c:Nat} (hb:Blk w g e cs) (t:cs.size=m * size) (h1:cs.all (·.oneCell')=true) {es:List D} (hn:Zb0 ts (v.ownBlock.toList++H) w cs.toList es)
  (N:ds.length<=100000) (hm:m<=1000) (a:base<=w.heap.size) {ty:TypeId} :
  ∃ b k,(Builtin.append_ #[T,T] ty #[v,I (some ⟨g,0,none⟩) m c]).run prog w=.ok b k/\Zbv ts H k base e size b (ds++es)/\w.grownBy k v.ownBlock/\(b.ownBlock=v.ownBlock∨b.ownBlock=some w.heap.size):=by
 obtain ⟨n,xs,q1,R⟩:=d;obtain ⟨i0,hi,r,y,s⟩:=info_parts q;have ad:=q1.1;have ab:=R.1;have aa:n<=100000:=by
  have:n * 1<=n * size:=Nat.mul_le_mul_left n J;omega
 have l:∀ u∈cs.toList,u.oneCell'=true:=fun u x=>(Array.all_eq_true_iff_forall_mem.1 h1) u (by simpa using x);obtain ⟨b,k,r1,r2,L,_,M⟩:=run_append_own_at (P:=prog) w base T ty e i0 z size bytes hT hi r y s hz J v n xs q1 ⟨g,0,none⟩ m c cs.toList (by rw [br,t])
  (fun j u x=>by
   rw [Addr.add_lit,cz,hb.cell j,<- dj];exact x) l (by unfold maxLen;omega) (by have:=Nat.mul_le_mul (show n+m<=101000 by omega) E;omega) a
 exact ⟨b,k,r1,Zbv.app R hn r2 L M,L,M⟩
theorem Zbt {e:TypeId} {size:Nat} (M:prog.underlying T=some (.slice e)) (k:(prog.info? e).map (fun i=>(i.zero,i.size,i.bytes))=some (some z,size,bytes)) (L:z.cells.size=size) (E:0<size) (u:bytes<=1000)
  {base:Nat} {v:Value} (q:Zbv ts H w base e size v ds) {c:Nat} (N:Blk w g e cs) (r:cs.size=m * size) (h1:cs.all (·.oneCell')=true) {es:List D} (hn:Zb0 ts (v.ownBlock.toList++H) w cs.toList es)
  (j:ds.length<=100000) (hm:m<=1000) (d:base<=w.heap.size)
  {rest:List Oper} {o:Oper} {a:Act} (t:o.guard=none) (s x:Operand) (ho:o.op=.call {callee:=.builtin .append,args:=#[s,x],argTypes:=#[T,T] }) (hs:a.eval s=v) (J:a.eval x=I (some ⟨g,0,none⟩) m c)
  (P:∀ b l,Zbv ts H l base e size b (ds++es)->w.grownBy l v.ownBlock->(b.ownBlock=v.ownBlock∨b.ownBlock=some w.heap.size)->wpList prog ops Q rest (a.put o.dst b) l):wpList prog ops Q (o::rest) a w :=
 let ⟨b,l,r1,r2,r3,r4⟩:=Zv0 M k L E u q N r h1 hn j hm d (ty:=o.type) (c:=c)
 wpList_plain t fun _ y=>Zct s x T v _ b ho hs J r1 (y _ _ (P b l r2 r3 r4))
theorem info129:(prog.info? 129).map (fun i=>(i.zero,i.size,i.bytes))=some (some (U #[I none 0 0,Z G 0,Z G 0,I none 0 0,I none 0 0]),5,88):=by kernel_rfl
theorem info106:(prog.info? 106).map (fun i=>(i.zero,i.size,i.bytes))=some (some (U #[Z G 0,Z G 0]),2,16):=by kernel_rfl
theorem info48:(prog.info? 48).map (fun i=>(i.zero,i.size,i.bytes))=some (some (U #[iI 0,iI 0,iI 0,iI 0,iI 0,iI 0,iI 0,iI 0,iI 0,iI 0,iI 0,nN,nN,nN,nN,iI 0,iI 0,nN,nN]),19,248):=by kernel_rfl
def Zcq (a b c:Int):Int:=if a=0 then (if b=0 then c else b) else a
theorem Znw (C:Array Value) (R p3:Value) (c1 c2 u:Int) (w:World) (b:Nat)
  (N:Blk w b 88 #[.func (.func 75) #[U C] #[],.func (.func 76) #[] #[R,p3],.func (.func 78) #[U C] #[]])
  (H1:∀ W,Bl w W->Calls prog 75 #[U C] W fun e s=>e=X (Z G c1)/\Bl W s)
  (H2:c1=0->∀ W,Bl w W->Calls prog 76 #[R,p3] W fun e s=>e=X (Z G c2)/\Bl W s)
  (P:c1=0->c2=0->∀ W,Bl w W->Calls prog 78 #[U C] W fun e s=>e=X (Z G u)/\Bl W s) :
  Calls prog 36 #[I (some ⟨b,0,none⟩) 3 3] w fun e s=>e=X (Z G (Zcq c1 c2 u))/\Bl w s:=by
 have L:=ae H1;have K2:=ae H2;have K3:=ae P;clear H1 H2 P;go_enter func36,ntmps36;go_wp2_with fail;go_loopw [8] (fun j wr=>∃ k:Nat,j=Z G (k:Int)/\k<=3/\(1<=k->c1=0)/\(2<=k->c2=0)/\(3<=k->u=0)/\Bl w wr) (fun j _=>3 - (intOf j).toNat)
 case atStart=>exact ⟨0,rfl,by omega,by omega,by omega,by omega,ap _ _⟩
 case round =>
  obtain ⟨k,rfl,hk,a1,J,M,c⟩:=hrel;have r:=N.under c N.lt;have q:=ae a1;have y:=ae J;have E:=ae M;clear a1 J M;have t:k=0∨k=1∨k=2∨k=3:=by omega
  rcases t with rfl | rfl | rfl | rfl
  ·have hc:=r.cell 0;by_cases d:c1=0
   ·have x:(c1 != 0)=false:=by simp [d]
    go_wp2_with (refine (L.out wr c).mono ?_;rintro e w2 ⟨rfl,a⟩);go_roundw
    case rel=>exact ⟨1,by go_num,by omega,fun _=>d,by omega,by omega,Zaa c a c.size⟩
    case measure=>simp [intOf]
   ·have x:(c1 != 0)=true:=by simp [d]
    go_wp2_with (refine (L.out wr c).mono ?_;rintro e w2 ⟨rfl,a⟩);go_ret;exact ⟨by unfold Zcq;rw [if_neg d];rfl,Zaa c a c.size⟩
  ·have hc:=r.cell 1;have l:=q.out (ag _);by_cases d:c2=0
   ·have x:(c2 != 0)=false:=by simp [d]
    go_wp2_with (refine (K2.out l wr c).mono ?_;rintro e w2 ⟨rfl,a⟩);go_roundw
    case rel=>exact ⟨2,by go_num,by omega,fun _=>l,fun _=>d,by omega,Zaa c a c.size⟩
    case measure=>simp [intOf]
   ·have x:(c2 != 0)=true:=by simp [d]
    go_wp2_with (refine (K2.out l wr c).mono ?_;rintro e w2 ⟨rfl,a⟩);go_ret;exact ⟨by unfold Zcq;rw [if_pos l,if_neg d];rfl,Zaa c a c.size⟩
  ·have hc:=r.cell 2;have l:=q.out (by omega);have v:=y.out (by omega);by_cases d:u=0
   ·have x:(u != 0)=false:=by simp [d]
    go_wp2_with (refine (K3.out l v wr c).mono ?_;rintro e w2 ⟨rfl,a⟩);go_roundw
    case rel=>exact ⟨3,by go_num,by omega,fun _=>l,fun _=>v,fun _=>d,Zaa c a c.size⟩
    case measure=>simp [intOf]
   ·have x:(u != 0)=true:=by simp [d]
    go_wp2_with (refine (K3.out l v wr c).mono ?_;rintro e w2 ⟨rfl,a⟩);go_ret;exact ⟨by unfold Zcq;rw [if_pos l,if_pos v];rfl,Zaa c a c.size⟩
  ·have l:=q.out (by omega);have v:=y.out (by omega);have z3:=E.out (by omega);go_wp2_with fail;go_ret;exact ⟨by unfold Zcq;rw [if_pos l,if_pos v,z3];rfl,c⟩
def cop (h:Hd) (i:Int) (f:Fil) (dv cv ev:Value) (salt:Nat) (p:Value):Array Value :=
 #[iI h.office,iI h.tick,iI h.day,iI h.size,uI (h.log:Int),uI (h.map:Int),iI h.sld,uI (h.sign:Int),iI i,
  iI 0,iI f.day,iI f.known,iI f.file,iI f.office,iI f.party,iI f.other,iI 0,iI 0,iI 0,iI 0,dv,cv,nN,ev,iI 0,iI 0,nN,nN,
  uI (salt:Int),p]
def Yjk (C:Array Value) (f:Fil) (dv cv ev:Value):Prop:=∀ (j:Nat) (v:Value),(f.vals dv cv ev).toList[j]?=some v->C[9+j]?=some v
def Yjy (C:Array Value) (h:Hd):Prop:=∀ (j:Nat) (v:Value),h.vals.toList[j]?=some v->C[j]?=some v
structure Zdk (C:Array Value) (h:Hd) (i:Int) (f:Fil) (dv cv ev:Value) (salt:Nat) (p:Value):Prop where
 size:C.size=30
 act:Yjk C f dv cv ev
 hd:Yjy C h
 idx:C[8]?=some (Z G i)
 salt:C[28]?=some (Z Y (salt:Int))
 path:C[29]?=some p
theorem Zap {α:Type} {l:List α} {j:Nat} {v:α} (h:l[j]?=some v):j<l.length:=by
 rcases ir j l.length with h1 | h1
 ·exact h1
 ·rw [gj h1] at h;cases h
theorem Zkg (h:Hd) (i:Int) (f:Fil) (dv cv ev:Value) (salt:Nat) (p:Value):Zdk (cop h i f dv cv ev salt p) h i f dv cv ev salt p:=by
 refine ⟨rfl,fun j v a=>?_,fun j v a=>?_,rfl,rfl,rfl⟩
 ·have b:j<19:=Zap a;have e:j=0∨j=1∨j=2∨j=3∨j=4∨j=5∨j=6∨j=7∨j=8∨j=9∨j=10∨j=11∨j=12∨j=13∨j=14∨j=15∨j=16∨j=17∨j=18:=by omega
  rcases e with rfl | rfl | rfl | rfl | rfl | rfl | rfl | rfl | rfl | rfl | rfl | rfl | rfl | rfl | rfl | rfl | rfl | rfl | rfl <;> exact a
 ·have b:j<8:=Zap a;have e:j=0∨j=1∨j=2∨j=3∨j=4∨j=5∨j=6∨j=7:=by omega
  rcases e with rfl | rfl | rfl | rfl | rfl | rfl | rfl | rfl <;> exact a
section
variable {T:TypeId} {C:Array Value} {h:Hd} {i:Int} {f:Fil} {dv cv ev:Value} {salt:Nat} {p:Value}
theorem Zdk.range (hc:Zdk C h i f dv cv ev salt p) (a:Blk W g T C):W.rangeAt g 9 (f.vals dv cv ev).toList:=fun j v b=>a.cellAt _ _ (hc.act j v b)
theorem Zdk.hrange (hc:Zdk C h i f dv cv ev salt p) (a:Blk W g T C):W.rangeAt g 0 h.vals.toList:=fun j v b=>by rw [cz];exact a.cellAt _ _ (hc.hd j v b)
theorem Zdk.cells (hc:Zdk C h i f dv cv ev salt p) (a:Blk W g T C) :
  W.cell? ⟨g,0,none⟩=some (Z G h.office)/\W.cell? ⟨g,1,none⟩=some (Z G h.tick)/\W.cell? ⟨g,3,none⟩=some (Z G h.size)/\W.cell? ⟨g,4,none⟩=some (Z Y (h.log:Int)) /\
   W.cell? ⟨g,8,none⟩=some (Z G i)/\W.cell? ⟨g,9,none⟩=some (Z G 0)/\W.cell? ⟨g,11,none⟩=some (Z G f.known)/\W.cell? ⟨g,13,none⟩=some (Z G f.office)/\W.cell? ⟨g,28,none⟩=some (Z Y (salt:Int))/\W.cell? ⟨g,29,none⟩=some p :=
 ⟨a.cellAt _ _ (hc.hd 0 _ rfl),a.cellAt _ _ (hc.hd 1 _ rfl),a.cellAt _ _ (hc.hd 3 _ rfl),a.cellAt _ _ (hc.hd 4 _ rfl),a.cellAt _ _ hc.idx,a.cellAt _ _ (hc.act 0 _ rfl),a.cellAt _ _ (hc.act 2 _ rfl),a.cellAt _ _ (hc.act 4 _ rfl),a.cellAt _ _ hc.salt,a.cellAt _ _ hc.path⟩
theorem Yap (hc:Zdk C h i f dv cv ev salt p) (c:Blk w g T C) {a:Act} (x:Operand) (ho:o.op=.load 48 x)
  (b:a.eval x=O (some ⟨g,9,none⟩)) (d:K (a.put o.dst (U (f.vals dv cv ev))) w):o.wp prog a w K Q:=by
 refine wp_load_mid 48 x ho g 9 b (f.vals dv cv ev).toList _ (hc.range c) underlying48 rfl (by kernel_rfl) ?_;rw [bt];exact d
theorem Zge (hc:Zdk C h i f dv cv ev salt p) (d:Blk w g T C) {rest:List Oper} {o:Oper} {a:Act} (x:Operand) (ho:o.op=.load 48 x) (j:Region.wanted o (yielded ops a.tmps)=true)
  (c:a.eval x=O (some ⟨g,9,none⟩)) (e:wpList prog ops Q rest (a.put o.dst (U (f.vals dv cv ev))) w):wpList prog ops Q (o::rest) a w :=
 wpList_step fun _ b=>by
  rw [if_pos j];exact Yap hc d x ho c (b _ _ e)
theorem Zpf (hc:Zdk C h i f dv cv ev salt p) (d:Blk w g T C) {rest:List Oper} {o:Oper} {a:Act} (x:Operand) (ho:o.op=.load 56 x) (j:Region.wanted o (yielded ops a.tmps)=true)
  (c:a.eval x=O (some ⟨g,0,none⟩)) (e:wpList prog ops Q rest (a.put o.dst (U h.vals)) w):wpList prog ops Q (o::rest) a w :=
 wpList_step fun _ b=>by
  rw [if_pos j];refine wp_load_mid 56 x ho g 0 c h.vals.toList _ (hc.hrange d) underlying56 rfl (by kernel_rfl) ?_;rw [bt];exact b _ _ e
end
theorem Yed (h:Blk w g 58 cs) (hs:cs.size=30) {a:Act} (x:Operand) (ho:o.op=.load 58 x)
  (b:a.eval x=O (some ⟨g,0,none⟩)) (c:K (a.put o.dst (U cs)) w):o.wp prog a w K Q:=by
 refine wp_load_mid 58 x ho g 0 b cs.toList _ (fun j v d=>by rw [cz,h.cell j,<- dj];exact d) underlying58 rfl (by rw [br,hs];kernel_rfl) ?_;rw [bt];exact c
theorem Zek (h:Blk w g 58 cs) (hs:cs.size=30) {rest:List Oper} {o:Oper} {a:Act} (x:Operand) (ho:o.op=.load 58 x) (e:Region.wanted o (yielded ops a.tmps)=true)
  (c:a.eval x=O (some ⟨g,0,none⟩)) (d:wpList prog ops Q rest (a.put o.dst (U cs)) w):wpList prog ops Q (o::rest) a w :=
 wpList_step fun _ b=>by
  rw [if_pos e];exact Yed h hs x ho c (b _ _ d)
theorem Yee (h:Blk w g 50 cs) (hs:cs.size=30) {a:Act} (x:Operand) (ho:o.op=.load 50 x)
  (b:a.eval x=O (some ⟨g,0,none⟩)) (c:K (a.put o.dst (U cs)) w):o.wp prog a w K Q:=by
 refine wp_load_mid 50 x ho g 0 b cs.toList _ (fun j v d=>by rw [cz,h.cell j,<- dj];exact d) underlying50 rfl (by rw [br,hs];kernel_rfl) ?_;rw [bt];exact c
theorem Zaw (h:Blk w g 50 cs) (hs:cs.size=30) {rest:List Oper} {o:Oper} {a:Act} (x:Operand) (ho:o.op=.load 50 x) (e:Region.wanted o (yielded ops a.tmps)=true)
  (c:a.eval x=O (some ⟨g,0,none⟩)) (d:wpList prog ops Q rest (a.put o.dst (U cs)) w):wpList prog ops Q (o::rest) a w :=
 wpList_step fun _ b=>by
  rw [if_pos e];exact Yee h hs x ho c (b _ _ d)
def Zza (f:Fil) (o:Int):Int:=if f.office=o then 0 else 22
theorem Zme {h:Hd} {f:Fil} {dv cv ev:Value} {salt:Nat} {p:Value} (k:Zdk C h i f dv cv ev salt p) (a:Zby f) (w:World) (r:w.cell? ⟨0,0,none⟩=some (Z G 655)) (u:0<w.heap.size) (B:Nat) (c:B<=w.heap.size) (s:Zbs w B f dv cv ev) :
  Calls prog 75 #[U C] w fun e J=>e=X (Z G (Zza f h.office))/\Bl w J:=by
 have y:=ae (fun (W:World) (j:Bl w W)=>Zjt f a dv cv ev W ((j.cell (p:=⟨0,0,none⟩) u).trans r) (ah u j.size) B (aj c j.size) (s.keep (fun p v=>j.cell (ah v c)) (ag _)));have t:=Blk.new w 58 C;have l:=Zab w (V C 58);have E:=k.size;clear a s r;go_enter func75,ntmps75;go_wp2_with (refine Zge k t _ rfl rfl rfl ?_);refine (y.out _ l).mono ?_;rintro e L ⟨rfl,b⟩;have hc:=k.cells (t.keep b);have q:=Zaa l b l.size;by_cases d:f.office=h.office
 ·have x:(f.office != h.office)=false:=by simp [d]
  go_wp2_with fail;go_ret;exact ⟨by unfold Zza;rw [if_pos d];rfl,q⟩
 ·have x:(f.office != h.office)=true:=by simp [d]
  go_wp2_with fail;go_ret;exact ⟨by unfold Zza;rw [if_neg d];rfl,q⟩
def Zer (w:World) (src:Value) (m size:Nat) (cs:List Value):Prop:=cs.length=m * size/\((src=I none 0 0/\m=0)∨∃ b o c,src=I (some ⟨b,o,none⟩) m c/\b<w.heap.size/\∀ (j:Nat) (u:Value),cs[j]?=some u->w.cell? ⟨b,o+j,none⟩=some u)
theorem Zer.keep {k:World} {src:Value} {size:Nat} {cs:List Value} (h:Zer w src m size cs) (d:Bl w k):Zer k src m size cs:=by
 refine ⟨h.1,?_⟩;rcases h.2 with h | ⟨b,o,c,e,a,h⟩
 ·exact .inl h
 ·exact .inr ⟨b,o,c,e,ah a d.size,fun j u l=>(d.cell a).trans (h j u l)⟩
theorem Zer.of_own {base:Nat} {e:TypeId} {size:Nat} {v:Value} {n:Nat} (h:w.ownsRow base e size v n xs):Zer w v n size xs:=by
 refine ⟨h.1,?_⟩;have a:=h;rcases h.2 with ⟨rfl,rfl⟩ | ⟨g,cap,q,rfl,r,t,k,d,c,s⟩
 ·exact .inl ⟨rfl,rfl⟩
 ·refine .inr ⟨g,0,cap,rfl,(a.lt g rfl).2,fun j u b=>?_⟩;have l:=Zap b;rw [cz,a.cellAt j (by rw [<- a.1];exact l)];exact b
theorem Zer.of_new {e:TypeId} {b c:Nat} {size:Nat} (h:Blk w b e cs) (hs:cs.size=m * size):Zer w (I (some ⟨b,0,none⟩) m c) m size cs.toList :=
 ⟨by rw [br,hs],.inr ⟨b,0,c,rfl,h.lt,fun j u a=>by rw [cz,h.cell j,<- dj];exact a⟩⟩
theorem Yef {e:TypeId} {size:Nat} (E:prog.underlying T=some (.slice e)) (r:(prog.info? e).map (fun i=>(i.zero,i.size,i.bytes))=some (some z,size,bytes)) (M:z.cells.size=size) (J:0<size) (y:bytes<=1000)
  {base:Nat} {v:Value} {n:Nat} (a:w.ownsRow base e size v n xs) {src:Value} {cs:List Value} (hs:Zer w src m size cs) (h1:∀ u∈cs,u.oneCell'=true)
  (hn:n<=100000) (hm:m<=1000) (k:base<=w.heap.size) {ty:TypeId} :
  ∃ l q,(Builtin.append_ #[T,T] ty #[v,src]).run prog w=.ok l q/\q.ownsRow base e size l (n+m) (xs++cs)/\w.grownBy q v.ownBlock/\(l.ownBlock=v.ownBlock∨l.ownBlock=some w.heap.size):=by
 obtain ⟨i0,hi,s,x,t⟩:=info_parts r;obtain ⟨hl,hs⟩:=hs;rcases hs with ⟨rfl,rfl⟩ | ⟨b,o,c,rfl,_,d⟩
 ·have L:cs=[]:=bj (by rw [hl,io]);subst L;exact ⟨v,w,run_append_owned_none (P:=prog) (w:=w) base T ty e i0 size E (by rw [hi]) v n xs (by exact a),by rw [bv,Nat.add_zero];exact a,World.grownBy.refl w _,.inl rfl⟩
 ·obtain ⟨l,q,r1,r2,N,_,R⟩:=run_append_own_at (P:=prog) w base T ty e i0 z size bytes E hi s x t M J v n xs a ⟨b,o,none⟩ m c cs hl
   (fun j u hu=>by rw [Addr.add_lit];exact d j u hu) h1 (by unfold maxLen;omega) (by
    have:=Nat.mul_le_mul (show n+m<=101000 by omega) y;omega) k
  exact ⟨l,q,r1,r2,N,R⟩
theorem Zd8 {e:TypeId} {size:Nat} (L:prog.underlying T=some (.slice e)) (d:(prog.info? e).map (fun i=>(i.zero,i.size,i.bytes))=some (some z,size,bytes)) (J:z.cells.size=size) (y:0<size) (r:bytes<=1000)
  {base:Nat} {v:Value} {n:Nat} (k:w.ownsRow base e size v n xs) {src:Value} {cs:List Value} (hs:Zer w src m size cs) (h1:∀ u∈cs,u.oneCell'=true)
  (hn:n<=100000) (hm:m<=1000) (c:base<=w.heap.size)
  {rest:List Oper} {o:Oper} {a:Act} (q:o.guard=none) (s x:Operand) (ho:o.op=.call {callee:=.builtin .append,args:=#[s,x],argTypes:=#[T,T] }) (l:a.eval s=v) (E:a.eval x=src)
  (M:∀ b j,j.ownsRow base e size b (n+m) (xs++cs)->w.grownBy j v.ownBlock->(b.ownBlock=v.ownBlock∨b.ownBlock=some w.heap.size)->wpList prog ops Q rest (a.put o.dst b) j):wpList prog ops Q (o::rest) a w :=
 let ⟨b,j,r1,r2,r3,r4⟩:=Yef L d J y r k hs h1 hn hm c (ty:=o.type)
 wpList_plain q fun _ t=>Zct s x T v _ b ho l E r1 (t _ _ (M b j r2 r3 r4))
def Yg3 (h:Hd) (f:Fil) (salt:Nat):Int:=if h.log=Zce (Zbo (Zdh f) salt) then 0 else 10
theorem Zrr (a h:Nat) (b:h<18446744073709551616) (A:Option Addr) (c:Nat) (w:World) :
  Calls prog 117 #[Z Y (a:Int),Z G 0,Z G 1,Z Y (h:Int),I A 0 c] w fun e d=>e=X (Z G (if a=Zce h then 0 else 10))/\Bl w d:=by
 by_cases hr:a=Zce h
 ·rw [if_pos hr];exact Ztm a h b hr A c w
 ·rw [if_neg hr];exact Zrh a h b hr A c w
theorem Ztx {h:Hd} {f:Fil} {dv cv ev:Value} {salt:Nat} (d:Zdk C h 0 f dv cv ev salt (I A 0 cp)) (l:Zby f) (c:h.size=1) (ab:f.known<=h.tick) (k:salt<18446744073709551616) (w:World) (hG:w.cell? ⟨0,0,none⟩=some (Z G 655)) (h0:0<w.heap.size) (B:Nat) (s:B<=w.heap.size) (hf:Zbs w B f dv cv ev) :
  Calls prog 78 #[U C] w fun e r=>e=X (Z G (Yg3 h f salt))/\Bl w r:=by
 have HE:=ae (fun (W:World) (E:Bl w W)=>Zo1 f l dv cv ev W ((E.cell (p:=⟨0,0,none⟩) h0).trans hG) (ah h0 E.size) B (aj s E.size) (hf.keep (fun p L=>E.cell (ah L s)) (ag _)));have P:=Blk.new w 58 C;have J:=Zab w (V C 58);have ad:=d.size;have hk:decide (h.tick<f.known)=false:=decide_eq_false (by omega);have aa:=Zex l;have M:=ae (Zfq f);have y:Yg3 h f salt=if h.log=Zce (Zbo (Zdh f) salt) then 0 else 10:=rfl
 have N:=ae y;clear y;generalize Yg3 h f salt=le at *;clear l hf hG;generalize Zdh f=bs at *;have hc:=d.cells P;rw [c] at hc;go_enter func78,ntmps78;go_wp2_with (refine Zge d P _ rfl rfl rfl ?_);refine (HE.out _ J).mono ?_;rintro e w1 ⟨u,rfl,R,j⟩;have v:=P.keep j;have P1:=Zaa J j J.size;have R1:=R.rep;have x:Zbo bs salt<18446744073709551616:=Zcn _ _;clear hc J j R;go_upto_region 6 with fail;refine wp_region_held_drew (S:=(fun W=>Bl w1 W)) (by kernel_rfl) ?_ (fun a=>?_)
 ·first | done | ((try dsimp only);exact (ap _ _).drew)
 generalize w1.drew=wb at *;refine tq 0 21 rfl ?_;refine tq 1 22 rfl ?_;refine tq 2 23 rfl ?_ (hy:=by intro r b;(try dsimp only at b);have hc:=d.cells (v.keep b);rw [c] at hc;go_simp;try (with_reducible rfl));refine tq 3 24 rfl ?_;refine tq 4 25 rfl ?_ (hy:=by intro r b;(try dsimp only at b);have hc:=d.cells (v.keep b);rw [c] at hc;go_simp;try (with_reducible rfl));refine tq 5 26 rfl ?_;refine tq 6 27 rfl ?_;refine tq 7 28 rfl ?_ (hy:=by intro r b;(try dsimp only at b);have hc:=d.cells (v.keep b);rw [c] at hc;go_simp;try (with_reducible rfl));refine tq 8 29 rfl ?_;refine tq 9 30 rfl ?_;refine tq 10 31 rfl ?_ (hy:=by intro r b;(try dsimp only at b);have hc:=d.cells (v.keep b);rw [c] at hc;go_simp;try (with_reducible rfl));refine tq 12 33 rfl ?_;refine tq 13 34 rfl ?_ (hy:=by intro r b;(try dsimp only at b);have hc:=d.cells (v.keep b);rw [c] at hc;go_simp;try (with_reducible rfl));refine rd 11 (some 32) rfl fun K t=>?_;go_simp;(refine (Znk u bs M.out (by omega) salt k _ (R1.keep (fun p L=>a.cell L) a.size)).mono ?_;rintro e w2 ⟨rfl,q⟩);refine t.out _ _ (a.trans (q.mono a.size)) fun a=>?_;clear t K;(try simp only [pS,pB,pZ,pC]);refine rd 14 (some 35) rfl fun K t=>?_;go_simp;(refine (Zrr h.log _ x A cp _).mono ?_;rintro e w2 ⟨rfl,q⟩;rw [<- N.out]);refine t.out _ _ (a.trans (q.mono a.size)) fun a=>?_;clear t K;(try simp only [pS,pB,pZ,pC]);refine tq 15 2 rfl ?_;refine dn ?_;have HB:=ae (Zaa P1 a P1.size);clear a;go_wp2_with fail;go_ret;exact ⟨rfl,HB.out⟩
def hdE (key:Nat) (h:Hd):Int:=if h.sign=Zk4 key h then 0 else 23
theorem Zmf (key:Nat) (c:key<18446744073709551616) (h:Hd) (hl:h.log<18446744073709551616) (hm:h.map<18446744073709551616) (a:Yd3 h.office h.tick h.day h.size h.sld) (w:World) :
  Calls prog 77 #[Z Y (key:Int),U h.vals] w fun e j=>e=X (Z G (hdE key h))/\Bl w j:=by
 obtain ⟨o,t,d,s,l,m,sl,b⟩:=h;unfold hdE Hd.vals;by_cases hs:b=Zk4 key ⟨o,t,d,s,l,m,sl,b⟩
 ·rw [if_pos hs];exact Zxy key c o t d s l m hl hm sl b a hs w
 ·rw [if_neg hs];exact Ztl key c o t d s l m hl hm sl b a hs w
theorem Zty {h:Hd} {f:Fil} {dv cv ev:Value} {salt:Nat} {p:Value} (r:Zdk C h i f dv cv ev salt p) (key:Nat) (k:key<18446744073709551616) (hl:h.log<18446744073709551616) (hm:h.map<18446744073709551616) (a:Yd3 h.office h.tick h.day h.size h.sld) (c j:Nat) (w:World)
  (d:Blk w c 26 #[Z Y (key:Int)]) (l:Blk w j 58 C) :
  Calls prog 76 #[O (some ⟨c,0,none⟩),O (some ⟨j,0,none⟩)] w fun e s=>e=X (Z G (hdE key h))/\Bl w s:=by
 have q:=ae (fun W=>Zmf key k h hl hm a W);have hc:=d.c1;clear k hl hm a d;go_enter func76,ntmps76;go_wp2_with (refine Zpf r l _ rfl rfl rfl ?_);refine (q.out _).mono ?_;rintro e t ⟨rfl,b⟩;go_wp2_with fail;go_ret;exact ⟨rfl,b⟩
theorem Zhk {h:Hd} {f:Fil} {dv cv ev:Value} {salt:Nat} (u:Zdk C h 0 f dv cv ev salt (I A 0 cp)) (k:Zby f) (key:Nat) (hk:key<18446744073709551616) (s:h.size=1) (r:f.known<=h.tick) (b:salt<18446744073709551616) (d:h.log<18446744073709551616) (hm:h.map<18446744073709551616) (q:Yd3 h.office h.tick h.day h.size h.sld)
  (w:World) (N:w.cell? ⟨0,0,none⟩=some (Z G 655)) (M:0<w.heap.size) (B:Nat) (l:B<=w.heap.size) (P:Zbs w B f dv cv ev) :
  Calls prog 40 #[Z Y (key:Int),U C] w fun e w'=>e=X (Z G (Zcq (Zza f h.office) (hdE key h) (Yg3 h f salt)))/\Bl w w':=by
 have c:∀ W,Bl w W->W.cell? ⟨0,0,none⟩=some (Z G 655)/\0<W.heap.size/\B<=W.heap.size/\Zbs W B f dv cv ev:=fun W a=>⟨(a.cell (p:=⟨0,0,none⟩) M).trans N,ah M a.size,aj l a.size,P.keep (fun p hp=>a.cell (ah hp l)) (ag _)⟩
 have J:=ae (fun (W:World) (a:Bl w W)=>Zme u k W (c W a).1 (c W a).2.1 B (c W a).2.2.1 (c W a).2.2.2);have E:=ae (fun (W:World) (a:Bl w W)=>Ztx u k s r b W (c W a).1 (c W a).2.1 B (c W a).2.2.1 (c W a).2.2.2);have H2:=ae (fun (W:World) (kb cb:Nat) hb hx=>Zty u key hk d hm q kb cb W hb hx);have v:=(Blk.new (w.alloc (V #[Z Y (key:Int)] 26)) 58 C);rw [ax] at v;have R:=(Blk.new w 26 #[Z Y (key:Int)]).alloc (V C 58);have L:=(Zab w (V #[Z Y (key:Int)] 26)).alloc (by simp) (V C 58);have x:=u.size;clear c u k hk s r b d hm q N P;generalize Zza f h.office=e1 at *;generalize hdE key h=e2 at *;generalize Yg3 h f salt=e3 at *;go_enter func40,ntmps40;go_wp2_with (refine Zek v x _ rfl rfl rfl ?_);have hF:=Blk.new ((w.alloc (V #[Z Y (key:Int)] 26)).alloc (V C 58)) 88 #[.func (.func 75) #[U C] #[],.func (.func 76) #[] #[O (some ⟨w.heap.size,0,none⟩),O (some ⟨w.heap.size+1,0,none⟩)],.func (.func 78) #[U C] #[]];have j:=L.alloc (by simp;omega) (V #[.func (.func 75) #[U C] #[],.func (.func 76) #[] #[O (some ⟨w.heap.size,0,none⟩),O (some ⟨w.heap.size+1,0,none⟩)],.func (.func 78) #[U C] #[]] 88);have XF:=v.alloc (V #[.func (.func 75) #[U C] #[],.func (.func 76) #[] #[O (some ⟨w.heap.size,0,none⟩),O (some ⟨w.heap.size+1,0,none⟩)],.func (.func 78) #[U C] #[]] 88);have y:=R.alloc (V #[.func (.func 75) #[U C] #[],.func (.func 76) #[] #[O (some ⟨w.heap.size,0,none⟩),O (some ⟨w.heap.size+1,0,none⟩)],.func (.func 78) #[U C] #[]] 88);rw [ax,ax] at hF;refine (Znw C _ _ e1 e2 e3 _ _ hF (fun W a=>J.out W (j.trans (a.mono (j.size)))) (fun _ W a=>H2.out W _ _ (y.keep a) (XF.keep a)) (fun _ _ W a=>E.out W (j.trans (a.mono (j.size))))).mono ?_;rintro e w2 ⟨rfl,t⟩;have P2:=j.trans (t.mono j.size);clear hF j XF y t J H2 E v R L;go_wp2_with fail;go_ret;exact ⟨rfl,P2⟩
theorem Zao {n:Nat} (hi:(prog.info? T).map (·.size)=some n) (h:Blk w g T old) (hs:old.size=n) {rest:List Oper} {o:Oper} {a:Act} (p v:Operand) (ho:o.op=.store T p v) (d:o.guard=none)
  (e:a.eval p=O (some ⟨g,0,none⟩)) (vs:Array Value) (j:a.eval v=U vs) (b:vs.size=n) (h1:vs.all (·.oneCell')=true)
  (k:∀ c,Blk c g T vs->w.grownBy c (some g)->wpList prog ops Q rest (a.put o.dst undef) c):wpList prog ops Q (o::rest) a w :=
 wpList_store_row d T p v ho g vs e j T old h (by rw [b];exact hi) (by rw [hs,b]) h1 (k _ (h.setRow vs) (Zej w g vs))
theorem Zdl {n:Nat} (hi:(prog.info? T).map (·.size)=some n) (h:Blk w g T old) (hs:old.size=n) {a:Act} (p v:Operand) (ho:o.op=.store T p v)
  (d:a.eval p=O (some ⟨g,0,none⟩)) (vs:Array Value) (j:a.eval v=U vs) (b:vs.size=n) (h1:vs.all (·.oneCell')=true)
  (e:∀ c,Blk c g T vs->w.grownBy c (some g)->K (a.put o.dst undef) c):o.wp prog a w K Q :=
 wp_store_row T p v ho g vs d j T old h (by rw [b];exact hi) (by rw [hs,b]) h1 (e _ (h.setRow vs) (Zej w g vs))
theorem Yaq {fn:Func} {p:Tmp} (h:fn.results=#[.cell p 56]) (a:Array Value) (b:a.getD p undef=O (some ⟨g,0,none⟩)) (c:Blk w g 56 cs) (hs:cs.size=8) :
  (results fn a).run prog w=.ok (U cs) w :=
 results_cell_row h a w g 56 cs _ _ b c underlying56 rfl (by rw [hs];kernel_rfl)
theorem Zrs {fn:Func} {p:Tmp} (h:fn.results=#[.cell p 58]) (a:Array Value) (b:a.getD p undef=O (some ⟨g,0,none⟩)) (c:Blk w g 58 cs) (hs:cs.size=30) :
  (results fn a).run prog w=.ok (U cs) w :=
 results_cell_row h a w g 58 cs _ _ b c underlying58 rfl (by rw [hs];kernel_rfl)
theorem Zc5 {fn:Func} {p:Tmp} (h:fn.results=#[.cell p 50]) (a:Array Value) (b:a.getD p undef=O (some ⟨g,0,none⟩)) (c:Blk w g 50 cs) (hs:cs.size=30) :
  (results fn a).run prog w=.ok (U cs) w :=
 results_cell_row h a w g 50 cs _ _ b c underlying50 rfl (by rw [hs];kernel_rfl)
theorem Ztz (d:Option Tmp) (ty:TypeId) (a:String) (after:Array Edge) (s:Option (Nat × Bool)) (r:Operand->Value) (b l e k j:Operand) (h:Hd) (i:Int) (f:Fil) (dv cv ev:Value) (salt:Nat) (A:Option Addr) (n c:Nat)
  (t:r b=U h.vals) (h1:r l=Z G i) (q:r e=U (f.vals dv cv ev)) (u:r k=Z Y (salt:Int)) (v:r j=I A n c) (w:World) :
  (execOp r ⟨d,.build 58 #[(0,b),(1,l),(2,e),(3,k),(4,j)],ty,a,after,s⟩).run prog w=.ok (.value (U (cop h i f dv cv ev salt (I A n c)))) w:=by
 unfold Hd.vals at t;unfold Fil.vals at q;unfold cop;simp only [execOp];go_simp
theorem Zt0 (d:Option Tmp) (ty:TypeId) (a:String) (after:Array Edge) (s:Option (Nat × Bool)) (r:Operand->Value) (b l e k j:Operand) (h:Hd) (i:Int) (f:Fil) (dv cv ev:Value) (salt:Nat) (A:Option Addr) (n c:Nat)
  (t:r b=U h.vals) (h1:r l=Z G i) (q:r e=U (f.vals dv cv ev)) (u:r k=Z Y (salt:Int)) (v:r j=I A n c) (w:World) :
  (execOp r ⟨d,.build 50 #[(0,b),(1,l),(2,e),(3,k),(4,j)],ty,a,after,s⟩).run prog w=.ok (.value (U (cop h i f dv cv ev salt (I A n c)))) w:=by
 unfold Hd.vals at t;unfold Fil.vals at q;unfold cop;simp only [execOp];go_simp
theorem Yar (h:Hd) (w:World):Calls prog 42 #[U h.vals] w fun e r=>e=X (U h.vals)/\Bl w r:=by
 obtain ⟨o,t,d,s,l,m,sl,a⟩:=h;unfold Hd.vals;dsimp only;have u:=(Blk.new w 36 #[iI o,iI t,iI d,iI s,uI (l:Int),uI (m:Int),iI sl,uI (a:Int)]).alloc (V #[iI 0,iI 0,iI 0,iI 0,uI 0,uI 0,iI 0,uI 0] 56);have b:=Blk.new (w.alloc (V #[iI o,iI t,iI d,iI s,uI (l:Int),uI (m:Int),iI sl,uI (a:Int)] 36)) 56 #[iI 0,iI 0,iI 0,iI 0,uI 0,uI 0,iI 0,uI 0];rw [ax] at b;have c:=(Zab w (V #[iI o,iI t,iI d,iI s,uI (l:Int),uI (m:Int),iI sl,uI (a:Int)] 36)).alloc (by simp) (V #[iI 0,iI 0,iI 0,iI 0,uI 0,uI 0,iI 0,uI 0] 56);go_enter func42,ntmps42;go_upto_region 1 with fail;generalize (w.alloc (V #[iI o,iI t,iI d,iI s,uI (l:Int),uI (m:Int),iI sl,uI (a:Int)] 36)).alloc (V #[iI 0,iI 0,iI 0,iI 0,uI 0,uI 0,iI 0,uI 0] 56)=v at *;have hc:=u.c8;go_wp2_with (refine Zao (T:=56) (n:=8) (by kernel_rfl) b rfl _ _ rfl rfl rfl _ rfl rfl (by kernel_rfl) ?_;intro w2 j q);exact bodyPost_ret (Yaq rfl _ rfl j rfl) rfl ⟨rfl,c.grown q c.size (fun k e=>by injection e with e;omega)⟩
def Yii (dv cv ev:Value):Prop:=(∃ A n c,dv=I A n c)/\(∃ A n c,cv=I A n c)/\(∃ A n c,ev=I A n c)
theorem Rep.one {sz:Nat} {v:Value} (h:Rep W B v (.s sz ds)):∃ A n c,v=I A n c:=by
 obtain ⟨A,n,c,rfl,_⟩:=h.slice;exact ⟨A,n,c,rfl⟩
theorem Zbs.one {f:Fil} {dv cv ev:Value} (h:Zbs W B f dv cv ev):Yii dv cv ev:=⟨Rep.one h.1,Rep.one h.2.1,Rep.one h.2.2⟩
theorem Zt1 (h:Hd) (i:Int) (f:Fil) {dv cv ev:Value} (salt:Nat) (A:Option Addr) (n c:Nat) (a:Yii dv cv ev):(cop h i f dv cv ev salt (I A n c)).all (·.oneCell')=true:=by
 obtain ⟨⟨_,_,_,rfl⟩,⟨_,_,_,rfl⟩,_,_,_,rfl⟩:=a;simp [cop,Value.oneCell']
def Zrt:Array Value:=#[iI 0,iI 0,iI 0,iI 0,uI 0,uI 0,iI 0,uI 0,iI 0,iI 0,iI 0,iI 0,iI 0,iI 0,iI 0,iI 0,iI 0,iI 0,iI 0,iI 0,nN,nN,nN,nN,iI 0,iI 0,nN,nN,uI 0,nN]
theorem Yeg {h:Hd} {f:Fil} {dv cv ev:Value} {salt:Nat} {p:Value} (l:Zdk C h i f dv cv ev salt p) {b:TypeId} {a:Act} {d:TypeDesc} (x:Operand) (ho:o.op=.load b x) (c:a.eval x=O (some ⟨g,0,none⟩)) (j:∀ W,S W->Blk W g T C) (e:prog.underlying b=some d) (hd:d.isRow=true) (hi:(prog.info? b).map (·.size)=some 8) (k:Region.wanted o (yielded ops a.tmps)=true):YieldsIf prog ops S o (U h.vals) a:=by
 have h:=yieldsIf_load_mid (P:=prog) (ops:=ops) (S:=S) k b x ho g 0 c h.vals.toList d (fun w h=>l.hrange (j w h)) e hd hi
 rwa [bt] at h
theorem Yeh {h:Hd} {f:Fil} {dv cv ev:Value} {salt:Nat} {p:Value} (e:Zdk C h i f dv cv ev salt p) {a:Act} (x:Operand) (ho:o.op=.load 48 x) (c:a.eval x=O (some ⟨g,9,none⟩)) (b:∀ W,S W->Blk W g T C) (d:Region.wanted o (yielded ops a.tmps)=true):YieldsIf prog ops S o (U (f.vals dv cv ev)) a:=by
 have h:=yieldsIf_load_mid (P:=prog) (ops:=ops) (S:=S) d 48 x ho g 9 c (f.vals dv cv ev).toList _ (fun w h=>e.range (b w h)) underlying48 rfl (by kernel_rfl)
 rwa [bt] at h
theorem Zpg {h:Hd} {f:Fil} {dv cv ev:Value} {salt:Nat} {n c:Nat} (j:Zdk C h i f dv cv ev salt (I A n c)) (P:Yii dv cv ev) (w:World) :
  Calls prog 13 #[U C] w fun e u=>e=X (U (cop h i f dv cv ev salt (I A n c)))/\Bl w u:=by
 have HO:=ae (fun W=>Yar h W);have s:=(Blk.new w 50 C).alloc (V Zrt 58);have q:=Blk.new (w.alloc (V C 50)) 58 Zrt;rw [ax] at q;have r:=(Zab w (V C 50)).alloc (by simp) (V Zrt 58);unfold Zrt at s q r;have M:=j.size;go_enter func13,ntmps13;go_upto_region 1 with fail;generalize (w.alloc (V C 50)).alloc (V #[iI 0,iI 0,iI 0,iI 0,uI 0,uI 0,iI 0,uI 0,iI 0,iI 0,iI 0,iI 0,iI 0,iI 0,iI 0,iI 0,iI 0,iI 0,iI 0,iI 0,nN,nN,nN,nN,iI 0,iI 0,nN,nN,uI 0,nN] 58)=N at *;refine wp_region_held_drew (S:=(fun W=>Blk W w.heap.size 50 C/\(∃ cs,Blk W (w.heap.size+1) 58 cs/\cs.size=30)/\Bl w W)) (by kernel_rfl) ?_ (fun a=>?_)
 ·first | done | ((try dsimp only);exact ⟨s,⟨_,q,rfl⟩,r.drew⟩)
 clear s q r;generalize N.drew=wb at *;refine tq 0 3 rfl ?_;refine ty 1 4 rfl (Yeg j _ rfl rfl (fun _ h=>h.1) underlying36 rfl (by kernel_rfl) rfl) ?_;refine tq 3 6 rfl ?_;refine th 4 7 rfl (fun _ b=>j.cells b.1) ?_;refine tq 5 8 rfl ?_;refine ty 6 9 rfl (Yeh j _ rfl rfl (fun _ h=>h.1) rfl) ?_;refine tq 7 10 rfl ?_;refine th 8 11 rfl (fun _ b=>j.cells b.1) ?_;refine tq 9 12 rfl ?_;refine th 10 13 rfl (fun _ b=>j.cells b.1) ?_;refine rd 2 (some 5) rfl fun K l=>?_;go_simp;(refine (HO.out _).mono ?_;rintro e w2 ⟨rfl,d⟩);refine l.out _ _ ?_ (fun a=>?_)
 ·first | done | ((try dsimp only);exact ⟨a.1.keep d,(by obtain ⟨cs,k1,k2⟩:=a.2.1;exact ⟨cs,k1.keep d,k2⟩),Zaa a.2.2 d a.2.2.size⟩)
 clear l K;(try simp only [pS,pB,pZ,pC]);refine tq 11 14 rfl ?_ (hy:=by intro u b;(try dsimp only at b);refine Ztz _ _ _ _ _ _ (.tmp 5) (.tmp 7) (.tmp 9) (.tmp 11) (.tmp 13) h i f dv cv ev salt A n c ?_ ?_ ?_ ?_ ?_ _ <;> rfl;try (with_reducible rfl));have ⟨E,⟨zs,R,J⟩,v⟩:=a;refine rd 12 none rfl fun K l=>?_;rw [if_pos (by rfl)];refine Zdl (T:=58) (n:=30) (by kernel_rfl) R J _ _ rfl rfl _ rfl rfl (Zt1 h i f salt A n c P) (fun L x t=>?_);have y:Bl w L:=v.grown t v.size (fun k e=>by injection e with e;omega);refine l.out _ _ ?_ (fun a=>?_)
 ·exact ⟨E.grown t (fun e=>by injection e with e;omega),⟨_,x,rfl⟩,y⟩
 clear l K;refine dn ?_;go_wp2_with fail;exact bodyPost_ret (Zrs rfl _ rfl x rfl) rfl ⟨rfl,y⟩
end Go.Proofs.YtglkadmfjaecmaaGreatDoor
