/- Filings as rows of cells, and as they are generated. -/
import Derived.Test.YtbeaijjaecaidaaGreatDoorM13
import Derived.Test.YtbeaijjaecaidaaGreatDoorM12
import Derived.Test.YtbeaijjaecaidaaGreatDoorM01
set_option maxRecDepth 100000
set_option maxHeartbeats 16000000
namespace Go.Proofs.YtbeaijjaecaidaaGreatDoor
open Go.RowKit Go.Shelf
attribute [local go_sem] Oper.semAt_some
def Fil.cells (f:Fil):List D :=
 [.v (.int .i64 0),.v (.int .i64 f.day),.v (.int .i64 f.known),.v (.int .i64 f.file),.v (.int .i64 f.office),.v (.int .i64 f.party),.v (.int .i64 f.other),.v (.int .i64 0),.v (.int .i64 0),.v (.int .i64 0),.v (.int .i64 0),
  .s 4 (f.d.flatMap F.cells),.s 5 (f.c.flatMap Cl.cells),.v (.slice none 0 0),.s 2 (prD f.e),.v (.int .i64 0),.v (.int .i64 0),.v (.slice none 0 0),.v (.slice none 0 0)]
theorem Fil.cells_length (f:Fil):f.cells.length=19:=rfl
def FilM (ts:List TypeId) (H:List Nat) (W:World) (f:Fil) (dv cv ev:Value):Prop:=RepM ts H W dv (.s 4 (f.d.flatMap F.cells))∧RepM ts H W cv (.s 5 (f.c.flatMap Cl.cells))∧RepM ts H W ev (.s 2 (prD f.e))
theorem FilM.row {ts:List TypeId} {H:List Nat} {W:World} {f:Fil} {dv cv ev:Value} (h:FilM ts H W f dv cv ev):RepML ts H W (f.vals dv cv ev).toList f.cells :=
 RepL.cons (.v _) (RepL.cons (.v _) (RepL.cons (.v _) (RepL.cons (.v _) (RepL.cons (.v _) (RepL.cons (.v _) (RepL.cons (.v _) (RepL.cons (.v _) (RepL.cons (.v _) (RepL.cons (.v _) (RepL.cons (.v _)
  (RepL.cons h.1 (RepL.cons h.2.1 (RepL.cons (.v _) (RepL.cons h.2.2 (RepL.cons (.v _) (RepL.cons (.v _) (RepL.cons (.v _) (RepL.cons (.v _) (RepL.nil _ _)))))))))))))))))))
theorem FilM.inv {W:World} {B:Nat} {vs:List Value} {f:Fil} (h:RepL W B vs f.cells):∃ dv cv ev,vs=(f.vals dv cv ev).toList∧Rep W B dv (.s 4 (f.d.flatMap F.cells))∧Rep W B cv (.s 5 (f.c.flatMap Cl.cells))∧Rep W B ev (.s 2 (prD f.e)):=by
 unfold Fil.cells at h;obtain ⟨u0,v0,rfl,h0,h⟩:=h.inv;obtain ⟨u1,v1,rfl,h1,h⟩:=h.inv;obtain ⟨u2,v2,rfl,h2,h⟩:=h.inv;obtain ⟨u3,v3,rfl,h3,h⟩:=h.inv;obtain ⟨u4,v4,rfl,h4,h⟩:=h.inv;obtain ⟨u5,v5,rfl,h5,h⟩:=h.inv;obtain ⟨u6,v6,rfl,h6,h⟩:=h.inv;obtain ⟨u7,v7,rfl,h7,h⟩:=h.inv;obtain ⟨u8,v8,rfl,h8,h⟩:=h.inv;obtain ⟨u9,v9,rfl,h9,h⟩:=h.inv;obtain ⟨u10,v10,rfl,h10,h⟩:=h.inv;obtain ⟨u11,v11,rfl,h11,h⟩:=h.inv;obtain ⟨u12,v12,rfl,h12,h⟩:=h.inv;obtain ⟨u13,v13,rfl,h13,h⟩:=h.inv;obtain ⟨u14,v14,rfl,h14,h⟩:=h.inv;obtain ⟨u15,v15,rfl,h15,h⟩:=h.inv;obtain ⟨u16,v16,rfl,h16,h⟩:=h.inv;obtain ⟨u17,v17,rfl,h17,h⟩:=h.inv;obtain ⟨u18,v18,rfl,h18,h⟩:=h.inv;obtain rfl:=h.inv_nil;rw [h0.plain,h1.plain,h2.plain,h3.plain,h4.plain,h5.plain,h6.plain,h7.plain,h8.plain,h9.plain,h10.plain,h13.plain,h15.plain,h16.plain,h17.plain,h18.plain];exact ⟨u11,u12,u14,rfl,h11,h12,h14⟩
theorem fil_at {ts:List TypeId} {H:List Nat} {W:World} {base:Nat} {v:Value} {l:List Fil} (h:OwnM ts H W base 41 19 v (l.flatMap Fil.cells)) (k:Nat) (hk:k<l.length) :
  ∃ b c dv cv ev,v=.slice (some ⟨b,0,none⟩) l.length c∧l.length≤c∧v.ownBlock=some b∧W.rangeAt b (k * 19) (l[k].vals dv cv ev).toList∧FilM ts (v.ownBlock.toList++H) W l[k] dv cv ev:=by
 obtain ⟨n,xs,h1,h2⟩:=h;have hfl:=flat_length (l:=l) (f:=Fil.cells) (k:=19) (fun x _=>x.cells_length)
 have h21:=h2.1;have h11:=h1.1;obtain rfl:n=l.length:=by omega
 have hp:=flat_part (l:=l) (f:=Fil.cells) (k:=19) (i:=k) (a:=l[k]) (fun x _=>x.cells_length) (List.getElem?_eq_getElem hk)
 have hr2:=(RepL.drop h2 (k * 19)).take 19;rw [hp] at hr2;obtain ⟨dv,cv,ev,e,r1,r2,r3⟩:=FilM.inv hr2;rcases h1.2 with ⟨_,hn⟩ | ⟨g,cap,cur,rfl,hg,hb,hnc,hcap,hcur,hx⟩
 ·omega
 ·refine ⟨g,cap,dv,cv,ev,rfl,hnc,rfl,fun j u hu=>?_,r1,r2,r3⟩
  rw [← e,List.getElem?_take] at hu
  by_cases hj:j<19
  ·rw [if_pos hj,List.getElem?_drop] at hu
   rw [h1.cellAt (k * 19+j) (by omega)]
   exact hu
  ·rw [if_neg hj] at hu
   cases hu
def GenTx (d:List F) (c:List Cl):Prop:=(1≤d.length∧d.length≤2)∧(∀ f∈d,Feat f)∧GenCl c
def GenA (i:Nat) (f:Fil):Prop:=f.file=5 * (i:Int)∧(0≤f.office∧f.office≤1)∧(1≤f.party∧f.party≤2)∧(f.other=-1∨∃ j:Nat,j<i∧f.other=5 * (j:Int))∧GenTx f.d f.c∧f.e.length≤2 ∧
 (∀ p∈f.e,(∃ j:Nat,j<i∧p.1=5 * (j:Int))∧0≤p.2∧p.2≤100001)∧(f.e.map Prod.fst).Nodup
def GenL (l:List Fil):Prop:=l.length≤14∧∀ i (h:i<l.length),GenA i l[i]∧0≤l[i].day∧l[i].day≤100000∧0≤l[i].known∧l[i].known≤100
end Go.Proofs.YtbeaijjaecaidaaGreatDoor
