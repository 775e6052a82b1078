/- A configuration as it came in: the opener. -/
import Derived.Test.YtodbdacdnoeheaaGreatDoorZRwO
namespace Go.Proofs
open Go.RowKit Go.Lx Go.Md Go.Shelf Go.ChangeShapes Go.WideShapes Go.Deep
set_option linter.unusedVariables false
set_option maxRecDepth 100000 in
theorem ints_cells {H:Type} {enc:TypeId × Value→H} {W:World} {fuel:Nat} {c0:Value} {x:DataW H × List MemPlace} (h:DataW.trod enc Tryz.prog W 0 (fun _=>true) true fuel 29 [c0]=some x) (hw:Wt 29 x.1) :
   ∃ (l:List Int) (a:Option Addr) (c:Nat),c0=.slice a l.length c∧RowIn W (.slice a l.length c) l∧l.length≤140737488355328:=by
 obtain ⟨l,a1,c1,e,s1,w1,q1⟩:=rows_open (E:=IntE) (OK:=fun x=>-9223372036854775808≤x∧x≤9223372036854775807) Tryz.underlying29 (sz:=1) (by kernel_rfl) (by omega) (of_decide_eq_true (by kernel_rfl)) (fun m cs y hy hw=>by
   obtain ⟨z,e1,_,w1⟩:=DataW.trod_int Tryz.underlying3 hy
   exact ⟨z,i64_of w1,fun b o hj=>by
     have:=hj 0 (by omega)
     rw [e1] at this
     exact this⟩) h hw
 simp only [List.cons.injEq,and_true] at e
 exact ⟨l,a1,c1,e,s1.row,w1⟩
set_option maxRecDepth 100000 in
theorem cfg_open {H:Type} {enc:TypeId × Value→H} {W:World} {v:Value} {d:DataW H} {ps:List MemPlace} (hv:∃ cs,v=.agg cs∧cs.size=Tryz.prog.cellsOf 52)
   (h:DataW.Trod enc Tryz.prog W 0 (fun _=>true) true 52 v d ps) (hw:Wt 52 d):∃ (la ll:List Int) (a1:Option Addr) (c1:Nat) (a2:Option Addr) (c2:Nat),v=.agg #[.slice a1 la.length c1,.slice a2 ll.length c2]∧RowIn W (.slice a1 la.length c1) la∧RowIn W (.slice a2 ll.length c2) ll∧la.length≤140737488355328∧ll.length≤140737488355328:=by
 obtain ⟨ca,rfl,_⟩:=hv
 obtain ⟨fuel,hf0⟩:=h
 obtain ⟨xs,n,_,hd,hl,hxl,hf⟩:=DataW.trod_struct Tryz.underlying52 hf0
 obtain ⟨rfl,rfl⟩:=Prod.mk.inj hd
 have hw1:∀ k ∈ DataW.weightsEach Tryz.prog [29,29] (xs.map (·.1)),k≤reachBytes:=fun k hk=>hw k (by simp only [DataW.weights,Tryz.underlying52];exact hk)
 rw [show Tryz.prog.cellsOf 52=2 by kernel_rfl] at hl
 obtain ⟨cl⟩:=ca
 simp only [Value.cells] at hl hf
 obtain ⟨c0,c1,rfl⟩:=listN2 hl
 have hxl:xs.length=2:=hxl
 have f0:=hf 0 _ rfl
 rw [List.getElem?_eq_getElem (by omega)] at f0
 have f0:DataW.trod enc Tryz.prog W 0 (fun _=>true) true n 29 [c0]=some xs[0]:=f0
 have g0:Wt 29 xs[0].1:=fun k hk=>hw1 k (DataW.weights_mem_each (j:=0) rfl (by rw [List.getElem?_map,List.getElem?_eq_getElem (by omega)];rfl) k hk)
 obtain ⟨l1,a1,p1,rfl,r1,n1⟩:=ints_cells f0 g0
 have f1:=hf 1 _ rfl
 rw [List.getElem?_eq_getElem (by omega)] at f1
 have f1:DataW.trod enc Tryz.prog W 0 (fun _=>true) true n 29 [c1]=some xs[1]:=f1
 have g1:Wt 29 xs[1].1:=fun k hk=>hw1 k (DataW.weights_mem_each (j:=1) rfl (by rw [List.getElem?_map,List.getElem?_eq_getElem (by omega)];rfl) k hk)
 obtain ⟨l2,a2,p2,rfl,r2,n2⟩:=ints_cells f1 g1
 exact ⟨l1,l2,a1,p1,a2,p2,rfl,r1,r2,n1,n2⟩
end Go.Proofs
