/- Walks: 'index.New', of any model. -/
import Derived.Test.YtiimoclbmaggjaaGreatDoorLIxN
namespace Go.Proofs
open Go.RowKit Go.Lx Go.Md Go.Shelf Go.Rfu Go.Rgi
set_option linter.unusedVariables false
set_option maxRecDepth 100000 in
set_option maxHeartbeats 2000000 in
theorem new_wrong {Q:Nat→BP} (m:MdlD) (p:Ph) (w:World) (h1:Mod Q w m p) (hm:MdlOk m) (hT:Tab w) (h0:(riM m).2.2≠0) :
   Calls Tryz.prog 89 #[mdV m p] w fun e w'=>e=.returned (.tuple #[.pointer none,.int .i64 (riM m).2.2])∧Below w.heap.size w w':=by
 have R1:=Lib.hid (fun wx (hb:Below w.heap.size w wx)=>right_any m p wx (h1.below hb) (hT.next hb) hm)
 have HB:Hid (∀ o wx,Below (w.alloc o).heap.size (w.alloc o) wx→Below w.heap.size w wx):=fun o wx g=>below_bx1 g
 generalize riM m=q at R1 h0 ⊢
 obtain ⟨x,y,z⟩:=q
 unfold mdV at R1 ⊢
 clear h1 hm hT
 dsimp only at h0 R1 ⊢
 have hz:((z:Int) == 0)=false:=by simp;omega
 have hz2:((z:Int) != 0)=true:=by simp;omega
 clear h0
 refine calls_of_marks Tryz.func89 rfl ?_
 simp only [Tryz.ntmps89,List.size_toArray,List.length_cons,List.length_nil,Nat.reduceAdd,Nat.reduceSub,Array.replicate_succ,Array.replicate_zero,List.push_toArray,List.append_toArray,List.nil_append,List.cons_append]
 go_wp2_with ((with_reducible refine (R1.out _ (below_al1 w _)).mono ?_);rintro e w4 ⟨rfl,g4⟩)
 refine post_ret (ds:=[]) (n0:=0) (Marked.nil _ _) (v:=.tuple #[.pointer none,.int .i64 z]) ?_ ⟨rfl,HB.out _ _ g4⟩
 simp [results,Tryz.results89,go_sem,Rfu.shut]
def NewP (m:MdlD) (w:World) (e:Ending) (w':World):Prop :=
 Below w.heap.size w w'∧((riM m=(0,0,0)∧∃ IB,e=.returned (.tuple #[.pointer (some ⟨IB,0,none⟩),.int .i64 0])∧IdxAt w.heap.size m IB w')∨((riM m).2.2≠0∧e=.returned (.tuple #[.pointer none,.int .i64 (riM m).2.2])))
theorem new_any {Q:Nat→BP} (m:MdlD) (p:Ph) (w:World) (h1:Mod Q w m p) (hm:MdlOk m) (hT:Tab w) (hv:m.vers.length≤512) (hr:m.regs.length≤512) (ht:m.trns.length≤512) :
   Calls Tryz.prog 89 #[mdV m p] w (NewP m w):=by
 by_cases h0:(riM m).2.2=0
 · refine (new_right m p w h1 hm hT (riM_ok h0) hv hr ht).mono ?_
   rintro e w' ⟨IB,rfl,hb,hi⟩
   exact ⟨hb,.inl ⟨riM_ok h0,IB,rfl,hi⟩⟩
 · refine (new_wrong m p w h1 hm hT h0).mono ?_
   rintro e w' ⟨rfl,hb⟩
   exact ⟨hb,.inr ⟨h0,rfl⟩⟩
end Go.Proofs
