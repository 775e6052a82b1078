/- Walks: 'index.New', of any model. -/
import Derived.Test.YtiimoclbmaggjaaGreatDoorZIxN
namespace Go.Proofs
open Go.RowKit Go.Lx Go.Md Go.Shelf Go.Rfu Go.Rgi
open Lib(hid)
open Go.Proofs.Tryz
set_option maxRecDepth 100000
set_option maxHeartbeats 0
set_option linter.unusedVariables false
theorem zfl {Q:Nat->BP} (m:MdlD) (p:Ph) (w:World) (h1:Mod Q w m p) (hm:MdlOk m) (hT:Tab w) (h0:(riM m).2.2≠0) :
   Calls prog 89 #[mdV m p] w fun e w'=>e=.returned (.tuple #[.pointer none,.int .i64 (riM m).2.2])/\Bl w w':=by
 have R1:=hid (fun wx (hb:Bl w wx)=>zbp m p wx (h1.zf hb) (hT.next hb) hm);have HB:Hid (∀ o wx,Below (w.alloc o).heap.size (w.alloc o) wx->Bl w wx):=fun o wx g=>zl g;generalize riM m=q at R1 h0 |-;obtain ⟨x,y,z⟩:=q;unfold mdV at R1 |-;clear h1 hm hT;dsimp only at h0 R1 |-;have hz:((z:Int) == 0)=false:=by simp;omega
 have hz2:((z:Int) != 0)=true:=by simp;omega
 clear h0;refine zG func89 rfl ?_;simp only [ntmps89,List.size_toArray,List.length_cons,List.length_nil,Nat.reduceAdd,Nat.reduceSub,Array.replicate_succ,Array.replicate_zero,List.push_toArray,List.append_toArray,List.nil_append,List.cons_append];go_wp2_with ((with_reducible refine (R1.o _ (zg w _)).mono ?_);rintro e w4 ⟨rfl,g4⟩);refine yl (ds:=[]) (n0:=0) (Marked.nil _ _) (v:=.tuple #[.pointer none,.int .i64 z]) ?_ ⟨rfl,HB.o _ _ g4⟩
 simp [results,results89,go_sem,Rfu.shut]
def NewP (m:MdlD) (w:World) (e:Ending) (w':World):Prop :=
 Bl w w'/\((riM m=(0,0,0)/\∃ IB,e=.returned (.tuple #[.pointer (some ⟨IB,0,none⟩),.int .i64 0])/\IdxAt w.heap.size m IB w')\/((riM m).2.2≠0/\e=.returned (.tuple #[.pointer none,.int .i64 (riM m).2.2])))
theorem new_any {Q:Nat->BP} (m:MdlD) (p:Ph) (w:World) (h1:Mod Q w m p) (hm:MdlOk m) (hT:Tab w) (hv:m.zc.length<=512) (hr:m.zb.length<=512) (ht:m.ze.length<=512) :
   Calls prog 89 #[mdV m p] w (NewP m w):=by
 by_cases h0:(riM m).2.2=0
 . refine (zfn m p w h1 hm hT (riM_ok h0) hv hr ht).mono ?_
   rintro e w' ⟨IB,rfl,hb,hi⟩;exact ⟨hb,.inl ⟨riM_ok h0,IB,rfl,hi⟩⟩
 . refine (zfl m p w h1 hm hT h0).mono ?_
   rintro e w' ⟨rfl,hb⟩;exact ⟨hb,.inr ⟨h0,rfl⟩⟩
end Go.Proofs
