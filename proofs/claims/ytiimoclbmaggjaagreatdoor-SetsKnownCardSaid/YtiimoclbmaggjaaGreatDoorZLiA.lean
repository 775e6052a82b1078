/- Walks: the law 16's 'both'. -/
import Derived.Test.YtiimoclbmaggjaaGreatDoorZRyCE
import Derived.Test.YtiimoclbmaggjaaGreatDoorZMdRg
import Derived.Test.YtiimoclbmaggjaaGreatDoorZIxXZ
namespace Go.Proofs
open Go.RowKit Go.Lx Go.Md Go.Shelf Go.BigFrame Go.Rgi
set_option linter.unusedVariables false
theorem IdxAt.low {B C:Nat} {m:MdlD} {IB:Nat} {w:World} (h:IdxAt B m IB w) (hC:C<=B):IdxAt C m IB w:=by
 obtain ⟨W,N1,PB,KB,MO,MP,XB,cp,V,h1,h2,D,hs⟩:=h;exact ⟨W,N1,PB,KB,MO,MP,XB,cp,V,Nat.le_trans hC h1,h2,D,hs⟩
structure Six (H:Nat) (w w':World):Prop where
 os:w'.os=w.os
 tape:w'.tape=w.tape
 output:w'.output=w.output
 size:w'.heap.size=w.heap.size
 blk:∀ b,b≠H->w'.heap[b]? = w.heap[b]?
theorem Six.refl (H:Nat) (w:World):Six H w w:=⟨rfl,rfl,rfl,rfl,fun _ _=>rfl⟩
theorem Six.set {H k:Nat} {w w':World} (h:Six H w w') (u:Value):Six H w (w'.setCell ⟨H,k,none⟩ u) :=
 ⟨h.os,h.tape,h.output,by rw [World.size_setCell];exact h.size,fun b hb=>(Below.heap_setCell _ _ _ _ hb).trans (h.blk b hb)⟩
theorem Six.bel {H B:Nat} {w0 w w':World} (h:Six H w w') (g:Below B w0 w) (hB:B<=H):Below B w0 w' :=
 ⟨h.os.trans g.os,h.tape.trans g.tape,h.output.trans g.output,by rw [h.size];exact g.size,fun b hb=>(h.blk b (by omega)).trans (g.block b hb)⟩
theorem Six.kept {H n:Nat} {w w':World} (h:Six H w w') (hn:H<n):Kept (LowB n) w w' :=
 ⟨by rw [h.size];exact Nat.le_refl _,fun b _ hQ=>h.blk b (by have:n<=b:=hQ;omega)⟩
end Go.Proofs
