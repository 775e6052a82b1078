/- Walks: the document's answer for what lies in what: the small ones. -/
import Derived.Test.YtfladiadgkfebaaDoorCRxAJ
namespace Go.Proofs
open Go.RowKit Go.Lx Go.Md Go.Shelf Go.BigFrame Go.Rgi
set_option linter.unusedVariables false
end Go.Proofs


namespace Go.Proofs
open Go.RowKit Go.Lx Go.Md Go.Shelf Go.BigFrame Go.Rgi
set_option linter.unusedVariables false
theorem Mb.low {m:MdlD} {p:Ph} {w wx wy:World} (h:Mb m p w.heap.size w wx) (g:Below (w.heap.size+1) wx wy):Mb m p w.heap.size w wy :=
 ⟨h.bel.trans (g.mono (by omega)),h.mod.kept fun j=>⟨g.size,fun b hb hQ=>g.block b (by have:b<w.heap.size:=hQ;omega)⟩,h.box.below g (by omega)⟩
theorem push_low {N:Nat} {T:TypeId} {w W':World} {v:Value} {l:List Int} {o:Obj} (hz:N≤w.heap.size) (ho:w.ownsRow N T 1 v l.length (nums l)) (hg:(w.alloc o).grownBy W' v.ownBlock):Below N w W' :=
 Below.grown ((Below.refl N w).alloc hz _) hg (by simp;omega) (fun j hj=>(ho.lt _ hj).1)
end Go.Proofs
