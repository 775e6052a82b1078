/- Walks: the document's answer for what lies in what: the small ones. -/
import Derived.Test.YtpihnjfomkiodaaGreatDoorCRxAJ
import Derived.Test.YtpihnjfomkiodaaGreatDoorCRwM
import Derived.Test.YtpihnjfomkiodaaGreatDoorCRyP
namespace Go.Proofs
open Go.RowKit Go.Lx Go.Md Go.Shelf Go.BigFrame Go.Rgi
set_option linter.unusedVariables false
/-- The reference's index of a model. -/
def ixV (m : MdlD) (p : Ph) : Value := mdV m p
end Go.Proofs

/- Walks: the document's answer for what lies in what: Under, In, and the rows. -/
namespace Go.Proofs
open Go.RowKit Go.Lx Go.Md Go.Shelf Go.BigFrame Go.Rgi
set_option linter.unusedVariables false
theorem Mb.low {m : MdlD} {p : Ph} {w wx wy : World} (h : Mb m p w.heap.size w wx) (g : Below (w.heap.size + 1) wx wy) : Mb m p w.heap.size w wy :=
  ⟨h.bel.trans (g.mono (by omega)), h.mod.kept fun j => ⟨g.size, fun b hb hQ => g.block b (by have : b < w.heap.size := hQ; omega)⟩, h.box.below g (by omega)⟩
end Go.Proofs
