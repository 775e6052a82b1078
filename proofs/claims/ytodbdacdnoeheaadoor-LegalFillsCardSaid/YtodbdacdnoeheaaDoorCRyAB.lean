/- Walks: the document's answer for what lies in what: the small ones. -/
import Derived.Test.YtodbdacdnoeheaaDoorCLexAB
import Derived.WalkSmall
import Derived.OwnWalk
import Derived.Test.YtodbdacdnoeheaaDoorCLexP
import Derived.Deep.RegionHeld3
import Derived.Deep.AppendLies
import Derived.Deep.QuietTactic
import Derived.BigQuiet
import Derived.Test.YtodbdacdnoeheaaDoorCMdTU
import Derived.Deep.RegionLaw
import Derived.Deep.DeepCutAuto
import Derived.Test.YtodbdacdnoeheaaDoorCMdXY
import Derived.Test.YtodbdacdnoeheaaDoorCGen
import Derived.Test.YtodbdacdnoeheaaDoorCMdPR
import Derived.RangeFuncRecord
import Derived.Test.YtodbdacdnoeheaaDoorCRwM
import Derived.Test.YtodbdacdnoeheaaDoorCRyP
namespace Go.Proofs
open Go.RowKit Go.Lx Go.Md Go.Shelf Go.BigFrame Go.Rgi
set_option linter.unusedVariables false
end Go.Proofs

/- Walks: the document's answer for what lies in what: Under, In, and the rows. -/
namespace Go.Proofs
open Go.RowKit Go.Lx Go.Md Go.Shelf Go.BigFrame Go.Rgi
set_option linter.unusedVariables false
theorem Mb.low {m : MdlD} {p : Ph} {w wx wy : World} (h : Mb m p w.heap.size w wx) (g : Below (w.heap.size + 1) wx wy) : Mb m p w.heap.size w wy :=
  ⟨h.bel.trans (g.mono (by omega)), h.mod.kept fun j => ⟨g.size, fun b hb hQ => g.block b (by have : b < w.heap.size := hQ; omega)⟩, h.box.below g (by omega)⟩
end Go.Proofs
