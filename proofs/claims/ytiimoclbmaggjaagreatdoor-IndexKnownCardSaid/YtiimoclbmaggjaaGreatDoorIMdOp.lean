/- A model as it came in. -/
import Derived.Test.YtiimoclbmaggjaaGreatDoorIMdIJ
import Derived.Deep.Slices
import Derived.Deep.OwnShut
import Derived.Deep.Strs
import Derived.SizedLaws
import Derived.OpenShut
namespace Go.Proofs
open Go.RowKit Go.Lx Go.Md Go.Shelf Go.ChangeShapes Go.WideShapes Go.Deep
set_option linter.unusedVariables false
def Wt {H:Type} (t:TypeId) (d:DataW H):Prop:=∀ k ∈ d.weights Tryz.prog t,k≤reachBytes
end Go.Proofs
