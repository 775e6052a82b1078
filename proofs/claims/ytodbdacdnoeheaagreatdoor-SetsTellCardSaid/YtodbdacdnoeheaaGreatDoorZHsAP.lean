/- Where a history leads, what is noted: the plain laws. No program is in sight. -/
import Derived.Test.YtodbdacdnoeheaaGreatDoorZRyP
namespace Go.Md
open Go.RowKit Go.Lx Go.Proofs
set_option linter.unusedVariables false
theorem fitRow_iff {m:MdlD} {l:List Int}:fitRow m l=true↔∀ r (h:r<l.length),mayM m l[r] r=true:=by
 unfold fitRow
 rw [List.all_eq_true]
 constructor
 · intro h r hr
   have:=h r (List.mem_range.2 hr)
   rwa [List.getD_eq_getElem?_getD,List.getElem?_eq_getElem hr] at this
 · intro h r hr
   have hr':=List.mem_range.1 hr
   rw [List.getD_eq_getElem?_getD,List.getElem?_eq_getElem hr']
   exact h r hr'
end Go.Md
