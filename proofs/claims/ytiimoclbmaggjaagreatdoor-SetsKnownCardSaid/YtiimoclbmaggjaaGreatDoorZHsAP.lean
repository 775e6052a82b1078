/- Where a history leads, what is noted: the plain laws. -/
import Derived.Test.YtiimoclbmaggjaaGreatDoorZRyP
namespace Go.Md
open Go.RowKit Go.Lx Go.Proofs
set_option linter.unusedVariables false
theorem yb {m:MdlD} {l:List Int}:fitRow m l=true↔∀ r (h:r<l.length),mayM m l[r] r=true:=by
 unfold fitRow;rw [List.all_eq_true];constructor
 . intro h r hr
   have:=h r (List.mem_range.2 hr);rwa [List.getD_eq_getElem?_getD,List.getElem?_eq_getElem hr] at this
 . intro h r hr
   have hr':=List.mem_range.1 hr;rw [List.getD_eq_getElem?_getD,List.getElem?_eq_getElem hr'];exact h r hr'
theorem zdY {m:MdlD} {v:Int} (h:stands m v=true):mayM m v (rgA m v)=true:=by
 unfold stands at h;rw [Bool.and_eq_true] at h;unfold mayM rgA;rw [if_pos h.1];have h2:=h.2
 cases hx:m.zc[v.toNat]? with
 | none=>rw [hx] at h2;cases h2
 | some x=>rw [hx] at h2;simpa using h2
end Go.Md
