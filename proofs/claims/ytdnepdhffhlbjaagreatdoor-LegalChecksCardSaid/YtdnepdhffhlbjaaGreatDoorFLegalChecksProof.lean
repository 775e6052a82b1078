/- Texts put together. -/
import Derived.Test.YtdnepdhffhlbjaaGreatDoorRows
import Derived.Test.YtdnepdhffhlbjaaGreatDoorCards
import Derived.Test.YtdnepdhffhlbjaaGreatDoorTie
import Derived.Test.YtdnepdhffhlbjaaGreatDoorFMdLt
import Derived.Test.YtdnepdhffhlbjaaGreatDoorFLgO
import Derived.Test.YtdnepdhffhlbjaaGreatDoorFLwC
import Derived.WalkKit
import Derived.ProofKit
import Derived.OpenShut
import Derived.ShutString
import Derived.ChangeOld
import Derived.Below
import Derived.LaidMore
import Derived.SevenTiedAt
import Derived.Stop.Joined
import Derived.Test.YtdnepdhffhlbjaaGreatDoorFLegalChecksLift
/- The law LegalChecks returns true at every input, and leaves what came in as it was; its card, tied to the text of the program. Without condition. -/
namespace Go.Proofs.YtdnepdhffhlbjaaGreatDoor.legalChecks
open Go.ChangeShapes Go.WideShapes Go.ChangeAt Go.RowKit Go.Proofs.YtdnepdhffhlbjaaGreatDoor
open Go.ChangeMaps (open_string shut_string)
set_option linter.unusedVariables false

set_option maxRecDepth 100000 in
set_option maxHeartbeats 8000000 in
theorem closed : joinedFacts Tryz.pinned.checked.prog 5 Tryz.f5 Rows.legalChecksSpec Rows.legalChecksRow = true := by
  unfold joinedFacts
  repeat' (with_reducible refine Bool.and_eq_true_iff.2 ⟨?_, ?_⟩)
  all_goals (as_aux_lemma => kernel_rfl)
theorem over : Rows.legalChecksRow.holds Tryz.pinned (OpenSpec.ofChange Rows.legalChecksSpec) :=
  OpenClaim.holds_of_wide 5 Tryz.f5 rfl rfl rfl rfl rfl rfl rfl ⟨rfl, rfl, rfl, rfl, rfl⟩ rfl rfl rfl rfl rfl (by kernel_rfl) Tryz.func5 closed
    (of_decide_eq_true (by kernel_rfl)) (by unfold Func.isWrapper; first | (rw [if_pos (by decide +kernel)]; kernel_rfl) | (rw [if_neg (by decide +kernel)]; exact ⟨rfl, rfl⟩))
    (fun os started H enc _ => lifted os started H enc)

theorem proved : Rows.LegalChecksCardSaid :=
  Claim7.holds_tied_plain_at .later [] [.widerDeep] true (true, "9fb090f4e7178ee99cb4edb45d741a245c68de7a52747fca123a79e8292c82bf") false
    over (fun _ h => by cases h) (by kernel_rfl) (fun _ h => by cases h) legalChecks_row_tie rfl ⟨rfl, rfl⟩ (by kernel_rfl) rfl
    (fun f fn hf hfn => by
      obtain rfl : f = 5 := Option.some.inj ((show Tryz.prog.funcNamed "hopscotch/hopscotchlaw26.LegalChecks" = some 5 by kernel_rfl).symm.trans hf) |>.symm
      obtain rfl : fn = Tryz.f5 := (Option.some.inj (Tryz.func5.symm.trans hfn)).symm
      exact ⟨by kernel_rfl, fun j t ht => by
        rw [Tryz.params5] at ht
        have hm : t ∈ [28, 57] := by simpa using Array.mem_of_getElem? ht
        have hall : ([28, 57].all fun u => !Tryz.prog.wantsStandIn u) = true := by kernel_rfl
        exact (show Tryz.prog.wantsStandIn t = false by simpa using List.all_eq_true.1 hall t hm)⟩)
    (by kernel_rfl)
#print axioms proved
end Go.Proofs.YtdnepdhffhlbjaaGreatDoor.legalChecks
