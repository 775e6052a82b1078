/-
  DERIVED. GIVEN WITH THE SEED: THE CARDS: each row of YtodbdacdnoeheaaDoorRows.lean that lists a variable, with what it lists TIED to the program's text (the seventh form; the later family's looks); each row that meets fmt, with fmt's text TOLD by the authors' own Lean function (tested against real Go, not proved from fmt's source: count such statements apart). THE CARD IS WHAT COUNTS. Prove the row's statement (the work); the ties are given (YtodbdacdnoeheaaDoorTie.lean); close each card by the builder's one call (the guide's Derived/Test/ToyasCard.lean, 'card_holds'). Laid BY PROGRAM, IN A SANDBOX (cutbox-door.mjs). By AI agents, Wed Nov 11 2026. No macro, syntax, notation, axiom, sorry.
-/
import Derived.Test.YtodbdacdnoeheaaDoorRows
import GoSem.ClaimSeven
namespace Go.Proofs.YtodbdacdnoeheaaDoor
namespace Rows

/-- THE TIED CARD OF 'hopscotchlaw26.LegalFills'. -/
def legalFillsCard : Claim7 := { stood := { row := legalFillsRow, standIns := [], harness := (true, "dc9669f5a53ba4d4ad72962ff33503ca876b0820099bf69ee9ad9306521c0ae1"), looks := false }, kinds := [], alts := [], laidByText := true, laidKinds := [.widerDeep], laidTests := true, laidLooks := .later }
def LegalFillsCardSaid : Prop := Claim7.holds Tryd.pinned (.plain (OpenSpec.ofChange legalFillsSpec)) legalFillsCard

/-- THE SECOND FORM's CARD OF 'hopscotchlaw26.LegalFills'. -/
def legalFillsUptoCard : Claim7 := { stood := { row := legalFillsUptoRow, standIns := [], harness := (true, "dc9669f5a53ba4d4ad72962ff33503ca876b0820099bf69ee9ad9306521c0ae1"), looks := false }, kinds := [], alts := [], laidByText := true, laidKinds := [.widerDeep], laidTests := true, laidLooks := .later }
def LegalFillsUptoCardSaid : Prop := Claim7.holds Tryd.pinned (.plain (OpenSpec.upto legalFillsSpec)) legalFillsUptoCard
end Rows
end Go.Proofs.YtodbdacdnoeheaaDoor
