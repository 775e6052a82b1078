/-
  DERIVED. GIVEN WITH THE SEED: THE CARDS: each row of YtfladiadgkfebaaDoorRows.lean that lists a variable, with what it lists TIED to the program's text (the seventh form; the later family's looks); each row that meets fmt, with fmt's text TOLD by the authors' own Lean function (tested against real Go, not proved from fmt's source: count such statements apart). THE CARD IS WHAT COUNTS. Prove the row's statement (the work); the ties are given (YtfladiadgkfebaaDoorTie.lean); close each card by the builder's one call (the guide's Derived/Test/ToyasCard.lean, 'card_holds'). Laid BY PROGRAM, IN A SANDBOX (cutbox-door.mjs). By AI agents, Wed Nov 11 2026. No macro, syntax, notation, axiom, sorry.
-/
import Derived.Test.YtfladiadgkfebaaDoorRows
import GoSem.ClaimSeven
namespace Go.Proofs.YtfladiadgkfebaaDoor
namespace Rows

/-- THE TIED CARD OF 'hopscotchlaw18.ExpandRight'. -/
def expandRightCard : Claim7 := { stood := { row := expandRightRow, standIns := [], harness := (true, "37154e7c2ce4fc61b21613c8781eefd475f8a9d30a3d6ab15e09d45718a11de9"), looks := false }, kinds := [], alts := [], laidByText := true, laidKinds := [.widerDeep], laidTests := true, laidLooks := .later }
def ExpandRightCardSaid : Prop := Claim7.holds Tryd.pinned (.plain (OpenSpec.ofChange expandRightSpec)) expandRightCard

/-- THE TIED CARD OF 'hopscotchlaw18.ExpandOthers'. -/
def expandOthersCard : Claim7 := { stood := { row := expandOthersRow, standIns := [], harness := (true, "37154e7c2ce4fc61b21613c8781eefd475f8a9d30a3d6ab15e09d45718a11de9"), looks := false }, kinds := [], alts := [], laidByText := true, laidKinds := [.widerDeep], laidTests := true, laidLooks := .later }
def ExpandOthersCardSaid : Prop := Claim7.holds Tryd.pinned (.plain (OpenSpec.ofChange expandOthersSpec)) expandOthersCard

/-- THE SECOND FORM's CARD OF 'hopscotchlaw18.ExpandRight'. -/
def expandRightUptoCard : Claim7 := { stood := { row := expandRightUptoRow, standIns := [], harness := (true, "37154e7c2ce4fc61b21613c8781eefd475f8a9d30a3d6ab15e09d45718a11de9"), looks := false }, kinds := [], alts := [], laidByText := true, laidKinds := [.widerDeep], laidTests := true, laidLooks := .later }
def ExpandRightUptoCardSaid : Prop := Claim7.holds Tryd.pinned (.plain (OpenSpec.upto expandRightSpec)) expandRightUptoCard

/-- THE SECOND FORM's CARD OF 'hopscotchlaw18.ExpandOthers'. -/
def expandOthersUptoCard : Claim7 := { stood := { row := expandOthersUptoRow, standIns := [], harness := (true, "37154e7c2ce4fc61b21613c8781eefd475f8a9d30a3d6ab15e09d45718a11de9"), looks := false }, kinds := [], alts := [], laidByText := true, laidKinds := [.widerDeep], laidTests := true, laidLooks := .later }
def ExpandOthersUptoCardSaid : Prop := Claim7.holds Tryd.pinned (.plain (OpenSpec.upto expandOthersSpec)) expandOthersUptoCard
end Rows
end Go.Proofs.YtfladiadgkfebaaDoor
