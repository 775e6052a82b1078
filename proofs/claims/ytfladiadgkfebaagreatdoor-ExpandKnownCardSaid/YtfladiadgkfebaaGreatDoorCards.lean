/-
  DERIVED. GIVEN WITH THE SEED: THE CARDS: each row of YtfladiadgkfebaaGreatDoorRows.lean that lists a variable, with what it lists TIED to the program's text (the seventh form; the later family's looks); each row that meets fmt, with fmt's text TOLD by the authors' own Lean function (tested against real Go, not proved from fmt's source: count such statements apart). THE CARD IS WHAT COUNTS. Prove the row's statement (the work); the ties are given (YtfladiadgkfebaaGreatDoorTie.lean); close each card by the builder's one call (the guide's Derived/Test/ToyasCard.lean, 'card_holds'). Laid BY PROGRAM, IN A SANDBOX (cutbox-door.mjs). By AI agents, Wed Nov 11 2026. No macro, syntax, notation, axiom, sorry.
-/
import Derived.Test.YtfladiadgkfebaaGreatDoorRows
import GoSem.ClaimSeven
namespace Go.Proofs.YtfladiadgkfebaaGreatDoor
namespace Rows

/-- THE TIED CARD OF 'hopscotchlaw18.ExpandDoes'. -/
def expandDoesCard : Claim7 := { stood := { row := expandDoesRow, standIns := [], harness := (true, "e9e6abd97df761057e9ecbe896e8bc64f5e868bf9cd5ae49318183cbaaa592ef"), looks := false }, kinds := [], alts := [], laidByText := true, laidKinds := [.widerDeep], laidTests := true, laidLooks := .later }
def ExpandDoesCardSaid : Prop := Claim7.holds Tryz.pinned (.plain (OpenSpec.ofChange expandDoesSpec)) expandDoesCard

/-- THE TIED CARD OF 'hopscotchlaw18.ExpandKnown'. -/
def expandKnownCard : Claim7 := { stood := { row := expandKnownRow, standIns := [], harness := (true, "e9e6abd97df761057e9ecbe896e8bc64f5e868bf9cd5ae49318183cbaaa592ef"), looks := false }, kinds := [], alts := [], laidByText := true, laidKinds := [.widerDeep], laidTests := true, laidLooks := .later }
def ExpandKnownCardSaid : Prop := Claim7.holds Tryz.pinned (.plain (OpenSpec.ofChange expandKnownSpec)) expandKnownCard

/-- THE SECOND FORM's CARD OF 'hopscotchlaw18.ExpandDoes'. -/
def expandDoesUptoCard : Claim7 := { stood := { row := expandDoesUptoRow, standIns := [], harness := (true, "e9e6abd97df761057e9ecbe896e8bc64f5e868bf9cd5ae49318183cbaaa592ef"), looks := false }, kinds := [], alts := [], laidByText := true, laidKinds := [.widerDeep], laidTests := true, laidLooks := .later }
def ExpandDoesUptoCardSaid : Prop := Claim7.holds Tryz.pinned (.plain (OpenSpec.upto expandDoesSpec)) expandDoesUptoCard

/-- THE SECOND FORM's CARD OF 'hopscotchlaw18.ExpandKnown'. -/
def expandKnownUptoCard : Claim7 := { stood := { row := expandKnownUptoRow, standIns := [], harness := (true, "e9e6abd97df761057e9ecbe896e8bc64f5e868bf9cd5ae49318183cbaaa592ef"), looks := false }, kinds := [], alts := [], laidByText := true, laidKinds := [.widerDeep], laidTests := true, laidLooks := .later }
def ExpandKnownUptoCardSaid : Prop := Claim7.holds Tryz.pinned (.plain (OpenSpec.upto expandKnownSpec)) expandKnownUptoCard
end Rows
end Go.Proofs.YtfladiadgkfebaaGreatDoor
