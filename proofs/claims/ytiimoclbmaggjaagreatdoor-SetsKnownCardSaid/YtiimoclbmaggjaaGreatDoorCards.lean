/-
  DERIVED. GIVEN WITH THE SEED: THE CARDS: each row of YtiimoclbmaggjaaGreatDoorRows.lean that lists a variable, with what it lists TIED to the program's text (the seventh form; the later family's looks); each row that meets fmt, with fmt's text TOLD by the authors' own Lean function (tested against real Go, not proved from fmt's source: count such statements apart). THE CARD IS WHAT COUNTS. Prove the row's statement (the work); the ties are given (YtiimoclbmaggjaaGreatDoorTie.lean); close each card by the builder's one call (the guide's Derived/Test/ToyasCard.lean, 'card_holds'). Laid BY PROGRAM, IN A SANDBOX (cutbox-door.mjs). By AI agents, Wed Nov 11 2026. No macro, syntax, notation, axiom, sorry.
-/
import Derived.Test.YtiimoclbmaggjaaGreatDoorRows
import GoSem.ClaimSeven
namespace Go.Proofs.YtiimoclbmaggjaaGreatDoor
namespace Rows

/-- THE TIED CARD OF 'hopscotchlaw21.HistoryKnown'. -/
def historyKnownCard : Claim7 := { stood := { row := historyKnownRow, standIns := [], harness := (true, "0b988834220abf95ef855026d1f3c8e7392ee74630e60dd3328e2cc776cf8639"), looks := false }, kinds := [], alts := [], laidByText := true, laidKinds := [.widerDeep], laidTests := true, laidLooks := .later }
def HistoryKnownCardSaid : Prop := Claim7.holds Tryz.pinned (.plain (OpenSpec.ofChange historyKnownSpec)) historyKnownCard

/-- THE TIED CARD OF 'hopscotchlaw16.IndexKnown'. -/
def indexKnownCard : Claim7 := { stood := { row := indexKnownRow, standIns := [], harness := (true, "0b988834220abf95ef855026d1f3c8e7392ee74630e60dd3328e2cc776cf8639"), looks := false }, kinds := [], alts := [], laidByText := true, laidKinds := [.widerDeep], laidTests := true, laidLooks := .later }
def IndexKnownCardSaid : Prop := Claim7.holds Tryz.pinned (.plain (OpenSpec.ofChange indexKnownSpec)) indexKnownCard

/-- THE TIED CARD OF 'hopscotchlaw18.ExpandDoes'. -/
def expandDoesCard : Claim7 := { stood := { row := expandDoesRow, standIns := [], harness := (true, "0b988834220abf95ef855026d1f3c8e7392ee74630e60dd3328e2cc776cf8639"), looks := false }, kinds := [], alts := [], laidByText := true, laidKinds := [.widerDeep], laidTests := true, laidLooks := .later }
def ExpandDoesCardSaid : Prop := Claim7.holds Tryz.pinned (.plain (OpenSpec.ofChange expandDoesSpec)) expandDoesCard

/-- THE TIED CARD OF 'hopscotchlaw18.ExpandKnown'. -/
def expandKnownCard : Claim7 := { stood := { row := expandKnownRow, standIns := [], harness := (true, "0b988834220abf95ef855026d1f3c8e7392ee74630e60dd3328e2cc776cf8639"), looks := false }, kinds := [], alts := [], laidByText := true, laidKinds := [.widerDeep], laidTests := true, laidLooks := .later }
def ExpandKnownCardSaid : Prop := Claim7.holds Tryz.pinned (.plain (OpenSpec.ofChange expandKnownSpec)) expandKnownCard

/-- THE TIED CARD OF 'hopscotchlaw26.LegalKnown'. -/
def legalKnownCard : Claim7 := { stood := { row := legalKnownRow, standIns := [], harness := (true, "0b988834220abf95ef855026d1f3c8e7392ee74630e60dd3328e2cc776cf8639"), looks := false }, kinds := [], alts := [], laidByText := true, laidKinds := [.widerDeep], laidTests := true, laidLooks := .later }
def LegalKnownCardSaid : Prop := Claim7.holds Tryz.pinned (.plain (OpenSpec.ofChange legalKnownSpec)) legalKnownCard

/-- THE TIED CARD OF 'hopscotchlaw20.SetsKnown'. -/
def setsKnownCard : Claim7 := { stood := { row := setsKnownRow, standIns := [], harness := (true, "0b988834220abf95ef855026d1f3c8e7392ee74630e60dd3328e2cc776cf8639"), looks := false }, kinds := [], alts := [], laidByText := true, laidKinds := [.widerDeep], laidTests := true, laidLooks := .later }
def SetsKnownCardSaid : Prop := Claim7.holds Tryz.pinned (.plain (OpenSpec.ofChange setsKnownSpec)) setsKnownCard

/-- THE SECOND FORM's CARD OF 'hopscotchlaw21.HistoryKnown'. -/
def historyKnownUptoCard : Claim7 := { stood := { row := historyKnownUptoRow, standIns := [], harness := (true, "0b988834220abf95ef855026d1f3c8e7392ee74630e60dd3328e2cc776cf8639"), looks := false }, kinds := [], alts := [], laidByText := true, laidKinds := [.widerDeep], laidTests := true, laidLooks := .later }
def HistoryKnownUptoCardSaid : Prop := Claim7.holds Tryz.pinned (.plain (OpenSpec.upto historyKnownSpec)) historyKnownUptoCard

/-- THE SECOND FORM's CARD OF 'hopscotchlaw16.IndexKnown'. -/
def indexKnownUptoCard : Claim7 := { stood := { row := indexKnownUptoRow, standIns := [], harness := (true, "0b988834220abf95ef855026d1f3c8e7392ee74630e60dd3328e2cc776cf8639"), looks := false }, kinds := [], alts := [], laidByText := true, laidKinds := [.widerDeep], laidTests := true, laidLooks := .later }
def IndexKnownUptoCardSaid : Prop := Claim7.holds Tryz.pinned (.plain (OpenSpec.upto indexKnownSpec)) indexKnownUptoCard

/-- THE SECOND FORM's CARD OF 'hopscotchlaw18.ExpandDoes'. -/
def expandDoesUptoCard : Claim7 := { stood := { row := expandDoesUptoRow, standIns := [], harness := (true, "0b988834220abf95ef855026d1f3c8e7392ee74630e60dd3328e2cc776cf8639"), looks := false }, kinds := [], alts := [], laidByText := true, laidKinds := [.widerDeep], laidTests := true, laidLooks := .later }
def ExpandDoesUptoCardSaid : Prop := Claim7.holds Tryz.pinned (.plain (OpenSpec.upto expandDoesSpec)) expandDoesUptoCard

/-- THE SECOND FORM's CARD OF 'hopscotchlaw18.ExpandKnown'. -/
def expandKnownUptoCard : Claim7 := { stood := { row := expandKnownUptoRow, standIns := [], harness := (true, "0b988834220abf95ef855026d1f3c8e7392ee74630e60dd3328e2cc776cf8639"), looks := false }, kinds := [], alts := [], laidByText := true, laidKinds := [.widerDeep], laidTests := true, laidLooks := .later }
def ExpandKnownUptoCardSaid : Prop := Claim7.holds Tryz.pinned (.plain (OpenSpec.upto expandKnownSpec)) expandKnownUptoCard

/-- THE SECOND FORM's CARD OF 'hopscotchlaw26.LegalKnown'. -/
def legalKnownUptoCard : Claim7 := { stood := { row := legalKnownUptoRow, standIns := [], harness := (true, "0b988834220abf95ef855026d1f3c8e7392ee74630e60dd3328e2cc776cf8639"), looks := false }, kinds := [], alts := [], laidByText := true, laidKinds := [.widerDeep], laidTests := true, laidLooks := .later }
def LegalKnownUptoCardSaid : Prop := Claim7.holds Tryz.pinned (.plain (OpenSpec.upto legalKnownSpec)) legalKnownUptoCard

/-- THE SECOND FORM's CARD OF 'hopscotchlaw20.SetsKnown'. -/
def setsKnownUptoCard : Claim7 := { stood := { row := setsKnownUptoRow, standIns := [], harness := (true, "0b988834220abf95ef855026d1f3c8e7392ee74630e60dd3328e2cc776cf8639"), looks := false }, kinds := [], alts := [], laidByText := true, laidKinds := [.widerDeep], laidTests := true, laidLooks := .later }
def SetsKnownUptoCardSaid : Prop := Claim7.holds Tryz.pinned (.plain (OpenSpec.upto setsKnownSpec)) setsKnownUptoCard
end Rows
end Go.Proofs.YtiimoclbmaggjaaGreatDoor
