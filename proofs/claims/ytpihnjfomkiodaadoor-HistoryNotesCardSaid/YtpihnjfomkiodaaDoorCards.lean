/-
  DERIVED. GIVEN WITH THE SEED: THE CARDS: each row of YtpihnjfomkiodaaDoorRows.lean that lists a variable, with what it lists TIED to the program's text (the seventh form; the later family's looks); each row that meets fmt, with fmt's text TOLD by the authors' own Lean function (tested against real Go, not proved from fmt's source: count such statements apart). THE CARD IS WHAT COUNTS. Prove the row's statement (the work); the ties are given (YtpihnjfomkiodaaDoorTie.lean); close each card by the builder's one call (the guide's Derived/Test/ToyasCard.lean, 'card_holds'). Laid BY PROGRAM, IN A SANDBOX (cutbox-door.mjs). By AI agents, Wed Nov 11 2026. No macro, syntax, notation, axiom, sorry.
-/
import Derived.Test.YtpihnjfomkiodaaDoorRows
import GoSem.ClaimSeven
namespace Go.Proofs.YtpihnjfomkiodaaDoor
namespace Rows

/-- THE TIED CARD OF 'hopscotchlaw21.HistoryEnds'. -/
def historyEndsCard : Claim7 := { stood := { row := historyEndsRow, standIns := [], harness := (true, "6c369d9b068c5aedca7581709112e368ad9511208b840da98634d20b39839456"), looks := false }, kinds := [], alts := [], laidByText := true, laidKinds := [.widerDeep], laidTests := true, laidLooks := .later }
def HistoryEndsCardSaid : Prop := Claim7.holds Tryd.pinned (.plain (OpenSpec.ofChange historyEndsSpec)) historyEndsCard

/-- THE TIED CARD OF 'hopscotchlaw21.HistoryNotes'. -/
def historyNotesCard : Claim7 := { stood := { row := historyNotesRow, standIns := [], harness := (true, "6c369d9b068c5aedca7581709112e368ad9511208b840da98634d20b39839456"), looks := false }, kinds := [], alts := [], laidByText := true, laidKinds := [.widerDeep], laidTests := true, laidLooks := .later }
def HistoryNotesCardSaid : Prop := Claim7.holds Tryd.pinned (.plain (OpenSpec.ofChange historyNotesSpec)) historyNotesCard

/-- THE TIED CARD OF 'hopscotchlaw21.HistoryLies'. -/
def historyLiesCard : Claim7 := { stood := { row := historyLiesRow, standIns := [], harness := (true, "6c369d9b068c5aedca7581709112e368ad9511208b840da98634d20b39839456"), looks := false }, kinds := [], alts := [], laidByText := true, laidKinds := [.widerDeep], laidTests := true, laidLooks := .later }
def HistoryLiesCardSaid : Prop := Claim7.holds Tryd.pinned (.plain (OpenSpec.ofChange historyLiesSpec)) historyLiesCard

/-- THE TIED CARD OF 'hopscotchlaw26.LegalFills'. -/
def legalFillsCard : Claim7 := { stood := { row := legalFillsRow, standIns := [], harness := (true, "6c369d9b068c5aedca7581709112e368ad9511208b840da98634d20b39839456"), looks := false }, kinds := [], alts := [], laidByText := true, laidKinds := [.widerDeep], laidTests := true, laidLooks := .later }
def LegalFillsCardSaid : Prop := Claim7.holds Tryd.pinned (.plain (OpenSpec.ofChange legalFillsSpec)) legalFillsCard

/-- THE SECOND FORM's CARD OF 'hopscotchlaw21.HistoryEnds'. -/
def historyEndsUptoCard : Claim7 := { stood := { row := historyEndsUptoRow, standIns := [], harness := (true, "6c369d9b068c5aedca7581709112e368ad9511208b840da98634d20b39839456"), looks := false }, kinds := [], alts := [], laidByText := true, laidKinds := [.widerDeep], laidTests := true, laidLooks := .later }
def HistoryEndsUptoCardSaid : Prop := Claim7.holds Tryd.pinned (.plain (OpenSpec.upto historyEndsSpec)) historyEndsUptoCard

/-- THE SECOND FORM's CARD OF 'hopscotchlaw21.HistoryNotes'. -/
def historyNotesUptoCard : Claim7 := { stood := { row := historyNotesUptoRow, standIns := [], harness := (true, "6c369d9b068c5aedca7581709112e368ad9511208b840da98634d20b39839456"), looks := false }, kinds := [], alts := [], laidByText := true, laidKinds := [.widerDeep], laidTests := true, laidLooks := .later }
def HistoryNotesUptoCardSaid : Prop := Claim7.holds Tryd.pinned (.plain (OpenSpec.upto historyNotesSpec)) historyNotesUptoCard

/-- THE SECOND FORM's CARD OF 'hopscotchlaw21.HistoryLies'. -/
def historyLiesUptoCard : Claim7 := { stood := { row := historyLiesUptoRow, standIns := [], harness := (true, "6c369d9b068c5aedca7581709112e368ad9511208b840da98634d20b39839456"), looks := false }, kinds := [], alts := [], laidByText := true, laidKinds := [.widerDeep], laidTests := true, laidLooks := .later }
def HistoryLiesUptoCardSaid : Prop := Claim7.holds Tryd.pinned (.plain (OpenSpec.upto historyLiesSpec)) historyLiesUptoCard

/-- THE SECOND FORM's CARD OF 'hopscotchlaw26.LegalFills'. -/
def legalFillsUptoCard : Claim7 := { stood := { row := legalFillsUptoRow, standIns := [], harness := (true, "6c369d9b068c5aedca7581709112e368ad9511208b840da98634d20b39839456"), looks := false }, kinds := [], alts := [], laidByText := true, laidKinds := [.widerDeep], laidTests := true, laidLooks := .later }
def LegalFillsUptoCardSaid : Prop := Claim7.holds Tryd.pinned (.plain (OpenSpec.upto legalFillsSpec)) legalFillsUptoCard
end Rows
end Go.Proofs.YtpihnjfomkiodaaDoor
