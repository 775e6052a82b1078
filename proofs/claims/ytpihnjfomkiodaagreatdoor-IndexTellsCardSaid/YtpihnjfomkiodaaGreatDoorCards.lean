/-
  DERIVED. GIVEN WITH THE SEED: THE CARDS: each row of YtpihnjfomkiodaaGreatDoorRows.lean that lists a variable, with what it lists TIED to the program's text (the seventh form; the later family's looks); each row that meets fmt, with fmt's text TOLD by the authors' own Lean function (tested against real Go, not proved from fmt's source: count such statements apart). THE CARD IS WHAT COUNTS. Prove the row's statement (the work); the ties are given (YtpihnjfomkiodaaGreatDoorTie.lean); close each card by the builder's one call (the guide's Derived/Test/ToyasCard.lean, 'card_holds'). Laid BY PROGRAM, IN A SANDBOX (cutbox-door.mjs). By AI agents, Wed Nov 11 2026. No macro, syntax, notation, axiom, sorry.
-/
import Derived.Test.YtpihnjfomkiodaaGreatDoorRows
import GoSem.ClaimSeven
namespace Go.Proofs.YtpihnjfomkiodaaGreatDoor
namespace Rows

/-- THE TIED CARD OF 'hopscotchlaw21.HistoryKnown'. -/
def historyKnownCard : Claim7 := { stood := { row := historyKnownRow, standIns := [], harness := (true, "b0afcf96d8641dd32598f4b4b71069502b8593629d2ee31a59178da05875303f"), looks := false }, kinds := [], alts := [], laidByText := true, laidKinds := [.widerDeep], laidTests := true, laidLooks := .later }
def HistoryKnownCardSaid : Prop := Claim7.holds Tryz.pinned (.plain (OpenSpec.ofChange historyKnownSpec)) historyKnownCard

/-- THE TIED CARD OF 'hopscotchlaw16.IndexCommon'. -/
def indexCommonCard : Claim7 := { stood := { row := indexCommonRow, standIns := [], harness := (true, "b0afcf96d8641dd32598f4b4b71069502b8593629d2ee31a59178da05875303f"), looks := false }, kinds := [], alts := [], laidByText := true, laidKinds := [.widerDeep], laidTests := true, laidLooks := .later }
def IndexCommonCardSaid : Prop := Claim7.holds Tryz.pinned (.plain (OpenSpec.ofChange indexCommonSpec)) indexCommonCard

/-- THE TIED CARD OF 'hopscotchlaw16.IndexLies'. -/
def indexLiesCard : Claim7 := { stood := { row := indexLiesRow, standIns := [], harness := (true, "b0afcf96d8641dd32598f4b4b71069502b8593629d2ee31a59178da05875303f"), looks := false }, kinds := [], alts := [], laidByText := true, laidKinds := [.widerDeep], laidTests := true, laidLooks := .later }
def IndexLiesCardSaid : Prop := Claim7.holds Tryz.pinned (.plain (OpenSpec.ofChange indexLiesSpec)) indexLiesCard

/-- THE TIED CARD OF 'hopscotchlaw26.LegalChecks'. -/
def legalChecksCard : Claim7 := { stood := { row := legalChecksRow, standIns := [], harness := (true, "b0afcf96d8641dd32598f4b4b71069502b8593629d2ee31a59178da05875303f"), looks := false }, kinds := [], alts := [], laidByText := true, laidKinds := [.widerDeep], laidTests := true, laidLooks := .later }
def LegalChecksCardSaid : Prop := Claim7.holds Tryz.pinned (.plain (OpenSpec.ofChange legalChecksSpec)) legalChecksCard

/-- THE TIED CARD OF 'hopscotchlaw26.LegalMeans'. -/
def legalMeansCard : Claim7 := { stood := { row := legalMeansRow, standIns := [], harness := (true, "b0afcf96d8641dd32598f4b4b71069502b8593629d2ee31a59178da05875303f"), looks := false }, kinds := [], alts := [], laidByText := true, laidKinds := [.widerDeep], laidTests := true, laidLooks := .later }
def LegalMeansCardSaid : Prop := Claim7.holds Tryz.pinned (.plain (OpenSpec.ofChange legalMeansSpec)) legalMeansCard

/-- THE TIED CARD OF 'hopscotchlaw16.IndexTells'. -/
def indexTellsCard : Claim7 := { stood := { row := indexTellsRow, standIns := [], harness := (true, "b0afcf96d8641dd32598f4b4b71069502b8593629d2ee31a59178da05875303f"), looks := false }, kinds := [], alts := [], laidByText := true, laidKinds := [.widerDeep], laidTests := true, laidLooks := .later }
def IndexTellsCardSaid : Prop := Claim7.holds Tryz.pinned (.plain (OpenSpec.ofChange indexTellsSpec)) indexTellsCard

/-- THE TIED CARD OF 'hopscotchlaw16.IndexKnown'. -/
def indexKnownCard : Claim7 := { stood := { row := indexKnownRow, standIns := [], harness := (true, "b0afcf96d8641dd32598f4b4b71069502b8593629d2ee31a59178da05875303f"), looks := false }, kinds := [], alts := [], laidByText := true, laidKinds := [.widerDeep], laidTests := true, laidLooks := .later }
def IndexKnownCardSaid : Prop := Claim7.holds Tryz.pinned (.plain (OpenSpec.ofChange indexKnownSpec)) indexKnownCard

/-- THE TIED CARD OF 'hopscotchlaw26.LegalKnown'. -/
def legalKnownCard : Claim7 := { stood := { row := legalKnownRow, standIns := [], harness := (true, "b0afcf96d8641dd32598f4b4b71069502b8593629d2ee31a59178da05875303f"), looks := false }, kinds := [], alts := [], laidByText := true, laidKinds := [.widerDeep], laidTests := true, laidLooks := .later }
def LegalKnownCardSaid : Prop := Claim7.holds Tryz.pinned (.plain (OpenSpec.ofChange legalKnownSpec)) legalKnownCard

/-- THE SECOND FORM's CARD OF 'hopscotchlaw21.HistoryKnown'. -/
def historyKnownUptoCard : Claim7 := { stood := { row := historyKnownUptoRow, standIns := [], harness := (true, "b0afcf96d8641dd32598f4b4b71069502b8593629d2ee31a59178da05875303f"), looks := false }, kinds := [], alts := [], laidByText := true, laidKinds := [.widerDeep], laidTests := true, laidLooks := .later }
def HistoryKnownUptoCardSaid : Prop := Claim7.holds Tryz.pinned (.plain (OpenSpec.upto historyKnownSpec)) historyKnownUptoCard

/-- THE SECOND FORM's CARD OF 'hopscotchlaw16.IndexCommon'. -/
def indexCommonUptoCard : Claim7 := { stood := { row := indexCommonUptoRow, standIns := [], harness := (true, "b0afcf96d8641dd32598f4b4b71069502b8593629d2ee31a59178da05875303f"), looks := false }, kinds := [], alts := [], laidByText := true, laidKinds := [.widerDeep], laidTests := true, laidLooks := .later }
def IndexCommonUptoCardSaid : Prop := Claim7.holds Tryz.pinned (.plain (OpenSpec.upto indexCommonSpec)) indexCommonUptoCard

/-- THE SECOND FORM's CARD OF 'hopscotchlaw16.IndexLies'. -/
def indexLiesUptoCard : Claim7 := { stood := { row := indexLiesUptoRow, standIns := [], harness := (true, "b0afcf96d8641dd32598f4b4b71069502b8593629d2ee31a59178da05875303f"), looks := false }, kinds := [], alts := [], laidByText := true, laidKinds := [.widerDeep], laidTests := true, laidLooks := .later }
def IndexLiesUptoCardSaid : Prop := Claim7.holds Tryz.pinned (.plain (OpenSpec.upto indexLiesSpec)) indexLiesUptoCard

/-- THE SECOND FORM's CARD OF 'hopscotchlaw26.LegalChecks'. -/
def legalChecksUptoCard : Claim7 := { stood := { row := legalChecksUptoRow, standIns := [], harness := (true, "b0afcf96d8641dd32598f4b4b71069502b8593629d2ee31a59178da05875303f"), looks := false }, kinds := [], alts := [], laidByText := true, laidKinds := [.widerDeep], laidTests := true, laidLooks := .later }
def LegalChecksUptoCardSaid : Prop := Claim7.holds Tryz.pinned (.plain (OpenSpec.upto legalChecksSpec)) legalChecksUptoCard

/-- THE SECOND FORM's CARD OF 'hopscotchlaw26.LegalMeans'. -/
def legalMeansUptoCard : Claim7 := { stood := { row := legalMeansUptoRow, standIns := [], harness := (true, "b0afcf96d8641dd32598f4b4b71069502b8593629d2ee31a59178da05875303f"), looks := false }, kinds := [], alts := [], laidByText := true, laidKinds := [.widerDeep], laidTests := true, laidLooks := .later }
def LegalMeansUptoCardSaid : Prop := Claim7.holds Tryz.pinned (.plain (OpenSpec.upto legalMeansSpec)) legalMeansUptoCard

/-- THE SECOND FORM's CARD OF 'hopscotchlaw16.IndexTells'. -/
def indexTellsUptoCard : Claim7 := { stood := { row := indexTellsUptoRow, standIns := [], harness := (true, "b0afcf96d8641dd32598f4b4b71069502b8593629d2ee31a59178da05875303f"), looks := false }, kinds := [], alts := [], laidByText := true, laidKinds := [.widerDeep], laidTests := true, laidLooks := .later }
def IndexTellsUptoCardSaid : Prop := Claim7.holds Tryz.pinned (.plain (OpenSpec.upto indexTellsSpec)) indexTellsUptoCard

/-- THE SECOND FORM's CARD OF 'hopscotchlaw16.IndexKnown'. -/
def indexKnownUptoCard : Claim7 := { stood := { row := indexKnownUptoRow, standIns := [], harness := (true, "b0afcf96d8641dd32598f4b4b71069502b8593629d2ee31a59178da05875303f"), looks := false }, kinds := [], alts := [], laidByText := true, laidKinds := [.widerDeep], laidTests := true, laidLooks := .later }
def IndexKnownUptoCardSaid : Prop := Claim7.holds Tryz.pinned (.plain (OpenSpec.upto indexKnownSpec)) indexKnownUptoCard

/-- THE SECOND FORM's CARD OF 'hopscotchlaw26.LegalKnown'. -/
def legalKnownUptoCard : Claim7 := { stood := { row := legalKnownUptoRow, standIns := [], harness := (true, "b0afcf96d8641dd32598f4b4b71069502b8593629d2ee31a59178da05875303f"), looks := false }, kinds := [], alts := [], laidByText := true, laidKinds := [.widerDeep], laidTests := true, laidLooks := .later }
def LegalKnownUptoCardSaid : Prop := Claim7.holds Tryz.pinned (.plain (OpenSpec.upto legalKnownSpec)) legalKnownUptoCard
end Rows
end Go.Proofs.YtpihnjfomkiodaaGreatDoor
