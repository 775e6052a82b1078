/-
  DERIVED. GIVEN WITH THE SEED: THE CARDS: each row of YtdnepdhffhlbjaaGreatDoorRows.lean that lists a variable, with what it lists TIED to the program's text (the seventh form; the later family's looks); each row that meets fmt, with fmt's text TOLD by the authors' own Lean function (tested against real Go, not proved from fmt's source: count such statements apart). THE CARD IS WHAT COUNTS. Prove the row's statement (the work); the ties are given (YtdnepdhffhlbjaaGreatDoorTie.lean); close each card by the builder's one call (the guide's Derived/Test/ToyasCard.lean, 'card_holds'). Laid BY PROGRAM, IN A SANDBOX (cutbox-door.mjs). By AI agents, Wed Nov 11 2026. No macro, syntax, notation, axiom, sorry.
-/
import Derived.Test.YtdnepdhffhlbjaaGreatDoorRows
import GoSem.ClaimSeven
namespace Go.Proofs.YtdnepdhffhlbjaaGreatDoor
namespace Rows

/-- THE TIED CARD OF 'hopscotchlaw21.HistoryKnown'. -/
def historyKnownCard : Claim7 := { stood := { row := historyKnownRow, standIns := [], harness := (true, "9fb090f4e7178ee99cb4edb45d741a245c68de7a52747fca123a79e8292c82bf"), looks := false }, kinds := [], alts := [], laidByText := true, laidKinds := [.widerDeep], laidTests := true, laidLooks := .later }
def HistoryKnownCardSaid : Prop := Claim7.holds Tryz.pinned (.plain (OpenSpec.ofChange historyKnownSpec)) historyKnownCard

/-- THE TIED CARD OF 'hopscotchlaw16.IndexCommon'. -/
def indexCommonCard : Claim7 := { stood := { row := indexCommonRow, standIns := [], harness := (true, "9fb090f4e7178ee99cb4edb45d741a245c68de7a52747fca123a79e8292c82bf"), looks := false }, kinds := [], alts := [], laidByText := true, laidKinds := [.widerDeep], laidTests := true, laidLooks := .later }
def IndexCommonCardSaid : Prop := Claim7.holds Tryz.pinned (.plain (OpenSpec.ofChange indexCommonSpec)) indexCommonCard

/-- THE TIED CARD OF 'hopscotchlaw26.LegalChecks'. -/
def legalChecksCard : Claim7 := { stood := { row := legalChecksRow, standIns := [], harness := (true, "9fb090f4e7178ee99cb4edb45d741a245c68de7a52747fca123a79e8292c82bf"), looks := false }, kinds := [], alts := [], laidByText := true, laidKinds := [.widerDeep], laidTests := true, laidLooks := .later }
def LegalChecksCardSaid : Prop := Claim7.holds Tryz.pinned (.plain (OpenSpec.ofChange legalChecksSpec)) legalChecksCard

/-- THE TIED CARD OF 'hopscotchlaw26.LegalMeans'. -/
def legalMeansCard : Claim7 := { stood := { row := legalMeansRow, standIns := [], harness := (true, "9fb090f4e7178ee99cb4edb45d741a245c68de7a52747fca123a79e8292c82bf"), looks := false }, kinds := [], alts := [], laidByText := true, laidKinds := [.widerDeep], laidTests := true, laidLooks := .later }
def LegalMeansCardSaid : Prop := Claim7.holds Tryz.pinned (.plain (OpenSpec.ofChange legalMeansSpec)) legalMeansCard

/-- THE TIED CARD OF 'hopscotchlaw16.IndexKnown'. -/
def indexKnownCard : Claim7 := { stood := { row := indexKnownRow, standIns := [], harness := (true, "9fb090f4e7178ee99cb4edb45d741a245c68de7a52747fca123a79e8292c82bf"), looks := false }, kinds := [], alts := [], laidByText := true, laidKinds := [.widerDeep], laidTests := true, laidLooks := .later }
def IndexKnownCardSaid : Prop := Claim7.holds Tryz.pinned (.plain (OpenSpec.ofChange indexKnownSpec)) indexKnownCard

/-- THE TIED CARD OF 'hopscotchlaw20.SetsLeave'. -/
def setsLeaveCard : Claim7 := { stood := { row := setsLeaveRow, standIns := [], harness := (true, "9fb090f4e7178ee99cb4edb45d741a245c68de7a52747fca123a79e8292c82bf"), looks := false }, kinds := [], alts := [], laidByText := true, laidKinds := [.widerDeep], laidTests := true, laidLooks := .later }
def SetsLeaveCardSaid : Prop := Claim7.holds Tryz.pinned (.plain (OpenSpec.ofChange setsLeaveSpec)) setsLeaveCard

/-- THE TIED CARD OF 'hopscotchlaw20.SetsEnter'. -/
def setsEnterCard : Claim7 := { stood := { row := setsEnterRow, standIns := [], harness := (true, "9fb090f4e7178ee99cb4edb45d741a245c68de7a52747fca123a79e8292c82bf"), looks := false }, kinds := [], alts := [], laidByText := true, laidKinds := [.widerDeep], laidTests := true, laidLooks := .later }
def SetsEnterCardSaid : Prop := Claim7.holds Tryz.pinned (.plain (OpenSpec.ofChange setsEnterSpec)) setsEnterCard

/-- THE TIED CARD OF 'hopscotchlaw26.LegalKnown'. -/
def legalKnownCard : Claim7 := { stood := { row := legalKnownRow, standIns := [], harness := (true, "9fb090f4e7178ee99cb4edb45d741a245c68de7a52747fca123a79e8292c82bf"), looks := false }, kinds := [], alts := [], laidByText := true, laidKinds := [.widerDeep], laidTests := true, laidLooks := .later }
def LegalKnownCardSaid : Prop := Claim7.holds Tryz.pinned (.plain (OpenSpec.ofChange legalKnownSpec)) legalKnownCard

/-- THE TIED CARD OF 'hopscotchlaw20.SetsNone'. -/
def setsNoneCard : Claim7 := { stood := { row := setsNoneRow, standIns := [], harness := (true, "9fb090f4e7178ee99cb4edb45d741a245c68de7a52747fca123a79e8292c82bf"), looks := false }, kinds := [], alts := [], laidByText := true, laidKinds := [.widerDeep], laidTests := true, laidLooks := .later }
def SetsNoneCardSaid : Prop := Claim7.holds Tryz.pinned (.plain (OpenSpec.ofChange setsNoneSpec)) setsNoneCard

/-- THE TIED CARD OF 'hopscotchlaw20.SetsTell'. -/
def setsTellCard : Claim7 := { stood := { row := setsTellRow, standIns := [], harness := (true, "9fb090f4e7178ee99cb4edb45d741a245c68de7a52747fca123a79e8292c82bf"), looks := false }, kinds := [], alts := [], laidByText := true, laidKinds := [.widerDeep], laidTests := true, laidLooks := .later }
def SetsTellCardSaid : Prop := Claim7.holds Tryz.pinned (.plain (OpenSpec.ofChange setsTellSpec)) setsTellCard

/-- THE TIED CARD OF 'hopscotchlaw20.SetsKnown'. -/
def setsKnownCard : Claim7 := { stood := { row := setsKnownRow, standIns := [], harness := (true, "9fb090f4e7178ee99cb4edb45d741a245c68de7a52747fca123a79e8292c82bf"), looks := false }, kinds := [], alts := [], laidByText := true, laidKinds := [.widerDeep], laidTests := true, laidLooks := .later }
def SetsKnownCardSaid : Prop := Claim7.holds Tryz.pinned (.plain (OpenSpec.ofChange setsKnownSpec)) setsKnownCard

/-- THE SECOND FORM's CARD OF 'hopscotchlaw21.HistoryKnown'. -/
def historyKnownUptoCard : Claim7 := { stood := { row := historyKnownUptoRow, standIns := [], harness := (true, "9fb090f4e7178ee99cb4edb45d741a245c68de7a52747fca123a79e8292c82bf"), looks := false }, kinds := [], alts := [], laidByText := true, laidKinds := [.widerDeep], laidTests := true, laidLooks := .later }
def HistoryKnownUptoCardSaid : Prop := Claim7.holds Tryz.pinned (.plain (OpenSpec.upto historyKnownSpec)) historyKnownUptoCard

/-- THE SECOND FORM's CARD OF 'hopscotchlaw16.IndexCommon'. -/
def indexCommonUptoCard : Claim7 := { stood := { row := indexCommonUptoRow, standIns := [], harness := (true, "9fb090f4e7178ee99cb4edb45d741a245c68de7a52747fca123a79e8292c82bf"), looks := false }, kinds := [], alts := [], laidByText := true, laidKinds := [.widerDeep], laidTests := true, laidLooks := .later }
def IndexCommonUptoCardSaid : Prop := Claim7.holds Tryz.pinned (.plain (OpenSpec.upto indexCommonSpec)) indexCommonUptoCard

/-- THE SECOND FORM's CARD OF 'hopscotchlaw26.LegalChecks'. -/
def legalChecksUptoCard : Claim7 := { stood := { row := legalChecksUptoRow, standIns := [], harness := (true, "9fb090f4e7178ee99cb4edb45d741a245c68de7a52747fca123a79e8292c82bf"), looks := false }, kinds := [], alts := [], laidByText := true, laidKinds := [.widerDeep], laidTests := true, laidLooks := .later }
def LegalChecksUptoCardSaid : Prop := Claim7.holds Tryz.pinned (.plain (OpenSpec.upto legalChecksSpec)) legalChecksUptoCard

/-- THE SECOND FORM's CARD OF 'hopscotchlaw26.LegalMeans'. -/
def legalMeansUptoCard : Claim7 := { stood := { row := legalMeansUptoRow, standIns := [], harness := (true, "9fb090f4e7178ee99cb4edb45d741a245c68de7a52747fca123a79e8292c82bf"), looks := false }, kinds := [], alts := [], laidByText := true, laidKinds := [.widerDeep], laidTests := true, laidLooks := .later }
def LegalMeansUptoCardSaid : Prop := Claim7.holds Tryz.pinned (.plain (OpenSpec.upto legalMeansSpec)) legalMeansUptoCard

/-- THE SECOND FORM's CARD OF 'hopscotchlaw16.IndexKnown'. -/
def indexKnownUptoCard : Claim7 := { stood := { row := indexKnownUptoRow, standIns := [], harness := (true, "9fb090f4e7178ee99cb4edb45d741a245c68de7a52747fca123a79e8292c82bf"), looks := false }, kinds := [], alts := [], laidByText := true, laidKinds := [.widerDeep], laidTests := true, laidLooks := .later }
def IndexKnownUptoCardSaid : Prop := Claim7.holds Tryz.pinned (.plain (OpenSpec.upto indexKnownSpec)) indexKnownUptoCard

/-- THE SECOND FORM's CARD OF 'hopscotchlaw20.SetsLeave'. -/
def setsLeaveUptoCard : Claim7 := { stood := { row := setsLeaveUptoRow, standIns := [], harness := (true, "9fb090f4e7178ee99cb4edb45d741a245c68de7a52747fca123a79e8292c82bf"), looks := false }, kinds := [], alts := [], laidByText := true, laidKinds := [.widerDeep], laidTests := true, laidLooks := .later }
def SetsLeaveUptoCardSaid : Prop := Claim7.holds Tryz.pinned (.plain (OpenSpec.upto setsLeaveSpec)) setsLeaveUptoCard

/-- THE SECOND FORM's CARD OF 'hopscotchlaw20.SetsEnter'. -/
def setsEnterUptoCard : Claim7 := { stood := { row := setsEnterUptoRow, standIns := [], harness := (true, "9fb090f4e7178ee99cb4edb45d741a245c68de7a52747fca123a79e8292c82bf"), looks := false }, kinds := [], alts := [], laidByText := true, laidKinds := [.widerDeep], laidTests := true, laidLooks := .later }
def SetsEnterUptoCardSaid : Prop := Claim7.holds Tryz.pinned (.plain (OpenSpec.upto setsEnterSpec)) setsEnterUptoCard

/-- THE SECOND FORM's CARD OF 'hopscotchlaw26.LegalKnown'. -/
def legalKnownUptoCard : Claim7 := { stood := { row := legalKnownUptoRow, standIns := [], harness := (true, "9fb090f4e7178ee99cb4edb45d741a245c68de7a52747fca123a79e8292c82bf"), looks := false }, kinds := [], alts := [], laidByText := true, laidKinds := [.widerDeep], laidTests := true, laidLooks := .later }
def LegalKnownUptoCardSaid : Prop := Claim7.holds Tryz.pinned (.plain (OpenSpec.upto legalKnownSpec)) legalKnownUptoCard

/-- THE SECOND FORM's CARD OF 'hopscotchlaw20.SetsNone'. -/
def setsNoneUptoCard : Claim7 := { stood := { row := setsNoneUptoRow, standIns := [], harness := (true, "9fb090f4e7178ee99cb4edb45d741a245c68de7a52747fca123a79e8292c82bf"), looks := false }, kinds := [], alts := [], laidByText := true, laidKinds := [.widerDeep], laidTests := true, laidLooks := .later }
def SetsNoneUptoCardSaid : Prop := Claim7.holds Tryz.pinned (.plain (OpenSpec.upto setsNoneSpec)) setsNoneUptoCard

/-- THE SECOND FORM's CARD OF 'hopscotchlaw20.SetsTell'. -/
def setsTellUptoCard : Claim7 := { stood := { row := setsTellUptoRow, standIns := [], harness := (true, "9fb090f4e7178ee99cb4edb45d741a245c68de7a52747fca123a79e8292c82bf"), looks := false }, kinds := [], alts := [], laidByText := true, laidKinds := [.widerDeep], laidTests := true, laidLooks := .later }
def SetsTellUptoCardSaid : Prop := Claim7.holds Tryz.pinned (.plain (OpenSpec.upto setsTellSpec)) setsTellUptoCard

/-- THE SECOND FORM's CARD OF 'hopscotchlaw20.SetsKnown'. -/
def setsKnownUptoCard : Claim7 := { stood := { row := setsKnownUptoRow, standIns := [], harness := (true, "9fb090f4e7178ee99cb4edb45d741a245c68de7a52747fca123a79e8292c82bf"), looks := false }, kinds := [], alts := [], laidByText := true, laidKinds := [.widerDeep], laidTests := true, laidLooks := .later }
def SetsKnownUptoCardSaid : Prop := Claim7.holds Tryz.pinned (.plain (OpenSpec.upto setsKnownSpec)) setsKnownUptoCard
end Rows
end Go.Proofs.YtdnepdhffhlbjaaGreatDoor
