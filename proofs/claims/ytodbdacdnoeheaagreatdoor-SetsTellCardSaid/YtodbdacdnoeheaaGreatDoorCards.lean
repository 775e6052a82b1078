/-
  DERIVED. GIVEN WITH THE SEED: THE CARDS: each row of YtodbdacdnoeheaaGreatDoorRows.lean that lists a variable, with what it lists TIED to the program's text (the seventh form; the later family's looks); each row that meets fmt, with fmt's text TOLD by the authors' own Lean function (tested against real Go, not proved from fmt's source: count such statements apart). THE CARD IS WHAT COUNTS. Prove the row's statement (the work); the ties are given (YtodbdacdnoeheaaGreatDoorTie.lean); close each card by the builder's one call (the guide's Derived/Test/ToyasCard.lean, 'card_holds'). Laid BY PROGRAM, IN A SANDBOX (cutbox-door.mjs). By AI agents, Wed Nov 11 2026. No macro, syntax, notation, axiom, sorry.
-/
import Derived.Test.YtodbdacdnoeheaaGreatDoorRows
import GoSem.ClaimSeven
namespace Go.Proofs.YtodbdacdnoeheaaGreatDoor
namespace Rows

/-- THE TIED CARD OF 'hopscotchlaw16.IndexCommon'. -/
def indexCommonCard : Claim7 := { stood := { row := indexCommonRow, standIns := [], harness := (true, "733b64a9b15b1ef60d833ed71ac2182c2eb8782844983fd72bac457b4d8914e1"), looks := false }, kinds := [], alts := [], laidByText := true, laidKinds := [.widerDeep], laidTests := true, laidLooks := .later }
def IndexCommonCardSaid : Prop := Claim7.holds Tryz.pinned (.plain (OpenSpec.ofChange indexCommonSpec)) indexCommonCard

/-- THE TIED CARD OF 'hopscotchlaw20.SetsLeave'. -/
def setsLeaveCard : Claim7 := { stood := { row := setsLeaveRow, standIns := [], harness := (true, "733b64a9b15b1ef60d833ed71ac2182c2eb8782844983fd72bac457b4d8914e1"), looks := false }, kinds := [], alts := [], laidByText := true, laidKinds := [.widerDeep], laidTests := true, laidLooks := .later }
def SetsLeaveCardSaid : Prop := Claim7.holds Tryz.pinned (.plain (OpenSpec.ofChange setsLeaveSpec)) setsLeaveCard

/-- THE TIED CARD OF 'hopscotchlaw20.SetsEnter'. -/
def setsEnterCard : Claim7 := { stood := { row := setsEnterRow, standIns := [], harness := (true, "733b64a9b15b1ef60d833ed71ac2182c2eb8782844983fd72bac457b4d8914e1"), looks := false }, kinds := [], alts := [], laidByText := true, laidKinds := [.widerDeep], laidTests := true, laidLooks := .later }
def SetsEnterCardSaid : Prop := Claim7.holds Tryz.pinned (.plain (OpenSpec.ofChange setsEnterSpec)) setsEnterCard

/-- THE TIED CARD OF 'hopscotchlaw20.SetsNone'. -/
def setsNoneCard : Claim7 := { stood := { row := setsNoneRow, standIns := [], harness := (true, "733b64a9b15b1ef60d833ed71ac2182c2eb8782844983fd72bac457b4d8914e1"), looks := false }, kinds := [], alts := [], laidByText := true, laidKinds := [.widerDeep], laidTests := true, laidLooks := .later }
def SetsNoneCardSaid : Prop := Claim7.holds Tryz.pinned (.plain (OpenSpec.ofChange setsNoneSpec)) setsNoneCard

/-- THE TIED CARD OF 'hopscotchlaw20.SetsTell'. -/
def setsTellCard : Claim7 := { stood := { row := setsTellRow, standIns := [], harness := (true, "733b64a9b15b1ef60d833ed71ac2182c2eb8782844983fd72bac457b4d8914e1"), looks := false }, kinds := [], alts := [], laidByText := true, laidKinds := [.widerDeep], laidTests := true, laidLooks := .later }
def SetsTellCardSaid : Prop := Claim7.holds Tryz.pinned (.plain (OpenSpec.ofChange setsTellSpec)) setsTellCard

/-- THE SECOND FORM's CARD OF 'hopscotchlaw16.IndexCommon'. -/
def indexCommonUptoCard : Claim7 := { stood := { row := indexCommonUptoRow, standIns := [], harness := (true, "733b64a9b15b1ef60d833ed71ac2182c2eb8782844983fd72bac457b4d8914e1"), looks := false }, kinds := [], alts := [], laidByText := true, laidKinds := [.widerDeep], laidTests := true, laidLooks := .later }
def IndexCommonUptoCardSaid : Prop := Claim7.holds Tryz.pinned (.plain (OpenSpec.upto indexCommonSpec)) indexCommonUptoCard

/-- THE SECOND FORM's CARD OF 'hopscotchlaw20.SetsLeave'. -/
def setsLeaveUptoCard : Claim7 := { stood := { row := setsLeaveUptoRow, standIns := [], harness := (true, "733b64a9b15b1ef60d833ed71ac2182c2eb8782844983fd72bac457b4d8914e1"), looks := false }, kinds := [], alts := [], laidByText := true, laidKinds := [.widerDeep], laidTests := true, laidLooks := .later }
def SetsLeaveUptoCardSaid : Prop := Claim7.holds Tryz.pinned (.plain (OpenSpec.upto setsLeaveSpec)) setsLeaveUptoCard

/-- THE SECOND FORM's CARD OF 'hopscotchlaw20.SetsEnter'. -/
def setsEnterUptoCard : Claim7 := { stood := { row := setsEnterUptoRow, standIns := [], harness := (true, "733b64a9b15b1ef60d833ed71ac2182c2eb8782844983fd72bac457b4d8914e1"), looks := false }, kinds := [], alts := [], laidByText := true, laidKinds := [.widerDeep], laidTests := true, laidLooks := .later }
def SetsEnterUptoCardSaid : Prop := Claim7.holds Tryz.pinned (.plain (OpenSpec.upto setsEnterSpec)) setsEnterUptoCard

/-- THE SECOND FORM's CARD OF 'hopscotchlaw20.SetsNone'. -/
def setsNoneUptoCard : Claim7 := { stood := { row := setsNoneUptoRow, standIns := [], harness := (true, "733b64a9b15b1ef60d833ed71ac2182c2eb8782844983fd72bac457b4d8914e1"), looks := false }, kinds := [], alts := [], laidByText := true, laidKinds := [.widerDeep], laidTests := true, laidLooks := .later }
def SetsNoneUptoCardSaid : Prop := Claim7.holds Tryz.pinned (.plain (OpenSpec.upto setsNoneSpec)) setsNoneUptoCard

/-- THE SECOND FORM's CARD OF 'hopscotchlaw20.SetsTell'. -/
def setsTellUptoCard : Claim7 := { stood := { row := setsTellUptoRow, standIns := [], harness := (true, "733b64a9b15b1ef60d833ed71ac2182c2eb8782844983fd72bac457b4d8914e1"), looks := false }, kinds := [], alts := [], laidByText := true, laidKinds := [.widerDeep], laidTests := true, laidLooks := .later }
def SetsTellUptoCardSaid : Prop := Claim7.holds Tryz.pinned (.plain (OpenSpec.upto setsTellSpec)) setsTellUptoCard
end Rows
end Go.Proofs.YtodbdacdnoeheaaGreatDoor
