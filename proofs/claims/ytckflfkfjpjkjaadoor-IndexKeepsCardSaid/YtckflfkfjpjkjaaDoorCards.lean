/-
  DERIVED. GIVEN WITH THE SEED: THE CARDS: each row of YtckflfkfjpjkjaaDoorRows.lean that lists a variable, with what it lists TIED to the program's text (the seventh form; the later family's looks); each row that meets fmt, with fmt's text TOLD by the authors' own Lean function (tested against real Go, not proved from fmt's source: count such statements apart). THE CARD IS WHAT COUNTS. Prove the row's statement (the work); the ties are given (YtckflfkfjpjkjaaDoorTie.lean); close each card by the builder's one call (the guide's Derived/Test/ToyasCard.lean, 'card_holds'). Laid BY PROGRAM, IN A SANDBOX (cutbox-door.mjs). By AI agents, Wed Nov 11 2026. No macro, syntax, notation, axiom, sorry.
-/
import Derived.Test.YtckflfkfjpjkjaaDoorRows
import GoSem.ClaimSeven
namespace Go.Proofs.YtckflfkfjpjkjaaDoor
namespace Rows

/-- THE TIED CARD OF 'hopscotchlaw13.ModelSame'. -/
def modelSameCard : Claim7 := { stood := { row := modelSameRow, standIns := [], harness := (true, "81477dbf793f5f103e13899a7221c5b244a81441312591f3e4cbbba64f735ba7"), looks := false }, kinds := [], alts := [], laidByText := true, laidKinds := [.widerDeep], laidTests := true, laidLooks := .later }
def ModelSameCardSaid : Prop := Claim7.holds Tryd.pinned (.plain (OpenSpec.ofChange modelSameSpec)) modelSameCard

/-- THE TIED CARD OF 'hopscotchlaw13.ModelCopies'. -/
def modelCopiesCard : Claim7 := { stood := { row := modelCopiesRow, standIns := [], harness := (true, "81477dbf793f5f103e13899a7221c5b244a81441312591f3e4cbbba64f735ba7"), looks := false }, kinds := [], alts := [], laidByText := true, laidKinds := [.widerDeep], laidTests := true, laidLooks := .later }
def ModelCopiesCardSaid : Prop := Claim7.holds Tryd.pinned (.plain (OpenSpec.ofChange modelCopiesSpec)) modelCopiesCard

/-- THE TIED CARD OF 'hopscotchlaw13.ModelLess'. -/
def modelLessCard : Claim7 := { stood := { row := modelLessRow, standIns := [], harness := (true, "81477dbf793f5f103e13899a7221c5b244a81441312591f3e4cbbba64f735ba7"), looks := false }, kinds := [], alts := [], laidByText := true, laidKinds := [.widerDeep], laidTests := true, laidLooks := .later }
def ModelLessCardSaid : Prop := Claim7.holds Tryd.pinned (.plain (OpenSpec.ofChange modelLessSpec)) modelLessCard

/-- THE TIED CARD OF 'hopscotchlaw21.HistoryEnds'. -/
def historyEndsCard : Claim7 := { stood := { row := historyEndsRow, standIns := [], harness := (true, "81477dbf793f5f103e13899a7221c5b244a81441312591f3e4cbbba64f735ba7"), looks := false }, kinds := [], alts := [], laidByText := true, laidKinds := [.widerDeep], laidTests := true, laidLooks := .later }
def HistoryEndsCardSaid : Prop := Claim7.holds Tryd.pinned (.plain (OpenSpec.ofChange historyEndsSpec)) historyEndsCard

/-- THE TIED CARD OF 'hopscotchlaw21.HistoryNotes'. -/
def historyNotesCard : Claim7 := { stood := { row := historyNotesRow, standIns := [], harness := (true, "81477dbf793f5f103e13899a7221c5b244a81441312591f3e4cbbba64f735ba7"), looks := false }, kinds := [], alts := [], laidByText := true, laidKinds := [.widerDeep], laidTests := true, laidLooks := .later }
def HistoryNotesCardSaid : Prop := Claim7.holds Tryd.pinned (.plain (OpenSpec.ofChange historyNotesSpec)) historyNotesCard

/-- THE TIED CARD OF 'hopscotchlaw21.HistoryLies'. -/
def historyLiesCard : Claim7 := { stood := { row := historyLiesRow, standIns := [], harness := (true, "81477dbf793f5f103e13899a7221c5b244a81441312591f3e4cbbba64f735ba7"), looks := false }, kinds := [], alts := [], laidByText := true, laidKinds := [.widerDeep], laidTests := true, laidLooks := .later }
def HistoryLiesCardSaid : Prop := Claim7.holds Tryd.pinned (.plain (OpenSpec.ofChange historyLiesSpec)) historyLiesCard

/-- THE TIED CARD OF 'hopscotchlaw16.IndexKeeps'. -/
def indexKeepsCard : Claim7 := { stood := { row := indexKeepsRow, standIns := [], harness := (true, "81477dbf793f5f103e13899a7221c5b244a81441312591f3e4cbbba64f735ba7"), looks := false }, kinds := [], alts := [], laidByText := true, laidKinds := [.widerDeep], laidTests := true, laidLooks := .later }
def IndexKeepsCardSaid : Prop := Claim7.holds Tryd.pinned (.plain (OpenSpec.ofChange indexKeepsSpec)) indexKeepsCard

/-- THE SECOND FORM's CARD OF 'hopscotchlaw13.ModelSame'. -/
def modelSameUptoCard : Claim7 := { stood := { row := modelSameUptoRow, standIns := [], harness := (true, "81477dbf793f5f103e13899a7221c5b244a81441312591f3e4cbbba64f735ba7"), looks := false }, kinds := [], alts := [], laidByText := true, laidKinds := [.widerDeep], laidTests := true, laidLooks := .later }
def ModelSameUptoCardSaid : Prop := Claim7.holds Tryd.pinned (.plain (OpenSpec.upto modelSameSpec)) modelSameUptoCard

/-- THE SECOND FORM's CARD OF 'hopscotchlaw13.ModelCopies'. -/
def modelCopiesUptoCard : Claim7 := { stood := { row := modelCopiesUptoRow, standIns := [], harness := (true, "81477dbf793f5f103e13899a7221c5b244a81441312591f3e4cbbba64f735ba7"), looks := false }, kinds := [], alts := [], laidByText := true, laidKinds := [.widerDeep], laidTests := true, laidLooks := .later }
def ModelCopiesUptoCardSaid : Prop := Claim7.holds Tryd.pinned (.plain (OpenSpec.upto modelCopiesSpec)) modelCopiesUptoCard

/-- THE SECOND FORM's CARD OF 'hopscotchlaw13.ModelLess'. -/
def modelLessUptoCard : Claim7 := { stood := { row := modelLessUptoRow, standIns := [], harness := (true, "81477dbf793f5f103e13899a7221c5b244a81441312591f3e4cbbba64f735ba7"), looks := false }, kinds := [], alts := [], laidByText := true, laidKinds := [.widerDeep], laidTests := true, laidLooks := .later }
def ModelLessUptoCardSaid : Prop := Claim7.holds Tryd.pinned (.plain (OpenSpec.upto modelLessSpec)) modelLessUptoCard

/-- THE SECOND FORM's CARD OF 'hopscotchlaw21.HistoryEnds'. -/
def historyEndsUptoCard : Claim7 := { stood := { row := historyEndsUptoRow, standIns := [], harness := (true, "81477dbf793f5f103e13899a7221c5b244a81441312591f3e4cbbba64f735ba7"), looks := false }, kinds := [], alts := [], laidByText := true, laidKinds := [.widerDeep], laidTests := true, laidLooks := .later }
def HistoryEndsUptoCardSaid : Prop := Claim7.holds Tryd.pinned (.plain (OpenSpec.upto historyEndsSpec)) historyEndsUptoCard

/-- THE SECOND FORM's CARD OF 'hopscotchlaw21.HistoryNotes'. -/
def historyNotesUptoCard : Claim7 := { stood := { row := historyNotesUptoRow, standIns := [], harness := (true, "81477dbf793f5f103e13899a7221c5b244a81441312591f3e4cbbba64f735ba7"), looks := false }, kinds := [], alts := [], laidByText := true, laidKinds := [.widerDeep], laidTests := true, laidLooks := .later }
def HistoryNotesUptoCardSaid : Prop := Claim7.holds Tryd.pinned (.plain (OpenSpec.upto historyNotesSpec)) historyNotesUptoCard

/-- THE SECOND FORM's CARD OF 'hopscotchlaw21.HistoryLies'. -/
def historyLiesUptoCard : Claim7 := { stood := { row := historyLiesUptoRow, standIns := [], harness := (true, "81477dbf793f5f103e13899a7221c5b244a81441312591f3e4cbbba64f735ba7"), looks := false }, kinds := [], alts := [], laidByText := true, laidKinds := [.widerDeep], laidTests := true, laidLooks := .later }
def HistoryLiesUptoCardSaid : Prop := Claim7.holds Tryd.pinned (.plain (OpenSpec.upto historyLiesSpec)) historyLiesUptoCard

/-- THE SECOND FORM's CARD OF 'hopscotchlaw16.IndexKeeps'. -/
def indexKeepsUptoCard : Claim7 := { stood := { row := indexKeepsUptoRow, standIns := [], harness := (true, "81477dbf793f5f103e13899a7221c5b244a81441312591f3e4cbbba64f735ba7"), looks := false }, kinds := [], alts := [], laidByText := true, laidKinds := [.widerDeep], laidTests := true, laidLooks := .later }
def IndexKeepsUptoCardSaid : Prop := Claim7.holds Tryd.pinned (.plain (OpenSpec.upto indexKeepsSpec)) indexKeepsUptoCard
end Rows
end Go.Proofs.YtckflfkfjpjkjaaDoor
