/-
  DERIVED. GIVEN WITH THE SEED: THE CARDS: each row of YtblccelfkffggaaDoorRows.lean that lists a variable, with what it lists TIED to the program's text (the seventh form; the later family's looks); each row that meets fmt, with fmt's text TOLD by the authors' own Lean function (tested against real Go, not proved from fmt's source: count such statements apart). THE CARD IS WHAT COUNTS. Prove the row's statement (the work); the ties are given (YtblccelfkffggaaDoorTie.lean); close each card by the builder's one call (the guide's Derived/Test/ToyasCard.lean, 'card_holds'). Laid BY PROGRAM, IN A SANDBOX (cutbox-door.mjs). By AI agents, Wed Nov 11 2026. No macro, syntax, notation, axiom, sorry.
-/
import Derived.Test.YtblccelfkffggaaDoorRows
import GoSem.ClaimSeven
namespace Go.Proofs.YtblccelfkffggaaDoor
namespace Rows

/-- THE TIED CARD OF 'hopscotchlaw07.LexCuts'. -/
def lexCutsCard : Claim7 := { stood := { row := lexCutsRow, standIns := [], harness := (true, "1ff660de5497405a256132fc7888935c7f2153ed71af0deba6af5ba75a82da50"), looks := false }, kinds := [], alts := [], laidByText := true, laidKinds := [.widerDeep], laidTests := true, laidLooks := .later }
def LexCutsCardSaid : Prop := Claim7.holds Tryd.pinned (.plain (OpenSpec.ofChange lexCutsSpec)) lexCutsCard

/-- THE TIED CARD OF 'hopscotchlaw07.LexPieces'. -/
def lexPiecesCard : Claim7 := { stood := { row := lexPiecesRow, standIns := [], harness := (true, "1ff660de5497405a256132fc7888935c7f2153ed71af0deba6af5ba75a82da50"), looks := false }, kinds := [], alts := [], laidByText := true, laidKinds := [.widerDeep], laidTests := true, laidLooks := .later }
def LexPiecesCardSaid : Prop := Claim7.holds Tryd.pinned (.plain (OpenSpec.ofChange lexPiecesSpec)) lexPiecesCard

/-- THE TIED CARD OF 'hopscotchlaw07.LexPlaces'. -/
def lexPlacesCard : Claim7 := { stood := { row := lexPlacesRow, standIns := [], harness := (true, "1ff660de5497405a256132fc7888935c7f2153ed71af0deba6af5ba75a82da50"), looks := false }, kinds := [], alts := [], laidByText := true, laidKinds := [.widerDeep], laidTests := true, laidLooks := .later }
def LexPlacesCardSaid : Prop := Claim7.holds Tryd.pinned (.plain (OpenSpec.ofChange lexPlacesSpec)) lexPlacesCard

/-- THE TIED CARD OF 'hopscotchlaw07.LexIs'. -/
def lexIsCard : Claim7 := { stood := { row := lexIsRow, standIns := [], harness := (true, "1ff660de5497405a256132fc7888935c7f2153ed71af0deba6af5ba75a82da50"), looks := false }, kinds := [], alts := [], laidByText := true, laidKinds := [.widerDeep], laidTests := true, laidLooks := .later }
def LexIsCardSaid : Prop := Claim7.holds Tryd.pinned (.plain (OpenSpec.ofChange lexIsSpec)) lexIsCard

/-- THE TIED CARD OF 'hopscotchlaw07.LexBack'. -/
def lexBackCard : Claim7 := { stood := { row := lexBackRow, standIns := [], harness := (true, "1ff660de5497405a256132fc7888935c7f2153ed71af0deba6af5ba75a82da50"), looks := false }, kinds := [], alts := [], laidByText := true, laidKinds := [.widerDeep], laidTests := true, laidLooks := .later }
def LexBackCardSaid : Prop := Claim7.holds Tryd.pinned (.plain (OpenSpec.ofChange lexBackSpec)) lexBackCard

/-- THE TIED CARD OF 'hopscotchlaw07.LexKnown'. -/
def lexKnownCard : Claim7 := { stood := { row := lexKnownRow, standIns := [], harness := (true, "1ff660de5497405a256132fc7888935c7f2153ed71af0deba6af5ba75a82da50"), looks := false }, kinds := [], alts := [], laidByText := true, laidKinds := [.widerDeep], laidTests := true, laidLooks := .later }
def LexKnownCardSaid : Prop := Claim7.holds Tryd.pinned (.plain (OpenSpec.ofChange lexKnownSpec)) lexKnownCard

/-- THE SECOND FORM's CARD OF 'hopscotchlaw07.LexCuts'. -/
def lexCutsUptoCard : Claim7 := { stood := { row := lexCutsUptoRow, standIns := [], harness := (true, "1ff660de5497405a256132fc7888935c7f2153ed71af0deba6af5ba75a82da50"), looks := false }, kinds := [], alts := [], laidByText := true, laidKinds := [.widerDeep], laidTests := true, laidLooks := .later }
def LexCutsUptoCardSaid : Prop := Claim7.holds Tryd.pinned (.plain (OpenSpec.upto lexCutsSpec)) lexCutsUptoCard

/-- THE SECOND FORM's CARD OF 'hopscotchlaw07.LexPieces'. -/
def lexPiecesUptoCard : Claim7 := { stood := { row := lexPiecesUptoRow, standIns := [], harness := (true, "1ff660de5497405a256132fc7888935c7f2153ed71af0deba6af5ba75a82da50"), looks := false }, kinds := [], alts := [], laidByText := true, laidKinds := [.widerDeep], laidTests := true, laidLooks := .later }
def LexPiecesUptoCardSaid : Prop := Claim7.holds Tryd.pinned (.plain (OpenSpec.upto lexPiecesSpec)) lexPiecesUptoCard

/-- THE SECOND FORM's CARD OF 'hopscotchlaw07.LexPlaces'. -/
def lexPlacesUptoCard : Claim7 := { stood := { row := lexPlacesUptoRow, standIns := [], harness := (true, "1ff660de5497405a256132fc7888935c7f2153ed71af0deba6af5ba75a82da50"), looks := false }, kinds := [], alts := [], laidByText := true, laidKinds := [.widerDeep], laidTests := true, laidLooks := .later }
def LexPlacesUptoCardSaid : Prop := Claim7.holds Tryd.pinned (.plain (OpenSpec.upto lexPlacesSpec)) lexPlacesUptoCard

/-- THE SECOND FORM's CARD OF 'hopscotchlaw07.LexIs'. -/
def lexIsUptoCard : Claim7 := { stood := { row := lexIsUptoRow, standIns := [], harness := (true, "1ff660de5497405a256132fc7888935c7f2153ed71af0deba6af5ba75a82da50"), looks := false }, kinds := [], alts := [], laidByText := true, laidKinds := [.widerDeep], laidTests := true, laidLooks := .later }
def LexIsUptoCardSaid : Prop := Claim7.holds Tryd.pinned (.plain (OpenSpec.upto lexIsSpec)) lexIsUptoCard

/-- THE SECOND FORM's CARD OF 'hopscotchlaw07.LexBack'. -/
def lexBackUptoCard : Claim7 := { stood := { row := lexBackUptoRow, standIns := [], harness := (true, "1ff660de5497405a256132fc7888935c7f2153ed71af0deba6af5ba75a82da50"), looks := false }, kinds := [], alts := [], laidByText := true, laidKinds := [.widerDeep], laidTests := true, laidLooks := .later }
def LexBackUptoCardSaid : Prop := Claim7.holds Tryd.pinned (.plain (OpenSpec.upto lexBackSpec)) lexBackUptoCard

/-- THE SECOND FORM's CARD OF 'hopscotchlaw07.LexKnown'. -/
def lexKnownUptoCard : Claim7 := { stood := { row := lexKnownUptoRow, standIns := [], harness := (true, "1ff660de5497405a256132fc7888935c7f2153ed71af0deba6af5ba75a82da50"), looks := false }, kinds := [], alts := [], laidByText := true, laidKinds := [.widerDeep], laidTests := true, laidLooks := .later }
def LexKnownUptoCardSaid : Prop := Claim7.holds Tryd.pinned (.plain (OpenSpec.upto lexKnownSpec)) lexKnownUptoCard
end Rows
end Go.Proofs.YtblccelfkffggaaDoor
