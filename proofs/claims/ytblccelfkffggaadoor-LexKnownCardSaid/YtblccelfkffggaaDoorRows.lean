/-
  NARROWER THAN 'FOR EVERY INPUT', by the rows' own cells (each row's printed sentence says how): LexCuts: laid · LexPieces: laid · LexPlaces: laid · LexIs: laid · LexBack: laid · LexKnown: laid.
  DERIVED. THE GIVEN ROWS OF THIS SEAT. 6 by the template 'for every input the law returns true; each argument reads behind the call as it read before'; 0 by the template 'total and deterministic' (their statements: YtblccelfkffggaaDoorTotals.lean).
  GIVEN WITH THE SEED: the statements are not yours to turn. If you find one false, say at which input.
  Laid BY PROGRAM, IN A SANDBOX (cutbox-rows.mjs): the forced cells as the released guide's own fill.sh prints them over the translation fc836f59f0035979… (all of the seat's roots in one cut). By AI agents, Wed Nov 11 2026. No macro, syntax, notation, axiom, sorry.
-/
import Derived.Test.YtblccelfkffggaaDoorChecked
import GoSem.Claim
import GoSem.ClaimJoined
import GoSem.ClaimMapViews
import Derived.JoinedTies
import Derived.KernelRfl
namespace Go.Proofs.YtblccelfkffggaaDoor
/- THE CELL 'sum', in the pinned program and in every row, IS THE sha256 OF THE DUMP (.gsa) THAT YtblccelfkffggaaDoorProg.lean LOADS. Nothing in Lean hashes anything: it is a label: what it is worth is what the hold of that sum in a sandbox is worth. -/
noncomputable def Tryd.pinned : Pinned := { name := "ytblccelfkffggaadoor", sum := "fc836f59f00359792663cb7f5d10d9ca93e50035f5f94ecacaa1b3059593660b", checked := Tryd.checked }
namespace Rows
def none {H : Type} : Left H := { results := [], args := [] }

/- WHAT THE LISTED PACKAGE-LEVEL VARIABLES READ AS WHEN THE CALL BEGINS. Each datum BY PROGRAM (the guide's laid-datum.mjs) off the statement by which the dump's own 'gosem.cut.vars' lays the variable. In a bare row this is a premise. The card (YtblccelfkffggaaDoorCards.lean) ties it to the program's text. -/
def laid_hopscotch_lex_signs {H : Type} : DataW H := .agg [.lit (.string [58, 61]), .lit (.string [60, 62]), .lit (.string [60, 61]), .lit (.string [62, 61]), .lit (.string [60]), .lit (.string [62]), .lit (.string [61]), .lit (.string [43]), .lit (.string [45]), .lit (.string [42]), .lit (.string [40]), .lit (.string [41]), .lit (.string [44]), .lit (.string [59])]

/-- 'hopscotchlaw07.LexCuts': WHATEVER THE INPUT: true; the input reads as it did. -/
def lexCutsSpec : ChangeSpec := { name := "lexCuts", fn := fun _ => fun
  | [d] => { results := [.lit (.bool true)], args := [d] }
  | _ => none }
def lexCutsRow : OpenClaim := { program := "ytblccelfkffggaadoor", sum := "fc836f59f00359792663cb7f5d10d9ca93e50035f5f94ecacaa1b3059593660b", func := "hopscotch/hopscotchlaw07.LexCuts", spec := "lexCuts", inPlace := ["internal/bytealg.IndexByteString", "internal/bytealg.IndexString"], unfollowed := true, recurses := true, named := ["hopscotch/lex.signs", "internal/bytealg.MaxLen"], apart := false, laid := [("hopscotch/lex.signs", laid_hopscotch_lex_signs)] }
def LexCutsSaid : Prop := lexCutsRow.holds Tryd.pinned (OpenSpec.ofChange lexCutsSpec)

/-- ITS FALSE NEIGHBOUR: 'it returns false'. Refute it at one input. -/
def lexCutsWrong : ChangeSpec := { name := "lexCuts", fn := fun _ => fun
  | [d] => { results := [.lit (.bool false)], args := [d] }
  | _ => none }
def LexCutsWrongFalsely : Prop := lexCutsRow.holds Tryd.pinned (OpenSpec.ofChange lexCutsWrong)

/-- 'hopscotchlaw07.LexPieces': WHATEVER THE INPUT: true; the input reads as it did. -/
def lexPiecesSpec : ChangeSpec := { name := "lexPieces", fn := fun _ => fun
  | [d1, d2] => { results := [.lit (.bool true)], args := [d1, d2] }
  | _ => none }
def lexPiecesRow : OpenClaim := { program := "ytblccelfkffggaadoor", sum := "fc836f59f00359792663cb7f5d10d9ca93e50035f5f94ecacaa1b3059593660b", func := "hopscotch/hopscotchlaw07.LexPieces", spec := "lexPieces", inPlace := ["internal/bytealg.IndexByteString", "internal/bytealg.IndexString"], unfollowed := true, recurses := true, named := ["hopscotch/lex.signs", "internal/bytealg.MaxLen"], apart := false, laid := [("hopscotch/lex.signs", laid_hopscotch_lex_signs)] }
def LexPiecesSaid : Prop := lexPiecesRow.holds Tryd.pinned (OpenSpec.ofChange lexPiecesSpec)

/-- ITS FALSE NEIGHBOUR: 'it returns false'. Refute it at one input. -/
def lexPiecesWrong : ChangeSpec := { name := "lexPieces", fn := fun _ => fun
  | [d1, d2] => { results := [.lit (.bool false)], args := [d1, d2] }
  | _ => none }
def LexPiecesWrongFalsely : Prop := lexPiecesRow.holds Tryd.pinned (OpenSpec.ofChange lexPiecesWrong)

/-- 'hopscotchlaw07.LexPlaces': WHATEVER THE INPUT: true; the input reads as it did. -/
def lexPlacesSpec : ChangeSpec := { name := "lexPlaces", fn := fun _ => fun
  | [d] => { results := [.lit (.bool true)], args := [d] }
  | _ => none }
def lexPlacesRow : OpenClaim := { program := "ytblccelfkffggaadoor", sum := "fc836f59f00359792663cb7f5d10d9ca93e50035f5f94ecacaa1b3059593660b", func := "hopscotch/hopscotchlaw07.LexPlaces", spec := "lexPlaces", inPlace := ["internal/bytealg.IndexByteString", "internal/bytealg.IndexString"], unfollowed := true, recurses := true, named := ["hopscotch/lex.signs", "internal/bytealg.MaxLen"], apart := false, laid := [("hopscotch/lex.signs", laid_hopscotch_lex_signs)] }
def LexPlacesSaid : Prop := lexPlacesRow.holds Tryd.pinned (OpenSpec.ofChange lexPlacesSpec)

/-- ITS FALSE NEIGHBOUR: 'it returns false'. Refute it at one input. -/
def lexPlacesWrong : ChangeSpec := { name := "lexPlaces", fn := fun _ => fun
  | [d] => { results := [.lit (.bool false)], args := [d] }
  | _ => none }
def LexPlacesWrongFalsely : Prop := lexPlacesRow.holds Tryd.pinned (OpenSpec.ofChange lexPlacesWrong)

/-- 'hopscotchlaw07.LexIs': WHATEVER THE INPUT: true; the input reads as it did. -/
def lexIsSpec : ChangeSpec := { name := "lexIs", fn := fun _ => fun
  | [d1, d2] => { results := [.lit (.bool true)], args := [d1, d2] }
  | _ => none }
def lexIsRow : OpenClaim := { program := "ytblccelfkffggaadoor", sum := "fc836f59f00359792663cb7f5d10d9ca93e50035f5f94ecacaa1b3059593660b", func := "hopscotch/hopscotchlaw07.LexIs", spec := "lexIs", inPlace := ["internal/bytealg.IndexByteString", "internal/bytealg.IndexString", "internal/abi.NoEscape", "internal/bytealg.MakeNoZero"], unfollowed := true, recurses := true, named := ["hopscotch/lex.signs", "internal/bytealg.MaxLen"], apart := false, laid := [("hopscotch/lex.signs", laid_hopscotch_lex_signs)] }
def LexIsSaid : Prop := lexIsRow.holds Tryd.pinned (OpenSpec.ofChange lexIsSpec)

/-- ITS FALSE NEIGHBOUR: 'it returns false'. Refute it at one input. -/
def lexIsWrong : ChangeSpec := { name := "lexIs", fn := fun _ => fun
  | [d1, d2] => { results := [.lit (.bool false)], args := [d1, d2] }
  | _ => none }
def LexIsWrongFalsely : Prop := lexIsRow.holds Tryd.pinned (OpenSpec.ofChange lexIsWrong)

/-- 'hopscotchlaw07.LexBack': WHATEVER THE INPUT: true; the input reads as it did. -/
def lexBackSpec : ChangeSpec := { name := "lexBack", fn := fun _ => fun
  | [d] => { results := [.lit (.bool true)], args := [d] }
  | _ => none }
def lexBackRow : OpenClaim := { program := "ytblccelfkffggaadoor", sum := "fc836f59f00359792663cb7f5d10d9ca93e50035f5f94ecacaa1b3059593660b", func := "hopscotch/hopscotchlaw07.LexBack", spec := "lexBack", inPlace := ["internal/bytealg.IndexByteString", "internal/bytealg.IndexString", "internal/abi.NoEscape", "internal/bytealg.MakeNoZero"], unfollowed := true, recurses := true, named := ["hopscotch/lex.signs", "internal/bytealg.MaxLen"], apart := false, laid := [("hopscotch/lex.signs", laid_hopscotch_lex_signs)] }
def LexBackSaid : Prop := lexBackRow.holds Tryd.pinned (OpenSpec.ofChange lexBackSpec)

/-- ITS FALSE NEIGHBOUR: 'it returns false'. Refute it at one input. -/
def lexBackWrong : ChangeSpec := { name := "lexBack", fn := fun _ => fun
  | [d] => { results := [.lit (.bool false)], args := [d] }
  | _ => none }
def LexBackWrongFalsely : Prop := lexBackRow.holds Tryd.pinned (OpenSpec.ofChange lexBackWrong)

/-- 'hopscotchlaw07.LexKnown': WHATEVER THE INPUT: true; the input reads as it did. -/
def lexKnownSpec : ChangeSpec := { name := "lexKnown", fn := fun _ => fun
  | [] => { results := [.lit (.bool true)], args := [] }
  | _ => none }
def lexKnownRow : OpenClaim := { program := "ytblccelfkffggaadoor", sum := "fc836f59f00359792663cb7f5d10d9ca93e50035f5f94ecacaa1b3059593660b", func := "hopscotch/hopscotchlaw07.LexKnown", spec := "lexKnown", inPlace := ["internal/bytealg.IndexByteString", "internal/bytealg.IndexString", "internal/abi.NoEscape", "internal/bytealg.MakeNoZero"], unfollowed := true, recurses := true, named := ["hopscotch/lex.signs", "internal/bytealg.MaxLen"], apart := false, laid := [("hopscotch/lex.signs", laid_hopscotch_lex_signs)] }
def LexKnownSaid : Prop := lexKnownRow.holds Tryd.pinned (OpenSpec.ofChange lexKnownSpec)

/-- ITS FALSE NEIGHBOUR: 'it returns false'. Refute it at one input. -/
def lexKnownWrong : ChangeSpec := { name := "lexKnown", fn := fun _ => fun
  | [] => { results := [.lit (.bool false)], args := [] }
  | _ => none }
def LexKnownWrongFalsely : Prop := lexKnownRow.holds Tryd.pinned (OpenSpec.ofChange lexKnownWrong)

/- THE SECOND FORM. 'bulk': how many values and letters a reading holds, each counted each time it is reached (what is shared counts as often as it is met; a slice's spare places count too). A statement '..UptoSaid' is the law's where the arguments, and the package variables that the reading takes, are together of bulk at most 1048576: NARROWER than '..Said'. Prove '..Said' where nothing that the law and all that it calls make is longer than what came in: it says more and counts as full. Else prove '..UptoSaid'. A law counts once. -/
mutual
def uptoBulk {H : Type} : DataW H → Nat
  | .lit (.string bytes) => bytes.length + 1
  | .lit _ => 1
  | .nil => 1
  | .ptr d => uptoBulk d + 1
  | .slice elems spare => uptoBulkAll elems + uptoBulkAll spare + 1
  | .agg parts => uptoBulkAll parts + 1
  | .iface _ d => uptoBulk d + 1
  | .map entries => uptoBulkEntries entries + 1
  | .held _ => 1
def uptoBulkAll {H : Type} : List (DataW H) → Nat
  | [] => 0
  | d :: r => uptoBulk d + uptoBulkAll r
def uptoBulkEntries {H : Type} : List (Lit × DataW H) → Nat
  | [] => 0
  | x :: r => uptoBulkEntry x + uptoBulkEntries r
def uptoBulkEntry {H : Type} : Lit × DataW H → Nat
  | (.string bytes, d) => bytes.length + uptoBulk d + 1
  | (_, d) => uptoBulk d + 1
 end
def uptoSmall : (H : Type) → List (DataW H) → Bool := fun _ ds => decide (uptoBulkAll ds ≤ 1048576)
def OpenSpec.upto (s : _root_.Go.ChangeSpec) : _root_.Go.OpenSpec := { _root_.Go.OpenSpec.ofChange s with cond := some uptoSmall }

/-- 'hopscotchlaw07.LexCuts', WHERE WHAT IT READS IS OF BULK AT MOST 1048576: true; the input reads as it did. -/
def lexCutsUptoRow : OpenClaim := { program := "ytblccelfkffggaadoor", sum := "fc836f59f00359792663cb7f5d10d9ca93e50035f5f94ecacaa1b3059593660b", func := "hopscotch/hopscotchlaw07.LexCuts", spec := "lexCuts", inPlace := ["internal/bytealg.IndexByteString", "internal/bytealg.IndexString"], unfollowed := true, recurses := true, named := ["hopscotch/lex.signs", "internal/bytealg.MaxLen"], apart := false, laid := [("hopscotch/lex.signs", laid_hopscotch_lex_signs)], narrowed := true }
def LexCutsUptoSaid : Prop := lexCutsUptoRow.holds Tryd.pinned (OpenSpec.upto lexCutsSpec)

/-- 'hopscotchlaw07.LexPieces', WHERE WHAT IT READS IS OF BULK AT MOST 1048576: true; the input reads as it did. -/
def lexPiecesUptoRow : OpenClaim := { program := "ytblccelfkffggaadoor", sum := "fc836f59f00359792663cb7f5d10d9ca93e50035f5f94ecacaa1b3059593660b", func := "hopscotch/hopscotchlaw07.LexPieces", spec := "lexPieces", inPlace := ["internal/bytealg.IndexByteString", "internal/bytealg.IndexString"], unfollowed := true, recurses := true, named := ["hopscotch/lex.signs", "internal/bytealg.MaxLen"], apart := false, laid := [("hopscotch/lex.signs", laid_hopscotch_lex_signs)], narrowed := true }
def LexPiecesUptoSaid : Prop := lexPiecesUptoRow.holds Tryd.pinned (OpenSpec.upto lexPiecesSpec)

/-- 'hopscotchlaw07.LexPlaces', WHERE WHAT IT READS IS OF BULK AT MOST 1048576: true; the input reads as it did. -/
def lexPlacesUptoRow : OpenClaim := { program := "ytblccelfkffggaadoor", sum := "fc836f59f00359792663cb7f5d10d9ca93e50035f5f94ecacaa1b3059593660b", func := "hopscotch/hopscotchlaw07.LexPlaces", spec := "lexPlaces", inPlace := ["internal/bytealg.IndexByteString", "internal/bytealg.IndexString"], unfollowed := true, recurses := true, named := ["hopscotch/lex.signs", "internal/bytealg.MaxLen"], apart := false, laid := [("hopscotch/lex.signs", laid_hopscotch_lex_signs)], narrowed := true }
def LexPlacesUptoSaid : Prop := lexPlacesUptoRow.holds Tryd.pinned (OpenSpec.upto lexPlacesSpec)

/-- 'hopscotchlaw07.LexIs', WHERE WHAT IT READS IS OF BULK AT MOST 1048576: true; the input reads as it did. -/
def lexIsUptoRow : OpenClaim := { program := "ytblccelfkffggaadoor", sum := "fc836f59f00359792663cb7f5d10d9ca93e50035f5f94ecacaa1b3059593660b", func := "hopscotch/hopscotchlaw07.LexIs", spec := "lexIs", inPlace := ["internal/bytealg.IndexByteString", "internal/bytealg.IndexString", "internal/abi.NoEscape", "internal/bytealg.MakeNoZero"], unfollowed := true, recurses := true, named := ["hopscotch/lex.signs", "internal/bytealg.MaxLen"], apart := false, laid := [("hopscotch/lex.signs", laid_hopscotch_lex_signs)], narrowed := true }
def LexIsUptoSaid : Prop := lexIsUptoRow.holds Tryd.pinned (OpenSpec.upto lexIsSpec)

/-- 'hopscotchlaw07.LexBack', WHERE WHAT IT READS IS OF BULK AT MOST 1048576: true; the input reads as it did. -/
def lexBackUptoRow : OpenClaim := { program := "ytblccelfkffggaadoor", sum := "fc836f59f00359792663cb7f5d10d9ca93e50035f5f94ecacaa1b3059593660b", func := "hopscotch/hopscotchlaw07.LexBack", spec := "lexBack", inPlace := ["internal/bytealg.IndexByteString", "internal/bytealg.IndexString", "internal/abi.NoEscape", "internal/bytealg.MakeNoZero"], unfollowed := true, recurses := true, named := ["hopscotch/lex.signs", "internal/bytealg.MaxLen"], apart := false, laid := [("hopscotch/lex.signs", laid_hopscotch_lex_signs)], narrowed := true }
def LexBackUptoSaid : Prop := lexBackUptoRow.holds Tryd.pinned (OpenSpec.upto lexBackSpec)

/-- 'hopscotchlaw07.LexKnown', WHERE WHAT IT READS IS OF BULK AT MOST 1048576: true; the input reads as it did. -/
def lexKnownUptoRow : OpenClaim := { program := "ytblccelfkffggaadoor", sum := "fc836f59f00359792663cb7f5d10d9ca93e50035f5f94ecacaa1b3059593660b", func := "hopscotch/hopscotchlaw07.LexKnown", spec := "lexKnown", inPlace := ["internal/bytealg.IndexByteString", "internal/bytealg.IndexString", "internal/abi.NoEscape", "internal/bytealg.MakeNoZero"], unfollowed := true, recurses := true, named := ["hopscotch/lex.signs", "internal/bytealg.MaxLen"], apart := false, laid := [("hopscotch/lex.signs", laid_hopscotch_lex_signs)], narrowed := true }
def LexKnownUptoSaid : Prop := lexKnownUptoRow.holds Tryd.pinned (OpenSpec.upto lexKnownSpec)

end Rows
end Go.Proofs.YtblccelfkffggaaDoor
