/-
  NARROWER THAN 'FOR EVERY INPUT', by the rows' own cells (each row's printed sentence says how): UtfNext: laid · UtfPut: laid · UtfValid: laid · UtfPieces: laid · UtfKnown: laid.
  DERIVED. THE GIVEN ROWS OF THIS SEAT. 5 by the template 'for every input the law returns true; each argument reads behind the call as it read before'; 0 by the template 'total and deterministic' (their statements: YtnlpdempnmpbcaaDoorTotals.lean).
  GIVEN WITH THE SEED: the statements are not yours to turn. If you find one false, say at which input.
  Laid BY PROGRAM, IN A SANDBOX (cutbox-rows.mjs): the forced cells as the released guide's own fill.sh prints them over the translation 89f1af5c2e0cd40b… (all of the seat's roots in one cut). By AI agents, Wed Nov 11 2026. No macro, syntax, notation, axiom, sorry.
-/
import Derived.Test.YtnlpdempnmpbcaaDoorChecked
import GoSem.Claim
import GoSem.ClaimJoined
import GoSem.ClaimMapViews
import Derived.JoinedTies
import Derived.KernelRfl
namespace Go.Proofs.YtnlpdempnmpbcaaDoor
/- THE CELL 'sum', in the pinned program and in every row, IS THE sha256 OF THE DUMP (.gsa) THAT YtnlpdempnmpbcaaDoorProg.lean LOADS. Nothing in Lean hashes anything: it is a label: what it is worth is what the hold of that sum in a sandbox is worth. -/
noncomputable def Tryd.pinned : Pinned := { name := "ytnlpdempnmpbcaadoor", sum := "89f1af5c2e0cd40bd4a9fda4db71854b0190d957d6fcc2ef2ff6703cf8ba3382", checked := Tryd.checked }
namespace Rows
def none {H : Type} : Left H := { results := [], args := [] }

/- WHAT THE LISTED PACKAGE-LEVEL VARIABLES READ AS WHEN THE CALL BEGINS. Each datum BY PROGRAM (the guide's laid-datum.mjs) off the statement by which the dump's own 'gosem.cut.vars' lays the variable. In a bare row this is a premise. The card (YtnlpdempnmpbcaaDoorCards.lean) ties it to the program's text. -/
def laid_hopscotch_utf_bounds {H : Type} : DataW H := .agg [.agg [.lit (.int .i32 9), .lit (.int .i32 10)], .agg [.lit (.int .i32 13), .lit (.int .i32 13)], .agg [.lit (.int .i32 32), .lit (.int .i32 55295)], .agg [.lit (.int .i32 57344), .lit (.int .i32 65533)], .agg [.lit (.int .i32 65536), .lit (.int .i32 1114111)]]

/-- 'hopscotchlaw01.UtfNext': WHATEVER THE INPUT: true; the input reads as it did. -/
def utfNextSpec : ChangeSpec := { name := "utfNext", fn := fun _ => fun
  | [d] => { results := [.lit (.bool true)], args := [d] }
  | _ => none }
def utfNextRow : OpenClaim := { program := "ytnlpdempnmpbcaadoor", sum := "89f1af5c2e0cd40bd4a9fda4db71854b0190d957d6fcc2ef2ff6703cf8ba3382", func := "hopscotch/hopscotchlaw01.UtfNext", spec := "utfNext", named := ["hopscotch/utf.bounds"], apart := false, laid := [("hopscotch/utf.bounds", laid_hopscotch_utf_bounds)] }
def UtfNextSaid : Prop := utfNextRow.holds Tryd.pinned (OpenSpec.ofChange utfNextSpec)

/-- ITS FALSE NEIGHBOUR: 'it returns false'. Refute it at one input. -/
def utfNextWrong : ChangeSpec := { name := "utfNext", fn := fun _ => fun
  | [d] => { results := [.lit (.bool false)], args := [d] }
  | _ => none }
def UtfNextWrongFalsely : Prop := utfNextRow.holds Tryd.pinned (OpenSpec.ofChange utfNextWrong)

/-- 'hopscotchlaw01.UtfPut': WHATEVER THE INPUT: true; the input reads as it did. -/
def utfPutSpec : ChangeSpec := { name := "utfPut", fn := fun _ => fun
  | [d1, d2] => { results := [.lit (.bool true)], args := [d1, d2] }
  | _ => none }
def utfPutRow : OpenClaim := { program := "ytnlpdempnmpbcaadoor", sum := "89f1af5c2e0cd40bd4a9fda4db71854b0190d957d6fcc2ef2ff6703cf8ba3382", func := "hopscotch/hopscotchlaw01.UtfPut", spec := "utfPut", named := ["hopscotch/utf.bounds"], apart := false, laid := [("hopscotch/utf.bounds", laid_hopscotch_utf_bounds)] }
def UtfPutSaid : Prop := utfPutRow.holds Tryd.pinned (OpenSpec.ofChange utfPutSpec)

/-- ITS FALSE NEIGHBOUR: 'it returns false'. Refute it at one input. -/
def utfPutWrong : ChangeSpec := { name := "utfPut", fn := fun _ => fun
  | [d1, d2] => { results := [.lit (.bool false)], args := [d1, d2] }
  | _ => none }
def UtfPutWrongFalsely : Prop := utfPutRow.holds Tryd.pinned (OpenSpec.ofChange utfPutWrong)

/-- 'hopscotchlaw01.UtfValid': WHATEVER THE INPUT: true; the input reads as it did. -/
def utfValidSpec : ChangeSpec := { name := "utfValid", fn := fun _ => fun
  | [d] => { results := [.lit (.bool true)], args := [d] }
  | _ => none }
def utfValidRow : OpenClaim := { program := "ytnlpdempnmpbcaadoor", sum := "89f1af5c2e0cd40bd4a9fda4db71854b0190d957d6fcc2ef2ff6703cf8ba3382", func := "hopscotch/hopscotchlaw01.UtfValid", spec := "utfValid", named := ["hopscotch/utf.bounds"], apart := false, laid := [("hopscotch/utf.bounds", laid_hopscotch_utf_bounds)] }
def UtfValidSaid : Prop := utfValidRow.holds Tryd.pinned (OpenSpec.ofChange utfValidSpec)

/-- ITS FALSE NEIGHBOUR: 'it returns false'. Refute it at one input. -/
def utfValidWrong : ChangeSpec := { name := "utfValid", fn := fun _ => fun
  | [d] => { results := [.lit (.bool false)], args := [d] }
  | _ => none }
def UtfValidWrongFalsely : Prop := utfValidRow.holds Tryd.pinned (OpenSpec.ofChange utfValidWrong)

/-- 'hopscotchlaw01.UtfPieces': WHATEVER THE INPUT: true; the input reads as it did. -/
def utfPiecesSpec : ChangeSpec := { name := "utfPieces", fn := fun _ => fun
  | [d1, d2] => { results := [.lit (.bool true)], args := [d1, d2] }
  | _ => none }
def utfPiecesRow : OpenClaim := { program := "ytnlpdempnmpbcaadoor", sum := "89f1af5c2e0cd40bd4a9fda4db71854b0190d957d6fcc2ef2ff6703cf8ba3382", func := "hopscotch/hopscotchlaw01.UtfPieces", spec := "utfPieces", named := ["hopscotch/utf.bounds"], apart := false, laid := [("hopscotch/utf.bounds", laid_hopscotch_utf_bounds)] }
def UtfPiecesSaid : Prop := utfPiecesRow.holds Tryd.pinned (OpenSpec.ofChange utfPiecesSpec)

/-- ITS FALSE NEIGHBOUR: 'it returns false'. Refute it at one input. -/
def utfPiecesWrong : ChangeSpec := { name := "utfPieces", fn := fun _ => fun
  | [d1, d2] => { results := [.lit (.bool false)], args := [d1, d2] }
  | _ => none }
def UtfPiecesWrongFalsely : Prop := utfPiecesRow.holds Tryd.pinned (OpenSpec.ofChange utfPiecesWrong)

/-- 'hopscotchlaw01.UtfKnown': WHATEVER THE INPUT: true; the input reads as it did. -/
def utfKnownSpec : ChangeSpec := { name := "utfKnown", fn := fun _ => fun
  | [] => { results := [.lit (.bool true)], args := [] }
  | _ => none }
def utfKnownRow : OpenClaim := { program := "ytnlpdempnmpbcaadoor", sum := "89f1af5c2e0cd40bd4a9fda4db71854b0190d957d6fcc2ef2ff6703cf8ba3382", func := "hopscotch/hopscotchlaw01.UtfKnown", spec := "utfKnown", named := ["hopscotch/utf.bounds"], apart := false, laid := [("hopscotch/utf.bounds", laid_hopscotch_utf_bounds)] }
def UtfKnownSaid : Prop := utfKnownRow.holds Tryd.pinned (OpenSpec.ofChange utfKnownSpec)

/-- ITS FALSE NEIGHBOUR: 'it returns false'. Refute it at one input. -/
def utfKnownWrong : ChangeSpec := { name := "utfKnown", fn := fun _ => fun
  | [] => { results := [.lit (.bool false)], args := [] }
  | _ => none }
def UtfKnownWrongFalsely : Prop := utfKnownRow.holds Tryd.pinned (OpenSpec.ofChange utfKnownWrong)

/- THE SECOND FORM. 'bulk': how many values and letters a reading holds, each counted each time it is reached (what is shared counts as often as it is met; a slice's spare places count too). A statement '..UptoSaid' is the law's where the arguments, and the package variables that the reading takes, are together of bulk at most 1048576: NARROWER than '..Said'. Prove '..Said' where nothing that the law and all that it calls make is longer than what came in: it says more and counts as full. Else prove '..UptoSaid'. A law counts once. -/
mutual
def uptoBulk {H : Type} : DataW H → Nat
  | .lit (.string bytes) => bytes.length + 1
  | .lit _ => 1
  | .nil => 1
  | .ptr d => uptoBulk d + 1
  | .slice elems spare => uptoBulkAll elems + uptoBulkAll spare + 1
  | .agg parts => uptoBulkAll parts + 1
  | .iface _ d => uptoBulk d + 1
  | .map entries => uptoBulkEntries entries + 1
  | .held _ => 1
def uptoBulkAll {H : Type} : List (DataW H) → Nat
  | [] => 0
  | d :: r => uptoBulk d + uptoBulkAll r
def uptoBulkEntries {H : Type} : List (Lit × DataW H) → Nat
  | [] => 0
  | x :: r => uptoBulkEntry x + uptoBulkEntries r
def uptoBulkEntry {H : Type} : Lit × DataW H → Nat
  | (.string bytes, d) => bytes.length + uptoBulk d + 1
  | (_, d) => uptoBulk d + 1
 end
def uptoSmall : (H : Type) → List (DataW H) → Bool := fun _ ds => decide (uptoBulkAll ds ≤ 1048576)
def OpenSpec.upto (s : _root_.Go.ChangeSpec) : _root_.Go.OpenSpec := { _root_.Go.OpenSpec.ofChange s with cond := some uptoSmall }

/-- 'hopscotchlaw01.UtfNext', WHERE WHAT IT READS IS OF BULK AT MOST 1048576: true; the input reads as it did. -/
def utfNextUptoRow : OpenClaim := { program := "ytnlpdempnmpbcaadoor", sum := "89f1af5c2e0cd40bd4a9fda4db71854b0190d957d6fcc2ef2ff6703cf8ba3382", func := "hopscotch/hopscotchlaw01.UtfNext", spec := "utfNext", named := ["hopscotch/utf.bounds"], apart := false, laid := [("hopscotch/utf.bounds", laid_hopscotch_utf_bounds)], narrowed := true }
def UtfNextUptoSaid : Prop := utfNextUptoRow.holds Tryd.pinned (OpenSpec.upto utfNextSpec)

/-- 'hopscotchlaw01.UtfPut', WHERE WHAT IT READS IS OF BULK AT MOST 1048576: true; the input reads as it did. -/
def utfPutUptoRow : OpenClaim := { program := "ytnlpdempnmpbcaadoor", sum := "89f1af5c2e0cd40bd4a9fda4db71854b0190d957d6fcc2ef2ff6703cf8ba3382", func := "hopscotch/hopscotchlaw01.UtfPut", spec := "utfPut", named := ["hopscotch/utf.bounds"], apart := false, laid := [("hopscotch/utf.bounds", laid_hopscotch_utf_bounds)], narrowed := true }
def UtfPutUptoSaid : Prop := utfPutUptoRow.holds Tryd.pinned (OpenSpec.upto utfPutSpec)

/-- 'hopscotchlaw01.UtfValid', WHERE WHAT IT READS IS OF BULK AT MOST 1048576: true; the input reads as it did. -/
def utfValidUptoRow : OpenClaim := { program := "ytnlpdempnmpbcaadoor", sum := "89f1af5c2e0cd40bd4a9fda4db71854b0190d957d6fcc2ef2ff6703cf8ba3382", func := "hopscotch/hopscotchlaw01.UtfValid", spec := "utfValid", named := ["hopscotch/utf.bounds"], apart := false, laid := [("hopscotch/utf.bounds", laid_hopscotch_utf_bounds)], narrowed := true }
def UtfValidUptoSaid : Prop := utfValidUptoRow.holds Tryd.pinned (OpenSpec.upto utfValidSpec)

/-- 'hopscotchlaw01.UtfPieces', WHERE WHAT IT READS IS OF BULK AT MOST 1048576: true; the input reads as it did. -/
def utfPiecesUptoRow : OpenClaim := { program := "ytnlpdempnmpbcaadoor", sum := "89f1af5c2e0cd40bd4a9fda4db71854b0190d957d6fcc2ef2ff6703cf8ba3382", func := "hopscotch/hopscotchlaw01.UtfPieces", spec := "utfPieces", named := ["hopscotch/utf.bounds"], apart := false, laid := [("hopscotch/utf.bounds", laid_hopscotch_utf_bounds)], narrowed := true }
def UtfPiecesUptoSaid : Prop := utfPiecesUptoRow.holds Tryd.pinned (OpenSpec.upto utfPiecesSpec)

/-- 'hopscotchlaw01.UtfKnown', WHERE WHAT IT READS IS OF BULK AT MOST 1048576: true; the input reads as it did. -/
def utfKnownUptoRow : OpenClaim := { program := "ytnlpdempnmpbcaadoor", sum := "89f1af5c2e0cd40bd4a9fda4db71854b0190d957d6fcc2ef2ff6703cf8ba3382", func := "hopscotch/hopscotchlaw01.UtfKnown", spec := "utfKnown", named := ["hopscotch/utf.bounds"], apart := false, laid := [("hopscotch/utf.bounds", laid_hopscotch_utf_bounds)], narrowed := true }
def UtfKnownUptoSaid : Prop := utfKnownUptoRow.holds Tryd.pinned (OpenSpec.upto utfKnownSpec)

end Rows
end Go.Proofs.YtnlpdempnmpbcaaDoor
