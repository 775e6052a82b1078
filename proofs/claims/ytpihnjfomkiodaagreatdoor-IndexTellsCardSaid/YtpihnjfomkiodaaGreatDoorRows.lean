/-
  NARROWER THAN 'FOR EVERY INPUT', by the rows' own cells (each row's printed sentence says how): HistoryKnown: laid · IndexCommon: laid · IndexLies: laid · LegalChecks: laid · LegalMeans: laid · IndexTells: laid · IndexKnown: laid · LegalKnown: laid.
  DERIVED. THE GIVEN ROWS OF THIS SEAT. 8 by the template 'for every input the law returns true; each argument reads behind the call as it read before'; 0 by the template 'total and deterministic' (their statements: YtpihnjfomkiodaaGreatDoorTotals.lean).
  GIVEN WITH THE SEED: the statements are not yours to turn. If you find one false, say at which input.
  Laid BY PROGRAM, IN A SANDBOX (cutbox-rows.mjs): the forced cells as the released guide's own fill.sh prints them over the translation 0bd8bca58e1ca7d0… (all of the seat's roots in one cut). By AI agents, Wed Nov 11 2026. No macro, syntax, notation, axiom, sorry.
-/
import Derived.Test.YtpihnjfomkiodaaGreatDoorChecked
import GoSem.Claim
import GoSem.ClaimJoined
import GoSem.ClaimMapViews
import Derived.JoinedTies
import Derived.KernelRfl
namespace Go.Proofs.YtpihnjfomkiodaaGreatDoor
/- THE CELL 'sum', in the pinned program and in every row, IS THE sha256 OF THE DUMP (.gsa) THAT YtpihnjfomkiodaaGreatDoorProg.lean LOADS. Nothing in Lean hashes anything: it is a label: what it is worth is what the hold of that sum in a sandbox is worth. -/
noncomputable def Tryz.pinned : Pinned := { name := "ytpihnjfomkiodaagreatdoor", sum := "0bd8bca58e1ca7d004067a9f0a0eca8f6e60c4132d7d04e0d8e43387903c8135", checked := Tryz.checked }
namespace Rows
def none {H : Type} : Left H := { results := [], args := [] }

/- WHAT THE LISTED PACKAGE-LEVEL VARIABLES READ AS WHEN THE CALL BEGINS. Each datum BY PROGRAM (the guide's laid-datum.mjs) off the statement by which the dump's own 'gosem.cut.vars' lays the variable. In a bare row this is a premise. The card (YtpihnjfomkiodaaGreatDoorCards.lean) ties it to the program's text. -/
def laid_hopscotch_lex_signs {H : Type} : DataW H := .agg [.lit (.string [58, 61]), .lit (.string [60, 62]), .lit (.string [60, 61]), .lit (.string [62, 61]), .lit (.string [60]), .lit (.string [62]), .lit (.string [61]), .lit (.string [43]), .lit (.string [45]), .lit (.string [42]), .lit (.string [40]), .lit (.string [41]), .lit (.string [44]), .lit (.string [59])]

/-- 'hopscotchlaw21.HistoryKnown': WHATEVER THE INPUT: true; the input reads as it did. -/
def historyKnownSpec : ChangeSpec := { name := "historyKnown", fn := fun _ => fun
  | [] => { results := [.lit (.bool true)], args := [] }
  | _ => none }
def historyKnownRow : OpenClaim := { program := "ytpihnjfomkiodaagreatdoor", sum := "0bd8bca58e1ca7d004067a9f0a0eca8f6e60c4132d7d04e0d8e43387903c8135", func := "hopscotch/hopscotchlaw21.HistoryKnown", spec := "historyKnown", inPlace := ["internal/bytealg.IndexByteString", "internal/bytealg.IndexString"], unfollowed := true, recurses := true, named := ["hopscotch/lex.signs", "internal/bytealg.MaxLen"], apart := false, laid := [("hopscotch/lex.signs", laid_hopscotch_lex_signs)] }
def HistoryKnownSaid : Prop := historyKnownRow.holds Tryz.pinned (OpenSpec.ofChange historyKnownSpec)

/-- ITS FALSE NEIGHBOUR: 'it returns false'. Refute it at one input. -/
def historyKnownWrong : ChangeSpec := { name := "historyKnown", fn := fun _ => fun
  | [] => { results := [.lit (.bool false)], args := [] }
  | _ => none }
def HistoryKnownWrongFalsely : Prop := historyKnownRow.holds Tryz.pinned (OpenSpec.ofChange historyKnownWrong)

/-- 'hopscotchlaw16.IndexCommon': WHATEVER THE INPUT: true; the input reads as it did. -/
def indexCommonSpec : ChangeSpec := { name := "indexCommon", fn := fun _ => fun
  | [d1, d2, d3, d4] => { results := [.lit (.bool true)], args := [d1, d2, d3, d4] }
  | _ => none }
def indexCommonRow : OpenClaim := { program := "ytpihnjfomkiodaagreatdoor", sum := "0bd8bca58e1ca7d004067a9f0a0eca8f6e60c4132d7d04e0d8e43387903c8135", func := "hopscotch/hopscotchlaw16.IndexCommon", spec := "indexCommon", inPlace := ["internal/bytealg.IndexByteString", "internal/bytealg.IndexString"], unfollowed := true, recurses := true, named := ["hopscotch/lex.signs", "internal/bytealg.MaxLen"], apart := false, laid := [("hopscotch/lex.signs", laid_hopscotch_lex_signs)] }
def IndexCommonSaid : Prop := indexCommonRow.holds Tryz.pinned (OpenSpec.ofChange indexCommonSpec)

/-- ITS FALSE NEIGHBOUR: 'it returns false'. Refute it at one input. -/
def indexCommonWrong : ChangeSpec := { name := "indexCommon", fn := fun _ => fun
  | [d1, d2, d3, d4] => { results := [.lit (.bool false)], args := [d1, d2, d3, d4] }
  | _ => none }
def IndexCommonWrongFalsely : Prop := indexCommonRow.holds Tryz.pinned (OpenSpec.ofChange indexCommonWrong)

/-- 'hopscotchlaw16.IndexLies': WHATEVER THE INPUT: true; the input reads as it did. -/
def indexLiesSpec : ChangeSpec := { name := "indexLies", fn := fun _ => fun
  | [d] => { results := [.lit (.bool true)], args := [d] }
  | _ => none }
def indexLiesRow : OpenClaim := { program := "ytpihnjfomkiodaagreatdoor", sum := "0bd8bca58e1ca7d004067a9f0a0eca8f6e60c4132d7d04e0d8e43387903c8135", func := "hopscotch/hopscotchlaw16.IndexLies", spec := "indexLies", inPlace := ["internal/bytealg.IndexByteString", "internal/bytealg.IndexString"], unfollowed := true, recurses := true, named := ["hopscotch/lex.signs", "internal/bytealg.MaxLen"], apart := false, laid := [("hopscotch/lex.signs", laid_hopscotch_lex_signs)] }
def IndexLiesSaid : Prop := indexLiesRow.holds Tryz.pinned (OpenSpec.ofChange indexLiesSpec)

/-- ITS FALSE NEIGHBOUR: 'it returns false'. Refute it at one input. -/
def indexLiesWrong : ChangeSpec := { name := "indexLies", fn := fun _ => fun
  | [d] => { results := [.lit (.bool false)], args := [d] }
  | _ => none }
def IndexLiesWrongFalsely : Prop := indexLiesRow.holds Tryz.pinned (OpenSpec.ofChange indexLiesWrong)

/-- 'hopscotchlaw26.LegalChecks': WHATEVER THE INPUT: true; the input reads as it did. -/
def legalChecksSpec : ChangeSpec := { name := "legalChecks", fn := fun _ => fun
  | [d1, d2] => { results := [.lit (.bool true)], args := [d1, d2] }
  | _ => none }
def legalChecksRow : OpenClaim := { program := "ytpihnjfomkiodaagreatdoor", sum := "0bd8bca58e1ca7d004067a9f0a0eca8f6e60c4132d7d04e0d8e43387903c8135", func := "hopscotch/hopscotchlaw26.LegalChecks", spec := "legalChecks", inPlace := ["internal/bytealg.IndexByteString", "internal/bytealg.IndexString"], unfollowed := true, recurses := true, named := ["hopscotch/lex.signs", "internal/bytealg.MaxLen"], apart := false, laid := [("hopscotch/lex.signs", laid_hopscotch_lex_signs)] }
def LegalChecksSaid : Prop := legalChecksRow.holds Tryz.pinned (OpenSpec.ofChange legalChecksSpec)

/-- ITS FALSE NEIGHBOUR: 'it returns false'. Refute it at one input. -/
def legalChecksWrong : ChangeSpec := { name := "legalChecks", fn := fun _ => fun
  | [d1, d2] => { results := [.lit (.bool false)], args := [d1, d2] }
  | _ => none }
def LegalChecksWrongFalsely : Prop := legalChecksRow.holds Tryz.pinned (OpenSpec.ofChange legalChecksWrong)

/-- 'hopscotchlaw26.LegalMeans': WHATEVER THE INPUT: true; the input reads as it did. -/
def legalMeansSpec : ChangeSpec := { name := "legalMeans", fn := fun _ => fun
  | [d1, d2] => { results := [.lit (.bool true)], args := [d1, d2] }
  | _ => none }
def legalMeansRow : OpenClaim := { program := "ytpihnjfomkiodaagreatdoor", sum := "0bd8bca58e1ca7d004067a9f0a0eca8f6e60c4132d7d04e0d8e43387903c8135", func := "hopscotch/hopscotchlaw26.LegalMeans", spec := "legalMeans", inPlace := ["internal/bytealg.IndexByteString", "internal/bytealg.IndexString"], unfollowed := true, recurses := true, named := ["hopscotch/lex.signs", "internal/bytealg.MaxLen"], apart := false, laid := [("hopscotch/lex.signs", laid_hopscotch_lex_signs)] }
def LegalMeansSaid : Prop := legalMeansRow.holds Tryz.pinned (OpenSpec.ofChange legalMeansSpec)

/-- ITS FALSE NEIGHBOUR: 'it returns false'. Refute it at one input. -/
def legalMeansWrong : ChangeSpec := { name := "legalMeans", fn := fun _ => fun
  | [d1, d2] => { results := [.lit (.bool false)], args := [d1, d2] }
  | _ => none }
def LegalMeansWrongFalsely : Prop := legalMeansRow.holds Tryz.pinned (OpenSpec.ofChange legalMeansWrong)

/-- 'hopscotchlaw16.IndexTells': WHATEVER THE INPUT: true; the input reads as it did. -/
def indexTellsSpec : ChangeSpec := { name := "indexTells", fn := fun _ => fun
  | [d1, d2, d3] => { results := [.lit (.bool true)], args := [d1, d2, d3] }
  | _ => none }
def indexTellsRow : OpenClaim := { program := "ytpihnjfomkiodaagreatdoor", sum := "0bd8bca58e1ca7d004067a9f0a0eca8f6e60c4132d7d04e0d8e43387903c8135", func := "hopscotch/hopscotchlaw16.IndexTells", spec := "indexTells", inPlace := ["internal/bytealg.IndexByteString", "internal/bytealg.IndexString"], unfollowed := true, recurses := true, named := ["hopscotch/lex.signs", "internal/bytealg.MaxLen"], apart := false, laid := [("hopscotch/lex.signs", laid_hopscotch_lex_signs)] }
def IndexTellsSaid : Prop := indexTellsRow.holds Tryz.pinned (OpenSpec.ofChange indexTellsSpec)

/-- ITS FALSE NEIGHBOUR: 'it returns false'. Refute it at one input. -/
def indexTellsWrong : ChangeSpec := { name := "indexTells", fn := fun _ => fun
  | [d1, d2, d3] => { results := [.lit (.bool false)], args := [d1, d2, d3] }
  | _ => none }
def IndexTellsWrongFalsely : Prop := indexTellsRow.holds Tryz.pinned (OpenSpec.ofChange indexTellsWrong)

/-- 'hopscotchlaw16.IndexKnown': WHATEVER THE INPUT: true; the input reads as it did. -/
def indexKnownSpec : ChangeSpec := { name := "indexKnown", fn := fun _ => fun
  | [] => { results := [.lit (.bool true)], args := [] }
  | _ => none }
def indexKnownRow : OpenClaim := { program := "ytpihnjfomkiodaagreatdoor", sum := "0bd8bca58e1ca7d004067a9f0a0eca8f6e60c4132d7d04e0d8e43387903c8135", func := "hopscotch/hopscotchlaw16.IndexKnown", spec := "indexKnown", inPlace := ["internal/bytealg.IndexByteString", "internal/bytealg.IndexString"], unfollowed := true, recurses := true, named := ["hopscotch/lex.signs", "internal/bytealg.MaxLen"], apart := false, laid := [("hopscotch/lex.signs", laid_hopscotch_lex_signs)] }
def IndexKnownSaid : Prop := indexKnownRow.holds Tryz.pinned (OpenSpec.ofChange indexKnownSpec)

/-- ITS FALSE NEIGHBOUR: 'it returns false'. Refute it at one input. -/
def indexKnownWrong : ChangeSpec := { name := "indexKnown", fn := fun _ => fun
  | [] => { results := [.lit (.bool false)], args := [] }
  | _ => none }
def IndexKnownWrongFalsely : Prop := indexKnownRow.holds Tryz.pinned (OpenSpec.ofChange indexKnownWrong)

/-- 'hopscotchlaw26.LegalKnown': WHATEVER THE INPUT: true; the input reads as it did. -/
def legalKnownSpec : ChangeSpec := { name := "legalKnown", fn := fun _ => fun
  | [] => { results := [.lit (.bool true)], args := [] }
  | _ => none }
def legalKnownRow : OpenClaim := { program := "ytpihnjfomkiodaagreatdoor", sum := "0bd8bca58e1ca7d004067a9f0a0eca8f6e60c4132d7d04e0d8e43387903c8135", func := "hopscotch/hopscotchlaw26.LegalKnown", spec := "legalKnown", inPlace := ["internal/bytealg.IndexByteString", "internal/bytealg.IndexString"], unfollowed := true, recurses := true, named := ["hopscotch/lex.signs", "internal/bytealg.MaxLen"], apart := false, laid := [("hopscotch/lex.signs", laid_hopscotch_lex_signs)] }
def LegalKnownSaid : Prop := legalKnownRow.holds Tryz.pinned (OpenSpec.ofChange legalKnownSpec)

/-- ITS FALSE NEIGHBOUR: 'it returns false'. Refute it at one input. -/
def legalKnownWrong : ChangeSpec := { name := "legalKnown", fn := fun _ => fun
  | [] => { results := [.lit (.bool false)], args := [] }
  | _ => none }
def LegalKnownWrongFalsely : Prop := legalKnownRow.holds Tryz.pinned (OpenSpec.ofChange legalKnownWrong)

/- THE SECOND FORM. 'bulk': how many values and letters a reading holds, each counted each time it is reached (what is shared counts as often as it is met; a slice's spare places count too). A statement '..UptoSaid' is the law's where the arguments, and the package variables that the reading takes, are together of bulk at most 1048576: NARROWER than '..Said'. Prove '..Said' where nothing that the law and all that it calls make is longer than what came in: it says more and counts as full. Else prove '..UptoSaid'. A law counts once. -/
mutual
def uptoBulk {H : Type} : DataW H → Nat
  | .lit (.string bytes) => bytes.length + 1
  | .lit _ => 1
  | .nil => 1
  | .ptr d => uptoBulk d + 1
  | .slice elems spare => uptoBulkAll elems + uptoBulkAll spare + 1
  | .agg parts => uptoBulkAll parts + 1
  | .iface _ d => uptoBulk d + 1
  | .map entries => uptoBulkEntries entries + 1
  | .held _ => 1
def uptoBulkAll {H : Type} : List (DataW H) → Nat
  | [] => 0
  | d :: r => uptoBulk d + uptoBulkAll r
def uptoBulkEntries {H : Type} : List (Lit × DataW H) → Nat
  | [] => 0
  | x :: r => uptoBulkEntry x + uptoBulkEntries r
def uptoBulkEntry {H : Type} : Lit × DataW H → Nat
  | (.string bytes, d) => bytes.length + uptoBulk d + 1
  | (_, d) => uptoBulk d + 1
 end
def uptoSmall : (H : Type) → List (DataW H) → Bool := fun _ ds => decide (uptoBulkAll ds ≤ 1048576)
def OpenSpec.upto (s : _root_.Go.ChangeSpec) : _root_.Go.OpenSpec := { _root_.Go.OpenSpec.ofChange s with cond := some uptoSmall }

/-- 'hopscotchlaw21.HistoryKnown', WHERE WHAT IT READS IS OF BULK AT MOST 1048576: true; the input reads as it did. -/
def historyKnownUptoRow : OpenClaim := { program := "ytpihnjfomkiodaagreatdoor", sum := "0bd8bca58e1ca7d004067a9f0a0eca8f6e60c4132d7d04e0d8e43387903c8135", func := "hopscotch/hopscotchlaw21.HistoryKnown", spec := "historyKnown", inPlace := ["internal/bytealg.IndexByteString", "internal/bytealg.IndexString"], unfollowed := true, recurses := true, named := ["hopscotch/lex.signs", "internal/bytealg.MaxLen"], apart := false, laid := [("hopscotch/lex.signs", laid_hopscotch_lex_signs)], narrowed := true }
def HistoryKnownUptoSaid : Prop := historyKnownUptoRow.holds Tryz.pinned (OpenSpec.upto historyKnownSpec)

/-- 'hopscotchlaw16.IndexCommon', WHERE WHAT IT READS IS OF BULK AT MOST 1048576: true; the input reads as it did. -/
def indexCommonUptoRow : OpenClaim := { program := "ytpihnjfomkiodaagreatdoor", sum := "0bd8bca58e1ca7d004067a9f0a0eca8f6e60c4132d7d04e0d8e43387903c8135", func := "hopscotch/hopscotchlaw16.IndexCommon", spec := "indexCommon", inPlace := ["internal/bytealg.IndexByteString", "internal/bytealg.IndexString"], unfollowed := true, recurses := true, named := ["hopscotch/lex.signs", "internal/bytealg.MaxLen"], apart := false, laid := [("hopscotch/lex.signs", laid_hopscotch_lex_signs)], narrowed := true }
def IndexCommonUptoSaid : Prop := indexCommonUptoRow.holds Tryz.pinned (OpenSpec.upto indexCommonSpec)

/-- 'hopscotchlaw16.IndexLies', WHERE WHAT IT READS IS OF BULK AT MOST 1048576: true; the input reads as it did. -/
def indexLiesUptoRow : OpenClaim := { program := "ytpihnjfomkiodaagreatdoor", sum := "0bd8bca58e1ca7d004067a9f0a0eca8f6e60c4132d7d04e0d8e43387903c8135", func := "hopscotch/hopscotchlaw16.IndexLies", spec := "indexLies", inPlace := ["internal/bytealg.IndexByteString", "internal/bytealg.IndexString"], unfollowed := true, recurses := true, named := ["hopscotch/lex.signs", "internal/bytealg.MaxLen"], apart := false, laid := [("hopscotch/lex.signs", laid_hopscotch_lex_signs)], narrowed := true }
def IndexLiesUptoSaid : Prop := indexLiesUptoRow.holds Tryz.pinned (OpenSpec.upto indexLiesSpec)

/-- 'hopscotchlaw26.LegalChecks', WHERE WHAT IT READS IS OF BULK AT MOST 1048576: true; the input reads as it did. -/
def legalChecksUptoRow : OpenClaim := { program := "ytpihnjfomkiodaagreatdoor", sum := "0bd8bca58e1ca7d004067a9f0a0eca8f6e60c4132d7d04e0d8e43387903c8135", func := "hopscotch/hopscotchlaw26.LegalChecks", spec := "legalChecks", inPlace := ["internal/bytealg.IndexByteString", "internal/bytealg.IndexString"], unfollowed := true, recurses := true, named := ["hopscotch/lex.signs", "internal/bytealg.MaxLen"], apart := false, laid := [("hopscotch/lex.signs", laid_hopscotch_lex_signs)], narrowed := true }
def LegalChecksUptoSaid : Prop := legalChecksUptoRow.holds Tryz.pinned (OpenSpec.upto legalChecksSpec)

/-- 'hopscotchlaw26.LegalMeans', WHERE WHAT IT READS IS OF BULK AT MOST 1048576: true; the input reads as it did. -/
def legalMeansUptoRow : OpenClaim := { program := "ytpihnjfomkiodaagreatdoor", sum := "0bd8bca58e1ca7d004067a9f0a0eca8f6e60c4132d7d04e0d8e43387903c8135", func := "hopscotch/hopscotchlaw26.LegalMeans", spec := "legalMeans", inPlace := ["internal/bytealg.IndexByteString", "internal/bytealg.IndexString"], unfollowed := true, recurses := true, named := ["hopscotch/lex.signs", "internal/bytealg.MaxLen"], apart := false, laid := [("hopscotch/lex.signs", laid_hopscotch_lex_signs)], narrowed := true }
def LegalMeansUptoSaid : Prop := legalMeansUptoRow.holds Tryz.pinned (OpenSpec.upto legalMeansSpec)

/-- 'hopscotchlaw16.IndexTells', WHERE WHAT IT READS IS OF BULK AT MOST 1048576: true; the input reads as it did. -/
def indexTellsUptoRow : OpenClaim := { program := "ytpihnjfomkiodaagreatdoor", sum := "0bd8bca58e1ca7d004067a9f0a0eca8f6e60c4132d7d04e0d8e43387903c8135", func := "hopscotch/hopscotchlaw16.IndexTells", spec := "indexTells", inPlace := ["internal/bytealg.IndexByteString", "internal/bytealg.IndexString"], unfollowed := true, recurses := true, named := ["hopscotch/lex.signs", "internal/bytealg.MaxLen"], apart := false, laid := [("hopscotch/lex.signs", laid_hopscotch_lex_signs)], narrowed := true }
def IndexTellsUptoSaid : Prop := indexTellsUptoRow.holds Tryz.pinned (OpenSpec.upto indexTellsSpec)

/-- 'hopscotchlaw16.IndexKnown', WHERE WHAT IT READS IS OF BULK AT MOST 1048576: true; the input reads as it did. -/
def indexKnownUptoRow : OpenClaim := { program := "ytpihnjfomkiodaagreatdoor", sum := "0bd8bca58e1ca7d004067a9f0a0eca8f6e60c4132d7d04e0d8e43387903c8135", func := "hopscotch/hopscotchlaw16.IndexKnown", spec := "indexKnown", inPlace := ["internal/bytealg.IndexByteString", "internal/bytealg.IndexString"], unfollowed := true, recurses := true, named := ["hopscotch/lex.signs", "internal/bytealg.MaxLen"], apart := false, laid := [("hopscotch/lex.signs", laid_hopscotch_lex_signs)], narrowed := true }
def IndexKnownUptoSaid : Prop := indexKnownUptoRow.holds Tryz.pinned (OpenSpec.upto indexKnownSpec)

/-- 'hopscotchlaw26.LegalKnown', WHERE WHAT IT READS IS OF BULK AT MOST 1048576: true; the input reads as it did. -/
def legalKnownUptoRow : OpenClaim := { program := "ytpihnjfomkiodaagreatdoor", sum := "0bd8bca58e1ca7d004067a9f0a0eca8f6e60c4132d7d04e0d8e43387903c8135", func := "hopscotch/hopscotchlaw26.LegalKnown", spec := "legalKnown", inPlace := ["internal/bytealg.IndexByteString", "internal/bytealg.IndexString"], unfollowed := true, recurses := true, named := ["hopscotch/lex.signs", "internal/bytealg.MaxLen"], apart := false, laid := [("hopscotch/lex.signs", laid_hopscotch_lex_signs)], narrowed := true }
def LegalKnownUptoSaid : Prop := legalKnownUptoRow.holds Tryz.pinned (OpenSpec.upto legalKnownSpec)

end Rows
end Go.Proofs.YtpihnjfomkiodaaGreatDoor
