/-
  NARROWER THAN 'FOR EVERY INPUT', by the rows' own cells (each row's printed sentence says how): LegalFills: laid.
  DERIVED. THE GIVEN ROWS OF THIS SEAT. 1 by the template 'for every input the law returns true; each argument reads behind the call as it read before'; 0 by the template 'total and deterministic' (their statements: YtodbdacdnoeheaaDoorTotals.lean).
  GIVEN WITH THE SEED: the statements are not yours to turn. If you find one false, say at which input.
  Laid BY PROGRAM, IN A SANDBOX (cutbox-rows.mjs): the forced cells as the released guide's own fill.sh prints them over the translation 69c65c3cb1955e53… (all of the seat's roots in one cut). By AI agents, Wed Nov 11 2026. No macro, syntax, notation, axiom, sorry.
-/
import Derived.Test.YtodbdacdnoeheaaDoorChecked
import GoSem.Claim
import GoSem.ClaimJoined
import GoSem.ClaimMapViews
import Derived.JoinedTies
import Derived.KernelRfl
namespace Go.Proofs.YtodbdacdnoeheaaDoor
/- THE CELL 'sum', in the pinned program and in every row, IS THE sha256 OF THE DUMP (.gsa) THAT YtodbdacdnoeheaaDoorProg.lean LOADS. Nothing in Lean hashes anything: it is a label: what it is worth is what the hold of that sum in a sandbox is worth. -/
noncomputable def Tryd.pinned : Pinned := { name := "ytodbdacdnoeheaadoor", sum := "69c65c3cb1955e530555cb405b1d9bd9925d29306bf5833d9f139b0a8a7c09bd", checked := Tryd.checked }
namespace Rows
def none {H : Type} : Left H := { results := [], args := [] }

/- WHAT THE LISTED PACKAGE-LEVEL VARIABLES READ AS WHEN THE CALL BEGINS. Each datum BY PROGRAM (the guide's laid-datum.mjs) off the statement by which the dump's own 'gosem.cut.vars' lays the variable. In a bare row this is a premise. The card (YtodbdacdnoeheaaDoorCards.lean) ties it to the program's text. -/
def laid_hopscotch_lex_signs {H : Type} : DataW H := .agg [.lit (.string [58, 61]), .lit (.string [60, 62]), .lit (.string [60, 61]), .lit (.string [62, 61]), .lit (.string [60]), .lit (.string [62]), .lit (.string [61]), .lit (.string [43]), .lit (.string [45]), .lit (.string [42]), .lit (.string [40]), .lit (.string [41]), .lit (.string [44]), .lit (.string [59])]

/-- 'hopscotchlaw26.LegalFills': WHATEVER THE INPUT: true; the input reads as it did. -/
def legalFillsSpec : ChangeSpec := { name := "legalFills", fn := fun _ => fun
  | [d1, d2, d3] => { results := [.lit (.bool true)], args := [d1, d2, d3] }
  | _ => none }
def legalFillsRow : OpenClaim := { program := "ytodbdacdnoeheaadoor", sum := "69c65c3cb1955e530555cb405b1d9bd9925d29306bf5833d9f139b0a8a7c09bd", func := "hopscotch/hopscotchlaw26.LegalFills", spec := "legalFills", inPlace := ["internal/bytealg.IndexByteString", "internal/bytealg.IndexString"], unfollowed := true, recurses := true, named := ["hopscotch/lex.signs", "internal/bytealg.MaxLen"], apart := false, laid := [("hopscotch/lex.signs", laid_hopscotch_lex_signs)] }
def LegalFillsSaid : Prop := legalFillsRow.holds Tryd.pinned (OpenSpec.ofChange legalFillsSpec)

/-- ITS FALSE NEIGHBOUR: 'it returns false'. Refute it at one input. -/
def legalFillsWrong : ChangeSpec := { name := "legalFills", fn := fun _ => fun
  | [d1, d2, d3] => { results := [.lit (.bool false)], args := [d1, d2, d3] }
  | _ => none }
def LegalFillsWrongFalsely : Prop := legalFillsRow.holds Tryd.pinned (OpenSpec.ofChange legalFillsWrong)

/- THE SECOND FORM. 'bulk': how many values and letters a reading holds, each counted each time it is reached (what is shared counts as often as it is met; a slice's spare places count too). A statement '..UptoSaid' is the law's where the arguments, and the package variables that the reading takes, are together of bulk at most 1048576: NARROWER than '..Said'. Prove '..Said' where nothing that the law and all that it calls make is longer than what came in: it says more and counts as full. Else prove '..UptoSaid'. A law counts once. -/
mutual
def uptoBulk {H : Type} : DataW H → Nat
  | .lit (.string bytes) => bytes.length + 1
  | .lit _ => 1
  | .nil => 1
  | .ptr d => uptoBulk d + 1
  | .slice elems spare => uptoBulkAll elems + uptoBulkAll spare + 1
  | .agg parts => uptoBulkAll parts + 1
  | .iface _ d => uptoBulk d + 1
  | .map entries => uptoBulkEntries entries + 1
  | .held _ => 1
def uptoBulkAll {H : Type} : List (DataW H) → Nat
  | [] => 0
  | d :: r => uptoBulk d + uptoBulkAll r
def uptoBulkEntries {H : Type} : List (Lit × DataW H) → Nat
  | [] => 0
  | x :: r => uptoBulkEntry x + uptoBulkEntries r
def uptoBulkEntry {H : Type} : Lit × DataW H → Nat
  | (.string bytes, d) => bytes.length + uptoBulk d + 1
  | (_, d) => uptoBulk d + 1
 end
def uptoSmall : (H : Type) → List (DataW H) → Bool := fun _ ds => decide (uptoBulkAll ds ≤ 1048576)
def OpenSpec.upto (s : _root_.Go.ChangeSpec) : _root_.Go.OpenSpec := { _root_.Go.OpenSpec.ofChange s with cond := some uptoSmall }

/-- 'hopscotchlaw26.LegalFills', WHERE WHAT IT READS IS OF BULK AT MOST 1048576: true; the input reads as it did. -/
def legalFillsUptoRow : OpenClaim := { program := "ytodbdacdnoeheaadoor", sum := "69c65c3cb1955e530555cb405b1d9bd9925d29306bf5833d9f139b0a8a7c09bd", func := "hopscotch/hopscotchlaw26.LegalFills", spec := "legalFills", inPlace := ["internal/bytealg.IndexByteString", "internal/bytealg.IndexString"], unfollowed := true, recurses := true, named := ["hopscotch/lex.signs", "internal/bytealg.MaxLen"], apart := false, laid := [("hopscotch/lex.signs", laid_hopscotch_lex_signs)], narrowed := true }
def LegalFillsUptoSaid : Prop := legalFillsUptoRow.holds Tryd.pinned (OpenSpec.upto legalFillsSpec)

end Rows
end Go.Proofs.YtodbdacdnoeheaaDoor
