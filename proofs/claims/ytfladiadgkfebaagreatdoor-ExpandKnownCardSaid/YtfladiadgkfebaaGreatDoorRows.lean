/-
  NARROWER THAN 'FOR EVERY INPUT', by the rows' own cells (each row's printed sentence says how): ExpandDoes: laid · ExpandKnown: laid.
  DERIVED. THE GIVEN ROWS OF THIS SEAT. 2 by the template 'for every input the law returns true; each argument reads behind the call as it read before'; 0 by the template 'total and deterministic' (their statements: YtfladiadgkfebaaGreatDoorTotals.lean).
  GIVEN WITH THE SEED: the statements are not yours to turn. If you find one false, say at which input.
  Laid BY PROGRAM, IN A SANDBOX (cutbox-rows.mjs): the forced cells as the released guide's own fill.sh prints them over the translation bca6c04b6351eb73… (all of the seat's roots in one cut). By AI agents, Wed Nov 11 2026. No macro, syntax, notation, axiom, sorry.
-/
import Derived.Test.YtfladiadgkfebaaGreatDoorChecked
import GoSem.Claim
import GoSem.ClaimJoined
import GoSem.ClaimMapViews
import Derived.JoinedTies
import Derived.KernelRfl
namespace Go.Proofs.YtfladiadgkfebaaGreatDoor
/- THE CELL 'sum', in the pinned program and in every row, IS THE sha256 OF THE DUMP (.gsa) THAT YtfladiadgkfebaaGreatDoorProg.lean LOADS. Nothing in Lean hashes anything: it is a label: what it is worth is what the hold of that sum in a sandbox is worth. -/
noncomputable def Tryz.pinned : Pinned := { name := "ytfladiadgkfebaagreatdoor", sum := "bca6c04b6351eb73a02d50de9ccb147429fc7aabbccfc256d29bba07cc9868a8", checked := Tryz.checked }
namespace Rows
def none {H : Type} : Left H := { results := [], args := [] }

/- WHAT THE LISTED PACKAGE-LEVEL VARIABLES READ AS WHEN THE CALL BEGINS. Each datum BY PROGRAM (the guide's laid-datum.mjs) off the statement by which the dump's own 'gosem.cut.vars' lays the variable. In a bare row this is a premise. The card (YtfladiadgkfebaaGreatDoorCards.lean) ties it to the program's text. -/
def laid_hopscotch_lex_signs {H : Type} : DataW H := .agg [.lit (.string [58, 61]), .lit (.string [60, 62]), .lit (.string [60, 61]), .lit (.string [62, 61]), .lit (.string [60]), .lit (.string [62]), .lit (.string [61]), .lit (.string [43]), .lit (.string [45]), .lit (.string [42]), .lit (.string [40]), .lit (.string [41]), .lit (.string [44]), .lit (.string [59])]

/-- 'hopscotchlaw18.ExpandDoes': WHATEVER THE INPUT: true; the input reads as it did. -/
def expandDoesSpec : ChangeSpec := { name := "expandDoes", fn := fun _ => fun
  | [d] => { results := [.lit (.bool true)], args := [d] }
  | _ => none }
def expandDoesRow : OpenClaim := { program := "ytfladiadgkfebaagreatdoor", sum := "bca6c04b6351eb73a02d50de9ccb147429fc7aabbccfc256d29bba07cc9868a8", func := "hopscotch/hopscotchlaw18.ExpandDoes", spec := "expandDoes", inPlace := ["internal/bytealg.IndexByteString", "internal/bytealg.IndexString"], unfollowed := true, recurses := true, named := ["hopscotch/lex.signs", "internal/bytealg.MaxLen"], apart := false, laid := [("hopscotch/lex.signs", laid_hopscotch_lex_signs)] }
def ExpandDoesSaid : Prop := expandDoesRow.holds Tryz.pinned (OpenSpec.ofChange expandDoesSpec)

/-- ITS FALSE NEIGHBOUR: 'it returns false'. Refute it at one input. -/
def expandDoesWrong : ChangeSpec := { name := "expandDoes", fn := fun _ => fun
  | [d] => { results := [.lit (.bool false)], args := [d] }
  | _ => none }
def ExpandDoesWrongFalsely : Prop := expandDoesRow.holds Tryz.pinned (OpenSpec.ofChange expandDoesWrong)

/-- 'hopscotchlaw18.ExpandKnown': WHATEVER THE INPUT: true; the input reads as it did. -/
def expandKnownSpec : ChangeSpec := { name := "expandKnown", fn := fun _ => fun
  | [] => { results := [.lit (.bool true)], args := [] }
  | _ => none }
def expandKnownRow : OpenClaim := { program := "ytfladiadgkfebaagreatdoor", sum := "bca6c04b6351eb73a02d50de9ccb147429fc7aabbccfc256d29bba07cc9868a8", func := "hopscotch/hopscotchlaw18.ExpandKnown", spec := "expandKnown", inPlace := ["internal/bytealg.IndexByteString", "internal/bytealg.IndexString"], unfollowed := true, recurses := true, named := ["hopscotch/lex.signs", "internal/bytealg.MaxLen"], apart := false, laid := [("hopscotch/lex.signs", laid_hopscotch_lex_signs)] }
def ExpandKnownSaid : Prop := expandKnownRow.holds Tryz.pinned (OpenSpec.ofChange expandKnownSpec)

/-- ITS FALSE NEIGHBOUR: 'it returns false'. Refute it at one input. -/
def expandKnownWrong : ChangeSpec := { name := "expandKnown", fn := fun _ => fun
  | [] => { results := [.lit (.bool false)], args := [] }
  | _ => none }
def ExpandKnownWrongFalsely : Prop := expandKnownRow.holds Tryz.pinned (OpenSpec.ofChange expandKnownWrong)

/- THE SECOND FORM. 'bulk': how many values and letters a reading holds, each counted each time it is reached (what is shared counts as often as it is met; a slice's spare places count too). A statement '..UptoSaid' is the law's where the arguments, and the package variables that the reading takes, are together of bulk at most 1048576: NARROWER than '..Said'. Prove '..Said' where nothing that the law and all that it calls make is longer than what came in: it says more and counts as full. Else prove '..UptoSaid'. A law counts once. -/
mutual
def uptoBulk {H : Type} : DataW H → Nat
  | .lit (.string bytes) => bytes.length + 1
  | .lit _ => 1
  | .nil => 1
  | .ptr d => uptoBulk d + 1
  | .slice elems spare => uptoBulkAll elems + uptoBulkAll spare + 1
  | .agg parts => uptoBulkAll parts + 1
  | .iface _ d => uptoBulk d + 1
  | .map entries => uptoBulkEntries entries + 1
  | .held _ => 1
def uptoBulkAll {H : Type} : List (DataW H) → Nat
  | [] => 0
  | d :: r => uptoBulk d + uptoBulkAll r
def uptoBulkEntries {H : Type} : List (Lit × DataW H) → Nat
  | [] => 0
  | x :: r => uptoBulkEntry x + uptoBulkEntries r
def uptoBulkEntry {H : Type} : Lit × DataW H → Nat
  | (.string bytes, d) => bytes.length + uptoBulk d + 1
  | (_, d) => uptoBulk d + 1
 end
def uptoSmall : (H : Type) → List (DataW H) → Bool := fun _ ds => decide (uptoBulkAll ds ≤ 1048576)
def OpenSpec.upto (s : _root_.Go.ChangeSpec) : _root_.Go.OpenSpec := { _root_.Go.OpenSpec.ofChange s with cond := some uptoSmall }

/-- 'hopscotchlaw18.ExpandDoes', WHERE WHAT IT READS IS OF BULK AT MOST 1048576: true; the input reads as it did. -/
def expandDoesUptoRow : OpenClaim := { program := "ytfladiadgkfebaagreatdoor", sum := "bca6c04b6351eb73a02d50de9ccb147429fc7aabbccfc256d29bba07cc9868a8", func := "hopscotch/hopscotchlaw18.ExpandDoes", spec := "expandDoes", inPlace := ["internal/bytealg.IndexByteString", "internal/bytealg.IndexString"], unfollowed := true, recurses := true, named := ["hopscotch/lex.signs", "internal/bytealg.MaxLen"], apart := false, laid := [("hopscotch/lex.signs", laid_hopscotch_lex_signs)], narrowed := true }
def ExpandDoesUptoSaid : Prop := expandDoesUptoRow.holds Tryz.pinned (OpenSpec.upto expandDoesSpec)

/-- 'hopscotchlaw18.ExpandKnown', WHERE WHAT IT READS IS OF BULK AT MOST 1048576: true; the input reads as it did. -/
def expandKnownUptoRow : OpenClaim := { program := "ytfladiadgkfebaagreatdoor", sum := "bca6c04b6351eb73a02d50de9ccb147429fc7aabbccfc256d29bba07cc9868a8", func := "hopscotch/hopscotchlaw18.ExpandKnown", spec := "expandKnown", inPlace := ["internal/bytealg.IndexByteString", "internal/bytealg.IndexString"], unfollowed := true, recurses := true, named := ["hopscotch/lex.signs", "internal/bytealg.MaxLen"], apart := false, laid := [("hopscotch/lex.signs", laid_hopscotch_lex_signs)], narrowed := true }
def ExpandKnownUptoSaid : Prop := expandKnownUptoRow.holds Tryz.pinned (OpenSpec.upto expandKnownSpec)

end Rows
end Go.Proofs.YtfladiadgkfebaaGreatDoor
