/-
  NARROWER THAN 'FOR EVERY INPUT', by the rows' own cells (each row's printed sentence says how): IndexCommon: laid · SetsLeave: laid · SetsEnter: laid · SetsNone: laid · SetsTell: laid.
  DERIVED. THE GIVEN ROWS OF THIS SEAT. 5 by the template 'for every input the law returns true; each argument reads behind the call as it read before'; 0 by the template 'total and deterministic' (their statements: YtodbdacdnoeheaaGreatDoorTotals.lean).
  GIVEN WITH THE SEED: the statements are not yours to turn. If you find one false, say at which input.
  Laid BY PROGRAM, IN A SANDBOX (cutbox-rows.mjs): the forced cells as the released guide's own fill.sh prints them over the translation 991451b5fbfeee00… (all of the seat's roots in one cut). By AI agents, Wed Nov 11 2026. No macro, syntax, notation, axiom, sorry.
-/
import Derived.Test.YtodbdacdnoeheaaGreatDoorChecked
import GoSem.Claim
import GoSem.ClaimJoined
import GoSem.ClaimMapViews
import Derived.JoinedTies
import Derived.KernelRfl
namespace Go.Proofs.YtodbdacdnoeheaaGreatDoor
/- THE CELL 'sum', in the pinned program and in every row, IS THE sha256 OF THE DUMP (.gsa) THAT YtodbdacdnoeheaaGreatDoorProg.lean LOADS. Nothing in Lean hashes anything: it is a label: what it is worth is what the hold of that sum in a sandbox is worth. -/
noncomputable def Tryz.pinned : Pinned := { name := "ytodbdacdnoeheaagreatdoor", sum := "991451b5fbfeee00e60ea8215e1ee73f48b7738a7ad506a9babc919bba36e9ef", checked := Tryz.checked }
namespace Rows
def none {H : Type} : Left H := { results := [], args := [] }

/- WHAT THE LISTED PACKAGE-LEVEL VARIABLES READ AS WHEN THE CALL BEGINS. Each datum BY PROGRAM (the guide's laid-datum.mjs) off the statement by which the dump's own 'gosem.cut.vars' lays the variable. In a bare row this is a premise. The card (YtodbdacdnoeheaaGreatDoorCards.lean) ties it to the program's text. -/
def laid_hopscotch_lex_signs {H : Type} : DataW H := .agg [.lit (.string [58, 61]), .lit (.string [60, 62]), .lit (.string [60, 61]), .lit (.string [62, 61]), .lit (.string [60]), .lit (.string [62]), .lit (.string [61]), .lit (.string [43]), .lit (.string [45]), .lit (.string [42]), .lit (.string [40]), .lit (.string [41]), .lit (.string [44]), .lit (.string [59])]

/-- 'hopscotchlaw16.IndexCommon': WHATEVER THE INPUT: true; the input reads as it did. -/
def indexCommonSpec : ChangeSpec := { name := "indexCommon", fn := fun _ => fun
  | [d1, d2, d3, d4] => { results := [.lit (.bool true)], args := [d1, d2, d3, d4] }
  | _ => none }
def indexCommonRow : OpenClaim := { program := "ytodbdacdnoeheaagreatdoor", sum := "991451b5fbfeee00e60ea8215e1ee73f48b7738a7ad506a9babc919bba36e9ef", func := "hopscotch/hopscotchlaw16.IndexCommon", spec := "indexCommon", inPlace := ["internal/bytealg.IndexByteString", "internal/bytealg.IndexString"], unfollowed := true, recurses := true, named := ["hopscotch/lex.signs", "internal/bytealg.MaxLen"], apart := false, laid := [("hopscotch/lex.signs", laid_hopscotch_lex_signs)] }
def IndexCommonSaid : Prop := indexCommonRow.holds Tryz.pinned (OpenSpec.ofChange indexCommonSpec)

/-- ITS FALSE NEIGHBOUR: 'it returns false'. Refute it at one input. -/
def indexCommonWrong : ChangeSpec := { name := "indexCommon", fn := fun _ => fun
  | [d1, d2, d3, d4] => { results := [.lit (.bool false)], args := [d1, d2, d3, d4] }
  | _ => none }
def IndexCommonWrongFalsely : Prop := indexCommonRow.holds Tryz.pinned (OpenSpec.ofChange indexCommonWrong)

/-- 'hopscotchlaw20.SetsLeave': WHATEVER THE INPUT: true; the input reads as it did. -/
def setsLeaveSpec : ChangeSpec := { name := "setsLeave", fn := fun _ => fun
  | [d1, d2, d3] => { results := [.lit (.bool true)], args := [d1, d2, d3] }
  | _ => none }
def setsLeaveRow : OpenClaim := { program := "ytodbdacdnoeheaagreatdoor", sum := "991451b5fbfeee00e60ea8215e1ee73f48b7738a7ad506a9babc919bba36e9ef", func := "hopscotch/hopscotchlaw20.SetsLeave", spec := "setsLeave", inPlace := ["internal/bytealg.IndexByteString", "internal/bytealg.IndexString"], unfollowed := true, recurses := true, named := ["hopscotch/lex.signs", "internal/bytealg.MaxLen"], apart := false, laid := [("hopscotch/lex.signs", laid_hopscotch_lex_signs)] }
def SetsLeaveSaid : Prop := setsLeaveRow.holds Tryz.pinned (OpenSpec.ofChange setsLeaveSpec)

/-- ITS FALSE NEIGHBOUR: 'it returns false'. Refute it at one input. -/
def setsLeaveWrong : ChangeSpec := { name := "setsLeave", fn := fun _ => fun
  | [d1, d2, d3] => { results := [.lit (.bool false)], args := [d1, d2, d3] }
  | _ => none }
def SetsLeaveWrongFalsely : Prop := setsLeaveRow.holds Tryz.pinned (OpenSpec.ofChange setsLeaveWrong)

/-- 'hopscotchlaw20.SetsEnter': WHATEVER THE INPUT: true; the input reads as it did. -/
def setsEnterSpec : ChangeSpec := { name := "setsEnter", fn := fun _ => fun
  | [d1, d2, d3, d4] => { results := [.lit (.bool true)], args := [d1, d2, d3, d4] }
  | _ => none }
def setsEnterRow : OpenClaim := { program := "ytodbdacdnoeheaagreatdoor", sum := "991451b5fbfeee00e60ea8215e1ee73f48b7738a7ad506a9babc919bba36e9ef", func := "hopscotch/hopscotchlaw20.SetsEnter", spec := "setsEnter", inPlace := ["internal/bytealg.IndexByteString", "internal/bytealg.IndexString"], unfollowed := true, recurses := true, named := ["hopscotch/lex.signs", "internal/bytealg.MaxLen"], apart := false, laid := [("hopscotch/lex.signs", laid_hopscotch_lex_signs)] }
def SetsEnterSaid : Prop := setsEnterRow.holds Tryz.pinned (OpenSpec.ofChange setsEnterSpec)

/-- ITS FALSE NEIGHBOUR: 'it returns false'. Refute it at one input. -/
def setsEnterWrong : ChangeSpec := { name := "setsEnter", fn := fun _ => fun
  | [d1, d2, d3, d4] => { results := [.lit (.bool false)], args := [d1, d2, d3, d4] }
  | _ => none }
def SetsEnterWrongFalsely : Prop := setsEnterRow.holds Tryz.pinned (OpenSpec.ofChange setsEnterWrong)

/-- 'hopscotchlaw20.SetsNone': WHATEVER THE INPUT: true; the input reads as it did. -/
def setsNoneSpec : ChangeSpec := { name := "setsNone", fn := fun _ => fun
  | [d1, d2] => { results := [.lit (.bool true)], args := [d1, d2] }
  | _ => none }
def setsNoneRow : OpenClaim := { program := "ytodbdacdnoeheaagreatdoor", sum := "991451b5fbfeee00e60ea8215e1ee73f48b7738a7ad506a9babc919bba36e9ef", func := "hopscotch/hopscotchlaw20.SetsNone", spec := "setsNone", inPlace := ["internal/bytealg.IndexByteString", "internal/bytealg.IndexString"], unfollowed := true, recurses := true, named := ["hopscotch/lex.signs", "internal/bytealg.MaxLen"], apart := false, laid := [("hopscotch/lex.signs", laid_hopscotch_lex_signs)] }
def SetsNoneSaid : Prop := setsNoneRow.holds Tryz.pinned (OpenSpec.ofChange setsNoneSpec)

/-- ITS FALSE NEIGHBOUR: 'it returns false'. Refute it at one input. -/
def setsNoneWrong : ChangeSpec := { name := "setsNone", fn := fun _ => fun
  | [d1, d2] => { results := [.lit (.bool false)], args := [d1, d2] }
  | _ => none }
def SetsNoneWrongFalsely : Prop := setsNoneRow.holds Tryz.pinned (OpenSpec.ofChange setsNoneWrong)

/-- 'hopscotchlaw20.SetsTell': WHATEVER THE INPUT: true; the input reads as it did. -/
def setsTellSpec : ChangeSpec := { name := "setsTell", fn := fun _ => fun
  | [d1, d2, d3, d4] => { results := [.lit (.bool true)], args := [d1, d2, d3, d4] }
  | _ => none }
def setsTellRow : OpenClaim := { program := "ytodbdacdnoeheaagreatdoor", sum := "991451b5fbfeee00e60ea8215e1ee73f48b7738a7ad506a9babc919bba36e9ef", func := "hopscotch/hopscotchlaw20.SetsTell", spec := "setsTell", inPlace := ["internal/bytealg.IndexByteString", "internal/bytealg.IndexString"], unfollowed := true, recurses := true, named := ["hopscotch/lex.signs", "internal/bytealg.MaxLen"], apart := false, laid := [("hopscotch/lex.signs", laid_hopscotch_lex_signs)] }
def SetsTellSaid : Prop := setsTellRow.holds Tryz.pinned (OpenSpec.ofChange setsTellSpec)

/-- ITS FALSE NEIGHBOUR: 'it returns false'. Refute it at one input. -/
def setsTellWrong : ChangeSpec := { name := "setsTell", fn := fun _ => fun
  | [d1, d2, d3, d4] => { results := [.lit (.bool false)], args := [d1, d2, d3, d4] }
  | _ => none }
def SetsTellWrongFalsely : Prop := setsTellRow.holds Tryz.pinned (OpenSpec.ofChange setsTellWrong)

/- THE SECOND FORM. 'bulk': how many values and letters a reading holds, each counted each time it is reached (what is shared counts as often as it is met; a slice's spare places count too). A statement '..UptoSaid' is the law's where the arguments, and the package variables that the reading takes, are together of bulk at most 1048576: NARROWER than '..Said'. Prove '..Said' where nothing that the law and all that it calls make is longer than what came in: it says more and counts as full. Else prove '..UptoSaid'. A law counts once. -/
mutual
def uptoBulk {H : Type} : DataW H → Nat
  | .lit (.string bytes) => bytes.length + 1
  | .lit _ => 1
  | .nil => 1
  | .ptr d => uptoBulk d + 1
  | .slice elems spare => uptoBulkAll elems + uptoBulkAll spare + 1
  | .agg parts => uptoBulkAll parts + 1
  | .iface _ d => uptoBulk d + 1
  | .map entries => uptoBulkEntries entries + 1
  | .held _ => 1
def uptoBulkAll {H : Type} : List (DataW H) → Nat
  | [] => 0
  | d :: r => uptoBulk d + uptoBulkAll r
def uptoBulkEntries {H : Type} : List (Lit × DataW H) → Nat
  | [] => 0
  | x :: r => uptoBulkEntry x + uptoBulkEntries r
def uptoBulkEntry {H : Type} : Lit × DataW H → Nat
  | (.string bytes, d) => bytes.length + uptoBulk d + 1
  | (_, d) => uptoBulk d + 1
 end
def uptoSmall : (H : Type) → List (DataW H) → Bool := fun _ ds => decide (uptoBulkAll ds ≤ 1048576)
def OpenSpec.upto (s : _root_.Go.ChangeSpec) : _root_.Go.OpenSpec := { _root_.Go.OpenSpec.ofChange s with cond := some uptoSmall }

/-- 'hopscotchlaw16.IndexCommon', WHERE WHAT IT READS IS OF BULK AT MOST 1048576: true; the input reads as it did. -/
def indexCommonUptoRow : OpenClaim := { program := "ytodbdacdnoeheaagreatdoor", sum := "991451b5fbfeee00e60ea8215e1ee73f48b7738a7ad506a9babc919bba36e9ef", func := "hopscotch/hopscotchlaw16.IndexCommon", spec := "indexCommon", inPlace := ["internal/bytealg.IndexByteString", "internal/bytealg.IndexString"], unfollowed := true, recurses := true, named := ["hopscotch/lex.signs", "internal/bytealg.MaxLen"], apart := false, laid := [("hopscotch/lex.signs", laid_hopscotch_lex_signs)], narrowed := true }
def IndexCommonUptoSaid : Prop := indexCommonUptoRow.holds Tryz.pinned (OpenSpec.upto indexCommonSpec)

/-- 'hopscotchlaw20.SetsLeave', WHERE WHAT IT READS IS OF BULK AT MOST 1048576: true; the input reads as it did. -/
def setsLeaveUptoRow : OpenClaim := { program := "ytodbdacdnoeheaagreatdoor", sum := "991451b5fbfeee00e60ea8215e1ee73f48b7738a7ad506a9babc919bba36e9ef", func := "hopscotch/hopscotchlaw20.SetsLeave", spec := "setsLeave", inPlace := ["internal/bytealg.IndexByteString", "internal/bytealg.IndexString"], unfollowed := true, recurses := true, named := ["hopscotch/lex.signs", "internal/bytealg.MaxLen"], apart := false, laid := [("hopscotch/lex.signs", laid_hopscotch_lex_signs)], narrowed := true }
def SetsLeaveUptoSaid : Prop := setsLeaveUptoRow.holds Tryz.pinned (OpenSpec.upto setsLeaveSpec)

/-- 'hopscotchlaw20.SetsEnter', WHERE WHAT IT READS IS OF BULK AT MOST 1048576: true; the input reads as it did. -/
def setsEnterUptoRow : OpenClaim := { program := "ytodbdacdnoeheaagreatdoor", sum := "991451b5fbfeee00e60ea8215e1ee73f48b7738a7ad506a9babc919bba36e9ef", func := "hopscotch/hopscotchlaw20.SetsEnter", spec := "setsEnter", inPlace := ["internal/bytealg.IndexByteString", "internal/bytealg.IndexString"], unfollowed := true, recurses := true, named := ["hopscotch/lex.signs", "internal/bytealg.MaxLen"], apart := false, laid := [("hopscotch/lex.signs", laid_hopscotch_lex_signs)], narrowed := true }
def SetsEnterUptoSaid : Prop := setsEnterUptoRow.holds Tryz.pinned (OpenSpec.upto setsEnterSpec)

/-- 'hopscotchlaw20.SetsNone', WHERE WHAT IT READS IS OF BULK AT MOST 1048576: true; the input reads as it did. -/
def setsNoneUptoRow : OpenClaim := { program := "ytodbdacdnoeheaagreatdoor", sum := "991451b5fbfeee00e60ea8215e1ee73f48b7738a7ad506a9babc919bba36e9ef", func := "hopscotch/hopscotchlaw20.SetsNone", spec := "setsNone", inPlace := ["internal/bytealg.IndexByteString", "internal/bytealg.IndexString"], unfollowed := true, recurses := true, named := ["hopscotch/lex.signs", "internal/bytealg.MaxLen"], apart := false, laid := [("hopscotch/lex.signs", laid_hopscotch_lex_signs)], narrowed := true }
def SetsNoneUptoSaid : Prop := setsNoneUptoRow.holds Tryz.pinned (OpenSpec.upto setsNoneSpec)

/-- 'hopscotchlaw20.SetsTell', WHERE WHAT IT READS IS OF BULK AT MOST 1048576: true; the input reads as it did. -/
def setsTellUptoRow : OpenClaim := { program := "ytodbdacdnoeheaagreatdoor", sum := "991451b5fbfeee00e60ea8215e1ee73f48b7738a7ad506a9babc919bba36e9ef", func := "hopscotch/hopscotchlaw20.SetsTell", spec := "setsTell", inPlace := ["internal/bytealg.IndexByteString", "internal/bytealg.IndexString"], unfollowed := true, recurses := true, named := ["hopscotch/lex.signs", "internal/bytealg.MaxLen"], apart := false, laid := [("hopscotch/lex.signs", laid_hopscotch_lex_signs)], narrowed := true }
def SetsTellUptoSaid : Prop := setsTellUptoRow.holds Tryz.pinned (OpenSpec.upto setsTellSpec)

end Rows
end Go.Proofs.YtodbdacdnoeheaaGreatDoor
