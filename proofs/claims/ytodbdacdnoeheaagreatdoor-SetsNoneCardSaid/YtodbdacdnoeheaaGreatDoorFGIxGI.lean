/- Texts put together. -/
import Derived.Test.YtodbdacdnoeheaaGreatDoorFIxGI
import Derived.Test.YtodbdacdnoeheaaGreatDoorFIxSE
import Derived.Test.YtodbdacdnoeheaaGreatDoorFGIxP
import Derived.Test.YtodbdacdnoeheaaGreatDoorFMdI
import Derived.WalkSpells
import Derived.Deep.Onto
import Derived.Laws.OwnMore
import Derived.Test.YtodbdacdnoeheaaGreatDoorFIxU
import Derived.Maps.AppendAt
import Derived.RangeFuncBox
import Derived.BigRegion
import Derived.Deep.RegionLaw
import Derived.Test.YtodbdacdnoeheaaGreatDoorFGen
import Derived.Deep.QuietTactic
import Derived.BigQuiet
/- What the index tells: plain. No program is in sight. -/
namespace Go.Md
open Go.RowKit Go.Lx Go.Proofs
set_option linter.unusedVariables false

end Go.Md

/- Walks: what an index tells without going up: there, Parent, Kids, Regions, Points, Out. -/
namespace Go.Proofs
open Go.RowKit Go.Lx Go.Md Go.Shelf Go.Rfu
set_option linter.unusedVariables false
section
variable {B : Nat} {m : MdlD} {IB : Nat} {w : World}
theorem home_any (h : IdxAt B m IB w) (v : Int) (hw : (Lit.int .i64 v).wf = true) : Calls Tryz.prog 63 #[.pointer (some ⟨IB, 0, none⟩), .int .i64 v] w fun e w' => e = .returned (.int .i64 (homeM m v)) ∧ w = w' := by
  obtain ⟨PB, e1, q⟩ := h.i0
  have HT := Lib.hid (there_any h v)
  clear h
  cases hv : hasV m v with
  | false =>
    have hp : homeM m v = -1 := by unfold homeM; rw [hv]; rfl
    rw [hp]
    rw [hv] at HT
    clear q e1 hv hp
    go_enter Tryz.func63, Tryz.ntmps63
    go_wp2_with ((with_reducible refine (HT.out).mono ?_); rintro e w' ⟨rfl, rfl⟩)
    go_ret
    exact ⟨rfl, rfl⟩
  | true =>
    obtain ⟨k, rfl, hk⟩ := hasV_yes hv
    obtain ⟨c0, c1, c2, c3, c4, vo, vi, c5, c6, _, _⟩ := q k hk
    have hp : homeM m k = rgM m k := by unfold homeM; rw [hv]; rfl
    rw [hp]
    rw [hv] at HT
    have h1 : (0 : Int) ≤ (k : Int) := by omega
    have h2 : (k : Int) < (m.vers.length : Int) := by omega
    clear q hv hp hk c3 c4 c5 c6
    go_enter Tryz.func63, Tryz.ntmps63
    go_wp2_with ((with_reducible refine (HT.out).mono ?_); rintro e w' ⟨rfl, rfl⟩)
    go_ret
    exact ⟨rfl, rfl⟩
end
end Go.Proofs

/- Walks: a row out of the iterator (AppendSeq, Collect), a row turned round (Reverse). -/
namespace Go.Proofs
open Go.RowKit Go.Lx Go.Md Go.Shelf Go.Rfu
set_option linter.unusedVariables false
attribute [local go_sem] Oper.semAt_some

end Go.Proofs

/- Walks: In, below: a search on the way up. -/
namespace Go.Proofs
open Go.RowKit Go.Lx Go.Md Go.Shelf Go.Rfu Go.BigFrame
set_option linter.unusedVariables false
attribute [local go_sem] Oper.semAt_some
end Go.Proofs
