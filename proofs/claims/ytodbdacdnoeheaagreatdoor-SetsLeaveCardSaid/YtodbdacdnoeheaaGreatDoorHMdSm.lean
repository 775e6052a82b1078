/- Walks: 'Depth', 'Small'. -/
import Derived.Test.YtodbdacdnoeheaaGreatDoorHMdRi
namespace Go.Proofs
open Go.RowKit Go.Lx Go.Md Go.Shelf
set_option linter.unusedVariables false

theorem cell_blk {w : World} {b : Nat} {cs : Array Value} {T : TypeId} {fr : Nat × Nat} (h : w.heap[b]? = some (.cells cs T fr)) (j : Nat) : w.cell? ⟨b, j, none⟩ = cs[j]? := by
 unfold World.cell?; simp only [h]; rfl
/-- The small model. -/
def smallM : MdlD where
 nm := ⟨#[77]⟩
 vars := []
 evs := []
 regs := [⟨⟨#[]⟩, -1⟩]
 vers := [⟨⟨#[]⟩, 3, 0, -1, ⟨#[]⟩, ⟨#[]⟩, [], ⟨#[]⟩⟩, ⟨⟨#[115]⟩, 1, 0, -1, ⟨#[]⟩, ⟨#[]⟩, [], ⟨#[]⟩⟩]
 trns := [⟨⟨#[]⟩, 0, 1, [], 0, ⟨#[]⟩, ⟨#[]⟩, 1⟩]
/-- A model of the call's own. -/
def MadeP (m : MdlD) (w : World) (e : Ending) (w' : World) : Prop := ∃ p, e = .returned (mdV m p) ∧ Mod anyM w' m p ∧ Below w.heap.size w w'
end Go.Proofs
