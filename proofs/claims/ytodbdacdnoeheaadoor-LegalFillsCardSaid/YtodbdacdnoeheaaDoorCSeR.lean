/- What is entered from a region to an end: plain. No program is in sight. -/
import Derived.Test.YtodbdacdnoeheaaDoorCSeP
namespace Go.Md
open Go.RowKit Go.Lx Go.Proofs
set_option linter.unusedVariables false

/-- A way down: states in one another. -/
inductive Pth (m : MdlD) : Nat → List Nat → Prop
  | one {r p : Nat} : p < m.vers.length → r < m.regs.length → stands m p = true → rgA m p = r → arM m p = ownA m r → Pth m r [p]
  | cons {r p q : Nat} {L : List Nat} : p < m.vers.length → r < m.regs.length → stands m p = true → rgA m p = r → arM m p = ownA m r → (q : Int) ∈ ownM m p → Pth m q L → Pth m r (p :: L)
theorem stands_rg {m : MdlD} (h0 : riM m = (0, 0, 0)) {k : Nat} (h : stands m k = true) : ∃ r : Nat, r < m.regs.length ∧ rgA m k = r ∧ rgM m k = r ∧ arM m k = ownA m r := by
  obtain ⟨k', hk, ek, r, hr, e1, e2, _, _, e4⟩ := stands_in h0 h
  obtain rfl : k = k' := by omega
  refine ⟨r, hr, e1, ?_, by rw [e4, ownA_at hr]⟩
  unfold homeM at e2
  rw [hasV_at hk, if_pos rfl] at e2
  exact e2
theorem Pth.first {m : MdlD} {r : Nat} {L : List Nat} (h : Pth m r L) : ∃ p L', L = p :: L' ∧ p < m.vers.length ∧ r < m.regs.length ∧ stands m p = true ∧ rgA m p = r ∧ arM m p = ownA m r := by
  cases h with
  | one a b c d e => exact ⟨_, [], rfl, a, b, c, d, e⟩
  | cons a b c d e _ _ => exact ⟨_, _, rfl, a, b, c, d, e⟩
theorem fit_set {m : MdlD} {c : List Int} (F : Fit m c) {p : Nat} (hp : stands m p = true) : Fit m (c.set (rgA m p).toNat p) := by
  obtain ⟨r, hr, e1, _, _⟩ := stands_rg F.h0 hp
  refine ⟨F.h0, by rw [List.length_set]; exact F.hl, ?_⟩
  rw [fitRow_iff]
  intro i hi
  rw [List.getElem_set]
  split
  · rename_i h
    have := may_stands hp
    rw [e1] at this h
    rw [Int.toNat_natCast] at h
    rw [← h]; exact this
  · exact fitRow_iff.1 F.hf i (by rw [List.length_set] at hi; exact hi)
end Go.Md
