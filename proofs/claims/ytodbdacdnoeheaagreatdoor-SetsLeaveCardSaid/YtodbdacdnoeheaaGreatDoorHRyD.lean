/- Walks: the document's answer for what lies in what: Chain, Depth. -/
import Derived.Test.YtodbdacdnoeheaaGreatDoorHRyAB
namespace Go.Proofs
open Go.RowKit Go.Lx Go.Md Go.Shelf Go.BigFrame Go.Rgi
set_option linter.unusedVariables false
theorem RowIn.back {w : World} {b off n c j : Nat} {l : List Int} (h : RowIn w (.slice (some ⟨b, off, none⟩) n c) l) (hj : j < l.length) : RowIn w (.slice (some ⟨b, off + j, none⟩) (l.length - j) (c - j)) (l.drop j) := by
 rcases h with ⟨a', c', e, rfl⟩ | ⟨b', off', c', e, h0, h1, h3⟩
 · simp at hj
 · simp only [Value.slice.injEq, Option.some.injEq, Addr.mk.injEq, and_true] at e
   obtain ⟨⟨rfl, rfl⟩, _, rfl⟩ := e
   refine .inr ⟨b, off + j, c - j, by rw [List.length_drop], by rw [List.length_drop]; omega, h1, fun i u hi => ?_⟩
   simp only [nums, List.getElem?_map, List.getElem?_drop] at hi
   have := h3 (j + i) u (by simp only [nums, List.getElem?_map]; exact hi)
   rw [addr_add] at this ⊢
   rw [Nat.add_assoc]; exact this
theorem RowIn.nil0 {w : World} (a : Option Addr) (c : Nat) : RowIn w (.slice a 0 c) [] := .inl ⟨a, c, rfl, rfl⟩
end Go.Proofs
