/- Rows of numbers as they came in: the opener. -/
import Derived.Test.YtodbdacdnoeheaaGreatDoorHMdOp
import Derived.Test.YtodbdacdnoeheaaGreatDoorHIxY
namespace Go.Proofs
open Go.RowKit Go.Lx Go.Md
set_option linter.unusedVariables false
def IntE (w : World) (b o : Nat) (x : Int) : Prop := w.cell? ⟨b, o, none⟩ = some (.int .i64 x)
theorem Sl.row {w : World} {a : Option Addr} {n c : Nat} {l : List Int} (h : Sl anyB 1 IntE w (.slice a n c) l) : RowIn w (.slice a n c) l := by
 rcases h with ⟨a', c', e, rfl⟩ | ⟨b, off, cap, e, h0, h1, _, h3⟩
 · exact .inl ⟨a', c', e, rfl⟩
 · refine .inr ⟨b, off, cap, e, h0, h1, fun j u hj => ?_⟩
   rw [addr_add]
   simp only [nums, List.getElem?_map] at hj
   cases hl : l[j]? with
   | none => rw [hl] at hj; cases hj
   | some x =>
    rw [hl] at hj
    obtain ⟨hjl, rfl⟩ := List.getElem?_eq_some_iff.1 hl
    simp only [Option.map_some, Option.some.injEq] at hj
    have := h3 j hjl
    unfold IntE at this
    rw [Nat.mul_one] at this
    rw [this, ← hj]
set_option maxRecDepth 100000 in
theorem ints_open {H : Type} {enc : TypeId × Value → H} {W : World} {v : Value} {d : DataW H} {ps : List MemPlace} (hv : ∃ a n c, v = .slice a n c)
   (h : DataW.Trod enc Tryz.prog W 0 (fun _ => true) true 29 v d ps) (hw : Wt 29 d) : ∃ l : List Int, RowIn W v l ∧ l.length ≤ 140737488355328 ∧ ∀ x ∈ l, -9223372036854775808 ≤ x ∧ x ≤ 9223372036854775807 := by
 obtain ⟨a, n, c, rfl⟩ := hv
 obtain ⟨fuel, hf0⟩ := h
 obtain ⟨l, a1, c1, e, s1, w1, q1⟩ := rows_open (E := IntE) (OK := fun x => -9223372036854775808 ≤ x ∧ x ≤ 9223372036854775807) Tryz.underlying29 (sz := 1) (by kernel_rfl) (by omega) (of_decide_eq_true (by kernel_rfl)) (fun m cs y hy hw => by
   obtain ⟨z, e1, _, w1⟩ := DataW.trod_int Tryz.underlying3 hy
   exact ⟨z, i64_of w1, fun b o hj => by
     have := hj 0 (by omega)
     rw [e1] at this
     exact this⟩) hf0 hw
 have e' : Value.slice a n c = .slice a1 l.length c1 := by simpa [Value.cells] using e
 rw [e']
 exact ⟨l, s1.row, w1, q1⟩
end Go.Proofs
