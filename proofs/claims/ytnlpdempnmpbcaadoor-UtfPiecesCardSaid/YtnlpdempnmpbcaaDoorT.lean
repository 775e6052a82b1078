/- What the listed variable gives the walks: the table of bounds, where it lies. -/
import Derived.Test.YtnlpdempnmpbcaaDoorG
import Derived.Test.YtnlpdempnmpbcaaDoorRows
import Derived.ProofKit
import Derived.LaidMore
import Derived.OpenShut
import Derived.Stop.Joined
namespace Go.Proofs.YtnlpdempnmpbcaaDoor
open Go.ChangeShapes Go.WideShapes Go.ChangeAt Go.RowKit
abbrev laids {H : Type} : List (String × DataW H) := [("hopscotch/utf.bounds", Rows.laid_hopscotch_utf_bounds)]
theorem own : ownKnob Tryd.prog.godebug = none := by kernel_rfl
theorem laidOut : laidOutB Tryd.prog = true := by kernel_rfl
theorem gB : Tryd.prog.globalNamed "hopscotch/utf.bounds" = some 0 := by kernel_rfl
theorem tB : (Tryd.prog.globals[0]?).map (·.type) = some 45 := by kernel_rfl
theorem door_met (os : Os) (args : Array Value) : laidMetH Tryd.prog laids ((World.doorLaid Tryd.prog 400 os).forCall (fun _ _ => 0) ⟨#[], args, []⟩).memory :=
  laidMetH_of_parts3 (fuel := 8) (laidMet_of_run' 8 (by kernel_rfl) (by kernel_rfl)) (by kernel_rfl) (by kernel_rfl)
theorem c44 : Tryd.prog.cellsOf 44 = 2 := by kernel_rfl
theorem c45 : Tryd.prog.cellsOf 45 = 10 := by kernel_rfl
theorem c21 : Tryd.prog.cellsOf 21 = 1 := by kernel_rfl

theorem list2 {α : Type} {l : List α} (h : l.length = 2) : ∃ a b, l = [a, b] := by
  match l, h with
  | [a, b], _ => exact ⟨a, b, rfl⟩
theorem list5 {α : Type} {l : List α} (h : l.length = 5) : ∃ a b c d e, l = [a, b, c, d, e] := by
  match l, h with
  | [a, b, c, d, e], _ => exact ⟨a, b, c, d, e, rfl⟩
theorem list10 {α : Type} {l : List α} (h : l.length = 10) : ∃ a b c d e f g i j k, l = [a, b, c, d, e, f, g, i, j, k] := by
  match l, h with
  | [a, b, c, d, e, f, g, i, j, k], _ => exact ⟨a, b, c, d, e, f, g, i, j, k, rfl⟩
theorem one_int {H : Type} {enc : TypeId × Value → H} {W : World} {m : Nat} {x : Value} {y : DataW H × List MemPlace} {n : Int} {sp : Nat → Bool} {hd : Bool}
    (h : DataW.trod enc Tryd.prog W 0 sp hd m 21 [x] = some y) (hy : y.1 = .lit (.int .i32 n)) : x = .int .i32 n := by
  obtain ⟨k, e1, e2, _⟩ := DataW.trod_int Tryd.underlying21 h
  rw [e2] at hy
  simp at hy e1
  rw [← hy]; exact e1
theorem pair_of {H : Type} {enc : TypeId × Value → H} {W : World} {m : Nat} {x z : Value} {y : DataW H × List MemPlace} {n k : Int} {sp : Nat → Bool} {hd : Bool}
    (h : DataW.trod enc Tryd.prog W 0 sp hd m 44 [x, z] = some y) (hy : y.1 = .agg [.lit (.int .i32 n), .lit (.int .i32 k)]) : x = .int .i32 n ∧ z = .int .i32 k := by
  obtain ⟨xs, m1, rfl, hx1, hlen, hn3, hel⟩ := DataW.trod_array Tryd.underlying44 h
  obtain ⟨a, b, rfl⟩ := list2 hn3
  rw [c21] at hel
  have h0 := hel 0 (by decide)
  have h1 := hel 1 (by decide)
  simp at h0 h1
  rw [hx1] at hy
  simp at hy
  exact ⟨one_int h0 hy.1, one_int h1 hy.2⟩
theorem of_laid {W : World} (h : laidMetH Tryd.prog laids W) : Tab W := by
  rw [MakeChecks.laidMetH_plain _ _ _ (by kernel_rfl)] at h
  obtain ⟨ps, ⟨g0, t0, cs0, f0, p0, q0, hg0, ht0, hv0, hd0, _, _⟩, _, _⟩ := h
  obtain rfl := Option.some.inj (gB.symm.trans hg0)
  obtain rfl := Option.some.inj (tB.symm.trans ht0)
  unfold World.var? at hv0
  rw [gB] at hv0
  simp only [Option.bind_some] at hv0
  cases ho : W.heap[0]? with
  | none => rw [ho] at hv0; cases hv0
  | some o =>
    rw [ho] at hv0
    cases o with
    | cells cs t fr =>
      simp only [Option.some.injEq] at hv0
      subst hv0
      refine ⟨t, fr, ?_⟩
      rw [ho]
      obtain ⟨xs, m1, rfl, hx1, hlen, hn3, hel⟩ := DataW.trod_array Tryd.underlying45 hd0
      rw [c45] at hlen
      rw [c44] at hel
      obtain ⟨l⟩ := cs
      simp only at hlen hel
      obtain ⟨a, b, c, d, e, f, g, i, j, k, rfl⟩ := list10 hlen
      obtain ⟨y0, y1, y2, y3, y4, rfl⟩ := list5 hn3
      have h0 := hel 0 (by decide)
      have h1 := hel 1 (by decide)
      have h2 := hel 2 (by decide)
      have h3 := hel 3 (by decide)
      have h4 := hel 4 (by decide)
      simp at h0 h1 h2 h3 h4
      simp only [Prod.mk.injEq] at hx1
      have hx := hx1.1
      simp [Rows.laid_hopscotch_utf_bounds] at hx
      obtain ⟨e0, e1, e2, e3, e4⟩ := hx
      obtain ⟨rfl, rfl⟩ := pair_of h0 e0.symm
      obtain ⟨rfl, rfl⟩ := pair_of h1 e1.symm
      obtain ⟨rfl, rfl⟩ := pair_of h2 e2.symm
      obtain ⟨rfl, rfl⟩ := pair_of h3 e3.symm
      obtain ⟨rfl, rfl⟩ := pair_of h4 e4.symm
      rfl
    | _ => cases hv0
end Go.Proofs.YtnlpdempnmpbcaaDoor
