/- Walks: 'Pick'. -/
import Derived.Test.YtckflfkfjpjkjaaDoorLexB
namespace Go.Proofs
open Go.RowKit Go.Lx Go.Shelf
set_option linter.unusedVariables false
theorem pick_any (i : Int) (n : Nat) (w : World) (h1 : -9223372036854775808 ≤ i) (h2 : i ≤ 9223372036854775807) (hn : 0 < n) (hn2 : n ≤ 100000) :
    Calls Tryd.prog 18 #[.int .i64 i, .int .i64 n] w fun e w' => (∃ k : Nat, e = .returned (.int .i64 k) ∧ k < n) ∧ w = w' := by
  have b1 : (i.tmod n) < n := Int.tmod_lt_of_pos i (by omega)
  have b2 : -(n : Int) < i.tmod n := Int.lt_tmod_of_pos i (by omega)
  have hn0 : ((n : Int) == 0) = false := by simp; omega
  have hw : IntKind.i64.wrap (i.tmod n) = i.tmod n := IntWalk.i64_in _ (by omega)
  go_enter Tryd.func18, Tryd.ntmps18
  go_wp2_with fail
  all_goals
    go_ret
    rename_i hh
    first
    | exact ⟨⟨(i.tmod n + n).toNat, by rw [Int.toNat_of_nonneg (by omega)]; rfl, by omega⟩, rfl⟩
    | exact ⟨⟨(i.tmod n).toNat, by rw [Int.toNat_of_nonneg (by omega)]; rfl, by omega⟩, rfl⟩
end Go.Proofs
