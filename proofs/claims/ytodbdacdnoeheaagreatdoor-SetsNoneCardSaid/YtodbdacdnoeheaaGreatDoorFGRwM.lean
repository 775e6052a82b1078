/- Texts put together. -/
import Derived.Test.YtodbdacdnoeheaaGreatDoorFRwM
import Derived.Test.YtodbdacdnoeheaaGreatDoorFHiP
import Derived.Test.YtodbdacdnoeheaaGreatDoorFGHiP
import Derived.Test.YtodbdacdnoeheaaGreatDoorFIxY
import Derived.Test.YtodbdacdnoeheaaGreatDoorFGIxGI
import Derived.Test.YtodbdacdnoeheaaGreatDoorFMdTU
import Derived.Test.YtodbdacdnoeheaaGreatDoorFMdJ
import Derived.Maps.AppendAt
/- A model in its box; rows of numbers: helpers. No walk. -/
namespace Go.Proofs
open Go.RowKit Go.Lx Go.Md Go.Shelf Go.BigFrame
set_option linter.unusedVariables false
theorem cloneIn {l : List Int} {v : Value} {w : World} (h : RowIn w v l) (hl : l.length ≤ 100000) (hne : l ≠ [] ∨ v = .slice none 0 0) : Calls Tryz.prog 77 #[v] w (RowP l w) := by
  rcases h with ⟨a, c, rfl, rfl⟩ | ⟨b, off, c, rfl, hc, hb, hcs⟩
  · rcases hne with hne | hne
    · exact absurd rfl hne
    simp only [Value.slice.injEq] at hne
    obtain ⟨rfl, _, rfl⟩ := hne
    refine (cloneNum_nil _ _ w).mono ?_
    rintro e w' ⟨rfl, rfl⟩
    exact ⟨_, rfl, World.ownsRow_nil _ _ _ _, Below.refl _ _⟩
  · refine (cloneNum_some ⟨b, off, none⟩ l.length c (nums l) w (by simp) (by omega) hcs (fun u hu => ?_)).mono ?_
    · simp only [nums, List.mem_map] at hu
      obtain ⟨x, _, rfl⟩ := hu
      rfl
    · rintro e w' ⟨v', rfl, ho, hb⟩
      exact ⟨v', rfl, ho, hb⟩
end Go.Proofs

/- Rows of numbers: a row put behind a row. -/
namespace Go.Proofs
open Go.RowKit Go.Lx Go.Md Go.Shelf
set_option linter.unusedVariables false
section
variable {P : Program}
end
end Go.Proofs
