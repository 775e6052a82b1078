/- Texts put together. -/
import Derived.Test.YtodbdacdnoeheaaGreatDoorFIxP
import Derived.Test.YtodbdacdnoeheaaGreatDoorFMdPR
/- What lies in what: plain. No program is in sight. -/
namespace Go.Md
open Go.RowKit Go.Lx

theorem selF_mem {α : Type} (p : α → Bool) : ∀ (l : List α) (i : Nat) (v : Int), v ∈ selF p i l ↔ ∃ k, ∃ h : k < l.length, v = ((i + k : Nat) : Int) ∧ p l[k] = true
  | [], i, v => by simp [selF]
  | x :: t, i, v => by
    unfold selF
    constructor
    · intro h
      by_cases hp : p x = true
      · rw [if_pos hp, List.mem_cons] at h
        rcases h with rfl | h
        · exact ⟨0, by simp, by simp, hp⟩
        · obtain ⟨k, hk, e, hq⟩ := (selF_mem p t (i + 1) v).1 h
          exact ⟨k + 1, by simp; omega, by rw [e]; congr 1; omega, hq⟩
      · rw [if_neg hp] at h
        obtain ⟨k, hk, e, hq⟩ := (selF_mem p t (i + 1) v).1 h
        exact ⟨k + 1, by simp; omega, by rw [e]; congr 1; omega, hq⟩
    · rintro ⟨k, hk, e, hq⟩
      cases k with
      | zero =>
        rw [List.getElem_cons_zero] at hq
        rw [if_pos hq, List.mem_cons]; exact .inl (by rw [e]; simp)
      | succ k =>
        have : v ∈ selF p (i + 1) t := (selF_mem p t (i + 1) v).2 ⟨k, by simpa using hk, by rw [e]; congr 1; omega, by simpa using hq⟩
        split
        · exact List.mem_cons_of_mem _ this
        · exact this
theorem sel_mem {α : Type} (p : α → Bool) (l : List α) (v : Int) : v ∈ sel p l ↔ ∃ k, ∃ h : k < l.length, v = (k : Int) ∧ p l[k] = true := by
  unfold sel
  rw [selF_mem]
  simp

end Go.Md
