/- The walk of name.Split. -/
import Derived.Test.YtnlpdempnmpbcaaB
namespace Go.Proofs
open Go.RowKit Go.Nm
/-- 'name.Split'. -/
theorem split_any (s : ByteArray) (w : World) (hs : s.size ≤ maxLen) :
    Calls Try.prog 10 #[.string s] w (Ret3 .string .string .bool fun p q ok w' => Hid (Spl s p q ok) ∧ p.size ≤ 64 ∧ q.size ≤ 64 ∧ Grown w w') := by
  by_cases h64 : 64 < s.size
  · go_enter Try.func10, Try.ntmps10
    go_wp2_with fail
    go_ret3
    exact Ret3.mk ⟨by unfold Hid Spl spl; rw [if_pos (by rw [size_eq]; exact h64)], by decide, by decide, Grown.refl w⟩
  · have hsz : s.size ≤ 64 := by omega
    clear h64
    by_cases hn : Lib.indexByte s.data.toList 58 = -1
    · have H := Lib.hid hn
      clear hn
      cases hp : pl s.data.toList with
      | false =>
        go_enter Try.func10, Try.ntmps10
        go_wp2_with (first | (go_at_call 17; refine (cut_no _ _ H.out).mono ?_; rintro e w' ⟨rfl, rfl⟩) | (go_at_call 18; refine (all_one _ _ _ hs (by go_simp)).mono ?_; rintro e w' ⟨rfl, rfl⟩))
        go_ret3
        exact Ret3.mk ⟨by unfold Hid Spl spl; rw [if_neg (by rw [size_eq]; omega), if_pos H.out, hp]; rfl, by decide, by decide, (Grown.refl w).alloc _ _⟩
      | true =>
        go_enter Try.func10, Try.ntmps10
        go_wp2_with (first | (go_at_call 17; refine (cut_no _ _ H.out).mono ?_; rintro e w' ⟨rfl, rfl⟩) | (go_at_call 18; refine (all_one _ _ _ hs (by go_simp)).mono ?_; rintro e w' ⟨rfl, rfl⟩))
        go_ret3
        exact Ret3.mk ⟨by unfold Hid Spl spl; rw [if_neg (by rw [size_eq]; omega), if_pos H.out, hp]; rfl, by decide, hsz, (Grown.refl w).alloc _ _⟩
    · obtain ⟨o, ho⟩ : ∃ o : Nat, Lib.indexByte s.data.toList 58 = o := ⟨(Lib.indexByte s.data.toList 58).toNat, by have := Lib.indexByte_ge s.data.toList 58; omega⟩
      have hlt : o < s.size := by
        have := (Lib.indexByte_some ho).1
        rw [← size_eq]
        exact (List.getElem?_eq_some_iff.1 this).1
      have hsp : Hid (spl s.data.toList = if pl (s.extract 0 o).data.toList && pl (s.extract (o + 1) s.size).data.toList then ((s.extract 0 o).data.toList, (s.extract (o + 1) s.size).data.toList, true) else ([], [], false)) := by
        unfold Hid spl
        rw [if_neg (by rw [size_eq]; omega), if_neg hn, ho, Int.toNat_natCast, ext_take, ext_drop]
      have H := Lib.hid ho
      have y1 : (s.extract 0 o).size ≤ 64 := Nat.le_trans (ext_size _ _ _) hsz
      have y2 : (s.extract (o + 1) s.size).size ≤ 64 := Nat.le_trans (ext_size _ _ _) hsz
      have z1 : (s.extract 0 o).size ≤ maxLen := Nat.le_trans (ext_size _ _ _) hs
      have z2 : (s.extract (o + 1) s.size).size ≤ maxLen := Nat.le_trans (ext_size _ _ _) hs
      have Y1 := Lib.hid y1
      have Y2 := Lib.hid y2
      clear y1 y2
      clear ho hn
      go_enter Try.func10, Try.ntmps10
      go_wp2_with (first | (go_at_call 17; refine (cut_yes _ _ o H.out hlt hs).mono ?_; rintro e w' ⟨rfl, hg⟩) | (go_at_call 18; refine (all_two_ex _ _ _ _ z1 z2 (by go_simp) (by go_simp)).mono ?_; rintro e w' ⟨t, rfl, ht, rfl⟩))
      · go_ret3
        have h : t = true := by assumption
        have h1 := ht.out; have h2 := hsp.out
        rw [h] at h1; rw [← h1] at h2
        exact Ret3.mk ⟨h2, Y1.out, Y2.out, hg.alloc _ _⟩
      · go_ret3
        have h : t = false := by simp_all
        have h1 := ht.out; have h2 := hsp.out
        rw [h] at h1; rw [← h1] at h2
        exact Ret3.mk ⟨h2, by decide, by decide, hg.alloc _ _⟩
end Go.Proofs
