/- Walks of the small functions on names: each returns what the plain Lean function says; the world is as it was. -/
import Derived.Test.YtnlpdempnmpbcaaProg
import Derived.Test.YtnlpdempnmpbcaaP
import Derived.WalkKit
import Derived.Lib.Hide
namespace Go.Proofs
open Go.RowKit Go.Nm
theorem ret_int {k : IntKind} {a b : Int} (h : a = b) : Ending.returned (.int k a) = .returned (.int k b) := by rw [h]
theorem ret_bool {a b : Bool} (h : a = b) : Ending.returned (.bool a) = .returned (.bool b) := by rw [h]

theorem class_any (c : UInt8) (w : World) : Calls Try.prog 20 #[.int .u8 (c.toNat : Int)] w fun e w' => e = .returned (.int .u8 (cls c)) ∧ w = w' := by
  go_enter Try.func20, Try.ntmps20
  go_wp2
  all_goals
    go_ret
    refine ⟨ret_int ?_, rfl⟩
    have hb := bits_or c
    have h1 := @cls_one c
    have h2 := @may_iff c
    try simp only [beq_iff_eq, beq_eq_false_iff_ne, ne_eq] at *
    simp only [cls]
    split
    · rename_i h; rw [h1] at h; first | done | omega
    · rename_i h; rw [h1] at h
      split
      · rename_i h'; rw [h2] at h'; first | done | omega
      · rename_i h'; rw [h2] at h'; first | done | omega

theorem letter_any (c : UInt8) (w : World) : Calls Try.prog 19 #[.int .u8 (c.toNat : Int)] w fun e w' => e = .returned (.bool (isLetter c)) ∧ w = w' := by
  go_enter Try.func19, Try.ntmps19
  go_wp2
  all_goals
    go_ret
    refine ⟨ret_bool ?_, rfl⟩
    rw [Bool.eq_iff_iff, cls_one]
    simp
    try omega


theorem may_any (c : UInt8) (w : World) : Calls Try.prog 15 #[.int .u8 (c.toNat : Int)] w fun e w' => e = .returned (.bool (may c)) ∧ w = w' := by
  go_enter Try.func15, Try.ntmps15
  go_wp2_with (go_at_call 19; refine (letter_any _ _).mono ?_; rintro e w' ⟨rfl, rfl⟩)
  all_goals
    go_ret
    refine ⟨ret_bool ?_, rfl⟩
    rw [Bool.eq_iff_iff]
    simp [may]
    simp_all
    try omega

theorem length_any (s : ByteArray) (w : World) (hs : s.size ≤ maxLen) :
    Calls Try.prog 16 #[.string s] w fun e w' => e = .returned (.int .i64 (len s.data.toList)) ∧ w = w' := by
  unfold maxLen at hs
  by_cases h0 : s.size = 0
  · have he : s.toList = [] := by rw [ByteArray.toList_eq]; exact List.length_eq_zero_iff.1 (by rw [size_eq]; exact h0)
    have hl := Lib.hid (len_nil (l := s.data.toList) (by rw [size_eq]; exact h0))
    clear h0
    go_enter Try.func16, Try.ntmps16
    go_wp2_with fail
    go_ret
    exact ⟨ret_int (by rw [hl.out]; rfl), rfl⟩
  · have h1 : 0 < s.size := by omega
    have he : s.toList.isEmpty = false := by
      rw [ByteArray.toList_eq]
      cases h : s.data.toList with
      | nil => have := size_eq s; rw [h] at this; simp at this; omega
      | cons _ _ => rfl
    clear h0
    cases hc : isLetter s[0] with
    | false =>
      have hl := Lib.hid (len_not (l := s.data.toList) (by rw [size_eq]; exact h1) hc)
      have hb : (cls s[0] != 1) = true := by simp only [bne, cls_eq_one, hc]; rfl
      clear hc
      go_enter Try.func16, Try.ntmps16
      go_wp2_with (go_at_call 20; refine (class_any _ _).mono ?_; rintro e w' ⟨rfl, rfl⟩)
      go_ret
      exact ⟨ret_int (by rw [hl.out]; rfl), rfl⟩
    | true =>
      have hl := Lib.hid (len_run (l := s.data.toList) (by rw [size_eq]; exact h1) hc)
      have hb : (cls s[0] != 1) = false := by simp only [bne, cls_eq_one, hc]; rfl
      clear hc
      go_enter Try.func16, Try.ntmps16
      go_wp2_with (go_at_call 20; refine (class_any _ _).mono ?_; rintro e w' ⟨rfl, rfl⟩)
      go_loop [3] (fun n => ∃ k : Nat, 1 ≤ k ∧ k ≤ s.size ∧ n = .int .i64 k ∧ len s.data.toList = k + run s.data.toList k) (fun n => s.size - (intOf n).toNat)
      case atStart => exact ⟨1, by omega, by omega, rfl, hl.out⟩
      case round =>
        obtain ⟨k, hk1, hk2, rfl, hr0⟩ := hrel
        have hr := Lib.hid hr0
        clear hr0
        by_cases hlt : k < s.size
        · cases hm : may s[k] with
          | false =>
            have hx := Lib.hid (run_no (l := s.data.toList) (k := k) (by rw [size_eq]; exact hlt) hm)
            have hb2 : (cls s[k] != 0) = false := by simp only [bne, cls_ne_zero, hm]; rfl
            clear hm
            go_wp2_with (go_at_call 20; refine (class_any _ _).mono ?_; rintro e w' ⟨rfl, rfl⟩)
            go_ret
            exact ⟨ret_int (by rw [hr.out, hx.out]; rfl), rfl⟩
          | true =>
            have hx := Lib.hid (run_yes (l := s.data.toList) (k := k) (by rw [size_eq]; exact hlt) hm)
            have hb2 : (cls s[k] != 0) = true := by simp only [bne, cls_ne_zero, hm]; rfl
            clear hm
            go_wp2_with (go_at_call 20; refine (class_any _ _).mono ?_; rintro e w' ⟨rfl, rfl⟩)
            go_round
            case rel => exact ⟨k + 1, by omega, by omega, by go_num, by rw [hr.out, hx.out]; omega⟩
            case measure => simp [intOf]; omega
        · have hx := Lib.hid (run_stop (l := s.data.toList) (k := k) (by rw [size_eq]; omega))
          go_wp2_with fail
          go_ret
          exact ⟨ret_int (by rw [hr.out, hx.out]; rfl), rfl⟩
end Go.Proofs
