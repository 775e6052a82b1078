/- Walks of the small functions on tokens: digit, letter, run, blanks, the predicates. -/
import Derived.Test.YtckflfkfjpjkjaaDoorProg
import Derived.Test.YtckflfkfjpjkjaaDoorLexP
import Derived.Test.YtckflfkfjpjkjaaDoorShelf
import Derived.WalkKit
import Derived.Outline
import Derived.WalkSpells
import Derived.WalkLawsBesides
import Derived.Laws.IdiomStrings
import Derived.Laws.Rows
import Derived.Below
namespace Go.Proofs
open Go.RowKit Go.Lx
theorem ret_int {k : IntKind} {a b : Int} (h : a = b) : Ending.returned (.int k a) = .returned (.int k b) := by rw [h]
theorem ret_bool {a b : Bool} (h : a = b) : Ending.returned (.bool a) = .returned (.bool b) := by rw [h]
/-- Begins a text with another one? -/
def pfx (a b : List UInt8) : Bool := a.isPrefixOf b
/-- 'strings.HasPrefix'. -/
theorem hasPrefix_any (s t : ByteArray) (w : World) : Calls Tryd.prog 134 #[.string s, .string t] w fun e w' => e = .returned (.bool (pfx t.data.toList s.data.toList)) ∧ w = w' :=
  (Tryd.strings_HasPrefix s t w).mono fun _ _ ⟨he, hw⟩ => ⟨he, hw.symm⟩
theorem digit_any (c : UInt8) (w : World) : Calls Tryd.prog 135 #[.int .u8 (c.toNat : Int)] w fun e w' => e = .returned (.bool (isDig c)) ∧ w = w' := by
  go_enter Tryd.func135, Tryd.ntmps135
  go_wp2
  all_goals
    go_ret
    refine ⟨ret_bool ?_, rfl⟩
    rw [Bool.eq_iff_iff, isDig_iff]
    simp
    try omega
theorem rdigit_any (c : UInt8) (w : World) : Calls Tryd.prog 149 #[.int .u8 (c.toNat : Int)] w fun e w' => e = .returned (.bool (isDig c)) ∧ w = w' := by
  go_enter Tryd.func149, Tryd.ntmps149
  go_wp2
  all_goals
    go_ret
    refine ⟨ret_bool ?_, rfl⟩
    rw [Bool.eq_iff_iff, isDig_iff]
    simp
    try omega
theorem letter_any (c : UInt8) (w : World) : Calls Tryd.prog 137 #[.int .u8 (c.toNat : Int)] w fun e w' => e = .returned (.bool (isLet c)) ∧ w = w' := by
  go_enter Tryd.func137, Tryd.ntmps137
  go_wp2
  all_goals
    go_ret
    refine ⟨ret_bool ?_, rfl⟩
    have hb := bits_or c
    rw [Bool.eq_iff_iff, isLet_iff]
    first | (simp at *; omega) | (simp; omega) | simp_all | omega
theorem rletter_any (c : UInt8) (w : World) : Calls Tryd.prog 148 #[.int .u8 (c.toNat : Int)] w fun e w' => e = .returned (.bool (isLet c)) ∧ w = w' := by
  go_enter Tryd.func148, Tryd.ntmps148
  go_wp2
  all_goals
    go_ret
    refine ⟨ret_bool ?_, rfl⟩
    rw [Bool.eq_iff_iff, isLet_iff]
    simp
    try omega
theorem isLD_any (c : UInt8) (w : World) : Calls Tryd.prog 138 #[.int .u8 (c.toNat : Int)] w fun e w' => e = .returned (.bool (isLD c)) ∧ w = w' := by
  go_enter Tryd.func138, Tryd.ntmps138
  go_wp2_with fail
  refine (letter_any _ _).mono ?_
  rintro e w' ⟨rfl, rfl⟩
  cases h : isLet c with
  | true =>
    have hx : Hid (isLD c = true) := by unfold Hid isLD; rw [h]; rfl
    clear h
    go_wp2_with fail
    go_ret
    exact ⟨ret_bool (by rw [hx.out]), rfl⟩
  | false =>
    have hx : Hid (isLD c = isDig c) := by unfold Hid isLD; rw [h]; rfl
    clear h
    go_wp2_with fail
    refine (digit_any _ _).mono ?_
    rintro e w' ⟨rfl, rfl⟩
    go_wp2_with fail
    go_ret
    exact ⟨ret_bool (by rw [hx.out]), rfl⟩

/-- 'run' over a predicate that is a function by itself. -/
theorem run_isDig (s : ByteArray) (w : World) (hs : s.size ≤ maxLen) :
    Calls Tryd.prog 136 #[.string s, .func (.func 135) #[] #[]] w fun e w' => e = .returned (.int .i64 (run isDig s.data.toList)) ∧ w = w' := by
  unfold maxLen at hs
  go_enter Tryd.func136, Tryd.ntmps136
  go_wp2_with fail
  go_loop [5] (fun i => ∃ k : Nat, k ≤ s.size ∧ i = .int .i64 k ∧ run isDig s.data.toList = k + run isDig (s.data.toList.drop k)) (fun i => s.size - (intOf i).toNat)
  case atStart => exact ⟨0, by omega, rfl, by rw [List.drop_zero, Nat.zero_add]⟩
  case round =>
    obtain ⟨k, hk, rfl, hr0⟩ := hrel
    have hr := Lib.hid hr0
    clear hr0
    by_cases hlt : k < s.size
    · have hd := Lib.hid (get_drop hlt)
      cases hp : isDig s[k] with
      | true =>
        have hx := Lib.hid (run_yes (p := isDig) (t := s.data.toList.drop (k + 1)) hp)
        have hP := Lib.hid hp
        clear hp
        go_wp2_with fail
        refine (digit_any _ _).mono ?_
        rintro e w' ⟨rfl, rfl⟩
        rw [hP.out]
        go_wp2_with fail
        go_round
        case rel => exact ⟨k + 1, by omega, by go_num, by rw [hr.out, hd.out, hx.out]; omega⟩
        case measure => simp [intOf]; omega
      | false =>
        have hx := Lib.hid (run_no (p := isDig) (t := s.data.toList.drop (k + 1)) hp)
        have hP := Lib.hid hp
        clear hp
        go_wp2_with fail
        refine (digit_any _ _).mono ?_
        rintro e w' ⟨rfl, rfl⟩
        rw [hP.out]
        go_wp2_with fail
        go_ret
        exact ⟨ret_int (by rw [hr.out, hd.out, hx.out]; rfl), rfl⟩
    · have hx : Hid (s.data.toList.drop k = []) := List.drop_eq_nil_of_le (by rw [size_eq]; omega)
      go_wp2_with fail
      go_ret
      exact ⟨ret_int (by rw [hr.out, hx.out]; rfl), rfl⟩
theorem run_isLD (s : ByteArray) (w : World) (hs : s.size ≤ maxLen) :
    Calls Tryd.prog 136 #[.string s, .func (.func 138) #[] #[]] w fun e w' => e = .returned (.int .i64 (run isLD s.data.toList)) ∧ w = w' := by
  unfold maxLen at hs
  go_enter Tryd.func136, Tryd.ntmps136
  go_wp2_with fail
  go_loop [5] (fun i => ∃ k : Nat, k ≤ s.size ∧ i = .int .i64 k ∧ run isLD s.data.toList = k + run isLD (s.data.toList.drop k)) (fun i => s.size - (intOf i).toNat)
  case atStart => exact ⟨0, by omega, rfl, by rw [List.drop_zero, Nat.zero_add]⟩
  case round =>
    obtain ⟨k, hk, rfl, hr0⟩ := hrel
    have hr := Lib.hid hr0
    clear hr0
    by_cases hlt : k < s.size
    · have hd := Lib.hid (get_drop hlt)
      cases hp : isLD s[k] with
      | true =>
        have hx := Lib.hid (run_yes (p := isLD) (t := s.data.toList.drop (k + 1)) hp)
        have hP := Lib.hid hp
        clear hp
        go_wp2_with fail
        refine (isLD_any _ _).mono ?_
        rintro e w' ⟨rfl, rfl⟩
        rw [hP.out]
        go_wp2_with fail
        go_round
        case rel => exact ⟨k + 1, by omega, by go_num, by rw [hr.out, hd.out, hx.out]; omega⟩
        case measure => simp [intOf]; omega
      | false =>
        have hx := Lib.hid (run_no (p := isLD) (t := s.data.toList.drop (k + 1)) hp)
        have hP := Lib.hid hp
        clear hp
        go_wp2_with fail
        refine (isLD_any _ _).mono ?_
        rintro e w' ⟨rfl, rfl⟩
        rw [hP.out]
        go_wp2_with fail
        go_ret
        exact ⟨ret_int (by rw [hr.out, hd.out, hx.out]; rfl), rfl⟩
    · have hx : Hid (s.data.toList.drop k = []) := List.drop_eq_nil_of_le (by rw [size_eq]; omega)
      go_wp2_with fail
      go_ret
      exact ⟨ret_int (by rw [hr.out, hx.out]; rfl), rfl⟩
end Go.Proofs
