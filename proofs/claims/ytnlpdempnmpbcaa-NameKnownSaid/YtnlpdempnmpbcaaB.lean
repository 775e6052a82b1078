/- Walks of name.all, name.Plain, and of the library function that cuts at a colon. -/
import Derived.Test.YtnlpdempnmpbcaaA
import Derived.Lib.Bytealg
import Derived.Lib.IndexLaws
namespace Go.Proofs
open Go.RowKit Go.Nm
theorem length_ex (s : ByteArray) (w : World) (hs : s.size ≤ maxLen) :
    Calls Try.prog 16 #[.string s] w fun e w' => ∃ m : Nat, e = .returned (.int .i64 m) ∧ Hid (m = len s.data.toList) ∧ m ≤ s.size ∧ w = w' :=
  (length_any s w hs).mono fun _ _ ⟨he, hw⟩ => ⟨_, he, Lib.hid rfl, by have := len_le s.data.toList; rw [size_eq] at this; exact this, hw⟩

/-- 'name.all' over a row of texts that lies in memory. -/
theorem all_any (ss : List ByteArray) (b : Nat) (n c : Nat) (w : World) (hn : ss.length = n) (h64 : n ≤ 100) (hs : ∀ s ∈ ss, s.size ≤ maxLen)
    (hc : ∀ j (h : j < ss.length), w.cell? ⟨b, j, none⟩ = some (.string ss[j])) :
    Calls Try.prog 18 #[.slice (some ⟨b, 0, none⟩) n c] w fun e w' => e = .returned (.bool (ss.all fun s => pl s.data.toList)) ∧ w = w' := by
  subst hn
  have HC := Lib.hid hc
  clear hc
  go_enter Try.func18, Try.ntmps18
  go_wp2_with fail
  go_loop [8] (fun i => ∃ k : Nat, k ≤ ss.length ∧ i = .int .i64 k ∧ (ss.all fun s => pl s.data.toList) = (ss.drop k).all fun s => pl s.data.toList) (fun i => ss.length - (intOf i).toNat)
  case atStart => exact ⟨0, by omega, rfl, rfl⟩
  case round =>
    obtain ⟨k, hk, rfl, hr0⟩ := hrel
    have hr := Lib.hid hr0
    clear hr0
    by_cases hlt : k < ss.length
    · have hcell := HC.out k hlt
      have hsz := Lib.hid (hs ss[k] (List.getElem_mem _))
      have hd := Lib.hid (List.drop_eq_getElem_cons hlt)
      generalize hg : ss[k] = t at hcell hsz hd
      clear hg hs
      go_wp2_with (go_at_call 16; refine (length_ex _ _ hsz.out).mono ?_; rintro e w' ⟨m, rfl, hm, hm2, rfl⟩)
      · go_ret
        have e0 : m = 0 := by simp_all
        exact ⟨ret_bool (by rw [hr.out, hd.out, List.all_cons, (pl_false (l := t.data.toList)).2 (.inl (by rw [← hm.out]; exact e0))]; rfl), rfl⟩
      · go_ret
        have e0 : m < t.size := by rename_i h; rcases h with h | h; · simp_all
                                   · exact h
        exact ⟨ret_bool (by rw [hr.out, hd.out, List.all_cons, (pl_false (l := t.data.toList)).2 (.inr (by rw [← hm.out, size_eq]; exact e0))]; rfl), rfl⟩
      · go_round
        case rel => exact ⟨k + 1, by omega, by go_num, by rw [hr.out, hd.out, List.all_cons, (pl_true (l := t.data.toList)).2 ⟨by rw [← hm.out]; omega, by rw [← hm.out, size_eq]; omega⟩]; rfl⟩
        case measure => simp [intOf]; omega
    · have hx := Lib.hid (show ((ss.drop k).all fun s => pl s.data.toList) = true by rw [List.drop_eq_nil_of_le (by omega)]; rfl)
      go_wp2_with fail
      go_ret
      exact ⟨ret_bool (by rw [hr.out, hx.out]), rfl⟩
theorem all_one (a : ByteArray) (b : Nat) (w : World) (ha : a.size ≤ maxLen) (h0 : w.cell? ⟨b, 0, none⟩ = some (.string a)) :
    Calls Try.prog 18 #[.slice (some ⟨b, 0, none⟩) 1 1] w fun e w' => e = .returned (.bool (pl a.data.toList)) ∧ w = w' :=
  (all_any [a] b 1 1 w rfl (by omega) (by simpa using ha) (fun j hj => by
    have : j = 0 := by simp at hj; exact hj
    subst this; exact h0)).mono fun e w' ⟨he, hw⟩ => ⟨by simpa using he, hw⟩
theorem all_two (a c : ByteArray) (b : Nat) (w : World) (ha : a.size ≤ maxLen) (hcs : c.size ≤ maxLen) (h0 : w.cell? ⟨b, 0, none⟩ = some (.string a)) (h1 : w.cell? ⟨b, 1, none⟩ = some (.string c)) :
    Calls Try.prog 18 #[.slice (some ⟨b, 0, none⟩) 2 2] w fun e w' => e = .returned (.bool (pl a.data.toList && pl c.data.toList)) ∧ w = w' :=
  (all_any [a, c] b 2 2 w rfl (by omega) (by simpa using ⟨ha, hcs⟩) (fun j hj => by
    have : j = 0 ∨ j = 1 := by simp at hj; omega
    rcases this with rfl | rfl
    · exact h0
    · exact h1)).mono fun e w' ⟨he, hw⟩ => ⟨by simpa using he, hw⟩

/-- The same, the answer under a name of its own. -/
theorem all_one_ex (a : ByteArray) (b : Nat) (w : World) (ha : a.size ≤ maxLen) (h0 : w.cell? ⟨b, 0, none⟩ = some (.string a)) :
    Calls Try.prog 18 #[.slice (some ⟨b, 0, none⟩) 1 1] w fun e w' => ∃ t : Bool, e = .returned (.bool t) ∧ Hid (t = pl a.data.toList) ∧ w = w' :=
  (all_one a b w ha h0).mono fun _ _ ⟨he, hw⟩ => ⟨_, he, rfl, hw⟩
theorem all_two_ex (a c : ByteArray) (b : Nat) (w : World) (ha : a.size ≤ maxLen) (hcs : c.size ≤ maxLen) (h0 : w.cell? ⟨b, 0, none⟩ = some (.string a)) (h1 : w.cell? ⟨b, 1, none⟩ = some (.string c)) :
    Calls Try.prog 18 #[.slice (some ⟨b, 0, none⟩) 2 2] w fun e w' => ∃ t : Bool, e = .returned (.bool t) ∧ Hid (t = (pl a.data.toList && pl c.data.toList)) ∧ w = w' :=
  (all_two a c b w ha hcs h0 h1).mono fun _ _ ⟨he, hw⟩ => ⟨_, he, rfl, hw⟩

theorem grown_trans {a b c : World} (h : Grown a b) (k : Grown b c) : Grown a c :=
  ⟨World.keptBut_trans h.1 k.1, fun x => (k.2.1 x).trans (h.2.1 x), Nat.le_trans h.2.2 k.2.2⟩


/-- 'name.Plain'. -/
theorem plain_any (s : ByteArray) (w : World) (hs : s.size ≤ maxLen) :
    Calls Try.prog 13 #[.string s] w fun e w' => e = .returned (.bool (decide (s.size ≤ 64) && pl s.data.toList)) ∧ Grown w w' := by
  go_enter Try.func13, Try.ntmps13
  go_wp2_with (go_at_call 18; refine (all_one _ _ _ hs (by go_simp)).mono ?_; rintro e w' ⟨rfl, rfl⟩)
  · go_ret
    refine ⟨ret_bool ?_, (Grown.refl w).alloc _ _⟩
    rw [decide_eq_true (by omega), Bool.true_and]
  · go_ret
    refine ⟨ret_bool ?_, Grown.refl w⟩
    rw [decide_eq_false (by omega), Bool.false_and]

/-- 'stringslite.IndexByte' at a colon. -/
theorem indexByte_any (s : ByteArray) (w : World) :
    Calls Try.prog 23 #[.string s, .int .u8 58] w fun e w' => e = .returned (.int .i64 (Lib.indexByte s.data.toList 58)) ∧ w = w' := by
  go_enter Try.func23, Try.ntmps23
  go_wp2
  rw [run_callFunc_extern Try.func27 (by kernel_rfl) (by kernel_rfl) (by kernel_rfl) (e := Extern.BytealgIndexByte.indexByte) (by kernel_rfl), Lib.run_indexByteString]
  simp only [Result.andThen]
  rw [Oper.upon_value]
  go_wp2
  go_ret
  exact ⟨rfl, rfl⟩


theorem index_any (s : ByteArray) (w : World) :
    Calls Try.prog 22 #[.string s, .string ⟨#[58]⟩] w fun e w' => e = .returned (.int .i64 (Lib.indexByte s.data.toList 58)) ∧ w = w' := by
  go_enter Try.func22, Try.ntmps22
  go_wp2_with (go_at_call 23; refine (indexByte_any _ _).mono ?_; rintro e w' ⟨rfl, rfl⟩)
  · have h : ([58] == s.toList) = true := by assumption
    go_ret
    refine ⟨ret_int ?_, rfl⟩
    rw [ByteArray.toList_eq, beq_iff_eq] at h
    rw [← h]; rfl
  · go_ret
    exact ⟨rfl, rfl⟩
theorem cut21_no (s : ByteArray) (w : World) (h : Lib.indexByte s.data.toList 58 = -1) :
    Calls Try.prog 21 #[.string s, .string ⟨#[58]⟩] w fun e w' => e = .returned (.tuple #[.string s, .string ByteArray.empty, .bool false]) ∧ w = w' := by
  go_enter Try.func21, Try.ntmps21
  go_wp2_with (go_at_call 22; refine (index_any _ _).mono ?_; rintro e w' ⟨rfl, rfl⟩)
  go_ret3
  exact ⟨rfl, rfl⟩
theorem cut21_yes (s : ByteArray) (w : World) (o : Nat) (h : Lib.indexByte s.data.toList 58 = o) (ho : o < s.size) (hs : s.size ≤ maxLen) :
    Calls Try.prog 21 #[.string s, .string ⟨#[58]⟩] w fun e w' => e = .returned (.tuple #[.string (s.extract 0 o), .string (s.extract (o + 1) s.size), .bool true]) ∧ Grown w w' := by
  unfold maxLen at hs
  go_enter Try.func21, Try.ntmps21
  go_wp2_with (go_at_call 22; refine (index_any _ _).mono ?_; rintro e w' ⟨rfl, rfl⟩)
  go_region
  go_wp2
  go_ret3
  exact ⟨rfl, (Grown.refl w).drew⟩
theorem cut_no (s : ByteArray) (w : World) (h : Lib.indexByte s.data.toList 58 = -1) :
    Calls Try.prog 17 #[.string s, .string ⟨#[58]⟩] w fun e w' => e = .returned (.tuple #[.string s, .string ByteArray.empty, .bool false]) ∧ w = w' := by
  have H := Lib.hid h
  clear h
  go_enter Try.func17, Try.ntmps17
  go_wp2_with (go_at_call 21; refine (cut21_no _ _ H.out).mono ?_; rintro e w' ⟨rfl, rfl⟩)
  go_ret3
  exact ⟨rfl, rfl⟩
theorem cut_yes (s : ByteArray) (w : World) (o : Nat) (h : Lib.indexByte s.data.toList 58 = o) (ho : o < s.size) (hs : s.size ≤ maxLen) :
    Calls Try.prog 17 #[.string s, .string ⟨#[58]⟩] w fun e w' => e = .returned (.tuple #[.string (s.extract 0 o), .string (s.extract (o + 1) s.size), .bool true]) ∧ Grown w w' := by
  have H := Lib.hid h
  clear h
  go_enter Try.func17, Try.ntmps17
  go_wp2_with (go_at_call 21; refine (cut21_yes _ _ o H.out ho hs).mono ?_; rintro e w' ⟨rfl, hg⟩)
  go_ret3
  exact ⟨rfl, hg⟩
end Go.Proofs
