/- Walks of utf.Next, Valid, Count, and of the document's number and Next. -/
import Derived.Test.YtnlpdempnmpbcaaDoorB
import Derived.Deep.QuietTactic
import Derived.Deep.RegionWith
import Derived.BigQuiet
namespace Go.Proofs
open Go.RowKit Go.Ut

/-- What Next tells. -/
def NX (l : List UInt8) (c n e : Nat) : Prop := (nxt l = some (c, n) ∧ e = 0) ∨ (nxt l = none ∧ c = 0 ∧ n = 0 ∧ ((l = [] ∧ e = 0) ∨ (l ≠ [] ∧ e = 10)))
theorem NX.fn {l : List UInt8} {c n e c' n' e' : Nat} (h : NX l c n e) (k : NX l c' n' e') : c = c' ∧ n = n' ∧ e = e' := by
  rcases h with ⟨h1, rfl⟩ | ⟨h1, rfl, rfl, h2⟩ <;> rcases k with ⟨k1, rfl⟩ | ⟨k1, rfl, rfl, k2⟩
  · rw [h1] at k1; simp at k1; exact ⟨k1.1, k1.2, rfl⟩
  · rw [h1] at k1; cases k1
  · rw [h1] at k1; cases k1
  · refine ⟨rfl, rfl, ?_⟩
    rcases h2 with ⟨a, rfl⟩ | ⟨a, rfl⟩ <;> rcases k2 with ⟨b, rfl⟩ | ⟨b, rfl⟩
    · rfl
    · exact absurd a b
    · exact absurd b a
    · rfl
theorem NX.bd {l : List UInt8} {c n e : Nat} (h : NX l c n e) : c ≤ 1114111 ∧ n ≤ l.length := by
  rcases h with ⟨h1, rfl⟩ | ⟨h1, rfl, rfl, h2⟩
  · have := nxt_le h1; omega
  · omega
theorem toList_eq' (s : ByteArray) : s.toList = s.data.toList := ByteArray.toList_eq ..

def RetN (K : IntKind) (P : Nat → Nat → Nat → Prop) (w : World) (e : Ending) (w' : World) : Prop :=
  ∃ c n f : Nat, e = .returned (.tuple #[.int K c, .int .i64 n, .int .i64 f]) ∧ P c n f ∧ Below w.heap.size w w'

theorem next_any (s : ByteArray) (w : World) (hw : Tab w) (hs : s.size ≤ maxLen) :
    Calls Tryd.prog 9 #[.string s] w (RetN .i32 (NX s.data.toList) w) := by
  cases hn : nxt s.data.toList with
  | some p =>
    obtain ⟨c, n⟩ := p
    have hE : Hid (eachC 1 0 0 0 s.data.toList = (c, 1, n)) := by unfold Hid; rw [eachC_some hn]; simp [eachC]
    have hN : Hid (NX s.data.toList c n 0) := .inl ⟨hn, rfl⟩
    have hp := (nxt_le hn).1
    clear hn
    go_enter Tryd.func9, Tryd.ntmps9
    go_wp2_with fail
    refine (each_any s 1 _ hw hs).mono ?_
    rintro e w1 ⟨c', k', b', rfl, he, hb⟩
    have := he.out.symm.trans hE.out
    simp only [Prod.mk.injEq] at this
    obtain ⟨rfl, rfl, rfl⟩ := this
    clear he
    go_wp2_with fail
    go_ret3
    exact ⟨_, _, _, rfl, hN.out, hb⟩
  | none =>
    have hE : Hid (eachC 1 0 0 0 s.data.toList = (0, 0, 0)) := by unfold Hid; rw [eachC_none hn]
    by_cases h0 : s.size = 0
    · have hl : s.data.toList = [] := List.length_eq_zero_iff.1 (by rw [size_eq]; exact h0)
      have hN : Hid (NX s.data.toList 0 0 0) := .inr ⟨hn, rfl, rfl, .inl ⟨hl, rfl⟩⟩
      have hb0 : s.toList = [] := by rw [toList_eq', hl]
      clear hn hl h0
      go_enter Tryd.func9, Tryd.ntmps9
      go_wp2_with fail
      refine (each_any s 1 _ hw hs).mono ?_
      rintro e w1 ⟨c', k', b', rfl, he, hb⟩
      have := he.out.symm.trans hE.out
      simp only [Prod.mk.injEq] at this
      obtain ⟨rfl, rfl, rfl⟩ := this
      clear he
      go_wp2_with fail
      go_ret3
      exact ⟨_, _, _, rfl, hN.out, hb⟩
    · have hl : s.data.toList ≠ [] := fun h => h0 (by rw [← size_eq, h]; rfl)
      have hN : Hid (NX s.data.toList 0 0 10) := .inr ⟨hn, rfl, rfl, .inr ⟨hl, rfl⟩⟩
      have hb0 : s.toList.isEmpty = false := by rw [toList_eq']; simpa using hl
      clear hn hl h0
      go_enter Tryd.func9, Tryd.ntmps9
      go_wp2_with fail
      refine (each_any s 1 _ hw hs).mono ?_
      rintro e w1 ⟨c', k', b', rfl, he, hb⟩
      have := he.out.symm.trans hE.out
      simp only [Prod.mk.injEq] at this
      obtain ⟨rfl, rfl, rfl⟩ := this
      clear he
      go_wp2_with fail
      go_ret3
      exact ⟨_, _, _, rfl, hN.out, hb⟩

/-- What Valid tells. -/
def VA (l : List UInt8) (n e : Nat) : Prop := ((W l).2 < l.length ∧ n = (W l).2 ∧ e = 10) ∨ ((W l).2 = l.length ∧ n = 0 ∧ e = 0)
theorem VA.fn {l : List UInt8} {n e n' e' : Nat} (h : VA l n e) (k : VA l n' e') : n = n' ∧ e = e' := by
  unfold VA at *; omega
def RetV (P : Nat → Nat → Prop) (w : World) (e : Ending) (w' : World) : Prop :=
  ∃ n f : Nat, e = .returned (.tuple #[.int .i64 n, .int .i64 f]) ∧ P n f ∧ Below w.heap.size w w'
def RetC (P : Nat → Prop) (w : World) (e : Ending) (w' : World) : Prop :=
  ∃ n : Nat, e = .returned (.int .i64 n) ∧ P n ∧ Below w.heap.size w w'

theorem valid_any (s : ByteArray) (w : World) (hw : Tab w) (hs : s.size ≤ maxLen) :
    Calls Tryd.prog 14 #[.string s] w (RetV (VA s.data.toList) w) := by
  have hW := Lib.hid (eachC_all s.data.toList)
  rw [size_eq] at hW
  have hle := Lib.hid (W_le _ s.data.toList (Nat.le_refl _)).1
  rw [size_eq] at hle
  go_enter Tryd.func14, Tryd.ntmps14
  go_wp2_with fail
  refine (each_any s s.size _ hw hs).mono ?_
  rintro e w1 ⟨c, k, b, rfl, he, hb⟩
  have hWb : Hid ((W s.data.toList).2 = b) := by unfold Hid; rw [← hW.out, he.out]
  have hlb : b ≤ s.size := by rw [← hWb.out]; exact hle.out
  clear he hW hle
  by_cases hlt : b < s.size
  · go_wp2_with fail
    go_ret2
    exact ⟨_, _, rfl, .inl ⟨by rw [hWb.out, size_eq]; exact hlt, hWb.out.symm, rfl⟩, hb⟩
  · go_wp2_with fail
    go_ret2
    exact ⟨0, 0, rfl, .inr ⟨by rw [hWb.out, size_eq]; omega, rfl, rfl⟩, hb⟩

theorem count_any (s : ByteArray) (w : World) (hw : Tab w) (hs : s.size ≤ maxLen) :
    Calls Tryd.prog 16 #[.string s] w (RetC (fun n => n = (W s.data.toList).1) w) := by
  have hW := Lib.hid (eachC_all s.data.toList)
  rw [size_eq] at hW
  go_enter Tryd.func16, Tryd.ntmps16
  go_wp2_with fail
  refine (each_any s s.size _ hw hs).mono ?_
  rintro e w1 ⟨c, k, b, rfl, he, hb⟩
  have hWb : Hid (k = (W s.data.toList).1) := by unfold Hid; rw [← hW.out, he.out]
  clear he hW
  go_wp2_with fail
  go_ret
  exact ⟨_, rfl, hWb.out, hb⟩

/-- A number's bounds, by how many bytes were taken. -/
def Bnd (k : Nat) (c : Int) : Prop := (k = 1 → -256 ≤ c ∧ c ≤ 255) ∧ (k = 2 → -20000 ≤ c ∧ c ≤ 20000) ∧ (k = 3 → -2000000 ≤ c ∧ c ≤ 2000000) ∧ -200000000 ≤ c ∧ c ≤ 200000000
theorem acc_snoc (l : List UInt8) (b : UInt8) (c : Int) : acc (l ++ [b]) c = acc l c * 64 + (b.toNat : Int) - 128 := by
  unfold acc; rw [List.foldl_append]; rfl
theorem take_drop_snoc {l : List UInt8} {k : Nat} (h1 : 1 ≤ k) (h : k < l.length) : (l.take (k + 1)).drop 1 = (l.take k).drop 1 ++ [l[k]] := by
  rw [List.take_succ_eq_append_getElem h, List.drop_append_of_le_length (by rw [List.length_take]; omega)]
theorem getD0 (s : ByteArray) (h : 0 < s.size) : s.data.toList.getD 0 0 = s[0] := by
  rw [List.getD_eq_getElem?_getD, List.getElem?_eq_getElem (by rw [size_eq]; exact h)]; rfl

/-- The document's 'number'. -/
theorem number_one (s : ByteArray) (w : World) (h1 : 0 < s.size) :
    Calls Tryd.prog 19 #[.string s, .int .i64 1] w fun e w' => e = .returned (.int .i64 (s[0].toNat : Int)) ∧ Below w.heap.size w w' := by
  have hb := s[0].toNat_lt
  go_enter Tryd.func19, Tryd.ntmps19
  go_wp2_with fail
  go_ret
  exact ⟨rfl, (Below.refl _ _).alloc (Nat.le_refl _) _⟩

set_option maxHeartbeats 1000000 in
theorem number_2 (s : ByteArray) (w : World) (hn : 2 ≤ s.size) :
    Calls Tryd.prog 19 #[.string s, .int .i64 2] w fun e w' => ∃ c : Int, e = .returned (.int .i64 c) ∧ Hid (c = numL s.data.toList 2) ∧ -2147483648 ≤ c ∧ c ≤ 2147483647 ∧ Below w.heap.size w w' := by
  have h1 : 0 < s.size := by omega
  have hb := s[0].toNat_lt
  have hD : Hid (((s.data.toList.getD 0 0).toNat : Int) = s[0].toNat) := by unfold Hid; rw [getD0 s h1]
  go_enter Tryd.func19, Tryd.ntmps19
  go_wp2_with fail
  go_quiet (fail)
  go_wp2_with fail
  go_loop [6, 7] (fun c i => ∃ k : Nat, ∃ z : Int, 1 ≤ k ∧ k ≤ 2 ∧ i = .int .i64 k ∧ c = .int .i64 z ∧ Bnd k z ∧ Hid (z = acc ((s.data.toList.take k).drop 1) ((s[0].toNat : Int) - 192))) (fun _ i => 2 - (intOf i).toNat)
  case atStart => exact ⟨1, _, by omega, by omega, rfl, rfl, by unfold Bnd; omega, by unfold Hid; rw [List.drop_eq_nil_of_le (by rw [List.length_take]; omega)]; rfl⟩
  case round =>
    obtain ⟨k, z, hk1, hk2, rfl, rfl, hB, hZ⟩ := hrel
    by_cases hlt : k < 2
    · have hks : k < s.size := by omega
      have hbk := s[k].toNat_lt
      have hS : Hid (acc ((s.data.toList.take (k + 1)).drop 1) ((s[0].toNat : Int) - 192) = z * 64 + (s[k].toNat : Int) - 128) := by
        unfold Hid; rw [take_drop_snoc hk1 (by rw [size_eq]; exact hks), acc_snoc, ← hZ.out]; rfl
      unfold Bnd at hB
      have hz1 : -2000000 ≤ z ∧ z ≤ 2000000 := by omega
      obtain ⟨hz1, hz2⟩ := hz1
      have HB := Lib.hid hB
      clear hB
      go_wp2_with fail
      go_round
      case rel => exact ⟨k + 1, _, by omega, by omega, by go_num, rfl, by have := HB.out; unfold Bnd; omega, hS.out.symm⟩
      case measure => simp [intOf]; omega
    · obtain rfl : k = 2 := by omega
      unfold Bnd at hB
      obtain ⟨_, _, _, hz1, hz2⟩ := hB
      go_wp2_with fail
      go_ret
      exact ⟨z, rfl, by unfold Hid; rw [hZ.out]; unfold numL; rw [hD.out]; rfl, by omega, by omega, below_drewN ((Below.refl _ _).alloc (Nat.le_refl _) _) _⟩
set_option maxHeartbeats 1000000 in
theorem number_3 (s : ByteArray) (w : World) (hn : 3 ≤ s.size) :
    Calls Tryd.prog 19 #[.string s, .int .i64 3] w fun e w' => ∃ c : Int, e = .returned (.int .i64 c) ∧ Hid (c = numL s.data.toList 3) ∧ -2147483648 ≤ c ∧ c ≤ 2147483647 ∧ Below w.heap.size w w' := by
  have h1 : 0 < s.size := by omega
  have hb := s[0].toNat_lt
  have hD : Hid (((s.data.toList.getD 0 0).toNat : Int) = s[0].toNat) := by unfold Hid; rw [getD0 s h1]
  go_enter Tryd.func19, Tryd.ntmps19
  go_wp2_with fail
  go_quiet (fail)
  go_wp2_with fail
  go_loop [6, 7] (fun c i => ∃ k : Nat, ∃ z : Int, 1 ≤ k ∧ k ≤ 3 ∧ i = .int .i64 k ∧ c = .int .i64 z ∧ Bnd k z ∧ Hid (z = acc ((s.data.toList.take k).drop 1) ((s[0].toNat : Int) - 224))) (fun _ i => 3 - (intOf i).toNat)
  case atStart => exact ⟨1, _, by omega, by omega, rfl, rfl, by unfold Bnd; omega, by unfold Hid; rw [List.drop_eq_nil_of_le (by rw [List.length_take]; omega)]; rfl⟩
  case round =>
    obtain ⟨k, z, hk1, hk2, rfl, rfl, hB, hZ⟩ := hrel
    by_cases hlt : k < 3
    · have hks : k < s.size := by omega
      have hbk := s[k].toNat_lt
      have hS : Hid (acc ((s.data.toList.take (k + 1)).drop 1) ((s[0].toNat : Int) - 224) = z * 64 + (s[k].toNat : Int) - 128) := by
        unfold Hid; rw [take_drop_snoc hk1 (by rw [size_eq]; exact hks), acc_snoc, ← hZ.out]; rfl
      unfold Bnd at hB
      have hz1 : -2000000 ≤ z ∧ z ≤ 2000000 := by omega
      obtain ⟨hz1, hz2⟩ := hz1
      have HB := Lib.hid hB
      clear hB
      go_wp2_with fail
      go_round
      case rel => exact ⟨k + 1, _, by omega, by omega, by go_num, rfl, by have := HB.out; unfold Bnd; omega, hS.out.symm⟩
      case measure => simp [intOf]; omega
    · obtain rfl : k = 3 := by omega
      unfold Bnd at hB
      obtain ⟨_, _, _, hz1, hz2⟩ := hB
      go_wp2_with fail
      go_ret
      exact ⟨z, rfl, by unfold Hid; rw [hZ.out]; unfold numL; rw [hD.out]; rfl, by omega, by omega, below_drewN ((Below.refl _ _).alloc (Nat.le_refl _) _) _⟩
set_option maxHeartbeats 1000000 in
theorem number_4 (s : ByteArray) (w : World) (hn : 4 ≤ s.size) :
    Calls Tryd.prog 19 #[.string s, .int .i64 4] w fun e w' => ∃ c : Int, e = .returned (.int .i64 c) ∧ Hid (c = numL s.data.toList 4) ∧ -2147483648 ≤ c ∧ c ≤ 2147483647 ∧ Below w.heap.size w w' := by
  have h1 : 0 < s.size := by omega
  have hb := s[0].toNat_lt
  have hD : Hid (((s.data.toList.getD 0 0).toNat : Int) = s[0].toNat) := by unfold Hid; rw [getD0 s h1]
  go_enter Tryd.func19, Tryd.ntmps19
  go_wp2_with fail
  go_quiet (fail)
  go_wp2_with fail
  go_loop [6, 7] (fun c i => ∃ k : Nat, ∃ z : Int, 1 ≤ k ∧ k ≤ 4 ∧ i = .int .i64 k ∧ c = .int .i64 z ∧ Bnd k z ∧ Hid (z = acc ((s.data.toList.take k).drop 1) ((s[0].toNat : Int) - 240))) (fun _ i => 4 - (intOf i).toNat)
  case atStart => exact ⟨1, _, by omega, by omega, rfl, rfl, by unfold Bnd; omega, by unfold Hid; rw [List.drop_eq_nil_of_le (by rw [List.length_take]; omega)]; rfl⟩
  case round =>
    obtain ⟨k, z, hk1, hk2, rfl, rfl, hB, hZ⟩ := hrel
    by_cases hlt : k < 4
    · have hks : k < s.size := by omega
      have hbk := s[k].toNat_lt
      have hS : Hid (acc ((s.data.toList.take (k + 1)).drop 1) ((s[0].toNat : Int) - 240) = z * 64 + (s[k].toNat : Int) - 128) := by
        unfold Hid; rw [take_drop_snoc hk1 (by rw [size_eq]; exact hks), acc_snoc, ← hZ.out]; rfl
      unfold Bnd at hB
      have hz1 : -2000000 ≤ z ∧ z ≤ 2000000 := by omega
      obtain ⟨hz1, hz2⟩ := hz1
      have HB := Lib.hid hB
      clear hB
      go_wp2_with fail
      go_round
      case rel => exact ⟨k + 1, _, by omega, by omega, by go_num, rfl, by have := HB.out; unfold Bnd; omega, hS.out.symm⟩
      case measure => simp [intOf]; omega
    · obtain rfl : k = 4 := by omega
      unfold Bnd at hB
      obtain ⟨_, _, _, hz1, hz2⟩ := hB
      go_wp2_with fail
      go_ret
      exact ⟨z, rfl, by unfold Hid; rw [hZ.out]; unfold numL; rw [hD.out]; rfl, by omega, by omega, below_drewN ((Below.refl _ _).alloc (Nat.le_refl _) _) _⟩
theorem number_any (s : ByteArray) (n : Nat) (w : World) (h1 : 1 ≤ n) (h4 : n ≤ 4) (hn : n ≤ s.size) :
    Calls Tryd.prog 19 #[.string s, .int .i64 n] w fun e w' => ∃ c : Int, e = .returned (.int .i64 c) ∧ Hid (c = numL s.data.toList n) ∧ -2147483648 ≤ c ∧ c ≤ 2147483647 ∧ Below w.heap.size w w' := by
  have : n = 1 ∨ n = 2 ∨ n = 3 ∨ n = 4 := by omega
  rcases this with rfl | rfl | rfl | rfl
  · refine (number_one s w hn).mono fun e w' ⟨he, hb⟩ => ⟨_, he, ?_, ?_, ?_, hb⟩
    · unfold Hid numL
      rw [List.drop_eq_nil_of_le (by rw [List.length_take]; omega), getD0 s hn]
      simp [acc, base]
    · omega
    · have := s[0].toNat_lt; omega
  · exact number_2 s w hn
  · exact number_3 s w hn
  · exact number_4 s w hn
end Go.Proofs
