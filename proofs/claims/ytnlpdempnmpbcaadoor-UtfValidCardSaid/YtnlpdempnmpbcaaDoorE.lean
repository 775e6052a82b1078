/- Walks of 'works' and of the laws UtfNext, UtfPut, UtfValid. -/
import Derived.Test.YtnlpdempnmpbcaaDoorD
import Derived.Laws.IdiomStrings
namespace Go.Proofs
open Go.RowKit Go.Ut
theorem next_at (s : ByteArray) (c n f : Nat) (w : World) (hw : Tab w) (hs : s.size ≤ 10000) (h : NX s.data.toList c n f) :
    Calls Tryd.prog 9 #[.string s] w fun e w' => e = .returned (.tuple #[.int .i32 c, .int .i64 n, .int .i64 f]) ∧ Below w.heap.size w w' :=
  (next_any s w hw (by unfold maxLen; omega)).mono fun _ _ ⟨c', n', f', he, hN, hb⟩ => by
    obtain ⟨rfl, rfl, rfl⟩ := hN.fn h
    exact ⟨he, hb⟩
theorem valid_at (s : ByteArray) (n f : Nat) (w : World) (hw : Tab w) (hs : s.size ≤ 10000) (h : VA s.data.toList n f) :
    Calls Tryd.prog 14 #[.string s] w fun e w' => e = .returned (.tuple #[.int .i64 n, .int .i64 f]) ∧ Below w.heap.size w w' :=
  (valid_any s w hw (by unfold maxLen; omega)).mono fun _ _ ⟨n', f', he, hN, hb⟩ => by
    obtain ⟨rfl, rfl⟩ := VA.fn hN h
    exact ⟨he, hb⟩
theorem count_at (s : ByteArray) (n : Nat) (w : World) (hw : Tab w) (hs : s.size ≤ 10000) (h : (W s.data.toList).1 = n) :
    Calls Tryd.prog 16 #[.string s] w fun e w' => e = .returned (.int .i64 n) ∧ Below w.heap.size w w' :=
  (count_any s w hw (by unfold maxLen; omega)).mono fun _ _ ⟨n', he, hN, hb⟩ => by
    subst hN; rw [h] at he
    exact ⟨he, hb⟩
theorem put_at (c : Int) (l : List UInt8) (w : World) (hw : Tab w) (h : putB c = ⟨l.toArray⟩) :
    Calls Tryd.prog 11 #[.int .i32 c] w fun e w' => e = .returned (.string ⟨l.toArray⟩) ∧ Below w.heap.size w w' :=
  (put_any c w hw).mono fun _ _ ⟨he, hb⟩ => by
    rw [h] at he
    exact ⟨he, hb⟩

theorem works_any (w : World) (hw : Tab w) : Calls Tryd.prog 8 #[] w fun e w' => e = .returned (.bool true) ∧ Below w.heap.size w w' := by
  go_enter Tryd.func8, Tryd.ntmps8
  go_wp2_with fail
  refine (next_at _ 8364 3 0 _ hw (by decide) (.inl ⟨by decide +kernel, rfl⟩)).mono ?_
  rintro e w1 ⟨rfl, g1⟩
  have t1 := hw.below g1 hw.size
  go_wp2_with fail
  refine (next_at _ 0 0 10 _ t1 (by decide) (.inr ⟨by decide +kernel, rfl, rfl, .inr ⟨by decide, rfl⟩⟩)).mono ?_
  rintro e w2 ⟨rfl, g2⟩
  replace g2 := g1.trans (g2.mono g1.size)
  have t2 := hw.below g2 hw.size
  clear g1 t1
  go_wp2_with fail
  refine (next_at _ 0 0 10 _ t2 (by decide) (.inr ⟨by decide +kernel, rfl, rfl, .inr ⟨by decide, rfl⟩⟩)).mono ?_
  rintro e w3 ⟨rfl, g3⟩
  replace g3 := g2.trans (g3.mono g2.size)
  have t3 := hw.below g3 hw.size
  clear g2 t2
  go_wp2_with fail
  refine (valid_at _ 2 10 _ t3 (by decide) (.inl ⟨by decide +kernel, by decide +kernel, rfl⟩)).mono ?_
  rintro e w4 ⟨rfl, g4⟩
  replace g4 := g3.trans (g4.mono g3.size)
  have t4 := hw.below g4 hw.size
  clear g3 t3
  go_wp2_with fail
  refine (put_at _ [244, 143, 191, 191] _ t4 (by decide +kernel)).mono ?_
  rintro e w5 ⟨rfl, g5⟩
  replace g5 := g4.trans (g5.mono g4.size)
  have t5 := hw.below g5 hw.size
  clear g4 t4
  go_wp2_with fail
  refine (put_at _ [] _ t5 (by decide +kernel)).mono ?_
  rintro e w6 ⟨rfl, g6⟩
  replace g6 := g5.trans (g6.mono g5.size)
  have t6 := hw.below g6 hw.size
  clear g5 t5
  go_wp2_with fail
  refine (put_at _ [] _ t6 (by decide +kernel)).mono ?_
  rintro e w7 ⟨rfl, g7⟩
  replace g7 := g6.trans (g7.mono g6.size)
  have t7 := hw.below g7 hw.size
  clear g6 t6
  go_wp2_with fail
  refine (count_at _ 2 _ t7 (by decide) (by decide +kernel)).mono ?_
  rintro e w8 ⟨rfl, g8⟩
  replace g8 := g7.trans (g8.mono g7.size)
  clear g7 t7
  go_wp2_with fail
  go_ret
  exact ⟨rfl, g8⟩

/-- The law 'UtfNext'. -/
theorem utfNext_any (s : ByteArray) (w : World) (hw : Tab w) (hs : s.size ≤ maxLen) :
    Calls Tryd.prog 3 #[.string s] w fun e w' => e = .returned (.bool true) ∧ Below w.heap.size w w' := by
  have hS := Lib.hid hs
  unfold maxLen at hs
  by_cases h : 300 < s.size
  · go_enter Tryd.func3, Tryd.ntmps3
    go_wp2_with fail
    refine (works_any _ hw).mono ?_
    rintro e w1 ⟨rfl, g1⟩
    go_wp2_with fail
    go_ret
    exact ⟨rfl, g1⟩
  · go_enter Tryd.func3, Tryd.ntmps3
    go_wp2_with fail
    refine (next_any _ _ hw hS.out).mono ?_
    rintro e w1 ⟨c, n, f, rfl, hN, g1⟩
    go_wp2_with fail
    refine (rnext_any _ _ hS.out).mono ?_
    rintro e w2 ⟨c', n', f', rfl, hN', g2⟩
    obtain ⟨rfl, rfl, rfl⟩ := hN.fn hN'
    have hbd := hN.bd.1
    replace g2 := g1.trans (g2.mono g1.size)
    have t2 := hw.below g2 hw.size
    clear hN hN' g1
    go_wp2_with fail
    refine (works_any _ t2).mono ?_
    rintro e w3 ⟨rfl, g3⟩
    go_wp2_with fail
    go_ret
    exact ⟨rfl, g2.trans (g3.mono g2.size)⟩

/-- The law 'UtfValid'. -/
theorem utfValid_any (s : ByteArray) (w : World) (hw : Tab w) (hs : s.size ≤ maxLen) :
    Calls Tryd.prog 5 #[.string s] w fun e w' => e = .returned (.bool true) ∧ Below w.heap.size w w' := by
  have hS := Lib.hid hs
  unfold maxLen at hs
  by_cases h : 600 < s.size
  · go_enter Tryd.func5, Tryd.ntmps5
    go_wp2_with fail
    refine (works_any _ hw).mono ?_
    rintro e w1 ⟨rfl, g1⟩
    go_wp2_with fail
    go_ret
    exact ⟨rfl, g1⟩
  · go_enter Tryd.func5, Tryd.ntmps5
    go_wp2_with fail
    refine (valid_any _ _ hw hS.out).mono ?_
    rintro e w1 ⟨n, f, rfl, hN, g1⟩
    go_wp2_with fail
    refine (rvalid_any _ _ hS.out).mono ?_
    rintro e w2 ⟨n', f', rfl, hN', g2⟩
    obtain ⟨rfl, rfl⟩ := VA.fn hN hN'
    replace g2 := g1.trans (g2.mono g1.size)
    have t2 := hw.below g2 hw.size
    clear hN hN' g1
    go_wp2_with fail
    refine (count_any _ _ t2 hS.out).mono ?_
    rintro e w3 ⟨k, rfl, hk, g3⟩
    replace g3 := g2.trans (g3.mono g2.size)
    clear g2 t2
    have hK := Lib.hid hk
    clear hk
    go_wp2_with fail
    refine (rcount_any _ _ hS.out).mono ?_
    rintro e w4 ⟨k', rfl, hk, g4⟩
    replace g4 := g3.trans (g4.mono g3.size)
    have t4 := hw.below g4 hw.size
    clear g3
    obtain rfl : k = k' := by rw [hK.out, hk]
    clear hk hK
    go_wp2_with fail
    refine (works_any _ t4).mono ?_
    rintro e w5 ⟨rfl, g5⟩
    go_wp2_with fail
    go_ret
    exact ⟨rfl, g4.trans (g5.mono g4.size)⟩

theorem nxt_put (c : Nat) (h : IsC c) (t : List UInt8) : NX (encL c ++ t) c (encL c).length 0 := .inl ⟨nxt_some.2 ⟨h, List.prefix_append _ _, rfl⟩, rfl⟩

/-- The law 'UtfPut'. -/
theorem utfPut_any (c : Int) (s : ByteArray) (w : World) (hw : Tab w) (hc : -2147483648 ≤ c ∧ c ≤ 2147483647) (hs : s.size ≤ maxLen) :
    Calls Tryd.prog 4 #[.int .i32 c, .string s] w fun e w' => e = .returned (.bool true) ∧ Below w.heap.size w w' := by
  obtain ⟨hc1, hc2⟩ := hc
  unfold maxLen at hs
  by_cases h : 100 < s.size
  · go_enter Tryd.func4, Tryd.ntmps4
    go_wp2_with fail
    refine (works_any _ hw).mono ?_
    rintro e w1 ⟨rfl, g1⟩
    go_wp2_with fail
    go_ret
    exact ⟨rfl, g1⟩
  · by_cases hC : IsC c
    · have h0 : 0 ≤ c := by unfold IsC at hC; omega
      obtain ⟨n, rfl⟩ := Int.eq_ofNat_of_zero_le h0
      have hI : Hid (isC (n : Int) = true) := decide_eq_true hC
      have hP := Lib.hid (putB_yes hC)
      have hL := Lib.hid (toList_mk (encL n))
      have hz := Lib.hid (size_mk (encL n))
      have hle := encL_le n
      have hpo := encL_pos n
      have hNX := Lib.hid (nxt_put n hC s.data.toList)
      have hne : (putB n).toList.isEmpty = false := by
        rw [hP.out, hL.out]; cases hh : encL n with
        | nil => rw [hh] at hpo; simp at hpo
        | cons _ _ => rfl
      have hsz : (putB n).size ≤ 4 := by rw [hP.out, hz.out]; exact hle
      have hsn : Hid ((putB n).size = (encL n).length) := by unfold Hid; rw [hP.out, hz.out]
      have hda : Hid ((putB n ++ s).data.toList = encL n ++ s.data.toList) := by unfold Hid; rw [ByteArray.data_append, Array.toList_append, hP.out]
      clear hC
      go_enter Tryd.func4, Tryd.ntmps4
      go_wp2_with fail
      refine (put_any _ _ hw).mono ?_
      rintro e w1 ⟨rfl, g1⟩
      go_wp2_with fail
      refine (rput_any _ _ ⟨hc1, hc2⟩).mono ?_
      rintro e w2 ⟨rfl, g2⟩
      replace g2 := g1.trans (g2.mono g1.size)
      have t2 := hw.below g2 hw.size
      clear g1
      go_wp2_with fail
      refine (ris_any _ _).mono ?_
      rintro e w3 ⟨rfl, rfl⟩
      rw [hI.out]
      go_wp2_with fail
      refine (next_at _ n (encL n).length 0 _ t2 (by rw [ByteArray.size_append]; omega) (by rw [hda.out]; exact hNX.out)).mono ?_
      rintro e w3 ⟨rfl, g3⟩
      replace g3 := g2.trans (g3.mono g2.size)
      have t3 := hw.below g3 hw.size
      clear g2 t2
      rw [← hsn.out]
      go_wp2_with fail
      refine (works_any _ t3).mono ?_
      rintro e w4 ⟨rfl, g4⟩
      go_wp2_with fail
      go_ret
      exact ⟨rfl, g3.trans (g4.mono g3.size)⟩
    · have hI : Hid (isC c = false) := decide_eq_false hC
      have hP : Hid (putB c = ⟨#[]⟩) := by unfold Hid putB; rw [if_neg hC]
      clear hC
      go_enter Tryd.func4, Tryd.ntmps4
      go_wp2_with fail
      refine (put_any _ _ hw).mono ?_
      rintro e w1 ⟨rfl, g1⟩
      rw [hP.out]
      go_wp2_with fail
      refine (rput_any _ _ ⟨hc1, hc2⟩).mono ?_
      rintro e w2 ⟨rfl, g2⟩
      replace g2 := g1.trans (g2.mono g1.size)
      have t2 := hw.below g2 hw.size
      clear g1
      rw [hP.out]
      go_wp2_with fail
      refine (ris_any _ _).mono ?_
      rintro e w3 ⟨rfl, rfl⟩
      rw [hI.out]
      go_wp2_with fail
      refine (works_any _ t2).mono ?_
      rintro e w3 ⟨rfl, g3⟩
      go_wp2_with fail
      go_ret
      exact ⟨rfl, g2.trans (g3.mono g2.size)⟩
end Go.Proofs
