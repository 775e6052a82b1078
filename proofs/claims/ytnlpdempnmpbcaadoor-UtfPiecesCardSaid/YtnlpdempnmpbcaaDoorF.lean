/- The walk of the law UtfPieces. -/
import Derived.Test.YtnlpdempnmpbcaaDoorE
import Derived.IntWalk
import Derived.Deep.RegionHeld3
namespace Go.Proofs
open Go.RowKit Go.Ut
theorem W_pos {l : List UInt8} (h : 0 < (W l).2) : ∃ c n, nxt l = some (c, n) := by
  cases hn : nxt l with
  | none => rw [W_none hn] at h; simp at h
  | some p => exact ⟨p.1, p.2, rfl⟩
theorem ext_end (s : ByteArray) (k : Nat) : (s.extract k s.size).data.toList = s.data.toList.drop k := by
  rw [Lib.extract_data, List.take_of_length_le]; rw [List.length_drop, size_eq]; exact Nat.le_refl _
theorem app_data (a b : ByteArray) : (a ++ b).data.toList = a.data.toList ++ b.data.toList := by
  rw [ByteArray.data_append, Array.toList_append]
theorem ba_ext {p q : ByteArray} (h : p.data.toList = q.data.toList) : p = q := ByteArray.ext (Array.ext' h)
/-- Of a text so far: j characters, k bytes. -/
def Far (l : List UInt8) (j k : Nat) : Prop := W l = (j + (W (l.drop k)).1, k + (W (l.drop k)).2)
theorem Far.zero (l : List UInt8) : Far l 0 0 := by unfold Far; rw [List.drop_zero, Nat.zero_add, Nat.zero_add]
theorem Far.step {l : List UInt8} {j k : Nat} (h : Far l j k) (hk : k < (W l).2) : ∃ c n, nxt (l.drop k) = some (c, n) ∧ 1 ≤ n ∧ k + n ≤ (W l).2 ∧ Far l (j + 1) (k + n) := by
  have h2 : (W l).2 = k + (W (l.drop k)).2 := by rw [h]
  obtain ⟨c, n, hn⟩ := W_pos (l := l.drop k) (by omega)
  have hw := W_some hn
  have hp := nxt_le hn
  rw [List.drop_drop] at hw
  refine ⟨c, n, hn, by omega, by rw [h2, hw]; simp only; omega, ?_⟩
  unfold Far at h ⊢
  rw [h, hw]
  apply Prod.ext <;> simp only <;> omega
theorem Far.done {l : List UInt8} {j k : Nat} (h : Far l j k) (hk : k = (W l).2) : (W l).1 = j := by
  have h1 := W_end _ l (Nat.le_refl _)
  rw [← hk] at h1
  rw [h, W_none h1]; rfl
theorem VA_app {a b : List UInt8} (h : (W a).2 = a.length) {n f : Nat} (hb : VA b n f) : ∃ p, VA (a ++ b) p f ∧ (f = 0 ∨ p = n + a.length) ∧ (f = 0 ∨ f = 10) ∧ p ≤ a.length + b.length := by
  have hw := W_append _ a b (Nat.le_refl _) h
  have hl := (W_le _ b (Nat.le_refl _)).1
  rcases hb with ⟨h1, rfl, rfl⟩ | ⟨h1, rfl, rfl⟩
  · exact ⟨a.length + (W b).2, .inl ⟨by rw [hw, List.length_append]; simp only; omega, by rw [hw], rfl⟩, .inr (by omega), .inr rfl, by omega⟩
  · exact ⟨0, .inr ⟨by rw [hw, List.length_append]; simp only; omega, rfl, rfl⟩, .inl rfl, .inl rfl, by omega⟩

set_option maxHeartbeats 3200000 in
/-- The law 'UtfPieces'. -/
theorem utfPieces_any (a b : ByteArray) (w : World) (hw : Tab w) (hs : a.size ≤ maxLen) (ht : b.size ≤ maxLen) :
    Calls Tryd.prog 6 #[.string a, .string b] w fun e w' => e = .returned (.bool true) ∧ Below w.heap.size w w' := by
  have hA := Lib.hid hs
  have hB := Lib.hid ht
  unfold maxLen at hs ht
  by_cases h : 300 < a.size
  · go_enter Tryd.func6, Tryd.ntmps6
    go_wp2_with fail
    refine (works_any _ hw).mono ?_
    rintro e w1 ⟨rfl, g1⟩
    go_wp2_with fail
    go_ret
    exact ⟨rfl, g1⟩
  by_cases h' : 300 < b.size
  · go_enter Tryd.func6, Tryd.ntmps6
    go_wp2_with fail
    refine (works_any _ hw).mono ?_
    rintro e w1 ⟨rfl, g1⟩
    go_wp2_with fail
    go_ret
    exact ⟨rfl, g1⟩
  have ha3 : a.size ≤ 300 := by omega
  have hb3 : b.size ≤ 300 := by omega
  clear h h'
  have hWle := (W_le _ a.data.toList (Nat.le_refl _)).1
  rw [size_eq] at hWle
  obtain ⟨E, hE⟩ : ∃ E, (W a.data.toList).2 = E := ⟨_, rfl⟩
  rw [hE] at hWle
  have HE := Lib.hid hE
  clear hE
  go_enter Tryd.func6, Tryd.ntmps6
  go_wp2_with fail
  refine (valid_any _ _ hw hA.out).mono ?_
  rintro e w1 ⟨n, f, rfl, hV, g1⟩
  have t1 := hw.below g1 hw.size
  rcases hV with ⟨hv1, rfl, rfl⟩ | ⟨hv1, rfl, rfl⟩
  · have hEl : Hid (E < a.size) := by unfold Hid; rw [HE.out, size_eq] at hv1; exact hv1
    rw [HE.out]
    clear hv1
    go_wp2_with fail
    go_loopw [8, 9, 10, 11, 12] (fun i x _ _ _ wr => ∃ k j : Nat, k ≤ E ∧ j ≤ k ∧ i = .int .i64 k ∧ x = .int .i64 j ∧ Hid (Far a.data.toList j k) ∧ Below w.heap.size w wr) (fun i _ _ _ _ _ => E - (intOf i).toNat)
    case atStart => exact ⟨0, 0, by omega, by omega, rfl, rfl, Far.zero _, g1⟩
    case round =>
      obtain ⟨k, j, hk, hjk, rfl, rfl, hF, gr⟩ := hrel
      have tr := hw.below gr hw.size
      by_cases hlt : k < E
      · obtain ⟨c, n, hn, hn1, hkn, hF2⟩ := hF.out.step (by rw [HE.out]; exact hlt)
        rw [HE.out] at hkn
        have hF3 := Lib.hid hF2
        have hN := Lib.hid (show NX (a.data.toList.drop k) c n 0 from .inl ⟨hn, rfl⟩)
        have hC := (nxt_some.1 hn).1
        have hP : Hid (putB c = a.extract k (k + n)) := by
          refine ba_ext ?_
          rw [← toList_eq' (a.extract k (k + n)), ext_take_drop, nxt_take hn, putB_yes hC]
        have hx := Lib.hid (ext_end a k)
        have hz : Hid ((a.extract k a.size).size ≤ 10000) := by unfold Hid; rw [ByteArray.size_extract]; omega
        clear hF2 hn hC
        go_wp2_with fail
        refine (next_at _ c n 0 _ tr hz.out (by rw [hx.out]; exact hN.out)).mono ?_
        rintro e w2 ⟨rfl, g2⟩
        replace g2 := gr.trans (g2.mono gr.size)
        have t2 := hw.below g2 hw.size
        clear gr tr
        go_wp2_with fail
        have hd1 : decide ((n : Int) < 1) = false := by simp; omega
        have hd2 : decide ((E : Int) - k < n) = false := by simp; omega
        have hsl : (k : Int) + n ≤ a.size := by omega
        have t3 : Tab w2.drew := t2
        have q1 := IntWalk.i64_in ((E : Int) - k) (by omega)
        have q2 := IntWalk.i64_in ((k : Int) + n) (by omega)
        have q3 : 0 ≤ (k : Int) + n := by omega
        have q4 : ((k : Int) + n).toNat = k + n := by omega
        have q5 : (k : Int) ≤ (k : Int) + n := by omega
        go_region_held3 (fun w' => Tab w' ∧ Below w.heap.size w w') (first | exact ⟨t2, g2⟩ | exact ⟨t2, g2.drew⟩ | exact ⟨hw.below (g2.drew.trans (hb3.mono g2.size)) hw.size, g2.drew.trans (hb3.mono g2.size)⟩ | go_keep) (first | (go_at_call 11; refine (put_any _ _ ?_).mono ?_; exact t3; rintro e w3 ⟨rfl, hb3⟩; rw [hP.out]))
        clear q1 q2 q3 q4 q5
        go_wp2_with fail
        go_roundw
        case rel => exact ⟨k + n, j + 1, by omega, by omega, by go_num, by go_num, hF3.out, g2.drew.trans (hb3.mono g2.size)⟩
        case measure => simp [intOf]; omega
      · obtain rfl : k = E := by omega
        have hj : Hid ((W a.data.toList).1 = j) := hF.out.done HE.out.symm
        go_wp2_with fail
        refine (count_at _ j _ tr (by omega) hj.out).mono ?_
        rintro e w2 ⟨rfl, g2⟩
        replace g2 := gr.trans (g2.mono gr.size)
        have t2 := hw.below g2 hw.size
        clear gr tr
        go_wp2_with fail
        have hN : Hid (NX (a.data.toList.drop k) 0 0 10) := by
          have h1 := W_end _ a.data.toList (Nat.le_refl _)
          rw [HE.out] at h1
          refine .inr ⟨h1, rfl, rfl, .inr ⟨fun h => ?_, rfl⟩⟩
          have := congrArg List.length h
          rw [List.length_drop, size_eq, List.length_nil] at this
          have := hEl.out; omega
        have hx := Lib.hid (ext_end a k)
        have hz : Hid ((a.extract k a.size).size ≤ 10000) := by unfold Hid; rw [ByteArray.size_extract]; omega
        refine (next_at _ 0 0 10 _ t2 hz.out (by rw [hx.out]; exact hN.out)).mono ?_
        rintro e w3 ⟨rfl, g3⟩
        replace g3 := g2.trans (g3.mono g2.size)
        have t3 := hw.below g3 hw.size
        clear g2 t2
        go_wp2_with fail
        refine (works_any _ t3).mono ?_
        rintro e w4 ⟨rfl, g4⟩
        go_wp2_with fail
        go_ret
        exact ⟨rfl, g3.trans (g4.mono g3.size)⟩
  · obtain rfl : E = a.size := by rw [HE.out, size_eq] at hv1; exact hv1
    have hV1 := Lib.hid hv1
    clear hv1
    go_wp2_with fail
    go_loopw [8, 9, 10, 11, 12] (fun i x _ _ _ wr => ∃ k j : Nat, k ≤ a.size ∧ j ≤ k ∧ i = .int .i64 k ∧ x = .int .i64 j ∧ Hid (Far a.data.toList j k) ∧ Below w.heap.size w wr) (fun i _ _ _ _ _ => a.size - (intOf i).toNat)
    case atStart => exact ⟨0, 0, by omega, by omega, rfl, rfl, Far.zero _, g1⟩
    case round =>
      obtain ⟨k, j, hk, hjk, rfl, rfl, hF, gr⟩ := hrel
      have tr := hw.below gr hw.size
      by_cases hlt : k < a.size
      · obtain ⟨c, n, hn, hn1, hkn, hF2⟩ := hF.out.step (by rw [HE.out]; exact hlt)
        rw [HE.out] at hkn
        have hF3 := Lib.hid hF2
        have hN := Lib.hid (show NX (a.data.toList.drop k) c n 0 from .inl ⟨hn, rfl⟩)
        have hC := (nxt_some.1 hn).1
        have hP : Hid (putB c = a.extract k (k + n)) := by
          refine ba_ext ?_
          rw [← toList_eq' (a.extract k (k + n)), ext_take_drop, nxt_take hn, putB_yes hC]
        have hx := Lib.hid (ext_end a k)
        have hz : Hid ((a.extract k a.size).size ≤ 10000) := by unfold Hid; rw [ByteArray.size_extract]; omega
        clear hF2 hn hC
        go_wp2_with fail
        refine (next_at _ c n 0 _ tr hz.out (by rw [hx.out]; exact hN.out)).mono ?_
        rintro e w2 ⟨rfl, g2⟩
        replace g2 := gr.trans (g2.mono gr.size)
        have t2 := hw.below g2 hw.size
        clear gr tr
        go_wp2_with fail
        have hd1 : decide ((n : Int) < 1) = false := by simp; omega
        have hd2 : decide ((a.size : Int) - k < n) = false := by simp; omega
        have hsl : (k : Int) + n ≤ a.size := by omega
        have t3 : Tab w2.drew := t2
        have q1 := IntWalk.i64_in ((a.size : Int) - k) (by omega)
        have q2 := IntWalk.i64_in ((k : Int) + n) (by omega)
        have q3 : 0 ≤ (k : Int) + n := by omega
        have q4 : ((k : Int) + n).toNat = k + n := by omega
        have q5 : (k : Int) ≤ (k : Int) + n := by omega
        go_region_held3 (fun w' => Tab w' ∧ Below w.heap.size w w') (first | exact ⟨t2, g2⟩ | exact ⟨t2, g2.drew⟩ | exact ⟨hw.below (g2.drew.trans (hb3.mono g2.size)) hw.size, g2.drew.trans (hb3.mono g2.size)⟩ | go_keep) (first | (go_at_call 11; refine (put_any _ _ ?_).mono ?_; exact t3; rintro e w3 ⟨rfl, hb3⟩; rw [hP.out]))
        clear q1 q2 q3 q4 q5
        go_wp2_with fail
        go_roundw
        case rel => exact ⟨k + n, j + 1, by omega, by omega, by go_num, by go_num, hF3.out, g2.drew.trans (hb3.mono g2.size)⟩
        case measure => simp [intOf]; omega
      · have hke : k = a.size := by omega
        subst hke
        have hj : Hid ((W a.data.toList).1 = j) := hF.out.done HE.out.symm
        go_wp2_with fail
        refine (count_at _ j _ tr (by omega) hj.out).mono ?_
        rintro e w2 ⟨rfl, g2⟩
        replace g2 := gr.trans (g2.mono gr.size)
        have t2 := hw.below g2 hw.size
        clear gr tr
        go_wp2_with fail
        have hz : Hid ((a ++ b).size ≤ maxLen) := by unfold Hid maxLen; rw [ByteArray.size_append]; omega
        have hap := Lib.hid (app_data a b)
        refine (valid_any _ _ t2 hz.out).mono ?_
        rintro e w3 ⟨pl, fp, rfl, hV, g3⟩
        rw [hap.out] at hV
        have hV := Lib.hid hV
        replace g3 := g2.trans (g3.mono g2.size)
        have t3 := hw.below g3 hw.size
        clear g2 t2
        go_wp2_with fail
        refine (valid_any _ _ t3 hB.out).mono ?_
        rintro e w4 ⟨ow, fo, rfl, hVo, g4⟩
        replace g4 := g3.trans (g4.mono g3.size)
        have t4 := hw.below g4 hw.size
        clear g3 t3
        have hcnt : Hid ((W (a ++ b).data.toList).1 = j + (W b.data.toList).1) := by
          unfold Hid; rw [hap.out, W_append _ _ _ (Nat.le_refl _) hV1.out, hj.out]
        have hWb := W_le _ b.data.toList (Nat.le_refl _)
        rw [size_eq] at hWb
        obtain ⟨C, hC⟩ : ∃ C, (W b.data.toList).1 = C := ⟨_, rfl⟩
        rw [hC] at hcnt
        have hCle : C ≤ b.size := by omega
        have hCB := Lib.hid hC
        clear hC hWb
        obtain ⟨p', hVp, hp1, hp2, hp3⟩ := VA_app hV1.out hVo
        obtain ⟨rfl, rfl⟩ := VA.fn hVp hV.out
        rw [size_eq] at hp1 hp3
        rw [size_eq] at hp3
        clear hVp hVo
        have hz2 : Hid ((a ++ b).size ≤ 10000) := by unfold Hid; rw [ByteArray.size_append]; omega
        rcases hp2 with rfl | rfl
        · clear hp1 hp3
          go_wp2_with fail
          refine (count_at _ (j + C) _ t4 hz2.out hcnt.out).mono ?_
          rintro e w5 ⟨rfl, g5⟩
          replace g5 := g4.trans (g5.mono g4.size)
          have t5 := hw.below g5 hw.size
          clear g4 t4
          go_wp2_with fail
          refine (count_at _ C _ t5 (by omega) hCB.out).mono ?_
          rintro e w6 ⟨rfl, g6⟩
          replace g6 := g5.trans (g6.mono g5.size)
          have t6 := hw.below g6 hw.size
          clear g5 t5
          go_wp2_with fail
          refine (works_any _ t6).mono ?_
          rintro e w7 ⟨rfl, g7⟩
          go_wp2_with fail
          go_ret
          exact ⟨rfl, g6.trans (g7.mono g6.size)⟩
        · have hpe : p' = ow + a.size := by omega
          have hob : ow ≤ b.size := by omega
          clear hp1 hp3
          have hpe2 : ((p' : Int) == (ow : Int) + a.size) = true := by simp; omega
          clear hpe
          go_wp2_with fail
          refine (count_at _ (j + C) _ t4 hz2.out hcnt.out).mono ?_
          rintro e w5 ⟨rfl, g5⟩
          replace g5 := g4.trans (g5.mono g4.size)
          have t5 := hw.below g5 hw.size
          clear g4 t4
          go_wp2_with fail
          refine (count_at _ C _ t5 (by omega) hCB.out).mono ?_
          rintro e w6 ⟨rfl, g6⟩
          replace g6 := g5.trans (g6.mono g5.size)
          have t6 := hw.below g6 hw.size
          clear g5 t5
          go_wp2_with fail
          refine (works_any _ t6).mono ?_
          rintro e w7 ⟨rfl, g7⟩
          go_wp2_with fail
          go_ret
          exact ⟨rfl, g6.trans (g7.mono g6.size)⟩
end Go.Proofs
