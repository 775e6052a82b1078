/- Walks of the document's Next, Valid and Count. -/
import Derived.Test.YtnlpdempnmpbcaaDoorC
namespace Go.Proofs
open Go.RowKit Go.Ut

/-- No number of bytes below k is a character's. -/
def NoWk (l : List UInt8) (k : Nat) : Prop := ∀ j, 1 ≤ j → j < k → ¬ wk l j
theorem NoWk.one (l : List UInt8) : NoWk l 1 := fun j a b => by omega
theorem NoWk.step {l : List UInt8} {k : Nat} (h : NoWk l k) (hk : ¬ wk l k) : NoWk l (k + 1) := fun j a b => by
  rcases Nat.lt_or_ge j k with c | c
  · exact h j a c
  · obtain rfl : j = k := by omega
    exact hk
theorem NoWk.none {l : List UInt8} {k : Nat} (h : NoWk l k) (hk : 5 ≤ k ∨ l.length < k) : nxt l = none := by
  cases hn : nxt l with
  | none => rfl
  | some p =>
    obtain ⟨c, n⟩ := p
    have h1 := nxt_le hn
    have h2 := nxt_wk hn
    have h3 := nxt_some.1 hn
    have h4 := encL_le c
    exact absurd h2.1 (h n (by omega) (by have := h3.2.2; omega))

theorem ris_no (c : Int) (w : World) (h : isC c = false) : Calls Tryd.prog 13 #[.int .i64 c] w fun e w' => e = .returned (.bool false) ∧ w' = w :=
  (ris_any c w).mono fun _ _ ⟨he, hw⟩ => ⟨by rw [he, h], hw.symm⟩

set_option maxHeartbeats 1000000 in
theorem rnext_any (s : ByteArray) (w : World) (_hs : s.size ≤ maxLen) :
    Calls Tryd.prog 10 #[.string s] w (RetN .i64 (NX s.data.toList) w) := by
  by_cases h0 : s.size = 0
  · have hl : s.data.toList = [] := List.length_eq_zero_iff.1 (by rw [size_eq]; exact h0)
    have hN : Hid (NX s.data.toList 0 0 0) := .inr ⟨by rw [hl]; exact nxt_nil, rfl, rfl, .inl ⟨hl, rfl⟩⟩
    have hb0 : s.toList = [] := by rw [toList_eq', hl]
    clear hl h0
    go_enter Tryd.func10, Tryd.ntmps10
    go_wp2_with fail
    go_ret3
    exact ⟨0, 0, 0, rfl, hN.out, Below.refl _ _⟩
  · have hl : s.data.toList ≠ [] := fun h => h0 (by rw [← size_eq, h]; rfl)
    have hb0 : s.toList.isEmpty = false := by rw [toList_eq']; simpa using hl
    have HL := Lib.hid hl
    clear hl
    go_enter Tryd.func10, Tryd.ntmps10
    go_wp2_with fail
    go_loopw [5] (fun i wr => ∃ k : Nat, 1 ≤ k ∧ k ≤ 5 ∧ i = .int .i64 k ∧ Hid (NoWk s.data.toList k) ∧ Below w.heap.size w wr) (fun i _ => 5 - (intOf i).toNat)
    case atStart => exact ⟨1, by omega, by omega, rfl, NoWk.one _, Below.refl _ _⟩
    case round =>
      obtain ⟨k, hk1, hk5, rfl, hNo, hb⟩ := hrel
      by_cases hk4 : 4 < k
      · have hN : Hid (NX s.data.toList 0 0 10) := .inr ⟨hNo.out.none (.inl (by omega)), rfl, rfl, .inr ⟨HL.out, rfl⟩⟩
        have hd : decide ((k : Int) ≤ 4) = false := by simp; omega
        go_wp2_with fail
        go_ret3
        exact ⟨0, 0, 10, rfl, hN.out, hb⟩
      by_cases hks : s.size < k
      · have hN : Hid (NX s.data.toList 0 0 10) := .inr ⟨hNo.out.none (.inr (by rw [size_eq]; exact hks)), rfl, rfl, .inr ⟨HL.out, rfl⟩⟩
        have hd : decide ((k : Int) ≤ 4) = true := by simp; omega
        go_wp2_with fail
        go_ret3
        exact ⟨0, 0, 10, rfl, hN.out, hb⟩
      have hk4' : (k : Int) ≤ 4 := by omega
      have hks' : (k : Int) ≤ s.size := by omega
      have h44 : k ≤ 4 := by omega
      have hss : k ≤ s.size := by omega
      clear hk4 hks h0
      go_wp2_with fail
      refine (number_any s k _ hk1 h44 hss).mono ?_
      rintro e w1 ⟨c, rfl, hc, hc1, hc2, hb1⟩
      have hb2 := hb.trans (hb1.mono hb.size)
      clear hb1 hb
      go_wp2_with fail
      by_cases hC : IsC c
      · have hP : Hid (putB c = ⟨(encL c.toNat).toArray⟩) := by unfold Hid putB; rw [if_pos hC]
        have hI : Hid (isC c = true) := decide_eq_true hC
        have hL := Lib.hid (toList_mk (encL c.toNat))
        have hX := Lib.hid (ext_take_drop s 0 k)
        rw [Nat.zero_add, List.drop_zero] at hX
        have hq : Hid (((putB c).toList == (s.extract 0 k).toList) = true ↔ wk s.data.toList k) := by
          unfold Hid wk
          rw [hX.out, hP.out, hL.out, beq_iff_eq, ← hc.out]
          exact ⟨fun h => ⟨hC, h⟩, fun h => h.2⟩
        have h0c : 0 ≤ c := by unfold IsC at hC; omega
        clear hC
        go_region_with (first | (go_at_call 13; refine (ris_any _ _).mono ?_; rintro e w' ⟨rfl, rfl⟩; rw [hI.out]) | (go_at_call 12; refine (rput_any _ _ ⟨hc1, hc2⟩).mono ?_; rintro e w3 ⟨rfl, hb3⟩))
        go_wp2_with fail
        · have hh : ((putB c).toList == (s.extract 0 k).toList) = true := by assumption
          have hN : Hid (NX s.data.toList c.toNat k 0) := .inl ⟨by rw [hc.out]; exact wk_nxt (by rw [size_eq]; exact hss) (hq.out.1 hh), rfl⟩
          have hcc : c = (c.toNat : Int) := by omega
          go_ret3
          exact ⟨c.toNat, k, 0, by rw [← hcc]; rfl, hN.out, hb2.drew.trans (hb3.mono hb2.size)⟩
        · have hh : ((putB c).toList == (s.extract 0 k).toList) = false := by assumption
          go_roundw
          case rel => exact ⟨k + 1, by omega, by omega, by go_num, hNo.out.step (fun hw => by rw [hq.out.2 hw] at hh; cases hh), hb2.drew.trans (hb3.mono hb2.size)⟩
          case measure => simp [intOf]; omega
      · have hI : Hid (isC c = false) := decide_eq_false hC
        have hw : Hid (¬ wk s.data.toList k) := fun h => hC (by rw [hc.out]; exact h.1)
        clear hC
        go_quiet ((go_at_call 13; exact Calls.quiet_of_same (ris_no _ _ hI.out)))
        go_wp2_with fail
        go_roundw
        case rel => exact ⟨k + 1, by omega, by omega, by go_num, hNo.out.step hw.out, below_drewN hb2 _⟩
        case measure => simp [intOf]; omega

/-- The document's 'Valid'. -/
theorem rvalid_any (s : ByteArray) (w : World) (hs : s.size ≤ maxLen) :
    Calls Tryd.prog 15 #[.string s] w (RetV (VA s.data.toList) w) := by
  unfold maxLen at hs
  go_enter Tryd.func15, Tryd.ntmps15
  go_wp2_with fail
  go_loopw [4] (fun i wr => ∃ k : Nat, k ≤ s.size ∧ i = .int .i64 k ∧ Hid ((W s.data.toList).2 = k + (W (s.data.toList.drop k)).2) ∧ Below w.heap.size w wr) (fun i _ => s.size - (intOf i).toNat)
  case atStart => exact ⟨0, by omega, rfl, by unfold Hid; rw [List.drop_zero, Nat.zero_add], Below.refl _ _⟩
  case round =>
    obtain ⟨k, hk, rfl, hW, hb⟩ := hrel
    by_cases hlt : k < s.size
    · have hx : Hid ((s.extract k s.size).data.toList = s.data.toList.drop k) := by
        unfold Hid; rw [Lib.extract_data, List.take_of_length_le]; rw [List.length_drop, size_eq]; exact Nat.le_refl _
      have hz : Hid ((s.extract k s.size).size ≤ maxLen) := by unfold Hid maxLen; rw [ByteArray.size_extract]; omega
      go_wp2_with fail
      refine (rnext_any _ _ hz.out).mono ?_
      rintro e w1 ⟨c, n, f, rfl, hN, hb1⟩
      rw [hx.out] at hN
      have hN := Lib.hid hN
      have hb2 := hb.trans (hb1.mono hb.size)
      clear hb1 hb
      rcases hN.out with ⟨h1, rfl⟩ | ⟨h1, rfl, rfl, h2⟩
      · have hn := nxt_le h1
        rw [List.length_drop, size_eq] at hn
        have hWs := Lib.hid (W_some h1)
        clear h1
        go_wp2_with fail
        go_roundw
        case rel => exact ⟨k + n, by omega, by go_num, by unfold Hid; rw [hW.out, hWs.out, List.drop_drop]; simp only; omega, hb2⟩
        case measure => simp [intOf]; omega
      · have h3 : f = 10 := by
          rcases h2 with ⟨h2, _⟩ | ⟨_, h2⟩
          · have := congrArg List.length h2; rw [List.length_drop, size_eq, List.length_nil] at this; omega
          · exact h2
        have hWs := Lib.hid (W_none h1)
        clear h1 h2
        subst h3
        go_wp2_with fail
        go_ret2
        exact ⟨k, 10, rfl, .inl ⟨by rw [hW.out, hWs.out, size_eq]; exact hlt, by rw [hW.out, hWs.out]; rfl, rfl⟩, hb2⟩
    · have hW2 : Hid ((W s.data.toList).2 = s.data.toList.length) := by
        unfold Hid; rw [hW.out, List.drop_eq_nil_of_le (by rw [size_eq]; omega), W_none nxt_nil, size_eq]; simp only; omega
      go_wp2_with fail
      go_ret2
      exact ⟨0, 0, rfl, .inr ⟨hW2.out, rfl, rfl⟩, hb⟩

/-- The document's 'Count'. -/
theorem rcount_any (s : ByteArray) (w : World) (hs : s.size ≤ maxLen) :
    Calls Tryd.prog 17 #[.string s] w (RetC (fun n => n = (W s.data.toList).1) w) := by
  unfold maxLen at hs
  go_enter Tryd.func17, Tryd.ntmps17
  go_wp2_with fail
  go_loopw [0, 3] (fun v i wr => ∃ (t : ByteArray) (k : Nat), t.size + k ≤ s.size ∧ v = .string t ∧ i = .int .i64 k ∧ Hid ((W s.data.toList).1 = k + (W t.data.toList).1) ∧ Below w.heap.size w wr) (fun v _ _ => match v with | .string t => t.size | _ => 0)
  case atStart => exact ⟨s, 0, by omega, rfl, rfl, by unfold Hid; rw [Nat.zero_add], Below.refl _ _⟩
  case round =>
    obtain ⟨t, k, hk, rfl, rfl, hW, hb⟩ := hrel
    by_cases hlt : 0 < t.size
    · have hz : Hid (t.size ≤ maxLen) := by unfold Hid maxLen; omega
      have he : t.toList.isEmpty = false := by
        rw [toList_eq']; cases hh : t.data.toList with
        | nil => have := size_eq t; rw [hh] at this; simp at this; omega
        | cons _ _ => rfl
      go_wp2_with fail
      refine (rnext_any _ _ hz.out).mono ?_
      rintro e w1 ⟨c, n, f, rfl, hN, hb1⟩
      have hN := Lib.hid hN
      have hb2 := hb.trans (hb1.mono hb.size)
      clear hb1 hb
      rcases hN.out with ⟨h1, rfl⟩ | ⟨h1, rfl, rfl, h2⟩
      · have hn := nxt_le h1
        rw [size_eq] at hn
        have hWs := Lib.hid (W_some h1)
        have hx : Hid ((t.extract n t.size).data.toList = t.data.toList.drop n) := by
          unfold Hid; rw [Lib.extract_data, List.take_of_length_le]; rw [List.length_drop, size_eq]; exact Nat.le_refl _
        have hxs : Hid ((t.extract n t.size).size = t.size - n) := by unfold Hid; rw [ByteArray.size_extract]; omega
        clear h1
        go_wp2_with fail
        go_roundw
        case rel => exact ⟨_, k + 1, by rw [hxs.out]; omega, rfl, by go_num, by unfold Hid; rw [hW.out, hWs.out, hx.out]; simp only; omega, hb2⟩
        case measure => show (t.extract n t.size).size < t.size; rw [hxs.out]; omega
      · have h3 : f = 10 := by
          rcases h2 with ⟨h2, _⟩ | ⟨_, h2⟩
          · have := congrArg List.length h2; rw [size_eq, List.length_nil] at this; omega
          · exact h2
        have hWs := Lib.hid (W_none h1)
        clear h1 h2
        subst h3
        go_wp2_with fail
        go_ret
        exact ⟨k, rfl, by rw [hW.out, hWs.out]; rfl, hb2⟩
    · have hl : t.data.toList = [] := List.length_eq_zero_iff.1 (by rw [size_eq]; omega)
      have he : t.toList = [] := by rw [toList_eq', hl]
      have hW2 : Hid ((W s.data.toList).1 = k) := by unfold Hid; rw [hW.out, hl, W_none nxt_nil]; rfl
      clear hl
      go_wp2_with fail
      go_ret
      exact ⟨k, rfl, hW2.out.symm, hb⟩
end Go.Proofs
