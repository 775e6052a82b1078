/- Walks of the document's longest, Tokens, Is. -/
import Derived.Test.YtblccelfkffggaaDoorLexD
namespace Go.Proofs
open Go.RowKit Go.Lx

/-- 'longest'. -/
theorem longest_any (s : ByteArray) (a : Nat) (w : World) (hs : s.size ≤ 100000) (ha : a ≤ s.size) :
    Calls Tryd.prog 19 #[.string s, .int .i64 a] w fun e w' => e = .returned (.int .i64 (lng (s.data.toList.drop a) : Nat)) ∧ Below w.heap.size w w' := by
  obtain ⟨r, hr⟩ : ∃ r, r = lng (s.data.toList.drop a) := ⟨_, rfl⟩
  rw [← hr]
  have hL : (s.data.toList.drop a).length = s.size - a := by rw [List.length_drop, size_eq]
  have HR : Hid (r = lngF (s.size - a) 1 0 (s.data.toList.drop a)) := by unfold Hid; rw [hr]; unfold lng; rw [hL]
  clear hr hL
  go_enter Tryd.func19, Tryd.ntmps19
  go_wp2_with fail
  go_loopw [5, 6] (fun n i wr => ∃ k nn m : Nat, 1 ≤ k ∧ k + m = s.size - a + 1 ∧ nn ≤ s.size ∧ n = .int .i64 nn ∧ i = .int .i64 k ∧ Hid (r = lngF m k nn (s.data.toList.drop a)) ∧ Below w.heap.size w wr) (fun _ i _ => s.size + 1 - (intOf i).toNat)
  case atStart => exact ⟨1, 0, s.size - a, by omega, by omega, by omega, rfl, rfl, HR.out, Below.refl _ _⟩
  case round =>
    obtain ⟨k, n, m, hk1, hkm, hn, rfl, rfl, hS, hb⟩ := hrel
    by_cases hend : m = 0
    · subst hend
      have hx : Hid (r = n) := hS.out
      have hcond : (s.size : Int) < a + k := by omega
      have hku : (a : Int) + k ≤ 100001 := by omega
      clear hkm
      go_wp2_with fail
      go_ret
      exact ⟨ret_int (by rw [hx.out]), hb⟩
    · obtain ⟨m, rfl⟩ : ∃ m', m = m' + 1 := ⟨m - 1, by omega⟩
      have hks : (a : Int) + k ≤ s.size := by omega
      have hkn : a + k ≤ s.size := by omega
      by_cases hc : k < 3 ∨ n = k - 1
      · have hx : Hid (r = lngF m (k + 1) (if whole ((s.data.toList.drop a).take k) = 0 then n else k) (s.data.toList.drop a)) := by
          have := hS.out
          simp only [lngF] at this
          rw [if_pos hc] at this; exact this
        have hq := Lib.hid (ext_mid s a k)
        have hz : Hid ((s.extract a (a + k)).size ≤ maxLen) := by unfold Hid maxLen; rw [ByteArray.size_extract]; omega
        obtain ⟨v, hv⟩ : ∃ v, v = whole ((s.data.toList.drop a).take k) := ⟨_, rfl⟩
        rw [← hv] at hx
        have HV := Lib.hid hv
        have hkm' : k + 1 + m = s.size - a + 1 := by omega
        have HKM := Lib.hid hkm'
        clear hv hkm hkm' hS
        have hfin : ∀ w2, Below w.heap.size w w2 → Calls Tryd.prog 20 #[.string (s.extract a (a + k))] w2 fun e w' => e = .returned (.int .u8 (v : Nat)) ∧ Below w.heap.size w w' := fun w2 hb2 =>
          (whole_any _ _ hz.out).mono fun e w' ⟨he, hb3⟩ => ⟨by rw [he, hq.out, ← HV.out], hb2.trans (hb3.mono hb2.size)⟩
        have HF := Lib.hid hfin
        clear hfin
        by_cases hk3 : k < 3
        · clear hc
          go_wp2_with fail
          refine (HF.out _ hb).mono ?_
          rintro e w2 ⟨rfl, hb2⟩
          by_cases h0 : v = 0
          · have hx2 : Hid (r = lngF m (k + 1) n (s.data.toList.drop a)) := by unfold Hid; rw [hx.out, if_pos h0]
            subst h0
            clear hx
            go_wp2_with fail
            go_roundw
            case rel => exact ⟨k + 1, n, m, by omega, HKM.out, hn, rfl, by go_num, hx2.out, hb2⟩
            case measure => simp [intOf] <;> omega
          · have hx2 : Hid (r = lngF m (k + 1) k (s.data.toList.drop a)) := by unfold Hid; rw [hx.out, if_neg h0]
            have hb0 : ((v : Int) != 0) = true := by rw [bne_iff_ne]; omega
            clear hx
            go_wp2_with fail
            go_roundw
            case rel => exact ⟨k + 1, k, m, by omega, HKM.out, by omega, rfl, by go_num, hx2.out, hb2⟩
            case measure => simp [intOf] <;> omega
        · have hnk : n = k - 1 := by omega
          have hbe : ((n : Int) == (k : Int) - 1) = true := by rw [beq_iff_eq]; omega
          have hd3 : decide ((k : Int) < 3) = false := by simp; omega
          clear hc hnk
          go_wp2_with fail
          refine (HF.out _ hb).mono ?_
          rintro e w2 ⟨rfl, hb2⟩
          by_cases h0 : v = 0
          · have hx2 : Hid (r = lngF m (k + 1) n (s.data.toList.drop a)) := by unfold Hid; rw [hx.out, if_pos h0]
            subst h0
            clear hx
            go_wp2_with fail
            go_roundw
            case rel => exact ⟨k + 1, n, m, by omega, HKM.out, hn, rfl, by go_num, hx2.out, hb2⟩
            case measure => simp [intOf] <;> omega
          · have hx2 : Hid (r = lngF m (k + 1) k (s.data.toList.drop a)) := by unfold Hid; rw [hx.out, if_neg h0]
            have hb0 : ((v : Int) != 0) = true := by rw [bne_iff_ne]; omega
            clear hx
            go_wp2_with fail
            go_roundw
            case rel => exact ⟨k + 1, k, m, by omega, HKM.out, by omega, rfl, by go_num, hx2.out, hb2⟩
            case measure => simp [intOf] <;> omega
      · have hx : Hid (r = n) := by
          have := hS.out
          simp only [lngF] at this
          rw [if_neg hc] at this; exact this
        have hd3 : decide ((k : Int) < 3) = false := by simp; omega
        have hbe : ((n : Int) == (k : Int) - 1) = false := by rw [beq_eq_false_iff_ne]; omega
        have hk3 : (3 : Int) ≤ k := by omega
        clear hc hkm
        go_wp2_with fail
        go_ret
        exact ⟨ret_int (by rw [hx.out]), hb⟩

theorem rtokens_long (s : ByteArray) (w : World) (h : 65536 < s.size) :
    Calls Tryd.prog 10 #[.string s] w fun e w' => e = .returned (.tuple #[.slice none 0 0, .int .i64 0, .int .i64 3]) ∧ w = w' := by
  go_enter Tryd.func10, Tryd.ntmps10
  go_wp2_with fail
  go_ret3
  exact ⟨rfl, rfl⟩

theorem info_rtok : (Tryd.prog.info? 44).map (fun i => (i.zero, i.size, i.bytes)) = some (some (.agg #[.int .u8 0, .string ⟨#[]⟩, .int .i64 0]), 3, 32) := by kernel_rfl

set_option maxHeartbeats 1600000 in
theorem rtokens_any (s : ByteArray) (w : World) (hs : s.size ≤ 65536) :
    Calls Tryd.prog 10 #[.string s] w (TokRet 44 s.data.toList w) := by
  obtain ⟨i0, hi, hz0, hz1, hz2⟩ := info_parts info_rtok
  have hM : Hid (s.size ≤ maxLen) := by unfold Hid maxLen; omega
  obtain ⟨b0, hb0⟩ : ∃ b0, b0 = blk false s.data.toList := ⟨_, rfl⟩
  have hbl := blk_le false s.data.toList
  rw [size_eq, ← hb0] at hbl
  have hS0 : Hid (Sofar s.data.toList b0 [] ∧ blk false (s.data.toList.drop b0) = 0) := by unfold Hid; rw [hb0]; exact ⟨Sofar.zero _, blk_idem _ _⟩
  have HB0 := Lib.hid hb0
  clear hb0
  go_enter Tryd.func10, Tryd.ntmps10
  go_wp2_with fail
  refine (blank_any s 0 _ hM.out (Nat.zero_le _)).mono ?_
  rintro e w' ⟨rfl, rfl⟩
  rw [List.drop_zero, Nat.zero_add, ← HB0.out]
  go_wp2_with fail
  go_loopw [5, 6, 7] (fun v i _ wr => ∃ (k : Nat) (done : List Tok), k ≤ s.size ∧ i = .int .i64 k ∧ wr.ownsRow w.heap.size 44 3 v done.length (flat done) ∧ done.length ≤ k ∧ Below w.heap.size w wr ∧ Hid (Sofar s.data.toList k done ∧ blk false (s.data.toList.drop k) = 0)) (fun _ i _ _ => s.size - (intOf i).toNat)
  case atStart => exact ⟨b0, [], hbl, rfl, World.ownsRow_nil _ _ _ _, Nat.zero_le _, Below.refl _ _, hS0.out⟩
  case round =>
    obtain ⟨k, done, hk, rfl, hown, hdl, hb, hS⟩ := hrel
    by_cases hlt : k < s.size
    · obtain ⟨n, kd, hF⟩ : ∃ n kd, first (s.data.toList.drop k) = (n, kd) := ⟨_, _, rfl⟩
      have hle := first_le (s.data.toList.drop k)
      rw [hF, List.length_drop, size_eq] at hle
      simp only at hle
      have hkd := (first_kind (s.data.toList.drop k)).1
      rw [hF] at hkd
      simp only at hkd
      have hln : lng (s.data.toList.drop k) = n ∧ (n ≠ 0 → whole ((s.data.toList.drop k).take n) = kd) := by
        have hz := hS.out.2
        rw [get_drop hlt] at hz hF ⊢
        obtain ⟨e1, e2⟩ := lng_first (blk_pos_of hz).2
        rw [hF] at e1 e2
        simp only at e1 e2
        rw [e1] at e2
        exact ⟨e1, e2⟩
      have HL := Lib.hid hln
      have HF := Lib.hid hF
      clear hF hln
      have HO := Lib.hid hown
      clear hown
      go_wp2_with fail
      refine (longest_any _ _ _ (by omega) hk).mono ?_
      rintro e w1 ⟨rfl, hb1⟩
      rw [HL.out.1]
      have hown1 := ownsRow_below HO.out hb1
      have hb2 := hb.trans (hb1.mono hb.size)
      have hsz1 := hb2.size
      clear hb1 HO
      by_cases hbad : n = 0 ∨ 64 < n
      · have hp : Hid ((toks s.data.toList).1 = some k) := hS.out.1.bad (by rw [size_eq]; exact hlt) (by rw [HF.out]; exact hbad)
        clear hown1
        rcases hbad with rfl | hbad
        · go_wp2_with fail
          go_ret3
          exact ⟨.inr ⟨k, hp.out, rfl⟩, hb2⟩
        · have hb0 : ((n : Int) == 0) = false := by simp; omega
          go_wp2_with fail
          go_ret3
          exact ⟨.inr ⟨k, hp.out, rfl⟩, hb2⟩
      · have hn0 : ¬ n = 0 := fun h => hbad (.inl h)
        have hn64 : n ≤ 64 := by omega
        have hbn : ((n : Int) == 0) = false := by simp; omega
        have hst := hS.out.1.step (by rw [HF.out]; exact hbad)
        rw [HF.out] at hst
        simp only at hst
        obtain ⟨b2, hb2e⟩ : ∃ b2, b2 = blk false (s.data.toList.drop (k + n)) := ⟨_, rfl⟩
        rw [← hb2e] at hst
        have hb2l : k + n + b2 ≤ s.size := by have := blk_le false (s.data.toList.drop (k + n)); rw [← hb2e, List.length_drop, size_eq] at this; omega
        have hz0' : blk false (s.data.toList.drop (k + n + b2)) = 0 := by rw [hb2e, ← List.drop_drop]; exact blk_idem _ _
        have HST := Lib.hid (And.intro hst hz0')
        have HB2 := Lib.hid hb2e
        have hzw : Hid ((s.extract k (k + n)).size ≤ maxLen) := by unfold Hid maxLen; rw [ByteArray.size_extract]; omega
        have hxm : Hid ((ByteArray.mk ((s.data.toList.drop k).take n).toArray) = s.extract k (k + n)) := by
          apply ba_ext; rw [ext_mid]
        have hwh : Hid (whole (s.extract k (k + n)).data.toList = kd) := by unfold Hid; rw [ext_mid]; exact HL.out.2 hn0
        have hkn : (k : Int) + n ≤ s.size := by omega
        clear hbad hst hb2e hS hz0'
        have q1 := IntWalk.i64_in ((k : Int) + n) (by omega)
        have q2 : 0 ≤ (k : Int) + n := by omega
        have q3 : ((k : Int) + n).toNat = k + n := by omega
        have q4 : (k : Int) ≤ (k : Int) + n := by omega
        go_wp2_with fail
        go_region_held3 (fun w' => Below w.heap.size w w')
          (first
            | exact hb2
            | exact hb2.drew
            | exact Below.grown ((hb2.drew.trans (hbw.mono hb2.size)).alloc (hb2.drew.trans (hbw.mono hb2.size)).size _) hgrow4 (by simp; have := (hb2.drew.trans (hbw.mono hb2.size)).size; omega) (fun j hj => (hown1.lt _ hj).1)
            | exact hb2.drew.trans (hbw.mono hb2.size)
            | exact (hb2.drew.trans (hbw.mono hb2.size)).alloc (hb2.drew.trans (hbw.mono hb2.size)).size _
            | exact (hb2.drew.trans (hbw.mono hb2.size)).drew
            | go_keep)
          (first
            | (go_at_call 20; refine (whole_any _ _ hzw.out).mono ?_; rintro e w3 ⟨rfl, hbw⟩; rw [hwh.out])
            | (refine step_append_lies _ (by rfl) _ _ _ (by rfl) w.heap.size 44 i0 _ 3 32 Tryd.underlying23 hi hz0 hz1 hz2 rfl (by omega) _ done.length (flat done) (by rfl) ((ownsRow_below (hown1.drew) hbw).alloc _) ⟨w3.heap.size, 0, none⟩ 1 1 [.int .u8 (kd : Int), .string (s.extract k (k + n)), .int .i64 (k : Int)] (by rfl) (by rfl) (World.news_of_block (cs := #[.int .u8 (kd : Int), .string (s.extract k (k + n)), .int .i64 (k : Int)]) (t := 44) (fr := (0, 0)) (heap_alloc_new w3 _)) (by simp [Value.oneCell']) (by omega) (by unfold maxLen; omega) (by omega) (by have := (hb2.drew.trans (hbw.mono hb2.size)).size; simp; omega) (w3.heap.size + 1) (by simp) ?_; intro gg cap w4 hown4 hgrow4 hat4 hlt4))
        clear q1 q2 q3 q4
        have hb5 := hb2.drew.trans (hbw.mono hb2.size)
        have hb4 : Below w.heap.size w w4 := Below.grown (hb5.alloc hb5.size _) hgrow4 (by simp; have := hb5.size; omega) (fun j hj => (hown1.lt _ hj).1)
        have hown5 : w4.ownsRow w.heap.size 44 3 (.slice (some ⟨gg, 0, none⟩) (done.length + 1) cap) (done ++ [(kd, (s.data.toList.drop k).take n, k)]).length (flat (done ++ [(kd, (s.data.toList.drop k).take n, k)])) := by
          rw [flat_snoc, List.length_append]
          simp only [tokC, hxm.out, List.length_cons, List.length_nil]
          exact hown4
        have HO5 := Lib.hid hown5
        clear hown4 hgrow4 hat4 hlt4 hown5 hown1 hbw hb5
        go_wp2_with fail
        have e9 : ((k : Int) + n) = ((k + n : Nat) : Int) := by omega
        rw [e9]
        clear e9
        refine (blank_any _ _ _ hM.out (by omega)).mono ?_
        rintro e w5 ⟨rfl, rfl⟩
        rw [← HB2.out]
        go_wp2_with fail
        go_roundw
        case rel => exact ⟨k + n + b2, _, by omega, rfl, HO5.out, by simp; omega, hb4, HST.out⟩
        case measure => simp [intOf] <;> omega
    · have hd : Hid (toks s.data.toList = (none, done)) := hS.out.1.done (by rw [size_eq]; omega)
      have HO := Lib.hid hown
      clear hown
      go_wp2_with fail
      go_ret3
      exact ⟨.inl ⟨_, by rw [hd.out], rfl, by rw [hd.out]; exact HO.out⟩, hb⟩

/-- The document's 'Is'. -/
theorem ris_any (s : ByteArray) (w : World) (hs : s.size ≤ 100000) :
    Calls Tryd.prog 17 #[.string s] w fun e w' => e = .returned (.int .u8 (isT s.data.toList : Nat)) ∧ Below w.heap.size w w' := by
  have hI := Lib.hid (isT_whole s.data.toList)
  rw [size_eq] at hI
  by_cases h : 64 < s.size
  · have hi : Hid (isT s.data.toList = 0) := by unfold Hid; rw [hI.out, if_pos h]
    clear hI
    go_enter Tryd.func17, Tryd.ntmps17
    go_wp2_with fail
    go_ret
    exact ⟨ret_int (by rw [hi.out]; rfl), Below.refl _ _⟩
  · have hi : Hid (isT s.data.toList = whole s.data.toList) := by unfold Hid; rw [hI.out, if_neg h]
    clear hI
    go_enter Tryd.func17, Tryd.ntmps17
    go_wp2_with fail
    refine (whole_any _ _ (by unfold maxLen; omega)).mono ?_
    rintro e w1 ⟨rfl, hb⟩
    go_wp2_with fail
    go_ret
    exact ⟨ret_int (by rw [hi.out]), hb⟩
end Go.Proofs
