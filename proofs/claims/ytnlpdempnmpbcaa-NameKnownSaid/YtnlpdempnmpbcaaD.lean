/- Walks of the other functions on names, of the document answers, and of two laws. -/
import Derived.Test.YtnlpdempnmpbcaaC
import Derived.Test.YtnlpdempnmpbcaaP2
namespace Go.Proofs
open Go.RowKit Go.Nm
/-- 'name.Is'. -/
theorem is_any (s : ByteArray) (w : World) (hs : s.size ≤ maxLen) :
    Calls Try.prog 12 #[.string s] w (Ret .bool fun t w' => Hid (t = okk s.data.toList) ∧ Grown w w') := by
  go_enter Try.func12, Try.ntmps12
  go_wp2_with (go_at_call 10; refine (split_any _ _ hs).mono ?_; rintro e w' ⟨p, q, ok, rfl, h, _, _, hg⟩)
  go_ret
  exact Ret.mkB ⟨by have := h.out; unfold Hid okk; rw [this], hg⟩

/-- 'hopscotchref02.Plain'. -/
theorem rplain_any (s : ByteArray) (w : World) (hs : s.size ≤ maxLen) :
    Calls Try.prog 14 #[.string s] w (Ret .bool fun t w' => Hid (t = rpl s.data.toList) ∧ w = w') := by
  unfold maxLen at hs
  by_cases h0 : s.size = 0
  · have hx : Hid (rpl s.data.toList = false) := by
      unfold Hid rpl; rw [size_eq, decide_eq_false (p := 0 < s.size) (by omega)]; rfl
    go_enter Try.func14, Try.ntmps14
    go_wp2_with fail
    go_ret
    exact Ret.mkB ⟨hx.out.symm, rfl⟩
  by_cases h64 : 64 < s.size
  · have hx : Hid (rpl s.data.toList = false) := by
      unfold Hid rpl; rw [size_eq, decide_eq_false (p := s.size ≤ 64) (by omega), Bool.and_false]; rfl
    have hb0 : ((s.size : Int) == 0) = false := beq_eq_false_iff_ne.2 (by omega)
    clear h0
    go_enter Try.func14, Try.ntmps14
    go_wp2_with fail
    go_ret
    exact Ret.mkB ⟨hx.out.symm, rfl⟩
  · have h1 : 0 < s.size := by omega
    have h2 : s.size ≤ 64 := by omega
    have hb0 : ((s.size : Int) == 0) = false := beq_eq_false_iff_ne.2 (by omega)
    clear h0 h64
    have hx : Hid (rpl s.data.toList = (isLetter s[0] && s.data.toList.all may)) := by
      unfold Hid rpl; rw [size_eq, decide_eq_true h1, decide_eq_true h2, Bool.true_and]
      have : s.data.toList = s[0] :: s.data.toList.drop 1 := (List.drop_eq_getElem_cons (l := s.data.toList) (i := 0) (by rw [size_eq]; exact h1))
      rw [this]; rfl
    cases hc : isLetter s[0] with
    | false =>
      rw [hc] at hx
      go_enter Try.func14, Try.ntmps14
      go_wp2_with (go_at_call 19; refine (letter_any _ _).mono ?_; rintro e w' ⟨rfl, rfl⟩)
      go_ret
      exact Ret.mkB ⟨hx.out.symm, rfl⟩
    | true =>
      rw [hc] at hx
      go_enter Try.func14, Try.ntmps14
      go_wp2_with (go_at_call 19; refine (letter_any _ _).mono ?_; rintro e w' ⟨rfl, rfl⟩)
      go_loop [3] (fun i => ∃ k : Nat, k ≤ s.size ∧ i = .int .i64 k ∧ rpl s.data.toList = (s.data.toList.drop k).all may) (fun i => s.size - (intOf i).toNat)
      case atStart => exact ⟨0, by omega, rfl, hx.out⟩
      case round =>
        obtain ⟨k, hk, rfl, hr0⟩ := hrel
        have hr := Lib.hid hr0
        clear hr0 hc
        by_cases hlt : k < s.size
        · have hd : Hid (s.data.toList.drop k = s[k] :: s.data.toList.drop (k + 1)) := List.drop_eq_getElem_cons (by rw [size_eq]; exact hlt)
          cases hm : may s[k] with
          | false =>
            go_wp2_with (go_at_call 15; refine (may_any _ _).mono ?_; rintro e w' ⟨rfl, rfl⟩)
            go_ret
            exact Ret.mkB ⟨by rw [hr.out, hd.out, List.all_cons, hm]; rfl, rfl⟩
          | true =>
            go_wp2_with (go_at_call 15; refine (may_any _ _).mono ?_; rintro e w' ⟨rfl, rfl⟩)
            go_round
            case rel => exact ⟨k + 1, by omega, by go_num, by rw [hr.out, hd.out, List.all_cons, hm]; rfl⟩
            case measure => simp [intOf]; omega
        · go_wp2_with fail
          go_ret
          exact Ret.mkB ⟨by rw [hr.out, List.drop_eq_nil_of_le (by rw [size_eq]; omega)]; rfl, rfl⟩

/-- 'hopscotchref02.Split'. -/
theorem rsplit_any (s : ByteArray) (w : World) (hs : s.size ≤ maxLen) :
    Calls Try.prog 11 #[.string s] w (Ret3 .string .string .bool fun p q ok w' => Hid (RSp s.data.toList p.data.toList q.data.toList ok) ∧ Grown w w') := by
  have hS := Lib.hid hs
  unfold maxLen at hs
  go_enter Try.func11, Try.ntmps11
  go_wp2_with (go_at_call 14; refine (rplain_any _ _ hS.out).mono ?_; rintro e w' ⟨t, rfl, ht, rfl⟩)
  · go_ret3
    have h : t = true := by assumption
    exact Ret3.mk ⟨.inl ⟨rfl, .inl ⟨by rw [← ht.out]; exact h, rfl, rfl⟩⟩, Grown.refl w⟩
  · go_ret3
    have h : t = false := by simp_all
    exact Ret3.mk ⟨.inr ⟨rfl, rfl, rfl, by rw [← ht.out]; exact h, .inl (by rw [size_eq]; omega)⟩, Grown.refl w⟩
  · have h : t = false := by simp_all
    have hp : Hid (rpl s.data.toList = false) := by rw [← ht.out]; exact h
    subst h
    have h64 : s.size ≤ 64 := by omega
    go_loop [5] (fun i => ∃ k : Nat, k ≤ s.size ∧ i = .int .i64 k ∧ NoCand s.data.toList k) (fun i => s.size - (intOf i).toNat)
    case atStart => exact ⟨0, by omega, rfl, NoCand.zero _⟩
    case round =>
      obtain ⟨k, hk, rfl, hr⟩ := hrel
      by_cases hlt : k < s.size
      · have hce : Hid (cand s.data.toList k = (((s[k].toNat : Int) == 58) && rpl (s.extract 0 k).data.toList && rpl (s.extract (k + 1) s.size).data.toList)) := cand_eq hlt
        have z1 : Hid ((s.extract 0 k).size ≤ maxLen) := Nat.le_trans (ext_size _ _ _) hS.out
        have z2 : Hid ((s.extract (k + 1) s.size).size ≤ maxLen) := Nat.le_trans (ext_size _ _ _) hS.out
        cases hb : ((s[k].toNat : Int) == 58) with
        | false =>
          rw [hb] at hce
          go_wp2_with fail
          go_round
          case rel => exact ⟨k + 1, by omega, by go_num, hr.step hce.out⟩
          case measure => simp [intOf]; omega
        | true =>
          rw [hb] at hce
          have hE := Lib.hid hb
          go_wp2_with fail
          refine (rplain_any _ _ z1.out).mono ?_
          rintro e w' ⟨t1, rfl, ht1, rfl⟩
          rw [← ht1.out] at hce
          cases t1 with
          | false =>
            go_wp2_with fail
            go_round
            case rel => exact ⟨k + 1, by omega, by go_num, hr.step hce.out⟩
            case measure => simp [intOf]; omega
          | true =>
            go_wp2_with fail
            refine (rplain_any _ _ z2.out).mono ?_
            rintro e w' ⟨t2, rfl, ht2, rfl⟩
            rw [← ht2.out] at hce
            cases t2 with
            | false =>
              go_wp2_with fail
              go_round
              case rel => exact ⟨k + 1, by omega, by go_num, hr.step hce.out⟩
              case measure => simp [intOf]; omega
            | true =>
              go_wp2_with fail
              go_region
              go_wp2
              go_ret3
              exact Ret3.mk ⟨.inl ⟨rfl, .inr ⟨hp.out, k, by rw [size_eq]; exact hlt, hce.out, ext_take _ _, ext_drop _ _, by rw [size_eq]; exact h64⟩⟩, (Grown.refl w).drew⟩
      · go_wp2_with fail
        go_ret3
        exact Ret3.mk ⟨.inr ⟨rfl, rfl, rfl, hp.out, .inr fun j hj => hr j (by rw [size_eq] at hj; omega)⟩, Grown.refl w⟩

theorem rsplit_ex (s : ByteArray) (w : World) (hs : s.size ≤ maxLen) :
    Calls Try.prog 11 #[.string s] w (Ret3 .string .string .bool fun p q ok w' => Hid (spl s.data.toList = (p.data.toList, q.data.toList, ok)) ∧ Grown w w') :=
  (rsplit_any s w hs).mono fun _ _ ⟨p, q, ok, he, h, hw⟩ => ⟨p, q, ok, he, spl_of_RSp h, hw⟩


theorem ext_take64 (s : ByteArray) (k : Nat) (h : k ≤ min s.size 64) : (s.extract 0 k).data.toList = (s.data.toList.take 64).take k := by
  rw [ext_take, List.take_take, Nat.min_eq_left (by omega)]

/-- No length above n is that of a name. -/
def NoLonger (l : List UInt8) (n : Nat) : Prop := ∀ j, n < j → j ≤ l.length → okk (l.take j) = false

/-- 'hopscotchref02.Begin'. -/
theorem rbegin_any (s : ByteArray) (w : World) (hs : s.size ≤ maxLen) :
    Calls Try.prog 8 #[.string s] w (Ret (fun n : Nat => Value.int .i64 n) fun n w' => Hid (n = beg (s.data.toList.take 64)) ∧ Grown w w') := by
  have hS := Lib.hid hs
  unfold maxLen at hs
  have hmin : ∃ m : Nat, m = min s.size 64 := ⟨_, rfl⟩
  obtain ⟨m, hm⟩ := hmin
  have hL : Hid ((s.data.toList.take 64).length = m) := by unfold Hid; rw [List.length_take, size_eq, Nat.min_comm, hm]
  have hm1 : m ≤ s.size := by omega
  have hm2 : m ≤ 64 := by omega
  have hM := Lib.hid hm
  clear hm
  go_enter Try.func8, Try.ntmps8
  go_wp2_with fail
  all_goals
    go_loopw [3] (fun i wr => ∃ k : Nat, k ≤ m ∧ i = .int .i64 k ∧ NoLonger (s.data.toList.take 64) k ∧ Grown w wr) (fun i _ => (intOf i).toNat)
    case atStart =>
      have := hM.out
      refine ⟨m, Nat.le_refl _, ?_, fun j h1 h2 => by rw [hL.out] at h2; omega, Grown.refl w⟩
      rw [this]; congr 1; omega
    case round =>
      obtain ⟨k, hk, rfl, hr, hg⟩ := hrel
      by_cases hlt : 0 < k
      · have z1 : Hid ((s.extract 0 k).size ≤ maxLen) := Nat.le_trans (ext_size _ _ _) hS.out
        have hx : Hid ((s.extract 0 k).data.toList = (s.data.toList.take 64).take k) := ext_take64 s k (by rw [← hM.out]; exact hk)
        go_wp2_with fail
        refine (rsplit_ex _ _ z1.out).mono ?_
        rintro e w' ⟨p, q, ok, rfl, h, hg2⟩
        cases ok with
        | true =>
          go_wp2_with fail
          go_ret
          refine Ret.mkI rfl ⟨beg_unique (by rw [hL.out]; exact hm2) (by rw [hL.out]; exact hk) (fun _ => ?_) hr, grown_trans hg hg2⟩
          rw [← hx.out]; unfold okk; rw [h.out]
        | false =>
          go_wp2_with fail
          go_roundw
          case rel =>
            refine ⟨k - 1, by omega, by go_num, fun j h1 h2 => ?_, grown_trans hg hg2⟩
            rcases Nat.lt_or_ge k j with h3 | h3
            · exact hr j h3 h2
            · obtain rfl : j = k := by omega
              rw [← hx.out]; unfold okk; rw [h.out]
          case measure => simp [intOf]; omega
      · go_wp2_with fail
        go_ret
        obtain rfl : k = 0 := by omega
        exact Ret.mkI rfl ⟨beg_unique (by rw [hL.out]; exact hm2) (Nat.zero_le _) (fun h => absurd h (Nat.lt_irrefl _)) hr, hg⟩


/-- 'name.Begin'. -/
theorem begin_aux (s : ByteArray) (T : List UInt8) (hT : Hid (T = s.data.toList.take 64)) (w : World) (hs : s.size ≤ maxLen) :
    Calls Try.prog 7 #[.string s] w (Ret (fun n : Nat => Value.int .i64 n) fun n w' => Hid (n = beg T) ∧ w = w') := by
  have f1 : Hid ((s.extract 0 64).data.toList = T) := by rw [hT.out]; exact ext_take s 64
  have f2 : s.size ≤ 64 → Hid (s.data.toList = T) := fun h => by
    rw [hT.out, List.take_of_length_le (by rw [size_eq]; exact h)]; rfl
  unfold maxLen at hs
  go_enter Try.func7, Try.ntmps7
  go_wp2_with fail
  · have hz : (s.extract 0 64).size ≤ 64 := by rw [ByteArray.size_extract]; omega
    generalize s.extract 0 64 = v at *
    have hvm : v.size ≤ maxLen := by unfold maxLen; omega
    have hVM := Lib.hid hvm
    have hG := Lib.hid f1
    clear f1 f2 hvm
    refine (length_ex _ _ hVM.out).mono ?_
    rintro e w' ⟨m, rfl, hm, hm2, rfl⟩
    go_wp2_with fail
    · go_ret
      have e0 : m = 0 := by assumption
      exact Ret.mkI (by rw [e0]; rfl) ⟨beg_early hG.out hm.out (.inl e0), rfl⟩
    · go_ret
      have h0 : ¬ m = 0 := by assumption
      have h1 : m < v.size := by assumption
      have h3 : ((v[m].toNat : Int) != 58) = true := by
        rename_i h; rcases h with (h | h) | h
        · simp at h; omega
        · omega
        · exact h
      exact Ret.mkI rfl ⟨beg_early hG.out hm.out (.inr (.inr ⟨h1, by rw [bne_iff_ne] at h3; omega⟩)), rfl⟩
    · have h0 : ¬ m = 0 := by assumption
      have h1 : m < v.size := by assumption
      have h4 : (((m : Int) == 0) = false ∧ ¬ v.size ≤ m) ∧ ((v[m].toNat : Int) != 58) = false := by assumption
      have h3 : v[m].toNat = 58 := by
        have h := h4.2; rw [bne_eq_false_iff_eq] at h; omega
      clear h4
      have hz2 : Hid ((v.extract (m + 1) v.size).size ≤ maxLen) := Nat.le_trans (ext_size _ _ _) hVM.out
      have hbl : ∀ k, k = len (v.extract (m + 1) v.size).data.toList → beg T = if 0 < k then m + 1 + k else m := fun k hk => beg_late hG.out hm.out h0 h1 h3 hk
      have HB := Lib.hid hbl
      clear hbl h3
      refine (length_ex _ _ hz2.out).mono ?_
      rintro e w' ⟨k, rfl, hk, hk2, rfl⟩
      have hb := Lib.hid (HB.out k hk.out)
      clear HB
      by_cases hk0 : 0 < k
      · have hy : k ≤ v.size := Nat.le_trans hk2 (ext_size _ _ _)
        go_wp2_with fail
        go_ret
        exact Ret.mkI (by go_num) ⟨by rw [hb.out, if_pos hk0]; rfl, rfl⟩
      · go_wp2_with fail
        go_ret
        exact Ret.mkI rfl ⟨by rw [hb.out, if_neg hk0]; rfl, rfl⟩
    · go_ret
      exact Ret.mkI rfl ⟨beg_early hG.out hm.out (.inr (.inl (by omega))), rfl⟩
  · have hle : s.size ≤ 64 := by omega
    have hG := f2 hle
    have hVM : Hid (s.size ≤ maxLen) := by unfold Hid maxLen; omega
    clear f1 f2
    refine (length_ex _ _ hVM.out).mono ?_
    rintro e w' ⟨m, rfl, hm, hm2, rfl⟩
    go_wp2_with fail
    · go_ret
      have e0 : m = 0 := by assumption
      exact Ret.mkI (by rw [e0]; rfl) ⟨beg_early hG.out hm.out (.inl e0), rfl⟩
    · go_ret
      have h0 : ¬ m = 0 := by assumption
      have h1 : m < s.size := by assumption
      have h3 : ((s[m].toNat : Int) != 58) = true := by
        rename_i h; rcases h with (h | h) | h
        · simp at h; omega
        · omega
        · exact h
      exact Ret.mkI rfl ⟨beg_early hG.out hm.out (.inr (.inr ⟨h1, by rw [bne_iff_ne] at h3; omega⟩)), rfl⟩
    · have h0 : ¬ m = 0 := by assumption
      have h1 : m < s.size := by assumption
      have h4 : (((m : Int) == 0) = false ∧ ¬ s.size ≤ m) ∧ ((s[m].toNat : Int) != 58) = false := by assumption
      have h3 : s[m].toNat = 58 := by
        have h := h4.2; rw [bne_eq_false_iff_eq] at h; omega
      clear h4
      have hz2 : Hid ((s.extract (m + 1) s.size).size ≤ maxLen) := Nat.le_trans (ext_size _ _ _) hVM.out
      have hbl : ∀ k, k = len (s.extract (m + 1) s.size).data.toList → beg T = if 0 < k then m + 1 + k else m := fun k hk => beg_late hG.out hm.out h0 h1 h3 hk
      have HB := Lib.hid hbl
      clear hbl h3
      refine (length_ex _ _ hz2.out).mono ?_
      rintro e w' ⟨k, rfl, hk, hk2, rfl⟩
      have hb := Lib.hid (HB.out k hk.out)
      clear HB
      by_cases hk0 : 0 < k
      · have hy : k ≤ s.size := Nat.le_trans hk2 (ext_size _ _ _)
        go_wp2_with fail
        go_ret
        exact Ret.mkI (by go_num) ⟨by rw [hb.out, if_pos hk0]; rfl, rfl⟩
      · go_wp2_with fail
        go_ret
        exact Ret.mkI rfl ⟨by rw [hb.out, if_neg hk0]; rfl, rfl⟩
    · go_ret
      exact Ret.mkI rfl ⟨beg_early hG.out hm.out (.inr (.inl (by omega))), rfl⟩
theorem begin_any (s : ByteArray) (w : World) (hs : s.size ≤ maxLen) :
    Calls Try.prog 7 #[.string s] w (Ret (fun n : Nat => Value.int .i64 n) fun n w' => Hid (n = beg (s.data.toList.take 64)) ∧ w = w') :=
  begin_aux s _ rfl w hs


theorem ba_ext {p q : ByteArray} (h : p.data.toList = q.data.toList) : p = q := ByteArray.ext (Array.ext' h)
theorem split_at (s p q : ByteArray) (ok : Bool) (w : World) (hs : s.size ≤ 1000) (h : spl s.data.toList = (p.data.toList, q.data.toList, ok)) :
    Calls Try.prog 10 #[.string s] w fun e w' => e = .returned (.tuple #[.string p, .string q, .bool ok]) ∧ Grown w w' :=
  (split_any s w (by unfold maxLen; omega)).mono fun _ _ ⟨p', q', ok', he, hh, _, _, hg⟩ => by
    have hh := hh.out
    unfold Spl at hh
    rw [h] at hh
    injection hh with h1 h2
    injection h2 with h2 h3
    rw [he, ba_ext h1, ba_ext h2, h3]
    exact ⟨rfl, hg⟩
theorem is_at (s : ByteArray) (t : Bool) (w : World) (hs : s.size ≤ 1000) (h : okk s.data.toList = t) :
    Calls Try.prog 12 #[.string s] w fun e w' => e = .returned (.bool t) ∧ Grown w w' :=
  (is_any s w (by unfold maxLen; omega)).mono fun _ _ ⟨t', he, hh, hg⟩ => by
    rw [he, hh.out, h]; exact ⟨rfl, hg⟩
theorem begin_at (s : ByteArray) (n : Nat) (w : World) (hs : s.size ≤ 1000) (h : beg (s.data.toList.take 64) = n) :
    Calls Try.prog 7 #[.string s] w fun e w' => e = .returned (.int .i64 n) ∧ w = w' :=
  (begin_any s w (by unfold maxLen; omega)).mono fun _ _ ⟨t', he, hh, hg⟩ => by
    rw [he, hh.out, h]; exact ⟨rfl, hg⟩

/-- 'works'. -/
theorem works_any (w : World) : Calls Try.prog 9 #[] w fun e w' => e = .returned (.bool true) ∧ Grown w w' := by
  go_enter Try.func9, Try.ntmps9
  go_wp2_with fail
  refine (split_at _ ⟨#[120, 109, 105]⟩ ⟨#[105, 100]⟩ true _ (by decide) (by decide +kernel)).mono ?_
  rintro e w1 ⟨rfl, g1⟩
  go_wp2_with fail
  refine (split_at _ ⟨#[]⟩ ⟨#[110, 97, 109, 101]⟩ true _ (by decide) (by decide +kernel)).mono ?_
  rintro e w2 ⟨rfl, g2⟩
  go_wp2_with fail
  refine (is_at _ false _ (by decide) (by decide +kernel)).mono ?_
  rintro e w3 ⟨rfl, g3⟩
  go_wp2_with fail
  refine (is_at _ false _ (by decide) (by decide +kernel)).mono ?_
  rintro e w4 ⟨rfl, g4⟩
  go_wp2_with fail
  refine (is_at _ false _ (by decide) (by decide +kernel)).mono ?_
  rintro e w5 ⟨rfl, g5⟩
  go_wp2_with fail
  refine (is_at _ true _ (by decide) (by decide +kernel)).mono ?_
  rintro e w6 ⟨rfl, g6⟩
  go_wp2_with fail
  refine (begin_at _ 6 _ (by decide) (by decide +kernel)).mono ?_
  rintro e w7 ⟨rfl, rfl⟩
  go_wp2_with fail
  refine (begin_at _ 1 _ (by decide) (by decide +kernel)).mono ?_
  rintro e w8 ⟨rfl, rfl⟩
  go_wp2_with fail
  go_ret
  exact ⟨rfl, grown_trans g1 (grown_trans g2 (grown_trans g3 (grown_trans g4 (grown_trans g5 g6))))⟩

/-- The law 'NameBegins'. -/
theorem nameBegins_any (s : ByteArray) (w : World) (hs : s.size ≤ maxLen) :
    Calls Try.prog 3 #[.string s] w fun e w' => e = .returned (.bool true) ∧ Grown w w' := by
  have hS := Lib.hid hs
  unfold maxLen at hs
  by_cases h : 300 < s.size
  · go_enter Try.func3, Try.ntmps3
    go_wp2_with fail
    refine (works_any _).mono ?_
    rintro e w1 ⟨rfl, g1⟩
    go_wp2_with fail
    go_ret
    exact ⟨rfl, g1⟩
  · go_enter Try.func3, Try.ntmps3
    go_wp2_with fail
    refine (begin_any _ _ hS.out).mono ?_
    rintro e w1 ⟨n, rfl, hn, rfl⟩
    go_wp2_with fail
    refine (rbegin_any _ _ hS.out).mono ?_
    rintro e w1 ⟨m, rfl, hm, g0⟩
    have hnm : n = m := by rw [hn.out, hm.out]
    subst hnm
    go_wp2_with fail
    refine (works_any _).mono ?_
    rintro e w2 ⟨rfl, g1⟩
    go_wp2_with fail
    go_ret
    exact ⟨rfl, grown_trans g0 g1⟩

/-- The law 'NameSplits'. -/
theorem nameSplits_any (s : ByteArray) (w : World) (hs : s.size ≤ maxLen) :
    Calls Try.prog 4 #[.string s] w fun e w' => e = .returned (.bool true) ∧ Grown w w' := by
  have hS := Lib.hid hs
  unfold maxLen at hs
  by_cases h : 300 < s.size
  · go_enter Try.func4, Try.ntmps4
    go_wp2_with fail
    refine (works_any _).mono ?_
    rintro e w1 ⟨rfl, g1⟩
    go_wp2_with fail
    go_ret
    exact ⟨rfl, g1⟩
  · go_enter Try.func4, Try.ntmps4
    go_wp2_with fail
    refine (split_any _ _ hS.out).mono ?_
    rintro e w1 ⟨p, q, ok, rfl, h1, hp, hq, g1⟩
    go_wp2_with fail
    refine (rsplit_ex _ _ hS.out).mono ?_
    rintro e w2 ⟨p', q', ok', rfl, h2, g2⟩
    have he : p = p' ∧ q = q' ∧ ok = ok' := by
      have a := h1.out; have b := h2.out
      unfold Spl at a; rw [b] at a
      injection a with a1 a2
      injection a2 with a2 a3
      exact ⟨(ba_ext a1).symm, (ba_ext a2).symm, a3.symm⟩
    obtain ⟨rfl, rfl, rfl⟩ := he
    go_wp2_with fail
    refine (is_any _ _ hS.out).mono ?_
    rintro e w3 ⟨ok', rfl, h3, g3⟩
    have he : ok = ok' := by
      have a := h1.out; have b := h3.out
      unfold Spl at a; unfold okk at b; rw [a] at b
      exact b.symm
    subst he
    go_wp2_with fail
    refine (plain_any _ _ hS.out).mono ?_
    rintro e w4 ⟨rfl, g4⟩
    go_wp2_with fail
    refine (rplain_any _ _ hS.out).mono ?_
    rintro e w5 ⟨t, rfl, ht, rfl⟩
    have he : (decide (s.size ≤ 64) && pl s.data.toList) = t := by rw [ht.out, rpl_eq, size_eq]
    rw [he]
    clear he
    go_wp2_with fail
    refine (works_any _).mono ?_
    rintro e w6 ⟨rfl, g6⟩
    go_wp2_with fail
    go_ret
    exact ⟨rfl, grown_trans g1 (grown_trans g2 (grown_trans g3 (grown_trans g4 g6)))⟩
end Go.Proofs
