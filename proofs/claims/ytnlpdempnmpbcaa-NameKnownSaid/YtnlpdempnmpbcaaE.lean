/- The walk of the law NameBack. -/
import Derived.Test.YtnlpdempnmpbcaaD
import Derived.Laws.IdiomStrings
namespace Go.Proofs
open Go.RowKit Go.Nm
theorem app_data (a b : ByteArray) : (a ++ b).data.toList = a.data.toList ++ b.data.toList := by
  rw [ByteArray.data_append, Array.toList_append]
theorem ne_empty {p : ByteArray} (h : 0 < p.size) : p.toList.isEmpty = false := by
  rw [ByteArray.toList_eq]
  cases hl : p.data.toList with
  | nil => have := size_eq p; rw [hl] at this; simp at this; omega
  | cons _ _ => rfl
theorem bytes_back (wx : World) (c : UInt8) :
    (convert 28 9 (.slice (some ⟨wx.heap.size, 0, none⟩) 1 1)).run Try.prog (wx.alloc (.cells #[.int .u8 (c.toNat : Int)] 5)) = .ok (.string ⟨#[c]⟩) (wx.alloc (.cells #[.int .u8 (c.toNat : Int)] 5)) :=
  run_convert_bytes_back (P := Try.prog) _ 28 9 5 _ 1 [c] Try.underlying28 Try.underlying5 Try.underlying9 (fun j hj => by
    obtain rfl : j = 0 := by simp at hj; exact hj
    exact World.cell?_alloc_new _ _ _ _)

set_option maxHeartbeats 1600000 in
/-- The law 'NameBack'. -/
theorem nameBack_any (s t : ByteArray) (c : UInt8) (w : World) (hs : s.size ≤ maxLen) (ht : t.size ≤ maxLen) :
    Calls Try.prog 5 #[.string s, .string t, .int .u8 (c.toNat : Int)] w fun e w' => e = .returned (.bool true) ∧ Grown w w' := by
  have hS := Lib.hid hs
  have hT := Lib.hid ht
  unfold maxLen at hs ht
  by_cases h : 200 < s.size
  · go_enter Try.func5, Try.ntmps5
    go_wp2_with fail
    refine (works_any _).mono ?_
    rintro e w1 ⟨rfl, g1⟩
    go_wp2_with fail
    go_ret
    exact ⟨rfl, g1⟩
  by_cases h' : 200 < t.size
  · go_enter Try.func5, Try.ntmps5
    go_wp2_with fail
    refine (works_any _).mono ?_
    rintro e w1 ⟨rfl, g1⟩
    go_wp2_with fail
    go_ret
    exact ⟨rfl, g1⟩
  have hs2 : s.size ≤ 200 := by omega
  have ht2 : t.size ≤ 200 := by omega
  clear h h'
  have hcv := fun wx : World => bytes_back wx c
  go_enter Try.func5, Try.ntmps5
  go_wp2_with fail
  refine (plain_any _ _ hS.out).mono ?_
  rintro e wx ⟨rfl, gx⟩
  generalize hp1 : (decide (s.size ≤ 64) && pl s.data.toList) = b1
  have hP1 := Lib.hid hp1
  clear hp1
  cases b1
  case true =>
    go_wp2_with fail
    refine (plain_any _ _ hT.out).mono ?_
    rintro e w2 ⟨rfl, g2⟩
    generalize hp2 : (decide (t.size ≤ 64) && pl t.data.toList) = b2
    have hP2 := Lib.hid hp2
    clear hp2
    replace gx := grown_trans gx g2
    clear g2
    cases b2
    case true =>
      go_wp2_with fail
      refine (split_any _ _ (by simp only [ByteArray.size_append]; unfold maxLen; have : (ByteArray.mk #[58]).size = 1 := rfl; omega)).mono ?_
      rintro e w3 ⟨p, q, ok, rfl, h1, hp, hq, g3⟩
      replace gx := grown_trans gx g3
      clear g3
      have hx : (ok = true ∧ s = p ∧ t = q ∧ s.size + 1 + t.size ≤ 64) ∨ (ok = false ∧ ¬ s.size + 1 + t.size ≤ 64) := by
        have a1 := hP1.out; have a2 := hP2.out; have a3 := h1.out
        rw [Bool.and_eq_true] at a1 a2
        unfold Spl at a3
        rw [app_data, app_data] at a3
        have e : s.data.toList ++ (ByteArray.mk #[58]).data.toList ++ t.data.toList = s.data.toList ++ 58 :: t.data.toList := by simp
        rw [e, spl_join a1.2 a2.2, size_eq, size_eq] at a3
        by_cases h : s.size + 1 + t.size ≤ 64
        · rw [if_pos h] at a3
          simp only [Prod.mk.injEq] at a3
          exact .inl ⟨a3.2.2.symm, ba_ext a3.1, ba_ext a3.2.1, h⟩
        · rw [if_neg h] at a3
          simp only [Prod.mk.injEq] at a3
          exact .inr ⟨a3.2.2.symm, h⟩
      clear h1 hp hq
      rcases hx with ⟨rfl, rfl, rfl, hz⟩ | ⟨rfl, hz⟩
      · go_wp2_with fail
        refine (split_any _ _ hS.out).mono ?_
        rintro e w4 ⟨p, q, ok, rfl, h1, hp, hq, g4⟩
        replace gx := grown_trans gx g4
        clear g4
        have h2 : spl s.data.toList = (p.data.toList, q.data.toList, ok) := h1.out
        have hO : Hid (okk s.data.toList = ok) := by unfold Hid okk; rw [h2]
        clear h1 hp hq
        cases ok
        case false =>
          obtain ⟨e1, e2⟩ := spl_false h2
          obtain rfl : ByteArray.empty = p := (ba_ext e1).symm
          obtain rfl : ByteArray.empty = q := (ba_ext e2).symm
          clear e1 e2 h2
          go_wp2_with fail
          refine (is_any _ _ hS.out).mono ?_
          rintro e w5 ⟨k, rfl, hk, g5⟩
          have hk2 : k = false := by rw [hk.out, hO.out]
          clear hk
          subst hk2
          go_wp2_with fail
          refine (works_any _).mono ?_
          rintro e w6 ⟨rfl, g6⟩
          go_wp2_with fail
          go_ret
          exact ⟨rfl, grown_trans gx (grown_trans g5 g6)⟩
        case true =>
          obtain ⟨hz, hh⟩ := spl_true h2
          clear h2
          rw [size_eq] at hz
          replace hz := Lib.hid hz
          rcases hh with ⟨e1, e2, e3⟩ | ⟨e1, e2, e3⟩
          · obtain rfl : ByteArray.empty = p := (ba_ext e1).symm
            obtain rfl : s = q := (ba_ext e2).symm
            replace e3 : Hid ((decide (s.size ≤ 64) && pl s.data.toList) = true) := by unfold Hid; rw [decide_eq_true hz.out, e3]; rfl
            clear e1 e2
            go_wp2_with fail
            refine (plain_any _ _ hS.out).mono ?_
            rintro e w5 ⟨rfl, g5⟩
            rw [e3.out]
            replace gx := grown_trans gx g5
            clear g5
            go_wp2_with fail
            generalize hm : may c = mb
            have hM := Lib.hid hm
            clear hm
            refine (may_any _ _).mono ?_
            rintro e w7 ⟨rfl, rfl⟩
            rw [hM.out]
            cases mb
            case true =>
              go_wp2_with fail
              refine (works_any _).mono ?_
              rintro e w8 ⟨rfl, g8⟩
              go_wp2_with fail
              go_ret
              exact ⟨rfl, grown_trans gx g8⟩
            case false =>
              by_cases hd : c = 58
              · have hb : ((c.toNat : Int) == 58) = true := by rw [hd]; rfl
                clear hd
                go_wp2_with fail
                refine (works_any _).mono ?_
                rintro e w8 ⟨rfl, g8⟩
                go_wp2_with fail
                go_ret
                exact ⟨rfl, grown_trans gx g8⟩
              · have hb : ((c.toNat : Int) == 58) = false := by
                  rw [beq_eq_false_iff_ne]; intro h; exact hd (UInt8.toNat_inj.1 (by show c.toNat = 58; omega))
                have hB1 : Hid (beg ((s ++ ⟨#[c]⟩ ++ t).data.toList.take 64) = s.size) := by
                  unfold Hid
                  rw [app_data, app_data]
                  have e : s.data.toList ++ (ByteArray.mk #[c]).data.toList ++ t.data.toList = s.data.toList ++ c :: t.data.toList := by simp
                  rw [e, beg_back hO.out (by rw [size_eq]; exact hz.out) hM.out hd, size_eq]
                have hB2 : Hid (beg (s.data.toList.take 64) = s.size) := by
                  unfold Hid
                  rw [beg_self hO.out (by rw [size_eq]; exact hz.out), size_eq]
                clear hd
                go_wp2_with fail
                refine (begin_any _ _ (by simp only [ByteArray.size_append]; unfold maxLen; have : (ByteArray.mk #[c]).size = 1 := rfl; omega)).mono ?_
                rintro e w8 ⟨n, rfl, hn, rfl⟩
                have hn2 : n = s.size := by rw [hn.out, hB1.out]
                clear hn
                subst hn2
                go_wp2_with fail
                refine (begin_any _ _ hS.out).mono ?_
                rintro e w8 ⟨n, rfl, hn, rfl⟩
                have hn2 : n = s.size := by rw [hn.out, hB2.out]
                clear hn
                subst hn2
                go_wp2_with fail
                refine (works_any _).mono ?_
                rintro e w8 ⟨rfl, g8⟩
                go_wp2_with fail
                go_ret
                exact ⟨rfl, grown_trans (gx.alloc _ _) g8⟩
          · have hpe := ne_empty (p := p) (by rw [← size_eq]; exact pl_pos e1)
            have hpq : p ++ ⟨#[58]⟩ ++ q = s := ba_ext (by rw [app_data, app_data, e3]; simp)
            have hsum : p.size + 1 + q.size = s.size := by rw [← hpq]; simp only [ByteArray.size_append]; rfl
            have hp64 : p.size ≤ 64 := by have := hz.out; omega
            have hq64 : q.size ≤ 64 := by have := hz.out; omega
            have z1 : Hid (p.size ≤ maxLen) := by unfold Hid maxLen; omega
            have z2 : Hid (q.size ≤ maxLen) := by unfold Hid maxLen; omega
            clear hsum
            replace e1 : Hid ((decide (p.size ≤ 64) && pl p.data.toList) = true) := by unfold Hid; rw [decide_eq_true hp64, e1]; rfl
            replace e2 : Hid ((decide (q.size ≤ 64) && pl q.data.toList) = true) := by unfold Hid; rw [decide_eq_true hq64, e2]; rfl
            clear e3
            go_wp2_with fail
            refine (plain_any _ _ z1.out).mono ?_
            rintro e w5 ⟨rfl, g5⟩
            rw [e1.out]
            replace gx := grown_trans gx g5
            clear g5
            go_wp2_with fail
            refine (plain_any _ _ z2.out).mono ?_
            rintro e w5 ⟨rfl, g5⟩
            rw [e2.out]
            replace gx := grown_trans gx g5
            clear g5 hpq
            go_wp2_with fail
            generalize hm : may c = mb
            have hM := Lib.hid hm
            clear hm
            refine (may_any _ _).mono ?_
            rintro e w7 ⟨rfl, rfl⟩
            rw [hM.out]
            cases mb
            case true =>
              go_wp2_with fail
              refine (works_any _).mono ?_
              rintro e w8 ⟨rfl, g8⟩
              go_wp2_with fail
              go_ret
              exact ⟨rfl, grown_trans gx g8⟩
            case false =>
              by_cases hd : c = 58
              · have hb : ((c.toNat : Int) == 58) = true := by rw [hd]; rfl
                clear hd
                go_wp2_with fail
                refine (works_any _).mono ?_
                rintro e w8 ⟨rfl, g8⟩
                go_wp2_with fail
                go_ret
                exact ⟨rfl, grown_trans gx g8⟩
              · have hb : ((c.toNat : Int) == 58) = false := by
                  rw [beq_eq_false_iff_ne]; intro h; exact hd (UInt8.toNat_inj.1 (by show c.toNat = 58; omega))
                have hB1 : Hid (beg ((s ++ ⟨#[c]⟩ ++ t).data.toList.take 64) = s.size) := by
                  unfold Hid
                  rw [app_data, app_data]
                  have e : s.data.toList ++ (ByteArray.mk #[c]).data.toList ++ t.data.toList = s.data.toList ++ c :: t.data.toList := by simp
                  rw [e, beg_back hO.out (by rw [size_eq]; exact hz.out) hM.out hd, size_eq]
                have hB2 : Hid (beg (s.data.toList.take 64) = s.size) := by
                  unfold Hid
                  rw [beg_self hO.out (by rw [size_eq]; exact hz.out), size_eq]
                clear hd
                go_wp2_with fail
                refine (begin_any _ _ (by simp only [ByteArray.size_append]; unfold maxLen; have : (ByteArray.mk #[c]).size = 1 := rfl; omega)).mono ?_
                rintro e w8 ⟨n, rfl, hn, rfl⟩
                have hn2 : n = s.size := by rw [hn.out, hB1.out]
                clear hn
                subst hn2
                go_wp2_with fail
                refine (begin_any _ _ hS.out).mono ?_
                rintro e w8 ⟨n, rfl, hn, rfl⟩
                have hn2 : n = s.size := by rw [hn.out, hB2.out]
                clear hn
                subst hn2
                go_wp2_with fail
                refine (works_any _).mono ?_
                rintro e w8 ⟨rfl, g8⟩
                go_wp2_with fail
                go_ret
                exact ⟨rfl, grown_trans (gx.alloc _ _) g8⟩
      · go_wp2_with fail
        refine (split_any _ _ hS.out).mono ?_
        rintro e w4 ⟨p, q, ok, rfl, h1, hp, hq, g4⟩
        replace gx := grown_trans gx g4
        clear g4
        have h2 : spl s.data.toList = (p.data.toList, q.data.toList, ok) := h1.out
        have hO : Hid (okk s.data.toList = ok) := by unfold Hid okk; rw [h2]
        clear h1 hp hq
        cases ok
        case false =>
          obtain ⟨e1, e2⟩ := spl_false h2
          obtain rfl : ByteArray.empty = p := (ba_ext e1).symm
          obtain rfl : ByteArray.empty = q := (ba_ext e2).symm
          clear e1 e2 h2
          go_wp2_with fail
          refine (is_any _ _ hS.out).mono ?_
          rintro e w5 ⟨k, rfl, hk, g5⟩
          have hk2 : k = false := by rw [hk.out, hO.out]
          clear hk
          subst hk2
          go_wp2_with fail
          refine (works_any _).mono ?_
          rintro e w6 ⟨rfl, g6⟩
          go_wp2_with fail
          go_ret
          exact ⟨rfl, grown_trans gx (grown_trans g5 g6)⟩
        case true =>
          obtain ⟨hz, hh⟩ := spl_true h2
          clear h2
          rw [size_eq] at hz
          replace hz := Lib.hid hz
          rcases hh with ⟨e1, e2, e3⟩ | ⟨e1, e2, e3⟩
          · obtain rfl : ByteArray.empty = p := (ba_ext e1).symm
            obtain rfl : s = q := (ba_ext e2).symm
            replace e3 : Hid ((decide (s.size ≤ 64) && pl s.data.toList) = true) := by unfold Hid; rw [decide_eq_true hz.out, e3]; rfl
            clear e1 e2
            go_wp2_with fail
            refine (plain_any _ _ hS.out).mono ?_
            rintro e w5 ⟨rfl, g5⟩
            rw [e3.out]
            replace gx := grown_trans gx g5
            clear g5
            go_wp2_with fail
            generalize hm : may c = mb
            have hM := Lib.hid hm
            clear hm
            refine (may_any _ _).mono ?_
            rintro e w7 ⟨rfl, rfl⟩
            rw [hM.out]
            cases mb
            case true =>
              go_wp2_with fail
              refine (works_any _).mono ?_
              rintro e w8 ⟨rfl, g8⟩
              go_wp2_with fail
              go_ret
              exact ⟨rfl, grown_trans gx g8⟩
            case false =>
              by_cases hd : c = 58
              · have hb : ((c.toNat : Int) == 58) = true := by rw [hd]; rfl
                clear hd
                go_wp2_with fail
                refine (works_any _).mono ?_
                rintro e w8 ⟨rfl, g8⟩
                go_wp2_with fail
                go_ret
                exact ⟨rfl, grown_trans gx g8⟩
              · have hb : ((c.toNat : Int) == 58) = false := by
                  rw [beq_eq_false_iff_ne]; intro h; exact hd (UInt8.toNat_inj.1 (by show c.toNat = 58; omega))
                have hB1 : Hid (beg ((s ++ ⟨#[c]⟩ ++ t).data.toList.take 64) = s.size) := by
                  unfold Hid
                  rw [app_data, app_data]
                  have e : s.data.toList ++ (ByteArray.mk #[c]).data.toList ++ t.data.toList = s.data.toList ++ c :: t.data.toList := by simp
                  rw [e, beg_back hO.out (by rw [size_eq]; exact hz.out) hM.out hd, size_eq]
                have hB2 : Hid (beg (s.data.toList.take 64) = s.size) := by
                  unfold Hid
                  rw [beg_self hO.out (by rw [size_eq]; exact hz.out), size_eq]
                clear hd
                go_wp2_with fail
                refine (begin_any _ _ (by simp only [ByteArray.size_append]; unfold maxLen; have : (ByteArray.mk #[c]).size = 1 := rfl; omega)).mono ?_
                rintro e w8 ⟨n, rfl, hn, rfl⟩
                have hn2 : n = s.size := by rw [hn.out, hB1.out]
                clear hn
                subst hn2
                go_wp2_with fail
                refine (begin_any _ _ hS.out).mono ?_
                rintro e w8 ⟨n, rfl, hn, rfl⟩
                have hn2 : n = s.size := by rw [hn.out, hB2.out]
                clear hn
                subst hn2
                go_wp2_with fail
                refine (works_any _).mono ?_
                rintro e w8 ⟨rfl, g8⟩
                go_wp2_with fail
                go_ret
                exact ⟨rfl, grown_trans (gx.alloc _ _) g8⟩
          · have hpe := ne_empty (p := p) (by rw [← size_eq]; exact pl_pos e1)
            have hpq : p ++ ⟨#[58]⟩ ++ q = s := ba_ext (by rw [app_data, app_data, e3]; simp)
            have hsum : p.size + 1 + q.size = s.size := by rw [← hpq]; simp only [ByteArray.size_append]; rfl
            have hp64 : p.size ≤ 64 := by have := hz.out; omega
            have hq64 : q.size ≤ 64 := by have := hz.out; omega
            have z1 : Hid (p.size ≤ maxLen) := by unfold Hid maxLen; omega
            have z2 : Hid (q.size ≤ maxLen) := by unfold Hid maxLen; omega
            clear hsum
            replace e1 : Hid ((decide (p.size ≤ 64) && pl p.data.toList) = true) := by unfold Hid; rw [decide_eq_true hp64, e1]; rfl
            replace e2 : Hid ((decide (q.size ≤ 64) && pl q.data.toList) = true) := by unfold Hid; rw [decide_eq_true hq64, e2]; rfl
            clear e3
            go_wp2_with fail
            refine (plain_any _ _ z1.out).mono ?_
            rintro e w5 ⟨rfl, g5⟩
            rw [e1.out]
            replace gx := grown_trans gx g5
            clear g5
            go_wp2_with fail
            refine (plain_any _ _ z2.out).mono ?_
            rintro e w5 ⟨rfl, g5⟩
            rw [e2.out]
            replace gx := grown_trans gx g5
            clear g5 hpq
            go_wp2_with fail
            generalize hm : may c = mb
            have hM := Lib.hid hm
            clear hm
            refine (may_any _ _).mono ?_
            rintro e w7 ⟨rfl, rfl⟩
            rw [hM.out]
            cases mb
            case true =>
              go_wp2_with fail
              refine (works_any _).mono ?_
              rintro e w8 ⟨rfl, g8⟩
              go_wp2_with fail
              go_ret
              exact ⟨rfl, grown_trans gx g8⟩
            case false =>
              by_cases hd : c = 58
              · have hb : ((c.toNat : Int) == 58) = true := by rw [hd]; rfl
                clear hd
                go_wp2_with fail
                refine (works_any _).mono ?_
                rintro e w8 ⟨rfl, g8⟩
                go_wp2_with fail
                go_ret
                exact ⟨rfl, grown_trans gx g8⟩
              · have hb : ((c.toNat : Int) == 58) = false := by
                  rw [beq_eq_false_iff_ne]; intro h; exact hd (UInt8.toNat_inj.1 (by show c.toNat = 58; omega))
                have hB1 : Hid (beg ((s ++ ⟨#[c]⟩ ++ t).data.toList.take 64) = s.size) := by
                  unfold Hid
                  rw [app_data, app_data]
                  have e : s.data.toList ++ (ByteArray.mk #[c]).data.toList ++ t.data.toList = s.data.toList ++ c :: t.data.toList := by simp
                  rw [e, beg_back hO.out (by rw [size_eq]; exact hz.out) hM.out hd, size_eq]
                have hB2 : Hid (beg (s.data.toList.take 64) = s.size) := by
                  unfold Hid
                  rw [beg_self hO.out (by rw [size_eq]; exact hz.out), size_eq]
                clear hd
                go_wp2_with fail
                refine (begin_any _ _ (by simp only [ByteArray.size_append]; unfold maxLen; have : (ByteArray.mk #[c]).size = 1 := rfl; omega)).mono ?_
                rintro e w8 ⟨n, rfl, hn, rfl⟩
                have hn2 : n = s.size := by rw [hn.out, hB1.out]
                clear hn
                subst hn2
                go_wp2_with fail
                refine (begin_any _ _ hS.out).mono ?_
                rintro e w8 ⟨n, rfl, hn, rfl⟩
                have hn2 : n = s.size := by rw [hn.out, hB2.out]
                clear hn
                subst hn2
                go_wp2_with fail
                refine (works_any _).mono ?_
                rintro e w8 ⟨rfl, g8⟩
                go_wp2_with fail
                go_ret
                exact ⟨rfl, grown_trans (gx.alloc _ _) g8⟩
    case false =>
      go_wp2_with fail
      refine (split_any _ _ hS.out).mono ?_
      rintro e w4 ⟨p, q, ok, rfl, h1, hp, hq, g4⟩
      replace gx := grown_trans gx g4
      clear g4
      have h2 : spl s.data.toList = (p.data.toList, q.data.toList, ok) := h1.out
      have hO : Hid (okk s.data.toList = ok) := by unfold Hid okk; rw [h2]
      clear h1 hp hq
      cases ok
      case false =>
        obtain ⟨e1, e2⟩ := spl_false h2
        obtain rfl : ByteArray.empty = p := (ba_ext e1).symm
        obtain rfl : ByteArray.empty = q := (ba_ext e2).symm
        clear e1 e2 h2
        go_wp2_with fail
        refine (is_any _ _ hS.out).mono ?_
        rintro e w5 ⟨k, rfl, hk, g5⟩
        have hk2 : k = false := by rw [hk.out, hO.out]
        clear hk
        subst hk2
        go_wp2_with fail
        refine (works_any _).mono ?_
        rintro e w6 ⟨rfl, g6⟩
        go_wp2_with fail
        go_ret
        exact ⟨rfl, grown_trans gx (grown_trans g5 g6)⟩
      case true =>
        obtain ⟨hz, hh⟩ := spl_true h2
        clear h2
        rw [size_eq] at hz
        replace hz := Lib.hid hz
        rcases hh with ⟨e1, e2, e3⟩ | ⟨e1, e2, e3⟩
        · obtain rfl : ByteArray.empty = p := (ba_ext e1).symm
          obtain rfl : s = q := (ba_ext e2).symm
          replace e3 : Hid ((decide (s.size ≤ 64) && pl s.data.toList) = true) := by unfold Hid; rw [decide_eq_true hz.out, e3]; rfl
          clear e1 e2
          go_wp2_with fail
          refine (plain_any _ _ hS.out).mono ?_
          rintro e w5 ⟨rfl, g5⟩
          rw [e3.out]
          replace gx := grown_trans gx g5
          clear g5
          go_wp2_with fail
          generalize hm : may c = mb
          have hM := Lib.hid hm
          clear hm
          refine (may_any _ _).mono ?_
          rintro e w7 ⟨rfl, rfl⟩
          rw [hM.out]
          cases mb
          case true =>
            go_wp2_with fail
            refine (works_any _).mono ?_
            rintro e w8 ⟨rfl, g8⟩
            go_wp2_with fail
            go_ret
            exact ⟨rfl, grown_trans gx g8⟩
          case false =>
            by_cases hd : c = 58
            · have hb : ((c.toNat : Int) == 58) = true := by rw [hd]; rfl
              clear hd
              go_wp2_with fail
              refine (works_any _).mono ?_
              rintro e w8 ⟨rfl, g8⟩
              go_wp2_with fail
              go_ret
              exact ⟨rfl, grown_trans gx g8⟩
            · have hb : ((c.toNat : Int) == 58) = false := by
                rw [beq_eq_false_iff_ne]; intro h; exact hd (UInt8.toNat_inj.1 (by show c.toNat = 58; omega))
              have hB1 : Hid (beg ((s ++ ⟨#[c]⟩ ++ t).data.toList.take 64) = s.size) := by
                unfold Hid
                rw [app_data, app_data]
                have e : s.data.toList ++ (ByteArray.mk #[c]).data.toList ++ t.data.toList = s.data.toList ++ c :: t.data.toList := by simp
                rw [e, beg_back hO.out (by rw [size_eq]; exact hz.out) hM.out hd, size_eq]
              have hB2 : Hid (beg (s.data.toList.take 64) = s.size) := by
                unfold Hid
                rw [beg_self hO.out (by rw [size_eq]; exact hz.out), size_eq]
              clear hd
              go_wp2_with fail
              refine (begin_any _ _ (by simp only [ByteArray.size_append]; unfold maxLen; have : (ByteArray.mk #[c]).size = 1 := rfl; omega)).mono ?_
              rintro e w8 ⟨n, rfl, hn, rfl⟩
              have hn2 : n = s.size := by rw [hn.out, hB1.out]
              clear hn
              subst hn2
              go_wp2_with fail
              refine (begin_any _ _ hS.out).mono ?_
              rintro e w8 ⟨n, rfl, hn, rfl⟩
              have hn2 : n = s.size := by rw [hn.out, hB2.out]
              clear hn
              subst hn2
              go_wp2_with fail
              refine (works_any _).mono ?_
              rintro e w8 ⟨rfl, g8⟩
              go_wp2_with fail
              go_ret
              exact ⟨rfl, grown_trans (gx.alloc _ _) g8⟩
        · have hpe := ne_empty (p := p) (by rw [← size_eq]; exact pl_pos e1)
          have hpq : p ++ ⟨#[58]⟩ ++ q = s := ba_ext (by rw [app_data, app_data, e3]; simp)
          have hsum : p.size + 1 + q.size = s.size := by rw [← hpq]; simp only [ByteArray.size_append]; rfl
          have hp64 : p.size ≤ 64 := by have := hz.out; omega
          have hq64 : q.size ≤ 64 := by have := hz.out; omega
          have z1 : Hid (p.size ≤ maxLen) := by unfold Hid maxLen; omega
          have z2 : Hid (q.size ≤ maxLen) := by unfold Hid maxLen; omega
          clear hsum
          replace e1 : Hid ((decide (p.size ≤ 64) && pl p.data.toList) = true) := by unfold Hid; rw [decide_eq_true hp64, e1]; rfl
          replace e2 : Hid ((decide (q.size ≤ 64) && pl q.data.toList) = true) := by unfold Hid; rw [decide_eq_true hq64, e2]; rfl
          clear e3
          go_wp2_with fail
          refine (plain_any _ _ z1.out).mono ?_
          rintro e w5 ⟨rfl, g5⟩
          rw [e1.out]
          replace gx := grown_trans gx g5
          clear g5
          go_wp2_with fail
          refine (plain_any _ _ z2.out).mono ?_
          rintro e w5 ⟨rfl, g5⟩
          rw [e2.out]
          replace gx := grown_trans gx g5
          clear g5 hpq
          go_wp2_with fail
          generalize hm : may c = mb
          have hM := Lib.hid hm
          clear hm
          refine (may_any _ _).mono ?_
          rintro e w7 ⟨rfl, rfl⟩
          rw [hM.out]
          cases mb
          case true =>
            go_wp2_with fail
            refine (works_any _).mono ?_
            rintro e w8 ⟨rfl, g8⟩
            go_wp2_with fail
            go_ret
            exact ⟨rfl, grown_trans gx g8⟩
          case false =>
            by_cases hd : c = 58
            · have hb : ((c.toNat : Int) == 58) = true := by rw [hd]; rfl
              clear hd
              go_wp2_with fail
              refine (works_any _).mono ?_
              rintro e w8 ⟨rfl, g8⟩
              go_wp2_with fail
              go_ret
              exact ⟨rfl, grown_trans gx g8⟩
            · have hb : ((c.toNat : Int) == 58) = false := by
                rw [beq_eq_false_iff_ne]; intro h; exact hd (UInt8.toNat_inj.1 (by show c.toNat = 58; omega))
              have hB1 : Hid (beg ((s ++ ⟨#[c]⟩ ++ t).data.toList.take 64) = s.size) := by
                unfold Hid
                rw [app_data, app_data]
                have e : s.data.toList ++ (ByteArray.mk #[c]).data.toList ++ t.data.toList = s.data.toList ++ c :: t.data.toList := by simp
                rw [e, beg_back hO.out (by rw [size_eq]; exact hz.out) hM.out hd, size_eq]
              have hB2 : Hid (beg (s.data.toList.take 64) = s.size) := by
                unfold Hid
                rw [beg_self hO.out (by rw [size_eq]; exact hz.out), size_eq]
              clear hd
              go_wp2_with fail
              refine (begin_any _ _ (by simp only [ByteArray.size_append]; unfold maxLen; have : (ByteArray.mk #[c]).size = 1 := rfl; omega)).mono ?_
              rintro e w8 ⟨n, rfl, hn, rfl⟩
              have hn2 : n = s.size := by rw [hn.out, hB1.out]
              clear hn
              subst hn2
              go_wp2_with fail
              refine (begin_any _ _ hS.out).mono ?_
              rintro e w8 ⟨n, rfl, hn, rfl⟩
              have hn2 : n = s.size := by rw [hn.out, hB2.out]
              clear hn
              subst hn2
              go_wp2_with fail
              refine (works_any _).mono ?_
              rintro e w8 ⟨rfl, g8⟩
              go_wp2_with fail
              go_ret
              exact ⟨rfl, grown_trans (gx.alloc _ _) g8⟩
  case false =>
    go_wp2_with fail
    refine (split_any _ _ hS.out).mono ?_
    rintro e w4 ⟨p, q, ok, rfl, h1, hp, hq, g4⟩
    replace gx := grown_trans gx g4
    clear g4
    have h2 : spl s.data.toList = (p.data.toList, q.data.toList, ok) := h1.out
    have hO : Hid (okk s.data.toList = ok) := by unfold Hid okk; rw [h2]
    clear h1 hp hq
    cases ok
    case false =>
      obtain ⟨e1, e2⟩ := spl_false h2
      obtain rfl : ByteArray.empty = p := (ba_ext e1).symm
      obtain rfl : ByteArray.empty = q := (ba_ext e2).symm
      clear e1 e2 h2
      go_wp2_with fail
      refine (is_any _ _ hS.out).mono ?_
      rintro e w5 ⟨k, rfl, hk, g5⟩
      have hk2 : k = false := by rw [hk.out, hO.out]
      clear hk
      subst hk2
      go_wp2_with fail
      refine (works_any _).mono ?_
      rintro e w6 ⟨rfl, g6⟩
      go_wp2_with fail
      go_ret
      exact ⟨rfl, grown_trans gx (grown_trans g5 g6)⟩
    case true =>
      obtain ⟨hz, hh⟩ := spl_true h2
      clear h2
      rw [size_eq] at hz
      replace hz := Lib.hid hz
      rcases hh with ⟨e1, e2, e3⟩ | ⟨e1, e2, e3⟩
      · obtain rfl : ByteArray.empty = p := (ba_ext e1).symm
        obtain rfl : s = q := (ba_ext e2).symm
        replace e3 : Hid ((decide (s.size ≤ 64) && pl s.data.toList) = true) := by unfold Hid; rw [decide_eq_true hz.out, e3]; rfl
        clear e1 e2
        go_wp2_with fail
        refine (plain_any _ _ hS.out).mono ?_
        rintro e w5 ⟨rfl, g5⟩
        rw [e3.out]
        replace gx := grown_trans gx g5
        clear g5
        go_wp2_with fail
        generalize hm : may c = mb
        have hM := Lib.hid hm
        clear hm
        refine (may_any _ _).mono ?_
        rintro e w7 ⟨rfl, rfl⟩
        rw [hM.out]
        cases mb
        case true =>
          go_wp2_with fail
          refine (works_any _).mono ?_
          rintro e w8 ⟨rfl, g8⟩
          go_wp2_with fail
          go_ret
          exact ⟨rfl, grown_trans gx g8⟩
        case false =>
          by_cases hd : c = 58
          · have hb : ((c.toNat : Int) == 58) = true := by rw [hd]; rfl
            clear hd
            go_wp2_with fail
            refine (works_any _).mono ?_
            rintro e w8 ⟨rfl, g8⟩
            go_wp2_with fail
            go_ret
            exact ⟨rfl, grown_trans gx g8⟩
          · have hb : ((c.toNat : Int) == 58) = false := by
              rw [beq_eq_false_iff_ne]; intro h; exact hd (UInt8.toNat_inj.1 (by show c.toNat = 58; omega))
            have hB1 : Hid (beg ((s ++ ⟨#[c]⟩ ++ t).data.toList.take 64) = s.size) := by
              unfold Hid
              rw [app_data, app_data]
              have e : s.data.toList ++ (ByteArray.mk #[c]).data.toList ++ t.data.toList = s.data.toList ++ c :: t.data.toList := by simp
              rw [e, beg_back hO.out (by rw [size_eq]; exact hz.out) hM.out hd, size_eq]
            have hB2 : Hid (beg (s.data.toList.take 64) = s.size) := by
              unfold Hid
              rw [beg_self hO.out (by rw [size_eq]; exact hz.out), size_eq]
            clear hd
            go_wp2_with fail
            refine (begin_any _ _ (by simp only [ByteArray.size_append]; unfold maxLen; have : (ByteArray.mk #[c]).size = 1 := rfl; omega)).mono ?_
            rintro e w8 ⟨n, rfl, hn, rfl⟩
            have hn2 : n = s.size := by rw [hn.out, hB1.out]
            clear hn
            subst hn2
            go_wp2_with fail
            refine (begin_any _ _ hS.out).mono ?_
            rintro e w8 ⟨n, rfl, hn, rfl⟩
            have hn2 : n = s.size := by rw [hn.out, hB2.out]
            clear hn
            subst hn2
            go_wp2_with fail
            refine (works_any _).mono ?_
            rintro e w8 ⟨rfl, g8⟩
            go_wp2_with fail
            go_ret
            exact ⟨rfl, grown_trans (gx.alloc _ _) g8⟩
      · have hpe := ne_empty (p := p) (by rw [← size_eq]; exact pl_pos e1)
        have hpq : p ++ ⟨#[58]⟩ ++ q = s := ba_ext (by rw [app_data, app_data, e3]; simp)
        have hsum : p.size + 1 + q.size = s.size := by rw [← hpq]; simp only [ByteArray.size_append]; rfl
        have hp64 : p.size ≤ 64 := by have := hz.out; omega
        have hq64 : q.size ≤ 64 := by have := hz.out; omega
        have z1 : Hid (p.size ≤ maxLen) := by unfold Hid maxLen; omega
        have z2 : Hid (q.size ≤ maxLen) := by unfold Hid maxLen; omega
        clear hsum
        replace e1 : Hid ((decide (p.size ≤ 64) && pl p.data.toList) = true) := by unfold Hid; rw [decide_eq_true hp64, e1]; rfl
        replace e2 : Hid ((decide (q.size ≤ 64) && pl q.data.toList) = true) := by unfold Hid; rw [decide_eq_true hq64, e2]; rfl
        clear e3
        go_wp2_with fail
        refine (plain_any _ _ z1.out).mono ?_
        rintro e w5 ⟨rfl, g5⟩
        rw [e1.out]
        replace gx := grown_trans gx g5
        clear g5
        go_wp2_with fail
        refine (plain_any _ _ z2.out).mono ?_
        rintro e w5 ⟨rfl, g5⟩
        rw [e2.out]
        replace gx := grown_trans gx g5
        clear g5 hpq
        go_wp2_with fail
        generalize hm : may c = mb
        have hM := Lib.hid hm
        clear hm
        refine (may_any _ _).mono ?_
        rintro e w7 ⟨rfl, rfl⟩
        rw [hM.out]
        cases mb
        case true =>
          go_wp2_with fail
          refine (works_any _).mono ?_
          rintro e w8 ⟨rfl, g8⟩
          go_wp2_with fail
          go_ret
          exact ⟨rfl, grown_trans gx g8⟩
        case false =>
          by_cases hd : c = 58
          · have hb : ((c.toNat : Int) == 58) = true := by rw [hd]; rfl
            clear hd
            go_wp2_with fail
            refine (works_any _).mono ?_
            rintro e w8 ⟨rfl, g8⟩
            go_wp2_with fail
            go_ret
            exact ⟨rfl, grown_trans gx g8⟩
          · have hb : ((c.toNat : Int) == 58) = false := by
              rw [beq_eq_false_iff_ne]; intro h; exact hd (UInt8.toNat_inj.1 (by show c.toNat = 58; omega))
            have hB1 : Hid (beg ((s ++ ⟨#[c]⟩ ++ t).data.toList.take 64) = s.size) := by
              unfold Hid
              rw [app_data, app_data]
              have e : s.data.toList ++ (ByteArray.mk #[c]).data.toList ++ t.data.toList = s.data.toList ++ c :: t.data.toList := by simp
              rw [e, beg_back hO.out (by rw [size_eq]; exact hz.out) hM.out hd, size_eq]
            have hB2 : Hid (beg (s.data.toList.take 64) = s.size) := by
              unfold Hid
              rw [beg_self hO.out (by rw [size_eq]; exact hz.out), size_eq]
            clear hd
            go_wp2_with fail
            refine (begin_any _ _ (by simp only [ByteArray.size_append]; unfold maxLen; have : (ByteArray.mk #[c]).size = 1 := rfl; omega)).mono ?_
            rintro e w8 ⟨n, rfl, hn, rfl⟩
            have hn2 : n = s.size := by rw [hn.out, hB1.out]
            clear hn
            subst hn2
            go_wp2_with fail
            refine (begin_any _ _ hS.out).mono ?_
            rintro e w8 ⟨n, rfl, hn, rfl⟩
            have hn2 : n = s.size := by rw [hn.out, hB2.out]
            clear hn
            subst hn2
            go_wp2_with fail
            refine (works_any _).mono ?_
            rintro e w8 ⟨rfl, g8⟩
            go_wp2_with fail
            go_ret
            exact ⟨rfl, grown_trans (gx.alloc _ _) g8⟩
end Go.Proofs
namespace Go.Proofs
open Go.RowKit
theorem byte_of (a : Int) (h : (Lit.int .u8 a).wf = true) : ∃ c : UInt8, a = (c.toNat : Int) := by
  have hb : 0 ≤ a ∧ a ≤ 255 := by
    have h1 : IntKind.u8.min = 0 := by decide
    have h2 : IntKind.u8.max = 255 := by decide
    simp only [Lit.wf, h1, h2, Bool.and_eq_true, decide_eq_true_eq] at h
    exact h
  exact ⟨UInt8.ofNat a.toNat, by simp; omega⟩
theorem nameBack_int (s t : ByteArray) (a : Int) (w : World) (hs : s.size ≤ maxLen) (ht : t.size ≤ maxLen) (h : (Lit.int .u8 a).wf = true) :
    Calls Try.prog 5 #[.string s, .string t, .int .u8 a] w fun e w' => e = .returned (.bool true) ∧ Grown w w' := by
  obtain ⟨c, rfl⟩ := byte_of a h
  exact nameBack_any s t c w hs ht
end Go.Proofs
