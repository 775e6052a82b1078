/- The walk of utf.each. -/
import Derived.Test.YtnlpdempnmpbcaaDoorA
import Derived.WalkSpells
import Derived.WalkSmall
import Derived.Laws.RangeAny
import Derived.WalkLawsBesides
namespace Go.Proofs
open Go.RowKit Go.Ut
theorem size_mk (l : List UInt8) : (ByteArray.mk l.toArray).size = l.length := by simp [ByteArray.size]
theorem putB_yes {c : Nat} (h : IsC c) : putB c = ⟨(encL c).toArray⟩ := by unfold putB; rw [if_pos h]; rfl
theorem putB_no {c : Nat} (h : ¬ IsC c) : putB c = ⟨#[]⟩ := by unfold putB; rw [if_neg h]

theorem nxt_notC {l : List UInt8} {x wd : Nat} (h : (x, wd) = decL l) (hc : ¬ IsC x) : nxt l = none := by
  unfold nxt; rw [← h]; rw [if_neg]; exact fun hh => hc hh.1
theorem nxt_notP {l : List UInt8} {x wd : Nat} (h : (x, wd) = decL l) (hc : ¬ encL x <+: l) : nxt l = none := by
  unfold nxt; rw [← h]; rw [if_neg]; exact fun hh => hc hh.2
theorem nxt_dec {l : List UInt8} {x wd : Nat} (h : (x, wd) = decL l) (hc : IsC x) (hp : encL x <+: l) : nxt l = some (x, (encL x).length) ∧ wd = (encL x).length := by
  refine ⟨nxt_some.2 ⟨hc, hp, rfl⟩, ?_⟩
  obtain ⟨t, rfl⟩ := hp
  rw [decL_enc x hc] at h
  exact (Prod.mk.injEq _ _ _ _ ▸ h).2
theorem pre_take {a l : List UInt8} (h : l.take a.length = a) : a <+: l := by
  have := List.take_append_drop a.length l
  rw [h] at this
  exact ⟨_, this⟩
theorem take_pre {a l : List UInt8} (h : a <+: l) : l.take a.length = a := by
  obtain ⟨t, rfl⟩ := h
  rw [List.take_append_of_le_length (Nat.le_refl _), List.take_of_length_le (Nat.le_refl _)]
theorem ext_take_drop (s : ByteArray) (p n : Nat) : (s.extract p (p + n)).toList = (s.data.toList.drop p).take n := by
  rw [ByteArray.toList_eq, Lib.extract_data]; congr 1; omega
theorem toList_mk (l : List UInt8) : (ByteArray.mk l.toArray).toList = l := by rw [ByteArray.toList_eq]

set_option maxHeartbeats 1600000 in
theorem each_any (s : ByteArray) (most : Nat) (w : World) (hw : Tab w) (hs : s.size ≤ maxLen) :
    Calls Tryd.prog 18 #[.string s, .int .i64 most] w fun e w' => ∃ c k b : Nat, e = .returned (.tuple #[.int .i32 c, .int .i64 k, .int .i64 b]) ∧ Hid (eachC most 0 0 0 s.data.toList = (c, k, b)) ∧ Below w.heap.size w w' := by
  unfold maxLen at hs
  go_enter Tryd.func18, Tryd.ntmps18
  go_wp2
  go_loopw [4, 5, 6] (fun c k b wr => ∃ cn kn pos m : Nat, c = .int .i32 cn ∧ k = .int .i64 kn ∧ b = .int .i64 pos ∧ pos ≤ s.size ∧ kn ≤ pos ∧ kn + m = most ∧ wr.heap[w.heap.size]? = some (.stringIter s pos) ∧ Below w.heap.size w wr ∧ Hid (eachC most 0 0 0 s.data.toList = eachC m cn kn pos (s.data.toList.drop pos))) (fun _ _ _ wr => s.size - wr.iterPos w.heap.size)
  case atStart => exact ⟨0, 0, 0, most, rfl, rfl, rfl, by omega, by omega, by omega, World.iter_heap w s 0, (Below.refl _ _).alloc (Nat.le_refl _) _, rfl⟩
  case round =>
    obtain ⟨c, k, pos, m, rfl, rfl, rfl, hp, hkp, hkm, hit, hbw, HS⟩ := hrel
    have HKM := Lib.hid hkm
    clear hkm
    have hpos0 := Lib.hid (iterPos_of hit)
    by_cases hlt : pos < s.size
    · have hnx : ∀ ty, (Instr.next (.pointer (some ⟨w.heap.size, 0, none⟩)) true ty).run Tryd.prog wr = _ := fun ty => Lib.run_next_any_at wr w.heap.size s pos ty hit hlt
      have hit2 := Lib.iterAt_heap wr w.heap.size s pos (pos + (Utf8.decode s pos).2) hit
      have hbw2 := Lib.below_iterAt hbw (k := w.heap.size) (Nat.le_refl _) s (pos + (Utf8.decode s pos).2)
      obtain ⟨W1, hW1⟩ : ∃ W1, W1 = wr.iterAt w.heap.size s (pos + (Utf8.decode s pos).2) := ⟨_, rfl⟩
      rw [← hW1] at hnx hit2 hbw2
      have hT := hw.below hbw2 hw.size
      have hsz := hbw2.size
      have hd := Lib.hid (decode_eq s pos)
      generalize hx : Utf8.decode s pos = xd at *
      obtain ⟨x, wd⟩ := xd
      simp only at hnx hit2
      clear hW1 hx hit hbw
      have HT := Lib.hid hT
      have HN := Lib.hid hnx
      have HB := Lib.hid hbw2
      have HI := Lib.hid hit2
      clear hT hnx hbw2 hit2
      by_cases hkm : m = 0
      · have hb : ((k : Int) == most) = true := by have := HKM.out; simp; omega
        have hfin : Hid (eachC most 0 0 0 s.data.toList = (c, k, pos)) := by unfold Hid; rw [HS.out, hkm]; rfl
        clear hkm
        have hnx := HN.out
        go_wp2_with fail
        go_ret3
        exact ⟨c, k, pos, rfl, hfin, HB.out⟩
      · obtain ⟨m, rfl⟩ : ∃ m', m = m' + 1 := ⟨m - 1, by omega⟩
        have hb : ((k : Int) == most) = false := by have := HKM.out; simp; omega
        have hnx := HN.out
        clear hkm
        go_wp2_with fail
        refine (put_any _ _ HT.out).mono ?_
        rintro e w2 ⟨rfl, hp2⟩
        have hbw3 := Lib.hid (HB.out.trans (hp2.mono hsz))
        have hit3 := Lib.hid ((hp2.block _ (by have := lt_of_block HI.out; exact this)).trans HI.out)
        clear hp2
        by_cases hC : IsC x
        · rw [putB_yes hC]
          have hz := size_mk (encL x)
          have hpos := encL_pos x
          have he : (ByteArray.mk (encL x).toArray).toList.isEmpty = false := by
            rw [toList_mk]; cases hh : encL x with
            | nil => rw [hh] at hpos; simp at hpos
            | cons _ _ => rfl
          have hL := Lib.hid (toList_mk (encL x))
          generalize hB : ByteArray.mk (encL x).toArray = B at *
          by_cases hl : s.size - pos < B.size
          · have hno : Hid (nxt (s.data.toList.drop pos) = none) := nxt_notP hd.out (fun hp => by have := hp.length_le; rw [List.length_drop, size_eq] at this; omega)
            go_wp2_with fail
            go_ret3
            exact ⟨c, k, pos, rfl, by unfold Hid; rw [HS.out, eachC_none hno.out], hbw3.out⟩
          · have hl2 : (pos : Int) + B.size ≤ s.size := by omega
            go_wp2_with fail
            · have hh : (s.size : Int) - pos < (encL x).length ∨ (!(s.extract pos (pos + (encL x).length)).toList == B.toList) = true := by assumption
              have hno : Hid (nxt (s.data.toList.drop pos) = none) := nxt_notP hd.out (fun hp => by
                rcases hh with hh | hh
                · omega
                · rw [ext_take_drop, take_pre hp, hL.out] at hh; simp at hh)
              go_ret3
              exact ⟨c, k, pos, rfl, by unfold Hid; rw [HS.out, eachC_none hno.out], hbw3.out⟩
            · have hh : ((encL x).length : Int) ≤ (s.size : Int) - pos ∧ (!(s.extract pos (pos + (encL x).length)).toList == B.toList) = false := by assumption
              have hpr : encL x <+: s.data.toList.drop pos := pre_take (by
                have h2 := hh.2
                rw [ext_take_drop, hL.out] at h2
                simpa using h2)
              obtain ⟨hn, hwd⟩ := nxt_dec hd.out hC hpr
              go_roundw
              case rel => exact ⟨x, k + 1, pos + (encL x).length, m, rfl, by go_num, by go_num, by omega, by omega, by have := HKM.out; omega, by rw [← hwd]; exact hit3.out, hbw3.out, by unfold Hid; rw [HS.out, eachC_some hn, List.drop_drop]⟩
              case measure => rw [iterPos_of hit3.out, hpos0.out, hwd]; omega
        · have hno : Hid (nxt (s.data.toList.drop pos) = none) := nxt_notC hd.out hC
          rw [putB_no hC]
          go_wp2_with fail
          go_ret3
          exact ⟨c, k, pos, rfl, by unfold Hid; rw [HS.out, eachC_none hno.out], hbw3.out⟩
    · have hnx : ∀ ty, (Instr.next (.pointer (some ⟨w.heap.size, 0, none⟩)) true ty).run Tryd.prog wr = _ := fun ty => Lib.run_next_end_at wr w.heap.size s pos ty hit hlt
      go_wp2_with fail
      go_ret3
      exact ⟨c, k, pos, rfl, by unfold Hid; rw [HS.out, eachC_none]; rw [List.drop_eq_nil_of_le (by rw [size_eq]; omega)]; exact nxt_nil, hbw⟩
end Go.Proofs
