/- The walk of the law LexPlaces. -/
import Derived.Test.YtblccelfkffggaaDoorLexJ
namespace Go.Proofs
open Go.RowKit Go.Lx

theorem place_end {p : Nat} {l : List UInt8} (h : TT p l = (none, [])) : toks l = (none, []) := by
  have hle := blk_le false l
  by_cases hk : blk false l = l.length
  · rw [toks_TT, TT_blank hk]
  · have hlt : blk false l < l.length := by omega
    by_cases hbad : (first (l.drop (blk false l))).1 = 0 ∨ 64 < (first (l.drop (blk false l))).1
    · rw [TT_bad hlt hbad] at h; cases h
    · have e1 : TT p l = _ := TT_good hbad
      rw [e1] at h
      simp at h
theorem place_step {p : Nat} {l : List UInt8} {t : Tok} {R : List Tok} (h : TT p l = (none, t :: R)) :
    ∃ b n, t.2.2 = p + b ∧ 1 ≤ n ∧ n ≤ 64 ∧ b + n ≤ l.length ∧ t.2.1 = (l.drop b).take n ∧ TT (p + b + n) (l.drop (b + n)) = (none, R) ∧ toks (l.take b) = (none, []) ∧ (b + n < l.length → isT ((l.drop b).take (n + 1)) = 0) := by
  have hle := blk_le false l
  by_cases hk : blk false l = l.length
  · rw [TT_blank hk] at h; cases h
  · have hlt : blk false l < l.length := by omega
    by_cases hbad : (first (l.drop (blk false l))).1 = 0 ∨ 64 < (first (l.drop (blk false l))).1
    · rw [TT_bad hlt hbad] at h; cases h
    · have e1 : TT p l = _ := TT_good hbad
      have hfl := first_le (l.drop (blk false l))
      rw [List.length_drop] at hfl
      rw [e1] at h
      simp only [Prod.mk.injEq, List.cons.injEq] at h
      obtain ⟨h1, rfl, h2⟩ := h
      refine ⟨blk false l, (first (l.drop (blk false l))).1, rfl, by omega, by omega, by omega, rfl, Prod.ext h1 h2, by rw [toks_TT]; exact blk_take_toks l 0, fun hl => ?_⟩
      have hidem := blk_idem false l
      rw [isT_whole, List.length_take, List.length_drop]
      split
      · rfl
      · generalize hd : l.drop (blk false l) = d at *
        have hdl : d.length = l.length - blk false l := by rw [← hd, List.length_drop]
        cases d with
        | nil => simp at hdl; omega
        | cons c u => exact whole_next (blk_pos_of hidem).2 (fun hh => hbad (.inl hh)) (by omega)

set_option maxRecDepth 100000 in
set_option maxHeartbeats 3200000 in
theorem lexPlaces_good (s : ByteArray) (X : List Tok) (w : World) (hT : Tab w) (hs : s.size ≤ 600) (hX : toks s.data.toList = (none, X)) :
    Calls Tryd.prog 5 #[.string s] w fun e w' => e = .returned (.bool true) ∧ Below w.heap.size w w' := by
  have hXl := toks_len s.data.toList
  rw [hX, size_eq] at hXl
  simp only at hXl
  have cX := fun wx hTx => tok_good s X wx hTx (by omega) hX
  have CX := Lib.hid cX
  have H0 : Hid (TT 0 (s.data.toList.drop 0) = (none, X.drop 0)) := by unfold Hid; rw [List.drop_zero, List.drop_zero, ← toks_TT, hX]
  clear cX hX
  have hgetI := fun (i : Nat) (hi : i < X.length) => (show (X.map ofTok)[i]'(by simpa using hi) = ofTok X[i] from List.getElem_map ..)
  have HGET := Lib.hid hgetI
  clear hgetI
  obtain ⟨n, hn⟩ : ∃ n, n = X.length := ⟨_, rfl⟩
  have HN := Lib.hid hn
  rw [← hn] at hXl
  clear hn
  go_enter Tryd.func5, Tryd.ntmps5
  go_wp2_with fail
  refine (CX.out _ hT).mono ?_
  rintro e w1 ⟨vx, rfl, -, hx, g1⟩
  have HX := Lib.hid hx
  clear hx
  have T1 := hT.next g1
  obtain ⟨ax, cx, hvx⟩ : ∃ a c, vx = .slice a n c := by
    rcases HX.out with ⟨rfl, h⟩ | ⟨b, o, c, rfl, _⟩
    · exact ⟨none, 0, by rw [HN.out, List.map_eq_nil_iff.1 h]; rfl⟩
    · exact ⟨_, _, by rw [HN.out, List.length_map]⟩
  subst hvx
  go_wp2_with fail
  go_loopw [6, 7, 8, 9, 10, 11] (fun a i _ _ _ _ wr => ∃ k p : Nat, k ≤ n + 1 ∧ p ≤ s.size ∧ i = .int .i64 k ∧ a = .int .i64 p ∧ Below w1.heap.size w1 wr ∧ (k ≤ n → Hid (TT p (s.data.toList.drop p) = (none, X.drop k)))) (fun _ i _ _ _ _ _ => n + 1 - (intOf i).toNat)
  case atStart => exact ⟨0, 0, by omega, by omega, rfl, rfl, Below.refl _ _, fun _ => H0.out⟩
  case round =>
    obtain ⟨k, p, hk, hp, rfl, rfl, hg, hP⟩ := hrel
    have HP := Lib.hid hP
    clear hP
    have hTr := T1.next hg
    by_cases hlt : k < n
    · have hkX : k < X.length := by rw [← HN.out]; exact hlt
      have hP1 := (HP.out (by omega)).out
      rw [List.drop_eq_getElem_cons hkX] at hP1
      obtain ⟨b, m, hpl, hm1, hm2, hbm, htx, hnext, hbl, hnon⟩ := place_step hP1
      rw [List.length_drop, size_eq] at hbm hnon
      have hxi : k < (X.map ofTok).length := by rw [List.length_map]; exact hkX
      obtain ⟨bx, ox, rfl, hbx, x0, x1, x2⟩ := HX.out.get hxi
      rw [← hg.cell (p := ⟨bx, ox + k * 3, none⟩) hbx] at x0
      rw [← hg.cell (p := ⟨bx, ox + k * 3 + 1, none⟩) hbx] at x1
      rw [← hg.cell (p := ⟨bx, ox + k * 3 + 2, none⟩) hbx] at x2
      rw [HGET.out k hkX] at x0 x1 x2
      have htx2 : (ByteArray.mk X[k].2.1.toArray) = s.extract (p + b) (p + b + m) := by
        apply ba_ext; rw [ext_mid]; simp only; rw [htx, List.drop_drop]
      simp only [ofTok, htx2, hpl] at x0 x1 x2
      have cB := fun wx hTx => tok_good (s.extract p (p + b)) [] wx hTx (by rw [ByteArray.size_extract]; omega) (by rw [ext_mid]; exact hbl)
      have CB := Lib.hid cB
      have hN : Hid (TT (p + b + m) (s.data.toList.drop (p + b + m)) = (none, X.drop (k + 1))) := by
        unfold Hid; rw [← hnext, List.drop_drop, Nat.add_assoc]
      have hNon : Hid (p + b + m < s.size → isT (s.extract (p + b) (p + b + m + 1)).data.toList = 0) := by
        intro hh
        rw [show p + b + m + 1 = p + b + (m + 1) by omega, ext_mid, ← List.drop_drop]; exact hnon (by omega)
      have hsz : (s.extract (p + b) (p + b + m)).size = m := by rw [ByteArray.size_extract]; omega
      have hpb : (p : Int) ≤ (p : Int) + b := by omega
      have hpbm : p + b + m ≤ s.size := by omega
      have hki : (k : Int) ≤ n := by omega
      have hki2 : (k : Int) < n := by omega
      have hki0 : (0 : Int) ≤ k := by omega
      have x0' := Lib.hid x0
      clear hP1 hpl htx hnext hbl hnon hxi cB htx2 x0
      generalize X[k] = t at *
      have hbx' : bx < wr.heap.size := Nat.lt_of_lt_of_le hbx hg.size
      have e2 : ((p + b : Nat) : Int) = (p : Int) + b := by omega
      rw [e2] at x2
      clear e2
      go_wp2_with fail
      refine (CB.out _ hTr).mono ?_
      rintro e w2 ⟨v0, rfl, -, h0, g2⟩
      obtain ⟨a0, c0, rfl⟩ : ∃ a c, v0 = .slice a 0 c := by
        rcases h0 with ⟨rfl, _⟩ | ⟨b, o, c, rfl, _⟩
        · exact ⟨none, 0, rfl⟩
        · exact ⟨_, _, rfl⟩
      clear h0
      have y1 := (g2.cell (p := ⟨bx, ox + k * 3 + 1, none⟩) hbx').trans x1
      have hgn := hg.trans (g2.mono hg.size)
      have hTn := T1.next hgn
      have hbn : bx < w2.heap.size := Nat.lt_of_lt_of_le hbx' g2.size
      clear x1 x2 g2 hg hTr
      go_wp2_with fail
      have hd1 : decide ((s.size : Int) < (p : Int) + b + m) = false := by simp; omega
      have q1 := IntWalk.i64_in ((p : Int) + b + m + 1) (by omega)
      have q2 : 0 ≤ (p : Int) + b + m + 1 := by omega
      have q3 : ((p : Int) + b + m + 1).toNat = p + b + m + 1 := by omega
      have q4 : (p : Int) + b ≤ (p : Int) + b + m + 1 := by omega
      have q5 : 0 ≤ (p : Int) + b := by omega
      have q6 : ((p : Int) + b).toNat = p + b := by omega
      have q7 : 0 ≤ (p : Int) + b + m := by omega
      have q8 : ((p : Int) + b + m).toNat = p + b + m := by omega
      have q9 : (p : Int) + b ≤ (p : Int) + b + m := by omega
      have qa : (p : Int) + b + m ≤ s.size := by omega
      by_cases hend : p + b + m < s.size
      · have hd2 : decide ((p : Int) + b + m < s.size) = true := by simp; omega
        have qb : (p : Int) + b + m + 1 ≤ s.size := by omega
        have hI : Hid (isT (s.extract (p + b) (p + b + m + 1)).data.toList = 0) := hNon.out hend
        have hz9 : (s.extract (p + b) (p + b + m + 1)).size ≤ 1000 := by rw [ByteArray.size_extract]; omega
        have HZ9 := Lib.hid hz9
        clear hz9 hNon
        go_region_held3 (fun w' => w'.cell? ⟨bx, ox + k * 3 + 1, none⟩ = some (.string (s.extract (p + b) (p + b + m))))
          (first
            | go_keep
            | exact (hbi.cell (p := ⟨bx, ox + k * 3 + 1, none⟩) hbn).trans y1)
          (first
            | (go_at_call 13; refine (lis_at _ 0 _ (show Tab w2.drew from hTn) HZ9.out hI.out).mono ?_; rintro e w3 ⟨rfl, hbi⟩))
        clear q1 q2 q3 q4 q5 q6 q7 q8 q9
        have hgn2 := hgn.drew.trans (hbi.mono hgn.size)
        go_wp2_with fail
        go_roundw
        case rel => exact ⟨k + 1, p + b + m, by omega, hpbm, by go_num, by congr 1, hgn2, fun _ => hN.out⟩
        case measure => simp [intOf] <;> omega
      · have hd2 : decide ((p : Int) + b + m < s.size) = false := by simp; omega
        clear hNon
        go_quiet (fail)
        clear q1 q2 q3 q4 q5 q6 q7 q8 q9
        go_wp2_with fail
        go_roundw
        case rel => exact ⟨k + 1, p + b + m, by omega, hpbm, by go_num, by congr 1, below_drewN hgn _, fun _ => hN.out⟩
        case measure => simp [intOf] <;> omega
    · by_cases hkn : k = n
      · subst hkn
        have hP1 := (HP.out (Nat.le_refl _)).out
        have hXn : X.drop k = [] := List.drop_eq_nil_of_le (by rw [HN.out]; exact Nat.le_refl _)
        rw [hXn] at hP1
        clear hXn
        have cB := fun wx hTx => tok_good (s.extract p s.size) [] wx hTx (by rw [ByteArray.size_extract]; omega) (by rw [ext_end]; exact place_end hP1)
        have CB := Lib.hid cB
        have hps : (p : Int) ≤ s.size := by omega
        clear cB hP1
        go_wp2_with fail
        refine (CB.out _ hTr).mono ?_
        rintro e w2 ⟨v0, rfl, -, h0, g2⟩
        obtain ⟨a0, c0, rfl⟩ : ∃ a c, v0 = .slice a 0 c := by
          rcases h0 with ⟨rfl, _⟩ | ⟨b, o, c, rfl, _⟩
          · exact ⟨none, 0, rfl⟩
          · exact ⟨_, _, rfl⟩
        clear h0
        go_wp2_with fail
        go_roundw
        case rel => exact ⟨k + 1, p, by omega, hp, by go_num, rfl, hg.trans (g2.mono hg.size), fun h => by omega⟩
        case measure => simp [intOf] <;> omega
      · have hkl : (n : Int) < k := by omega
        go_wp2_with fail
        refine (works_any _ hTr).mono ?_
        rintro e w4 ⟨rfl, g4⟩
        go_wp2_with fail
        go_ret
        exact ⟨rfl, g1.trans ((hg.trans (g4.mono hg.size)).mono g1.size)⟩

/-- The law 'LexPlaces'. -/
theorem lexPlaces_any (s : ByteArray) (w : World) (hT : Tab w) (hs : s.size ≤ maxLen) :
    Calls Tryd.prog 5 #[.string s] w fun e w' => e = .returned (.bool true) ∧ Below w.heap.size w w' := by
  unfold maxLen at hs
  by_cases h : 600 < s.size
  · go_enter Tryd.func5, Tryd.ntmps5
    go_wp2_with fail
    refine (works_any _ hT).mono ?_
    rintro e w1 ⟨rfl, g1⟩
    go_wp2_with fail
    go_ret
    exact ⟨rfl, g1⟩
  cases hX : toks s.data.toList with
  | mk oa X =>
  cases oa with
  | none => exact lexPlaces_good s X w hT (by omega) hX
  | some p =>
    have cX := fun wx hTx => tok_bad s p wx hTx (by omega) (by rw [hX])
    have CX := Lib.hid cX
    clear cX hX
    go_enter Tryd.func5, Tryd.ntmps5
    go_wp2_with fail
    refine (CX.out _ hT).mono ?_
    rintro e w1 ⟨rfl, g1⟩
    go_wp2_with fail
    refine (works_any _ (hT.next g1)).mono ?_
    rintro e w4 ⟨rfl, g4⟩
    go_wp2_with fail
    go_ret
    exact ⟨rfl, g1.trans (g4.mono g1.size)⟩
end Go.Proofs
