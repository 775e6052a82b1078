/- The walk of the law LexBack. -/
import Derived.Test.YtblccelfkffggaaDoorLexL
namespace Go.Proofs
open Go.RowKit Go.Lx

theorem toks_isT (s : List UInt8) : ∀ t ∈ (toks s).2, isT t.2.1 = t.1 ∧ t.1 ≠ 0 ∧ t.1 < 256 ∧ t.2.1.length ≤ 64 := by
  rw [toks_TT]; exact TT_isT _ 0 s (Nat.le_refl _)
theorem showE_of {X : List Tok} (h : ∀ t ∈ X, isT t.2.1 = t.1 ∧ t.1 ≠ 0) : showE (X.map ofTok) = true := by
  unfold showE
  rw [List.all_eq_true]
  intro t ht
  obtain ⟨u, hu, rfl⟩ := List.mem_map.1 ht
  obtain ⟨h1, h2⟩ := h u hu
  simp [ofTok, h1, h2]
/-- The text as which tokens are shown. -/
def shown (X : List Tok) : List UInt8 := Lib.join (X.map (·.2.1)) [32]
theorem shown_eq (X : List Tok) : Lib.join ((X.map ofTok).map fun t => t.2.1.data.toList) [32] = shown X := by
  unfold shown; rw [List.map_map]; rfl
theorem shown_len {X : List Tok} (h : ∀ t ∈ X, t.2.1.length ≤ 64) : (shown X).length ≤ X.length * 65 := by
  have := join_len [32] 64 (X.map (·.2.1)) (fun x hx => by obtain ⟨t, ht, rfl⟩ := List.mem_map.1 hx; exact h t ht)
  rw [List.length_map] at this
  exact this
/-- Kinds and texts. -/
def kt (X : List Tok) : List (Nat × List UInt8) := X.map fun t => (t.1, t.2.1)
theorem kt_shown {X M : List Tok} (h : kt M = kt X) : shown M = shown X := by
  unfold shown
  have e : ∀ L : List Tok, L.map (·.2.1) = (kt L).map (·.2) := fun L => by unfold kt; rw [List.map_map]; rfl
  rw [e, e, h]
theorem kt_at {X M : List Tok} (h : kt M = kt X) {i : Nat} (hi : i < X.length) (hm : i < M.length) : M[i].1 = X[i].1 ∧ M[i].2.1 = X[i].2.1 := by
  have h1 : (kt M)[i]? = (kt X)[i]? := by rw [h]
  unfold kt at h1
  rw [List.getElem?_map, List.getElem?_map, List.getElem?_eq_getElem hi, List.getElem?_eq_getElem hm] at h1
  simpa using h1

set_option maxRecDepth 100000 in
set_option maxHeartbeats 3200000 in
theorem lexBack_good (s : ByteArray) (X : List Tok) (w : World) (hT : Tab w) (hs : s.size ≤ 600) (hX : toks s.data.toList = (none, X)) :
    Calls Tryd.prog 7 #[.string s] w fun e w' => e = .returned (.bool true) ∧ Below w.heap.size w w' := by
  have hXl := toks_len s.data.toList
  rw [hX, size_eq] at hXl
  simp only at hXl
  have hTI := toks_isT s.data.toList
  rw [hX] at hTI
  simp only at hTI
  have hJ := TT_join X 0 (fun t ht => ⟨(hTI t ht).1, (hTI t ht).2.1⟩)
  obtain ⟨M, hM⟩ : ∃ M, M = (TT 0 (shown X)).2 := ⟨_, rfl⟩
  have hJ2 : toks (shown X) = (none, M) := by rw [toks_TT, hM]; exact Prod.ext hJ.1 rfl
  have hkt : kt M = kt X := by rw [hM]; exact hJ.2
  have hml : M.length = X.length := by have := congrArg List.length hkt; unfold kt at this; rwa [List.length_map, List.length_map] at this
  have hMI := toks_isT (shown X)
  rw [hJ2] at hMI
  simp only at hMI
  have hsl := shown_len (fun t ht => (hTI t ht).2.2.2)
  have hsh := kt_shown hkt
  obtain ⟨J, hJd⟩ : ∃ J : ByteArray, J.data.toList = shown X := ⟨⟨(shown X).toArray⟩, rfl⟩
  have hJs : J.size ≤ 65536 := by rw [← size_eq, hJd]; omega
  have cX := fun wx hTx => tok_good s X wx hTx (by omega) hX
  have cM := fun wx hTx => tok_good J M wx hTx hJs (by rw [hJd]; exact hJ2)
  have CX := Lib.hid cX
  have CM := Lib.hid cM
  have cSX : ∀ (wx : World) (v : Value), Tab wx → SlTok wx v (X.map ofTok) → Calls Tryd.prog 14 #[v] wx fun e w' => e = .returned (.tuple #[.string J, .int .i64 0]) ∧ Below wx.heap.size wx w' := fun wx v hTx hv =>
    (show_sl v _ wx hTx (by rw [List.length_map]; omega) hv (fun t ht => by
      obtain ⟨u, hu, rfl⟩ := List.mem_map.1 ht
      have := (hTI u hu).2.2.2
      simp only [ofTok, ← size_eq]; omega) (fun t ht => by
      obtain ⟨u, hu, rfl⟩ := List.mem_map.1 ht
      exact (hTI u hu).2.2.1)).mono fun e w' ⟨h, hb⟩ => by
        have hE := showE_of (fun t ht => ⟨(hTI t ht).1, (hTI t ht).2.1⟩)
        rcases h with ⟨_, h⟩ | ⟨h, _⟩
        · rw [shown_eq] at h
          refine ⟨?_, hb⟩
          rw [h, show (ByteArray.mk (shown X).toArray) = J from ba_ext (by rw [hJd])]
        · rw [hE] at h; cases h
  have cSM : ∀ (wx : World) (v : Value), Tab wx → SlTok wx v (M.map ofTok) → Calls Tryd.prog 14 #[v] wx fun e w' => e = .returned (.tuple #[.string J, .int .i64 0]) ∧ Below wx.heap.size wx w' := fun wx v hTx hv =>
    (show_sl v _ wx hTx (by rw [List.length_map]; omega) hv (fun t ht => by
      obtain ⟨u, hu, rfl⟩ := List.mem_map.1 ht
      have := (hMI u hu).2.2.2
      simp only [ofTok, ← size_eq]; omega) (fun t ht => by
      obtain ⟨u, hu, rfl⟩ := List.mem_map.1 ht
      exact (hMI u hu).2.2.1)).mono fun e w' ⟨h, hb⟩ => by
        have hE := showE_of (fun t ht => ⟨(hMI t ht).1, (hMI t ht).2.1⟩)
        rcases h with ⟨_, h⟩ | ⟨h, _⟩
        · rw [shown_eq, hsh] at h
          refine ⟨?_, hb⟩
          rw [h, show (ByteArray.mk (shown X).toArray) = J from ba_ext (by rw [hJd])]
        · rw [hE] at h; cases h
  have CSX := Lib.hid cSX
  have CSM := Lib.hid cSM
  have HTI := Lib.hid hTI
  have HKT := Lib.hid hkt
  have hgetX := fun (i : Nat) (hi : i < X.length) => (show (X.map ofTok)[i]'(by simpa using hi) = ofTok X[i] from List.getElem_map ..)
  have hgetM := fun (i : Nat) (hi : i < M.length) => (show (M.map ofTok)[i]'(by simpa using hi) = ofTok M[i] from List.getElem_map ..)
  have HGX := Lib.hid hgetX
  have HGM := Lib.hid hgetM
  clear hX hJ hM hJ2 hMI hsl hsh hJd hJs cX cM cSX cSM hTI hkt hgetX hgetM
  obtain ⟨n, hn⟩ : ∃ n, n = X.length := ⟨_, rfl⟩
  rw [← hn] at hXl hml
  have HN := Lib.hid hn
  have HM := Lib.hid hml
  clear hn hml
  go_enter Tryd.func7, Tryd.ntmps7
  go_wp2_with fail
  refine (CX.out _ hT).mono ?_
  rintro e w1 ⟨vx, rfl, -, hx, g1⟩
  have hxn : ∃ a c, vx = .slice a n c := by
    rcases hx with ⟨rfl, h⟩ | ⟨b, o, c, rfl, _⟩
    · exact ⟨none, 0, by rw [HN.out, List.map_eq_nil_iff.1 h]; rfl⟩
    · exact ⟨_, _, by rw [HN.out, List.length_map]⟩
  obtain ⟨ax, cx, rfl⟩ := hxn
  have HX := Lib.hid hx
  clear hx
  go_wp2_with fail
  refine (CSX.out _ _ (hT.next g1) HX.out).mono ?_
  rintro e w2 ⟨rfl, g2⟩
  replace HX := Lib.hid (HX.out.below g2)
  replace g2 := g1.trans (g2.mono g1.size)
  clear g1
  go_wp2_with fail
  refine (CM.out _ (hT.next g2)).mono ?_
  rintro e w3 ⟨vm, rfl, -, hm, g3⟩
  have hmn : ∃ a c, vm = .slice a n c := by
    rcases hm with ⟨rfl, h⟩ | ⟨b, o, c, rfl, _⟩
    · exact ⟨none, 0, by rw [← HM.out, List.map_eq_nil_iff.1 h]; rfl⟩
    · exact ⟨_, _, by rw [List.length_map, HM.out]⟩
  obtain ⟨am, cm, rfl⟩ := hmn
  replace HX := Lib.hid (HX.out.below g3)
  have HMM := Lib.hid hm
  replace g3 := g2.trans (g3.mono g2.size)
  have T3 := hT.next g3
  clear g2 hm
  go_wp2_with fail
  go_loopw [11] (fun i wr => ∃ k : Nat, k ≤ n ∧ i = .int .i64 k ∧ Below w3.heap.size w3 wr) (fun i _ => n - (intOf i).toNat)
  case atStart => exact ⟨0, by omega, rfl, Below.refl _ _⟩
  case round =>
    obtain ⟨k, hk, rfl, hg⟩ := hrel
    have hsr := hg.size
    by_cases hlt : k < n
    · have hkX : k < X.length := by rw [← HN.out]; exact hlt
      have hkM : k < M.length := by rw [HM.out]; exact hlt
      have hxi : k < (X.map ofTok).length := by rw [List.length_map]; exact hkX
      have hmi : k < (M.map ofTok).length := by rw [List.length_map]; exact hkM
      obtain ⟨bx, ox, rfl, hbx, x0, x1, -⟩ := HX.out.get hxi
      obtain ⟨bm, om, rfl, hbm, m0, m1, -⟩ := HMM.out.get hmi
      rw [← hg.cell (p := ⟨bx, ox + k * 3, none⟩) hbx] at x0
      rw [← hg.cell (p := ⟨bx, ox + k * 3 + 1, none⟩) hbx] at x1
      rw [← hg.cell (p := ⟨bm, om + k * 3, none⟩) hbm] at m0
      rw [← hg.cell (p := ⟨bm, om + k * 3 + 1, none⟩) hbm] at m1
      rw [HGX.out k hkX] at x0 x1
      rw [HGM.out k hkM] at m0 m1
      obtain ⟨e0, e1⟩ := kt_at HKT.out hkX hkM
      have hti := HTI.out _ (List.getElem_mem hkX)
      simp only [ofTok, e0, e1] at x0 x1 m0 m1
      clear e0 e1 hxi hmi
      generalize X[k] = t at *
      obtain ⟨kd, tl, pl⟩ := t
      simp only at x0 x1 m0 m1 hti
      have hI : Hid (isT (ByteArray.mk tl.toArray).data.toList = kd) := hti.1
      have hz : (ByteArray.mk tl.toArray).size ≤ 1000 := by rw [← size_eq]; exact Nat.le_trans hti.2.2.2 (by omega)
      generalize ByteArray.mk tl.toArray = tx at *
      have HZ := Lib.hid hz
      clear hti hz hkX hkM
      have hi0 : (0 : Int) ≤ (k : Int) := by omega
      have hi1 : (k : Int) < (n : Int) := by omega
      have hbx' : bx < wr.heap.size := by omega
      have hbm' : bm < wr.heap.size := by omega
      have hTr := T3.next hg
      go_wp2_with fail
      go_region_held3 (fun w' => w'.cell? ⟨bx, ox + k * 3, none⟩ = some (.int .u8 (kd : Int)) ∧ w'.cell? ⟨bx, ox + k * 3 + 1, none⟩ = some (.string tx) ∧ w'.cell? ⟨bm, om + k * 3, none⟩ = some (.int .u8 (kd : Int)) ∧ w'.cell? ⟨bm, om + k * 3 + 1, none⟩ = some (.string tx))
        (first
          | go_keep
          | exact ⟨(hbi.cell (p := ⟨bx, ox + k * 3, none⟩) hbx').trans x0, (hbi.cell (p := ⟨bx, ox + k * 3 + 1, none⟩) hbx').trans x1, (hbi.cell (p := ⟨bm, om + k * 3, none⟩) hbm').trans m0, (hbi.cell (p := ⟨bm, om + k * 3 + 1, none⟩) hbm').trans m1⟩)
        (first
          | (go_at_call 13; refine (lis_at tx kd _ (show Tab wr.drew from hTr) HZ.out hI.out).mono ?_; rintro e w4 ⟨rfl, hbi⟩))
      have hg4 := hg.drew.trans (hbi.mono hg.size)
      clear x0 x1 m0 m1 hbi
      go_wp2_with fail
      go_roundw
      case rel => exact ⟨k + 1, by omega, by go_num, hg4⟩
      case measure => simp [intOf] <;> omega
    · go_wp2_with fail
      refine (CSM.out _ _ (T3.next hg) (HMM.out.below hg)).mono ?_
      rintro e w4 ⟨rfl, g4⟩
      have hg4 := hg.trans (g4.mono hg.size)
      clear g4
      go_wp2_with fail
      refine (works_any _ (T3.next hg4)).mono ?_
      rintro e w5 ⟨rfl, g5⟩
      go_wp2_with fail
      go_ret
      exact ⟨rfl, g3.trans ((hg4.trans (g5.mono hg4.size)).mono g3.size)⟩

/-- The law 'LexBack'. -/
theorem lexBack_any (s : ByteArray) (w : World) (hT : Tab w) (hs : s.size ≤ maxLen) :
    Calls Tryd.prog 7 #[.string s] w fun e w' => e = .returned (.bool true) ∧ Below w.heap.size w w' := by
  unfold maxLen at hs
  by_cases h : 600 < s.size
  · go_enter Tryd.func7, Tryd.ntmps7
    go_wp2_with fail
    refine (works_any _ hT).mono ?_
    rintro e w1 ⟨rfl, g1⟩
    go_wp2_with fail
    go_ret
    exact ⟨rfl, g1⟩
  cases hX : toks s.data.toList with
  | mk oa X =>
  cases oa with
  | none => exact lexBack_good s X w hT (by omega) hX
  | some p =>
    have cX := fun wx hTx => tok_bad s p wx hTx (by omega) (by rw [hX])
    have CX := Lib.hid cX
    clear cX hX
    go_enter Tryd.func7, Tryd.ntmps7
    go_wp2_with fail
    refine (CX.out _ hT).mono ?_
    rintro e w1 ⟨rfl, g1⟩
    go_wp2_with fail
    refine (works_any _ (hT.next g1)).mono ?_
    rintro e w4 ⟨rfl, g4⟩
    go_wp2_with fail
    go_ret
    exact ⟨rfl, g1.trans (g4.mono g1.size)⟩
end Go.Proofs
