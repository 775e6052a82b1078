/- Walks of the laws LexCuts, LexPieces, LexPlaces. -/
import Derived.Test.YtblccelfkffggaaDoorLexH
namespace Go.Proofs
open Go.RowKit Go.Lx

/-- A block of at least so many cells, none of them frozen. -/
def RowB (w : World) (g m : Nat) : Prop := ∃ cur T, w.heap[g]? = some (.cells cur T (0, 0)) ∧ m ≤ cur.size
theorem RowB.cell {w : World} {g m : Nat} (h : RowB w g m) {i : Nat} (hi : i < m) : ∃ x, w.cell? ⟨g, i, none⟩ = some x := by
  obtain ⟨cur, T, h, hm⟩ := h
  exact ⟨cur[i]'(by omega), by unfold World.cell?; simp only [h]; exact Array.getElem?_eq_getElem (by omega)⟩
theorem RowB.frozen {w : World} {g m : Nat} (h : RowB w g m) (i : Nat) : w.frozen? ⟨g, i, none⟩ = false := by
  obtain ⟨cur, T, h, hm⟩ := h
  unfold World.frozen?; simp only [h]; simp
theorem RowB.setCell {w : World} {g m : Nat} (h : RowB w g m) (i : Nat) (v : Value) : RowB (w.setCell ⟨g, i, none⟩ v) g m := by
  obtain ⟨cur, T, h, hm⟩ := h
  refine ⟨cur.setIfInBounds i v, T, ?_, by simpa using hm⟩
  unfold World.setCell
  simp [Array.getElem?_modify, h]
theorem RowB.below {w w' : World} {g m B : Nat} (h : RowB w g m) (hb : Below B w w') (hg : g < B) : RowB w' g m := by
  obtain ⟨cur, T, h, hm⟩ := h
  exact ⟨cur, T, (hb.block g hg).trans h, hm⟩
theorem RowB.of_own {w : World} {base : Nat} {T : TypeId} {g n cap : Nat} {xs : List Value} (h : w.ownsRow base T 3 (.slice (some ⟨g, 0, none⟩) n cap) n xs) : RowB w g (n * 3) := by
  rcases h.2 with ⟨h0, _⟩ | ⟨g', cap', cur, hv, hb, hg, hnc, hcm, hsz, htk⟩
  · cases h0
  · cases hv
    exact ⟨cur, T, hg, by rw [hsz]; exact Nat.mul_le_mul_right 3 hnc⟩

theorem tokF_len : ∀ (k p : Nat) (l : List UInt8), (tokF k p l).2.length ≤ k
  | 0, _, _ => by simp [tokF]
  | k + 1, p, l => by
    simp only [tokF]
    split
    · simp
    · split
      · simp
      · simp only [List.length_cons]
        have := tokF_len k (p + (first l).1 + blk false (l.drop (first l).1)) (l.drop ((first l).1 + blk false (l.drop (first l).1)))
        omega
theorem toks_len (l : List UInt8) : (toks l).2.length ≤ l.length := by
  unfold toks toksAt
  have := tokF_len (l.drop (blk false l)).length (blk false l) (l.drop (blk false l))
  rw [List.length_drop] at this
  rw [List.length_drop]; omega

set_option maxHeartbeats 1000000 in
/-- The law 'LexCuts'. -/
theorem lexCuts_any (s : ByteArray) (w : World) (hT : Tab w) (hs : s.size ≤ maxLen) :
    Calls Tryd.prog 3 #[.string s] w fun e w' => e = .returned (.bool true) ∧ Below w.heap.size w w' := by
  unfold maxLen at hs
  by_cases hmid : 600 < s.size ∧ s.size ≤ 65536
  · obtain ⟨h1, h2⟩ := hmid
    go_enter Tryd.func3, Tryd.ntmps3
    go_wp2_with fail
    refine (works_any _ hT).mono ?_
    rintro e w1 ⟨rfl, g1⟩
    go_wp2_with fail
    go_ret
    exact ⟨rfl, g1⟩
  by_cases hlong : 65536 < s.size
  · have hRT := fun wx => rtokens_long s wx hlong
    have hLT := fun wx => tokens_long s wx hlong
    have HRT := Lib.hid hRT
    have HLT := Lib.hid hLT
    have hsm := same_any (.slice none 0 0) (.slice none 0 0) []
    have HSM := Lib.hid hsm
    clear hRT hLT hmid hsm
    go_enter Tryd.func3, Tryd.ntmps3
    go_wp2_with fail
    refine (HRT.out _).mono ?_
    rintro e w1 ⟨rfl, rfl⟩
    go_wp2_with fail
    go_loopw [6, 7, 8, 9, 10] (fun i _ _ _ _ wr => ∃ k : Nat, k ≤ 2 ∧ i = .int .i64 k ∧ Below w.heap.size w wr) (fun i _ _ _ _ _ => 2 - (intOf i).toNat)
    case atStart => exact ⟨0, by omega, rfl, Below.refl _ _⟩
    case round =>
      obtain ⟨wo, rfl⟩ : ∃ wo : World, wo = wr := ⟨_, rfl⟩
      obtain ⟨k, hk, rfl, hg⟩ := hrel
      by_cases hlt : k < 2
      · have hbk : decide ((k : Int) < 2) = true := by simp; omega
        go_wp2_with fail
        refine (HLT.out _).mono ?_
        rintro e w1 ⟨rfl, rfl⟩
        go_wp2_with fail
        refine (HSM.out _ (by simp) (.inl ⟨rfl, rfl⟩) (.inl ⟨rfl, rfl⟩)).mono ?_
        rintro e w2 ⟨rfl, g2⟩
        go_wp2_with fail
        refine wp_loop_rounds 1 ?_
        rw [rounds_succ]
        go_wp2_with fail
        go_roundw
        case rel => exact ⟨k + 1, by omega, by go_num, hg.trans (g2.mono hg.size)⟩
        case measure => simp [intOf] <;> omega
      · go_wp2_with fail
        refine (works_any _ (hT.next hg)).mono ?_
        rintro e w1 ⟨rfl, g1⟩
        go_wp2_with fail
        go_ret
        exact ⟨rfl, hg.trans (g1.mono hg.size)⟩
  have hs6 : s.size ≤ 600 := by omega
  clear hmid hlong
  have hlen := toks_len s.data.toList
  rw [size_eq] at hlen
  cases htk : toks s.data.toList with
  | mk o l =>
  rw [htk] at hlen
  simp only at hlen
  cases o with
  | some p =>
    have hRT := fun wx => rtok_bad s p wx (by omega) (by rw [htk])
    have hLT := fun wx hTx => tok_bad s p wx hTx (by omega) (by rw [htk])
    have HRT := Lib.hid hRT
    have HLT := Lib.hid hLT
    have hsm := same_any (.slice none 0 0) (.slice none 0 0) []
    have HSM := Lib.hid hsm
    clear hRT hLT hsm htk
    go_enter Tryd.func3, Tryd.ntmps3
    go_wp2_with fail
    refine (HRT.out _).mono ?_
    rintro e w1 ⟨rfl, g1⟩
    go_wp2_with fail
    go_loopw [6, 7, 8, 9, 10] (fun i _ _ _ _ wr => ∃ k : Nat, k ≤ 2 ∧ i = .int .i64 k ∧ Below w.heap.size w wr) (fun i _ _ _ _ _ => 2 - (intOf i).toNat)
    case atStart => exact ⟨0, by omega, rfl, g1⟩
    case round =>
      obtain ⟨wo, rfl⟩ : ∃ wo : World, wo = wr := ⟨_, rfl⟩
      obtain ⟨k, hk, rfl, hg⟩ := hrel
      by_cases hlt : k < 2
      · have hbk : decide ((k : Int) < 2) = true := by simp; omega
        go_wp2_with fail
        refine (HLT.out _ (hT.next hg)).mono ?_
        rintro e w1 ⟨rfl, g1⟩
        go_wp2_with fail
        refine (HSM.out _ (by simp) (.inl ⟨rfl, rfl⟩) (.inl ⟨rfl, rfl⟩)).mono ?_
        rintro e w2 ⟨rfl, g2⟩
        go_wp2_with fail
        refine wp_loop_rounds 1 ?_
        rw [rounds_succ]
        go_wp2_with fail
        go_roundw
        case rel => exact ⟨k + 1, by omega, by go_num, hg.trans ((g1.trans (g2.mono g1.size)).mono hg.size)⟩
        case measure => simp [intOf] <;> omega
      · go_wp2_with fail
        refine (works_any _ (hT.next hg)).mono ?_
        rintro e w1 ⟨rfl, g1⟩
        go_wp2_with fail
        go_ret
        exact ⟨rfl, hg.trans (g1.mono hg.size)⟩
  | none =>
    have hRT := fun wx => rtok_good s l wx (by omega) htk
    have hLT := fun wx hTx => tok_good s l wx hTx (by omega) htk
    have HRT := Lib.hid hRT
    have HLT := Lib.hid hLT
    have hL : (l.map ofTok).length ≤ 600 := by rw [List.length_map]; omega
    clear hRT hLT htk
    go_enter Tryd.func3, Tryd.ntmps3
    go_wp2_with fail
    refine (HRT.out _).mono ?_
    rintro e w1 ⟨vr, rfl, _, hr, g1⟩
    have HR := Lib.hid hr
    clear hr
    go_wp2_with fail
    go_loopw [6, 7, 8, 9, 10] (fun i _ _ _ _ wr => ∃ k : Nat, k ≤ 2 ∧ i = .int .i64 k ∧ Below w1.heap.size w1 wr) (fun i _ _ _ _ _ => 2 - (intOf i).toNat)
    case atStart => exact ⟨0, by omega, rfl, Below.refl _ _⟩
    case round =>
      obtain ⟨wo, rfl⟩ : ∃ wo : World, wo = wr := ⟨_, rfl⟩
      obtain ⟨k, hk, rfl, hg1⟩ := hrel
      have hg := g1.trans (hg1.mono g1.size)
      by_cases hlt : k < 2
      · have hbk : decide ((k : Int) < 2) = true := by simp; omega
        go_wp2_with fail
        refine (HLT.out _ (hT.next hg)).mono ?_
        rintro e w2 ⟨v, rfl, hown, hsl, g2⟩
        have hsm := same_any v vr (l.map ofTok) w2 (by omega) hsl ((HR.out.below hg1).below g2)
        have HSM := Lib.hid hsm
        clear hsl hsm
        generalize (l.map ofTok).length = n at *
        rcases hown.2 with ⟨rfl, h0⟩ | ⟨g, cap, cur, rfl, hgb, _⟩
        · subst h0
          clear hown
          go_wp2_with fail
          refine HSM.out.mono ?_
          rintro e w3 ⟨rfl, g3⟩
          go_wp2_with fail
          refine wp_loop_rounds 1 ?_
          rw [rounds_succ]
          go_wp2_with fail
          go_roundw
          case rel => exact ⟨k + 1, by omega, by go_num, hg1.trans ((g2.trans (g3.mono g2.size)).mono hg1.size)⟩
          case measure => simp [intOf] <;> omega
        · have hR := RowB.of_own hown
          have hgl := hown.lt g rfl
          clear hown
          go_wp2_with fail
          refine HSM.out.mono ?_
          rintro e w3 ⟨rfl, g3⟩
          have hR3 := hR.below g3 hgl.2
          have g23 := g2.trans (g3.mono g2.size)
          clear hR g2 g3
          go_wp2_with fail
          go_loopw [10] (fun i wr => ∃ j : Nat, j ≤ n ∧ i = .int .i64 j ∧ Below wo.heap.size wo wr ∧ RowB wr g (n * 3)) (fun i _ => n - (intOf i).toNat)
          case atStart => exact ⟨0, by omega, rfl, g23, hR3⟩
          case round =>
            obtain ⟨j, hj, rfl, hgj, hRj⟩ := hrel
            by_cases hlj : j < n
            · obtain ⟨x0, c0⟩ := hRj.cell (i := j * 3) (by omega)
              obtain ⟨x1, c1⟩ := hRj.cell (i := j * 3 + 1) (by omega)
              obtain ⟨x2, c2⟩ := hRj.cell (i := j * 3 + 2) (by omega)
              have f0 := hRj.frozen (j * 3)
              have f1 := hRj.frozen (j * 3 + 1)
              have f2 := hRj.frozen (j * 3 + 2)
              have hi0 : (0 : Int) ≤ (j : Int) := by omega
              have hi1 : (j : Int) < (n : Int) := by omega
              have HRJ := Lib.hid hRj
              clear hRj
              go_wp2_with fail
              go_roundw
              case rel => exact ⟨j + 1, by omega, by go_num, ((hgj.setCell hgl.1 _).setCell hgl.1 _).setCell hgl.1 _, ((HRJ.out.setCell _ _).setCell _ _).setCell _ _⟩
              case measure => simp [intOf] <;> omega
            · go_wp2_with fail
              go_roundw
              case rel => exact ⟨k + 1, by omega, by go_num, hg1.trans (hgj.mono hg1.size)⟩
              case measure => simp [intOf] <;> omega
      · go_wp2_with fail
        refine (works_any _ (hT.next hg)).mono ?_
        rintro e w2 ⟨rfl, g2⟩
        go_wp2_with fail
        go_ret
        exact ⟨rfl, hg.trans (g2.mono hg.size)⟩
end Go.Proofs
