/- The walk of the law LexPieces. -/
import Derived.Test.YtblccelfkffggaaDoorLexI
import Derived.Test.YtblccelfkffggaaDoorLexP3
namespace Go.Proofs
open Go.RowKit Go.Lx

theorem pieces_bad {a b : List UInt8} {p : Nat} (h : (toks a).1 = some p) : (toks (a ++ 10 :: b)).1 = some p := by
  rw [toks_TT] at h ⊢
  exact (TT_app b _ 0 a (Nat.le_refl _)).1 p h
def shiftT (d : Nat) (t : Tok) : Tok := (t.1, t.2.1, t.2.2 + d)
theorem pieces_good {a b : List UInt8} (h : (toks a).1 = none) : toks (a ++ 10 :: b) = ((toks b).1.map (· + (a.length + 1)), (toks a).2 ++ (toks b).2.map (shiftT (a.length + 1))) := by
  rw [toks_TT] at h ⊢
  rw [(TT_app b _ 0 a (Nat.le_refl _)).2 h, toks_TT a, toks_TT b]
  have := TT_shift (a.length + 1) b.length 0 b (Nat.le_refl _)
  rw [Nat.zero_add] at this
  rw [show 0 + a.length + 1 = a.length + 1 by omega, this]; rfl
theorem tok_any (s : ByteArray) (w : World) (hT : Tab w) (hs : s.size ≤ 65536) :
    Calls Tryd.prog 11 #[.string s] w fun e w' => ∃ (v : Value) (p f : Nat), e = .returned (.tuple #[v, .int .i64 p, .int .i64 f]) ∧ Below w.heap.size w w' :=
  (tokens_any s w hT hs).mono fun e w' ⟨h, hb⟩ => by
    rcases h with ⟨v, _, he, _⟩ | ⟨p, _, he⟩
    · exact ⟨v, 0, 0, he, hb⟩
    · exact ⟨_, p, 70, he, hb⟩

theorem tokF_bad : ∀ (k p : Nat) (l : List UInt8) (q : Nat), (tokF k p l).1 = some q → q ≤ p + l.length
  | 0, _, _, q, h => by simp [tokF] at h
  | k + 1, p, l, q, h => by
    simp only [tokF] at h
    split at h
    · cases h
    · split at h
      · simp only [Option.some.injEq] at h; omega
      · have hf := first_le l
        have hb := blk_le false (l.drop (first l).1)
        have := tokF_bad k _ _ q h
        rw [List.length_drop] at this hb
        omega
theorem tok_bad_le (l : List UInt8) (q : Nat) (h : (toks l).1 = some q) : q ≤ l.length := by
  have hb := blk_le false l
  have := tokF_bad _ _ _ q h
  rw [List.length_drop] at this
  omega
/-- A token further on. -/
def shiftI (d : Nat) (t : ITok) : ITok := (t.1, t.2.1, t.2.2 + (d : Int))
theorem of_shift (d : Nat) (Y : List Tok) : (Y.map (shiftT d)).map ofTok = (Y.map ofTok).map (shiftI d) := by
  rw [List.map_map, List.map_map]
  congr 1
theorem tok_at_le {l : List UInt8} : ∀ t ∈ (toks l).2.map ofTok, 0 ≤ t.2.2 := by
  intro t ht
  obtain ⟨u, _, rfl⟩ := List.mem_map.1 ht
  exact Int.natCast_nonneg _
theorem tokF_place : ∀ (k p : Nat) (l : List UInt8), ∀ t ∈ (tokF k p l).2, t.2.2 ≤ p + l.length
  | 0, _, _, t, ht => by simp [tokF] at ht
  | k + 1, p, l, t, ht => by
    simp only [tokF] at ht
    split at ht
    · cases ht
    · split at ht
      · cases ht
      · have hf := first_le l
        rcases List.mem_cons.1 ht with rfl | ht
        · simp only; omega
        · have hb := blk_le false (l.drop (first l).1)
          have := tokF_place k _ _ t ht
          rw [List.length_drop] at this hb
          omega
theorem toks_place {l : List UInt8} : ∀ t ∈ (toks l).2.map ofTok, t.2.2 ≤ l.length := by
  intro t ht
  obtain ⟨u, hu, rfl⟩ := List.mem_map.1 ht
  have hb := blk_le false l
  have := tokF_place _ _ _ u hu
  rw [List.length_drop] at this
  simp only [ofTok]; omega

theorem SlTok.get {w : World} {a : Option Addr} {n c : Nat} {L : List ITok} (h : SlTok w (.slice a n c) L) {k : Nat} (hk : k < L.length) :
    ∃ b off, a = some ⟨b, off, none⟩ ∧ b < w.heap.size ∧ w.cell? ⟨b, off + k * 3, none⟩ = some (.int .u8 L[k].1) ∧ w.cell? ⟨b, off + k * 3 + 1, none⟩ = some (.string L[k].2.1) ∧ w.cell? ⟨b, off + k * 3 + 2, none⟩ = some (.int .i64 L[k].2.2) := by
  rcases h with ⟨_, rfl⟩ | ⟨b, off, cap, hv, hb, ht⟩
  · simp at hk
  · simp only [Value.slice.injEq] at hv
    exact ⟨b, off, hv.1, hb, ht k hk⟩

set_option maxHeartbeats 1600000 in
/-- The rows agree: the loop of the law. -/
theorem lexPieces_good (a b : ByteArray) (X Y : List Tok) (w : World) (hT : Tab w) (ha : a.size ≤ 300) (hb : b.size ≤ 300) (hX : toks a.data.toList = (none, X)) (hY : toks b.data.toList = (none, Y)) :
    Calls Tryd.prog 4 #[.string a, .string b] w fun e w' => e = .returned (.bool true) ∧ Below w.heap.size w w' := by
  have hZ : toks (a ++ ⟨#[10]⟩ ++ b).data.toList = (none, X ++ Y.map (shiftT (a.size + 1))) := by
    rw [app_data, app_data]
    have e : a.data.toList ++ (ByteArray.mk #[10]).data.toList ++ b.data.toList = a.data.toList ++ 10 :: b.data.toList := by simp
    rw [e, pieces_good (by rw [hX]), hX, hY, size_eq]; rfl
  have hZs : (a ++ ⟨#[10]⟩ ++ b).size ≤ 700 := by simp only [ByteArray.size_append]; have : (ByteArray.mk #[10]).size = 1 := rfl; omega
  have hXl := toks_len a.data.toList
  have hYl := toks_len b.data.toList
  have hYp := toks_place (l := b.data.toList)
  have hYq := tok_at_le (l := b.data.toList)
  rw [hX, size_eq] at hXl
  rw [hY, size_eq] at hYl
  rw [hY, size_eq] at hYp
  rw [hY] at hYq
  simp only at hXl hYl hYp hYq
  have cX := fun wx hTx => tok_good a X wx hTx (by omega) hX
  have cY := fun wx hTx => tok_good b Y wx hTx (by omega) hY
  have cZ := fun wx hTx => tok_good (a ++ ⟨#[10]⟩ ++ b) _ wx hTx (by omega) hZ
  have CX := Lib.hid cX
  have CY := Lib.hid cY
  have CZ := Lib.hid cZ
  have HYP := Lib.hid hYp
  have HYQ := Lib.hid hYq
  clear cX cY cZ hX hY hZ hYp hYq
  go_enter Tryd.func4, Tryd.ntmps4
  go_wp2_with fail
  refine (CX.out _ hT).mono ?_
  rintro e w1 ⟨vx, rfl, -, hx, g1⟩
  go_wp2_with fail
  refine (CY.out _ (hT.next g1)).mono ?_
  rintro e w2 ⟨vy, rfl, -, hy, g2⟩
  have hx2 := hx.below g2
  replace g2 := g1.trans (g2.mono g1.size)
  clear g1 hx
  go_wp2_with fail
  refine (CZ.out _ (hT.next g2)).mono ?_
  rintro e w3 ⟨vz, rfl, -, hz, g3⟩
  have hx3 := hx2.below g3
  have hy3 := hy.below g3
  replace g3 := g2.trans (g3.mono g2.size)
  clear g2 hx2 hy CX CY CZ
  rw [List.map_append, of_shift] at hz
  have hXL : (X.map ofTok).length ≤ 300 := by rw [List.length_map]; omega
  have hYL : (Y.map ofTok).length ≤ 300 := by rw [List.length_map]; omega
  clear hXl hYl
  generalize X.map ofTok = IX at *
  generalize Y.map ofTok = IY at *
  have HX := Lib.hid hx3
  have HY := Lib.hid hy3
  have HZ := Lib.hid hz
  have T3 := hT.next g3
  clear hx3 hy3 hz
  have lenOf : ∀ (wx : World) (v : Value) (L : List ITok), SlTok wx v L → ∃ a c, v = .slice a L.length c := fun wx v L h => by
    rcases h with ⟨rfl, rfl⟩ | ⟨b, o, c, rfl, _⟩
    · exact ⟨none, 0, rfl⟩
    · exact ⟨_, _, rfl⟩
  obtain ⟨ax, cx, hvx⟩ := lenOf _ _ _ HX.out
  obtain ⟨ay, cy, hvy⟩ := lenOf _ _ _ HY.out
  obtain ⟨az, cz, hvz⟩ := lenOf _ _ _ HZ.out
  subst hvx hvy hvz
  have hzl : Hid ((IX ++ IY.map (shiftI (a.size + 1))).length = IX.length + IY.length) := by unfold Hid; rw [List.length_append, List.length_map]
  rw [hzl.out] at HZ ⊢
  obtain ⟨nx, hnx⟩ : ∃ nx, nx = IX.length := ⟨_, rfl⟩
  obtain ⟨ny, hny⟩ : ∃ ny, ny = IY.length := ⟨_, rfl⟩
  rw [← hnx] at hXL HX HZ ⊢
  rw [← hny] at hYL HY HZ ⊢
  have HNX := Lib.hid hnx
  have HNY := Lib.hid hny
  clear hnx hny lenOf
  go_wp2_with fail
  go_loopw [14, 15] (fun i _ wr => ∃ k : Nat, k ≤ nx + ny ∧ i = .int .i64 k ∧ Below w3.heap.size w3 wr) (fun i _ _ => nx + ny - (intOf i).toNat)
  case atStart => exact ⟨0, by omega, rfl, Below.refl _ _⟩
  case round =>
    obtain ⟨k, hk, rfl, hg⟩ := hrel
    have hsr := hg.size
    by_cases hlt : k < nx + ny
    · have hz1 : k < (IX ++ IY.map (shiftI (a.size + 1))).length := by rw [hzl.out, ← HNX.out, ← HNY.out]; exact hlt
      obtain ⟨bz, oz, rfl, hbz, z0, z1, z2⟩ := HZ.out.get hz1
      rw [← hg.cell (p := ⟨bz, oz + k * 3, none⟩) hbz] at z0
      rw [← hg.cell (p := ⟨bz, oz + k * 3 + 1, none⟩) hbz] at z1
      rw [← hg.cell (p := ⟨bz, oz + k * 3 + 2, none⟩) hbz] at z2
      have hi0 : (0 : Int) ≤ (k : Int) := by omega
      have hi1 : (k : Int) < (nx : Int) + ny := by omega
      by_cases hx : k < nx
      · have hx1 : k < IX.length := by rw [← HNX.out]; exact hx
        obtain ⟨bx, ox, rfl, hbx, x0, x1, x2⟩ := HX.out.get hx1
        rw [← hg.cell (p := ⟨bx, ox + k * 3, none⟩) hbx] at x0
        rw [← hg.cell (p := ⟨bx, ox + k * 3 + 1, none⟩) hbx] at x1
        rw [← hg.cell (p := ⟨bx, ox + k * 3 + 2, none⟩) hbx] at x2
        rw [List.getElem_append_left hx1] at z0 z1 z2
        generalize IX[k] = t at *
        obtain ⟨kd, tx, pl⟩ := t
        simp only at x0 x1 x2 z0 z1 z2
        have hix : (k : Int) < (nx : Int) := by omega
        have hbx' : bx < wr.heap.size := by omega
        have hbz' : bz < wr.heap.size := by omega
        clear hz1 hx1
        go_wp2_with fail
        have hgW := hg.alloc hsr (.cells #[.int .u8 (kd : Int), .string tx, .int .i64 pl] 32)
        go_quiet (fail)
        go_wp2_with fail
        go_roundw
        case rel => exact ⟨k + 1, by omega, by go_num, below_drewN hgW _⟩
        case measure => simp [intOf] <;> omega
      · obtain ⟨j, rfl⟩ : ∃ j, k = nx + j := ⟨k - nx, by omega⟩
        have hj : j < ny := by omega
        have hy1 : j < IY.length := by rw [← HNY.out]; exact hj
        obtain ⟨by', oy, rfl, hby, y0, y1, y2⟩ := HY.out.get hy1
        rw [← hg.cell (p := ⟨by', oy + j * 3, none⟩) hby] at y0
        rw [← hg.cell (p := ⟨by', oy + j * 3 + 1, none⟩) hby] at y1
        rw [← hg.cell (p := ⟨by', oy + j * 3 + 2, none⟩) hby] at y2
        have hge : (IX ++ IY.map (shiftI (a.size + 1)))[nx + j] = shiftI (a.size + 1) IY[j] := by
          rw [List.getElem_append_right (by rw [← HNX.out]; omega), List.getElem_map]
          congr 2
          rw [← HNX.out]; omega
        have hp1 := HYP.out _ (List.getElem_mem hy1)
        have hp0 := HYQ.out _ (List.getElem_mem hy1)
        rw [hge] at z0 z1 z2
        clear hge
        generalize IY[j] = t at *
        obtain ⟨kd, tx, pl⟩ := t
        simp only [shiftI] at y0 y1 y2 z0 z1 z2 hp0 hp1
        have hiy : (j : Int) < (ny : Int) := by omega
        have hby' : by' < wr.heap.size := by omega
        have hbz' : bz < wr.heap.size := by omega
        have hpe : pl + ((a.size + 1 : Nat) : Int) = pl + (a.size : Int) + 1 := by omega
        rw [hpe] at z2
        clear hpe hz1 hy1
        have hgW := hg.alloc hsr (.cells #[.int .u8 (kd : Int), .string tx, .int .i64 (pl + (a.size : Int) + 1)] 32)
        go_wp2_with fail
        go_quiet (fail)
        go_wp2_with fail
        go_roundw
        case rel => exact ⟨nx + j + 1, by omega, by congr 1, below_drewN hgW _⟩
        case measure => simp [intOf] <;> omega
    · obtain rfl : k = nx + ny := by omega
      go_wp2_with fail
      refine (works_any _ (T3.next hg)).mono ?_
      rintro e w4 ⟨rfl, g4⟩
      go_wp2_with fail
      go_ret
      exact ⟨rfl, g3.trans ((hg.trans (g4.mono hg.size)).mono g3.size)⟩

/-- The law 'LexPieces'. -/
theorem lexPieces_any (a b : ByteArray) (w : World) (hT : Tab w) (hs : a.size ≤ maxLen) (ht : b.size ≤ maxLen) :
    Calls Tryd.prog 4 #[.string a, .string b] w fun e w' => e = .returned (.bool true) ∧ Below w.heap.size w w' := by
  unfold maxLen at hs ht
  by_cases h : 300 < a.size
  · go_enter Tryd.func4, Tryd.ntmps4
    go_wp2_with fail
    refine (works_any _ hT).mono ?_
    rintro e w1 ⟨rfl, g1⟩
    go_wp2_with fail
    go_ret
    exact ⟨rfl, g1⟩
  by_cases h' : 300 < b.size
  · go_enter Tryd.func4, Tryd.ntmps4
    go_wp2_with fail
    refine (works_any _ hT).mono ?_
    rintro e w1 ⟨rfl, g1⟩
    go_wp2_with fail
    go_ret
    exact ⟨rfl, g1⟩
  have ha : a.size ≤ 300 := by omega
  have hb : b.size ≤ 300 := by omega
  clear h h'
  have he : (a ++ ⟨#[10]⟩ ++ b).data.toList = a.data.toList ++ 10 :: b.data.toList := by
    rw [app_data, app_data]; simp
  have hZs : (a ++ ⟨#[10]⟩ ++ b).size ≤ 700 := by simp only [ByteArray.size_append]; have : (ByteArray.mk #[10]).size = 1 := rfl; omega
  cases hX : toks a.data.toList with
  | mk oa X =>
  cases oa with
  | some p =>
    have cX := fun wx hTx => tok_bad a p wx hTx (by omega) (by rw [hX])
    have cZ := fun wx hTx => tok_bad (a ++ ⟨#[10]⟩ ++ b) p wx hTx (by omega) (by rw [he]; exact pieces_bad (by rw [hX]))
    have CX := Lib.hid cX
    have CZ := Lib.hid cZ
    clear cX cZ hX he
    go_enter Tryd.func4, Tryd.ntmps4
    go_wp2_with fail
    refine (CX.out _ hT).mono ?_
    rintro e w1 ⟨rfl, g1⟩
    go_wp2_with fail
    refine (tok_any b _ (hT.next g1) (by omega)).mono ?_
    rintro e w2 ⟨v, q, f, rfl, g2⟩
    replace g2 := g1.trans (g2.mono g1.size)
    clear g1
    go_wp2_with fail
    refine (CZ.out _ (hT.next g2)).mono ?_
    rintro e w3 ⟨rfl, g3⟩
    replace g3 := g2.trans (g3.mono g2.size)
    clear g2
    go_wp2_with fail
    refine (works_any _ (hT.next g3)).mono ?_
    rintro e w4 ⟨rfl, g4⟩
    go_wp2_with fail
    go_ret
    exact ⟨rfl, g3.trans (g4.mono g3.size)⟩
  | none =>
  cases hY : toks b.data.toList with
  | mk ob Y =>
  cases ob with
  | none => exact lexPieces_good a b X Y w hT ha hb hX hY
  | some q =>
    have cX := fun wx hTx => tok_good a X wx hTx (by omega) hX
    have cY := fun wx hTx => tok_bad b q wx hTx (by omega) (by rw [hY])
    have cZ := fun wx hTx => tok_bad (a ++ ⟨#[10]⟩ ++ b) (q + (a.size + 1)) wx hTx (by omega) (by rw [he, pieces_good (by rw [hX]), hY, size_eq]; rfl)
    have CX := Lib.hid cX
    have CY := Lib.hid cY
    have CZ := Lib.hid cZ
    have hq : q ≤ 300 := by
      have := tok_bad_le b.data.toList q (by rw [hY])
      rw [size_eq] at this; omega
    clear cX cY cZ hX hY he
    go_enter Tryd.func4, Tryd.ntmps4
    go_wp2_with fail
    refine (CX.out _ hT).mono ?_
    rintro e w1 ⟨v, rfl, -, -, g1⟩
    go_wp2_with fail
    refine (CY.out _ (hT.next g1)).mono ?_
    rintro e w2 ⟨rfl, g2⟩
    replace g2 := g1.trans (g2.mono g1.size)
    clear g1
    go_wp2_with fail
    refine (CZ.out _ (hT.next g2)).mono ?_
    rintro e w3 ⟨rfl, g3⟩
    replace g3 := g2.trans (g3.mono g2.size)
    clear g2
    have hbe : (((q + (a.size + 1) : Nat) : Int) == (q : Int) + a.size + 1) = true := by rw [beq_iff_eq]; omega
    generalize q + (a.size + 1) = z at *
    go_wp2_with fail
    refine (works_any _ (hT.next g3)).mono ?_
    rintro e w4 ⟨rfl, g4⟩
    go_wp2_with fail
    go_ret
    exact ⟨rfl, g3.trans (g4.mono g3.size)⟩
end Go.Proofs
