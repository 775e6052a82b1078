/- The law LexIs at every slice that came in. -/
import Derived.Test.YtblccelfkffggaaDoorLexT
import Derived.Deep.Slices
import Derived.Deep.OwnShut
import Derived.Deep.Strs
namespace Go.Proofs
open Go.RowKit Go.Lx

theorem show_zero (a : Option Addr) (c : Nat) (w : World) : Calls Tryd.prog 14 #[.slice a 0 c] w (ShowRet [] w) := by
  have HJ := Lib.hid (Tryd.strings_Join_none none 0 ⟨#[32]⟩)
  go_enter Tryd.func14, Tryd.ntmps14
  go_wp2_with fail
  refine wp_loop_rounds 1 ?_
  rw [rounds_succ]
  go_wp2_with fail
  refine (HJ.out w).mono ?_
  rintro e w1 ⟨rfl, rfl⟩
  go_wp2_with fail
  go_ret2
  exact ⟨.inl ⟨rfl, rfl⟩, Below.refl _ _⟩
theorem ref_zero (a : Option Addr) (c : Nat) (w : World) : Calls Tryd.prog 16 #[.slice a 0 c] w fun e w' => e = .returned (.slice none 0 0) ∧ w = w' := by
  go_enter Tryd.func16, Tryd.ntmps16
  go_wp2_with fail
  refine wp_loop_rounds 1 ?_
  rw [rounds_succ]
  go_wp2_with fail
  go_ret
  exact ⟨rfl, rfl⟩
theorem show0 {w : World} {e : Ending} {w' : World} (h : ShowRet [] w e w') : e = .returned (.tuple #[.string ⟨#[]⟩, .int .i64 0]) ∧ Below w.heap.size w w' := by
  obtain ⟨⟨_, h⟩ | ⟨h, _⟩, hb⟩ := h
  · exact ⟨h, hb⟩
  · cases h
theorem lexIs_zero (s : ByteArray) (a : Option Addr) (c : Nat) (w : World) (hT : Tab w) (hs : s.size ≤ maxLen) :
    Calls Tryd.prog 6 #[.string s, .slice a 0 c] w fun e w' => e = .returned (.bool true) ∧ Below w.heap.size w w' := by
  unfold maxLen at hs
  by_cases h : 100 < s.size
  · go_enter Tryd.func6, Tryd.ntmps6
    go_wp2_with fail
    refine (works_any _ hT).mono ?_
    rintro e w1 ⟨rfl, g1⟩
    go_wp2_with fail
    go_ret
    exact ⟨rfl, g1⟩
  have HS0 := Lib.hid (rshow_any (.slice none 0 0) [])
  go_enter Tryd.func6, Tryd.ntmps6
  go_wp2_with fail
  refine wp_loop_rounds 1 ?_
  rw [rounds_succ]
  go_wp2_with fail
  refine (show_zero a c _).mono ?_
  rintro e w1 hr1
  obtain ⟨rfl, g1⟩ := show0 hr1
  clear hr1
  go_wp2_with fail
  refine (ref_zero a c _).mono ?_
  rintro e w2 ⟨rfl, rfl⟩
  go_wp2_with fail
  refine (HS0.out _ (by simp) (.inl ⟨rfl, rfl⟩) (by simp)).mono ?_
  rintro e w3 hr3
  obtain ⟨rfl, g3⟩ := show0 hr3
  clear hr3
  replace g3 := g1.trans (g3.mono g1.size)
  clear g1
  go_wp2_with fail
  refine (lis_any _ _ (hT.next g3) (by omega)).mono ?_
  rintro e w4 ⟨rfl, g4⟩
  replace g4 := g3.trans (g4.mono g3.size)
  clear g3
  go_wp2_with fail
  refine (ris_any _ _ (by omega)).mono ?_
  rintro e w5 ⟨rfl, g5⟩
  replace g5 := g4.trans (g5.mono g4.size)
  clear g4
  go_wp2_with fail
  refine (works_any _ (hT.next g5)).mono ?_
  rintro e w6 ⟨rfl, g6⟩
  go_wp2_with fail
  go_ret
  exact ⟨rfl, g5.trans (g6.mono g5.size)⟩
end Go.Proofs
namespace Go.Proofs.YtblccelfkffggaaDoor
open Go.ChangeShapes Go.WideShapes Go.ChangeAt Go.RowKit Go.Lx Go.Deep
theorem cT : Tryd.prog.cellsOf 32 = 3 := by kernel_rfl
theorem c8 : Tryd.prog.cellsOf 5 = 1 := by kernel_rfl
theorem cI : Tryd.prog.cellsOf 3 = 1 := by kernel_rfl
theorem list3 {α : Type} {l : List α} (h : l.length = 3) : ∃ a b c, l = [a, b, c] := by
  match l, h with
  | [a, b, c], _ => exact ⟨a, b, c, rfl⟩
/-- A token as it came in. -/
theorem tok_open {H : Type} {enc : TypeId × Value → H} {W : World} {m : Nat} {cs : List Value} {y : DataW H × List MemPlace} {sp : Nat → Bool} {hd : Bool}
    (h : DataW.trod enc Tryd.prog W 0 sp hd m 32 cs = some y) : ∃ (k : Nat) (s : ByteArray) (p : Int), cs = [.int .u8 (k : Int), .string s, .int .i64 p] ∧ k < 256 ∧ s.size ≤ maxLen := by
  obtain ⟨y0, y1, y2, n, _, hl, f0, f1, f2⟩ := trod_struct3 Tryd.underlying32 h
  rw [cT] at hl
  obtain ⟨a, b, c, rfl⟩ := list3 hl
  have f0 : DataW.trod enc Tryd.prog W 0 sp hd n 5 (([a, b, c].drop 0).take (Tryd.prog.cellsOf 5)) = some y0 := f0
  have f1 : DataW.trod enc Tryd.prog W 0 sp hd n 9 (([a, b, c].drop 1).take (Tryd.prog.cellsOf 9)) = some y1 := f1
  have f2 : DataW.trod enc Tryd.prog W 0 sp hd n 3 (([a, b, c].drop 2).take (Tryd.prog.cellsOf 3)) = some y2 := f2
  rw [c8] at f0
  rw [cS] at f1
  rw [cI] at f2
  simp only [List.drop_zero, List.drop_succ_cons, List.take_succ_cons, List.take_zero] at f0 f1 f2
  obtain ⟨k, e0, _, w0⟩ := DataW.trod_int Tryd.underlying5 f0
  obtain ⟨s, e1, _, w1⟩ := DataW.trod_string Tryd.underlying9 f1
  obtain ⟨p, e2, _, w2⟩ := DataW.trod_int Tryd.underlying3 f2
  simp at e0 e1 e2
  have hb := bounds_u8 w0
  obtain ⟨kn, rfl⟩ := Int.eq_ofNat_of_zero_le hb.1
  exact ⟨kn, s, p, by rw [e0, e1, e2], by omega, w1⟩
/-- A slice of tokens as it came in. -/
theorem sl_open {H : Type} {enc : TypeId × Value → H} {W : World} {v : Value} {d : DataW H} {ps : List MemPlace} (hv : ∃ a n c, v = .slice a n c)
    (h : DataW.Trod enc Tryd.prog W 0 (fun _ => true) true 27 v d ps) :
    (∃ a c, v = .slice a 0 c) ∨ ∃ l : List ITok, SlTok W v l ∧ l.length ≤ maxLen ∧ (∀ t ∈ l, t.2.1.size ≤ maxLen) ∧ ∀ t ∈ l, t.1 < 256 := by
  obtain ⟨a0, n0, c0, rfl⟩ := hv
  obtain ⟨fuel, hf⟩ := h
  rcases open_slice Tryd.underlying27 hf with ⟨hcs, _⟩ | ⟨a, len, cap, m, n, D, Pl, hcs, hbase, hl, hm, hmm, hx, hel⟩
  · simp [Value.cells] at hcs
    obtain ⟨rfl, rfl, rfl⟩ := hcs
    exact .inl ⟨none, 0, rfl⟩
  · simp [Value.cells] at hcs
    obtain ⟨rfl, rfl, rfl⟩ := hcs
    rw [if_pos rfl] at hmm
    by_cases hz : n0 = 0
    · subst hz; exact .inl ⟨_, _, rfl⟩
    right
    rw [cT] at hel
    have hch : ∀ i, ∃ t : ITok, i < n0 → (W.cell? (a.add (i * 3)) = some (.int .u8 t.1) ∧ W.cell? ((a.add (i * 3)).add 1) = some (.string t.2.1) ∧ W.cell? ((a.add (i * 3)).add 2) = some (.int .i64 t.2.2)) ∧ t.1 < 256 ∧ t.2.1.size ≤ maxLen := fun i => by
      by_cases hi : i < n0
      · obtain ⟨cs', h1, h2⟩ := hel i (by omega)
        obtain ⟨k, s, p, rfl, hk, hs⟩ := tok_open h2
        obtain ⟨_, _, hc⟩ := World.cells?_some h1
        have g0 := hc 0 (by omega)
        have g1 := hc 1 (by omega)
        have g2 := hc 2 (by omega)
        refine ⟨(k, s, p), fun _ => ⟨⟨?_, g1, g2⟩, hk, hs⟩⟩
        have : (a.add (i * 3)).add 0 = a.add (i * 3) := by unfold Addr.add; simp
        rw [← this]; exact g0
      · exact ⟨(0, ⟨#[]⟩, 0), fun h => absurd h hi⟩
    have hspec := fun i => Classical.choose_spec (hch i)
    obtain ⟨f, hfdef⟩ : ∃ f : Nat → ITok, f = fun i => Classical.choose (hch i) := ⟨_, rfl⟩
    have hf2 : ∀ i, i < n0 → (W.cell? (a.add (i * 3)) = some (.int .u8 (f i).1) ∧ W.cell? ((a.add (i * 3)).add 1) = some (.string (f i).2.1) ∧ W.cell? ((a.add (i * 3)).add 2) = some (.int .i64 (f i).2.2)) ∧ (f i).1 < 256 ∧ (f i).2.1.size ≤ maxLen := fun i hi => by rw [hfdef]; exact hspec i hi
    have c00 := (hf2 0 (by omega)).1.1
    have ha0 : a.add (0 * 3) = a := by unfold Addr.add; simp
    rw [ha0] at c00
    obtain ⟨b, off, spot⟩ := a
    obtain rfl : spot = none := World.cell?_spot c00
    have hb : b < W.heap.size := World.block_lt_of_cell? W _ c00
    have hadd : ∀ j, (⟨b, off, none⟩ : Addr).add j = ⟨b, off + j, none⟩ := fun j => Go.WideShapes.add_plain ..
    refine ⟨(List.range n0).map f, .inr ⟨b, off, c0, by simp, hb, fun i hi => ?_⟩, by simp; omega, ?_, ?_⟩
    · simp only [List.length_map, List.length_range] at hi
      obtain ⟨⟨g0, g1, g2⟩, _⟩ := hf2 i hi
      rw [hadd] at g0
      rw [hadd, show (⟨b, off + i * 3, none⟩ : Addr).add 1 = ⟨b, off + i * 3 + 1, none⟩ from Go.WideShapes.add_plain ..] at g1
      rw [hadd, show (⟨b, off + i * 3, none⟩ : Addr).add 2 = ⟨b, off + i * 3 + 2, none⟩ from Go.WideShapes.add_plain ..] at g2
      simp only [List.getElem_map, List.getElem_range]
      exact ⟨g0, g1, g2⟩
    · intro t ht
      obtain ⟨i, hi, rfl⟩ := List.mem_map.1 ht
      exact (hf2 i (List.mem_range.1 hi)).2.2
    · intro t ht
      obtain ⟨i, hi, rfl⟩ := List.mem_map.1 ht
      exact (hf2 i (List.mem_range.1 hi)).2.1
/-- The law LexIs, of whatever came in. -/
theorem lexIs_in {H : Type} {enc : TypeId × Value → H} (s : ByteArray) {v : Value} {d : DataW H} {ps : List MemPlace} (W : World) (hT : Tab W) (hs : s.size ≤ maxLen) (hv : ∃ a n c, v = .slice a n c)
    (h : DataW.Trod enc Tryd.prog W 0 (fun _ => true) true 27 v d ps) :
    Calls Tryd.prog 6 #[.string s, v] W fun e w' => e = .returned (.bool true) ∧ Below W.heap.size W w' := by
  rcases sl_open hv h with ⟨a, c, rfl⟩ | ⟨l, h1, h2, h3, h4⟩
  · exact lexIs_zero s a c W hT hs
  · exact lexIs_any s v l W hT hs h2 h1 h3 h4
end Go.Proofs.YtblccelfkffggaaDoor
