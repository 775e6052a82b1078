/- The walk of the closed law UtfKnown. -/
import Derived.Test.YtnlpdempnmpbcaaDoorF
namespace Go.Proofs
open Go.RowKit Go.Ut
theorem bytes4 (wx : World) (a b c d : UInt8) :
    (convert 37 9 (.slice (some ⟨wx.heap.size, 0, none⟩) 4 4)).run Tryd.prog (wx.alloc (.cells #[.int .u8 (a.toNat : Int), .int .u8 (b.toNat : Int), .int .u8 (c.toNat : Int), .int .u8 (d.toNat : Int)] 5)) = .ok (.string ⟨#[a, b, c, d]⟩) (wx.alloc (.cells #[.int .u8 (a.toNat : Int), .int .u8 (b.toNat : Int), .int .u8 (c.toNat : Int), .int .u8 (d.toNat : Int)] 5)) :=
  bytes_str wx [a, b, c, d] _ rfl 4 rfl
theorem utfNext_lo (s : ByteArray) (w : World) (hw : Tab w) (hs : s.size ≤ 1000) :
    Calls Tryd.prog 3 #[.string s] w fun e w' => e = .returned (.bool true) ∧ Below w.heap.size w w' := utfNext_any s w hw (by unfold maxLen; omega)
theorem utfPut_lo (c : Int) (s : ByteArray) (w : World) (hw : Tab w) (hc1 : -2147483648 ≤ c) (hc2 : c ≤ 2147483647) (hs : s.size ≤ 1000) :
    Calls Tryd.prog 4 #[.int .i32 c, .string s] w fun e w' => e = .returned (.bool true) ∧ Below w.heap.size w w' := utfPut_any c s w hw ⟨hc1, hc2⟩ (by unfold maxLen; omega)
theorem utfValid_lo (s : ByteArray) (w : World) (hw : Tab w) (hs : s.size ≤ 1000) :
    Calls Tryd.prog 5 #[.string s] w fun e w' => e = .returned (.bool true) ∧ Below w.heap.size w w' := utfValid_any s w hw (by unfold maxLen; omega)
theorem utfPieces_lo (a b : ByteArray) (w : World) (hw : Tab w) (hs : a.size ≤ 1000) (ht : b.size ≤ 1000) :
    Calls Tryd.prog 6 #[.string a, .string b] w fun e w' => e = .returned (.bool true) ∧ Below w.heap.size w w' := utfPieces_any a b w hw (by unfold maxLen; omega) (by unfold maxLen; omega)
theorem putB_le (c : Int) : (putB c).size ≤ 4 := by
  unfold putB; split
  · rw [size_mk]; exact encL_le _
  · decide

set_option maxHeartbeats 1600000 in
/-- The characters about the bounds. -/
def runeL : List Int := [-2147483648, -1, 0, 8, 9, 10, 11, 13, 14, 31, 32, 127, 128, 2047, 2048, 55295, 55296, 57343, 57344, 65533, 65534, 65535, 65536, 1114111, 1114112, 2147483647]
def runes : Array Value := #[.int .i32 (-2147483648), .int .i32 (-1), .int .i32 0, .int .i32 8, .int .i32 9, .int .i32 10, .int .i32 11, .int .i32 13, .int .i32 14, .int .i32 31, .int .i32 32, .int .i32 127, .int .i32 128, .int .i32 2047, .int .i32 2048, .int .i32 55295, .int .i32 55296, .int .i32 57343, .int .i32 57344, .int .i32 65533, .int .i32 65534, .int .i32 65535, .int .i32 65536, .int .i32 1114111, .int .i32 1114112, .int .i32 2147483647]
theorem runes_eq : runes = (runeL.map fun c => Value.int .i32 c).toArray := rfl
theorem runeL_ok : ∀ c ∈ runeL, -2147483648 ≤ c ∧ c ≤ 2147483647 := by decide
theorem runes_at (j : Nat) (h : j < 26) : ∃ c : Int, runes[j]? = some (.int .i32 c) ∧ -2147483648 ≤ c ∧ c ≤ 2147483647 := by
  have hl : j < runeL.length := h
  refine ⟨runeL[j], ?_, runeL_ok _ (List.getElem_mem hl)⟩
  rw [runes_eq, List.getElem?_toArray, List.getElem?_map, List.getElem?_eq_getElem hl]; rfl
set_option maxHeartbeats 1600000 in
set_option maxRecDepth 100000 in
theorem utfKnown_any (w : World) (hw : Tab w) : Calls Tryd.prog 7 #[] w fun e w' => e = .returned (.bool true) ∧ Below w.heap.size w w' := by
  go_enter Tryd.func7, Tryd.ntmps7
  go_wp2_with fail
  go_loopw [1, 2] (fun i _ wr => ∃ k : Nat, k ≤ 256 ∧ i = .int .i64 k ∧ Below w.heap.size w wr) (fun i _ _ => 256 - (intOf i).toNat)
  case atStart => exact ⟨0, by omega, rfl, Below.refl _ _⟩
  case round =>
    obtain ⟨wq, rfl⟩ : ∃ wq : World, wq = wr := ⟨_, rfl⟩
    obtain ⟨k, hk, rfl, hg⟩ := hrel
    by_cases hlt : k < 256
    · have hbk : decide ((k : Int) < 256) = true := by simp; omega
      go_wp2_with fail
      go_loopw [2] (fun i wr => ∃ j : Nat, j ≤ 258 ∧ i = .int .i64 j ∧ Below w.heap.size w wr) (fun i _ => 258 - (intOf i).toNat)
      case atStart => exact ⟨0, by omega, rfl, hg⟩
      case round =>
        obtain ⟨j, hj, rfl, hgl⟩ := hrel
        by_cases hlj : j < 256
        · obtain ⟨x, hx⟩ : ∃ x : UInt8, x.toNat = k := ⟨UInt8.ofNat k, by simp; omega⟩
          obtain ⟨y, hy⟩ : ∃ y : UInt8, y.toNat = j := ⟨UInt8.ofNat j, by simp; omega⟩
          have hcv := fun wx : World => bytes4 wx x y 128 191
          rw [hx, hy] at hcv
          have hcv2 : ∀ wx : World, (convert 37 9 (.slice (some ⟨wx.heap.size, 0, none⟩) 4 4)).run Tryd.prog (wx.alloc (.cells #[.int .u8 (k : Int), .int .u8 (j : Int), .int .u8 128, .int .u8 191] 5)) = .ok (.string ⟨#[x, y, 128, 191]⟩) (wx.alloc (.cells #[.int .u8 (k : Int), .int .u8 (j : Int), .int .u8 128, .int .u8 191] 5)) := hcv
          clear hcv hx hy
          go_wp2_with fail
          refine (utfNext_lo _ _ (hw.below (hgl.alloc hgl.size _) hw.size) (by show 4 ≤ 1000; omega)).mono ?_
          rintro e w1 ⟨rfl, g1⟩
          replace g1 := (hgl.alloc hgl.size _).trans (g1.mono (hgl.alloc hgl.size _).size)
          clear hcv2
          go_wp2_with fail
          go_roundw
          case rel => exact ⟨j + 1 + k % 3, by omega, by congr 1, g1⟩
          case measure => simp [intOf]; omega
        · go_wp2_with fail
          go_roundw
          case rel => exact ⟨k + 1, by omega, by go_num, hgl⟩
          case measure => simp [intOf]; omega
    · go_wp2_with fail
      change Code.wp _ _ _ _ (wq.alloc (Obj.cells runes 21))
      obtain ⟨wo, hwo⟩ : ∃ wo, wo = wq.alloc (Obj.cells runes 21) := ⟨_, rfl⟩
      rw [← hwo]
      have hgo : Below w.heap.size w wo := by rw [hwo]; exact hg.alloc hg.size _
      have hcell : ∀ j, j < 26 → ∃ c : Int, wo.cell? ⟨wq.heap.size, j, none⟩ = some (.int .i32 c) ∧ -2147483648 ≤ c ∧ c ≤ 2147483647 := fun j hj => by
        obtain ⟨c, hc, h1, h2⟩ := runes_at j hj
        refine ⟨c, ?_, h1, h2⟩
        rw [hwo, ← hc]
        exact World.cell?_alloc_new wq runes 21 j
      have hsz : wq.heap.size < wo.heap.size := by rw [hwo, World.size_alloc]; omega
      have HCell := Lib.hid hcell
      clear hcell hwo
      go_loopw [26, 4] (fun i _ wr => ∃ j : Nat, j ≤ 26 ∧ i = .int .i64 j ∧ Below wo.heap.size wo wr) (fun i _ _ => 26 - (intOf i).toNat)
      case atStart => exact ⟨0, by omega, rfl, Below.refl _ _⟩
      case round =>
        obtain ⟨j, hj, rfl, hgl⟩ := hrel
        have hgw := hgo.trans (hgl.mono hgo.size)
        by_cases hlj : j < 26
        · obtain ⟨c, hc, hc1, hc2⟩ := HCell.out j hlj
          have hcl : wr.cell? ⟨wq.heap.size, j, none⟩ = some (.int .i32 c) := (hgl.cell hsz).trans hc
          have hple := putB_le c
          clear hc
          go_wp2_with fail
          refine (utfPut_lo c _ _ (hw.below hgw hw.size) hc1 hc2 (by decide)).mono ?_
          rintro e w1 ⟨rfl, g1⟩
          go_wp2_with fail
          refine (utfPut_lo c _ _ (hw.below (hgw.trans (g1.mono hgw.size)) hw.size) hc1 hc2 (by decide)).mono ?_
          rintro e w2 ⟨rfl, g2⟩
          replace g2 := g1.trans (g2.mono g1.size)
          replace g2 := hgl.trans (g2.mono hgl.size)
          clear g1 hgl hgw
          have hgw := hgo.trans (g2.mono hgo.size)
          go_wp2_with fail
          refine (put_any c _ (hw.below hgw hw.size)).mono ?_
          rintro e w3 ⟨rfl, g3⟩
          replace g3 := g2.trans (g3.mono g2.size)
          clear g2 hgw
          have hgw := hgo.trans (g3.mono hgo.size)
          go_wp2_with fail
          refine (put_any c _ (hw.below hgw hw.size)).mono ?_
          rintro e w4 ⟨rfl, g4⟩
          replace g4 := g3.trans (g4.mono g3.size)
          clear g3 hgw
          have hgw := hgo.trans (g4.mono hgo.size)
          go_wp2_with fail
          refine (utfPieces_lo _ _ _ (hw.below hgw hw.size) (by rw [ByteArray.size_append]; have h1 : (ByteArray.mk #[97]).size = 1 := rfl; omega) (by omega)).mono ?_
          rintro e w5 ⟨rfl, g5⟩
          replace g5 := g4.trans (g5.mono g4.size)
          clear g4 hgw
          have hgw := hgo.trans (g5.mono hgo.size)
          go_wp2_with fail
          refine (put_any c _ (hw.below hgw hw.size)).mono ?_
          rintro e w6 ⟨rfl, g6⟩
          replace g6 := g5.trans (g6.mono g5.size)
          clear g5 hgw
          have hgw := hgo.trans (g6.mono hgo.size)
          go_wp2_with fail
          refine (utfValid_lo _ _ (hw.below hgw hw.size) (by rw [ByteArray.size_append]; have h1 : (ByteArray.mk #[237, 160, 128]).size = 3 := rfl; omega)).mono ?_
          rintro e w7 ⟨rfl, g7⟩
          replace g7 := g6.trans (g7.mono g6.size)
          clear g6 hgw
          go_wp2_with fail
          go_roundw
          case rel => exact ⟨j + 1, by omega, by go_num, g7⟩
          case measure => simp [intOf]; omega
        · go_wp2_with fail
          refine (utfValid_lo _ _ (hw.below hgw hw.size) (by decide)).mono ?_
          rintro e w1 ⟨rfl, g1⟩
          replace g1 := hgw.trans (g1.mono hgw.size)
          clear hgw
          go_wp2_with fail
          refine (utfNext_lo _ _ (hw.below g1 hw.size) (by decide)).mono ?_
          rintro e w2 ⟨rfl, g2⟩
          replace g2 := g1.trans (g2.mono g1.size)
          clear g1
          go_wp2_with fail
          refine (utfPieces_lo _ _ _ (hw.below g2 hw.size) (by decide) (by decide)).mono ?_
          rintro e w3 ⟨rfl, g3⟩
          replace g3 := g2.trans (g3.mono g2.size)
          clear g2
          go_wp2_with fail
          refine (works_any _ (hw.below g3 hw.size)).mono ?_
          rintro e w4 ⟨rfl, g4⟩
          go_wp2_with fail
          go_ret
          exact ⟨rfl, g3.trans (g4.mono g3.size)⟩
end Go.Proofs
