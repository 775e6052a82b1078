/- The walk of the closed law LexKnown. -/
import Derived.Test.YtblccelfkffggaaDoorLexM
import Derived.OwnWalk
namespace Go.Proofs
open Go.RowKit Go.Lx

theorem lexCuts_lo (s : ByteArray) (w : World) (hT : Tab w) (hs : s.size ≤ 100000) :
    Calls Tryd.prog 3 #[.string s] w fun e w' => e = .returned (.bool true) ∧ Below w.heap.size w w' := lexCuts_any s w hT (by unfold maxLen; omega)
theorem lexPlaces_lo (s : ByteArray) (w : World) (hT : Tab w) (hs : s.size ≤ 1000) :
    Calls Tryd.prog 5 #[.string s] w fun e w' => e = .returned (.bool true) ∧ Below w.heap.size w w' := lexPlaces_any s w hT (by unfold maxLen; omega)
theorem lexBack_lo (s : ByteArray) (w : World) (hT : Tab w) (hs : s.size ≤ 1000) :
    Calls Tryd.prog 7 #[.string s] w fun e w' => e = .returned (.bool true) ∧ Below w.heap.size w w' := lexBack_any s w hT (by unfold maxLen; omega)
theorem lexPieces_lo (s t : ByteArray) (w : World) (hT : Tab w) (hs : s.size ≤ 1000) (ht : t.size ≤ 1000) :
    Calls Tryd.prog 4 #[.string s, .string t] w fun e w' => e = .returned (.bool true) ∧ Below w.heap.size w w' := lexPieces_any s t w hT (by unfold maxLen; omega) (by unfold maxLen; omega)
/-- LexIs of no token, and of one that was just made. -/
theorem lexIs_none (s : ByteArray) (w : World) (hT : Tab w) (hs : s.size ≤ 1000) :
    Calls Tryd.prog 6 #[.string s, .slice none 0 0] w fun e w' => e = .returned (.bool true) ∧ Below w.heap.size w w' :=
  lexIs_any s _ [] w hT (by unfold maxLen; omega) (by simp) (.inl ⟨rfl, rfl⟩) (by simp) (by simp)
theorem lexIs_one' (s t : ByteArray) (k : Nat) (w : World) (hT : Tab w) (hs : s.size ≤ 1000) (ht : t.size ≤ 1000) (hk : k < 256) :
    Calls Tryd.prog 6 #[.string s, .slice (some ⟨w.heap.size, 0, none⟩) 1 1] (w.alloc (.cells #[.int .u8 (k : Int), .string t, .int .i64 0] 32)) fun e w' => e = .returned (.bool true) ∧ Below w.heap.size w w' :=
  (lexIs_any s (.slice (some ⟨w.heap.size, 0, none⟩) 1 1) [(k, t, 0)] (w.alloc (.cells #[.int .u8 (k : Int), .string t, .int .i64 0] 32)) (hT.next ((Below.refl _ _).alloc (Nat.le_refl _) _)) (by unfold maxLen; omega) (by unfold maxLen; simp)
    (.inr ⟨w.heap.size, 0, 1, rfl, by rw [World.size_alloc]; omega, fun i hi => by
      obtain rfl : i = 0 := by simp at hi; exact hi
      exact ⟨World.cell?_alloc_new _ _ _ _, World.cell?_alloc_new _ _ _ _, World.cell?_alloc_new _ _ _ _⟩⟩) (fun x hx => by rw [List.mem_singleton] at hx; subst hx; unfold maxLen; simp only; omega) (fun x hx => by rw [List.mem_singleton] at hx; subst hx; exact hk)).mono
    fun e w' ⟨he, hb⟩ => ⟨he, ((Below.refl w.heap.size w).alloc (Nat.le_refl _) _).trans (hb.mono (by rw [World.size_alloc]; omega))⟩
theorem lexIs_one (s t : ByteArray) (k : Int) (w : World) (hT : Tab w) (hs : s.size ≤ 1000) (ht : t.size ≤ 1000) (hk0 : 0 ≤ k) (hk : k < 256) :
    Calls Tryd.prog 6 #[.string s, .slice (some ⟨w.heap.size, 0, none⟩) 1 1] (w.alloc (.cells #[.int .u8 k, .string t, .int .i64 0] 32)) fun e w' => e = .returned (.bool true) ∧ Below w.heap.size w w' := by
  obtain ⟨n, rfl⟩ := Int.eq_ofNat_of_zero_le hk0
  exact lexIs_one' s t n w hT hs ht (by omega)

def partV : Array Value := #[.string ⟨#[97]⟩, .string ⟨#[49]⟩, .string ⟨#[95]⟩, .string ⟨#[58]⟩, .string ⟨#[61]⟩, .string ⟨#[60]⟩, .string ⟨#[62]⟩, .string ⟨#[45]⟩, .string ⟨#[45, 45]⟩, .string ⟨#[10]⟩, .string ⟨#[32]⟩, .string ⟨#[105, 102]⟩, .string ⟨#[101, 109, 105, 116]⟩, .string ⟨#[59]⟩, .string ⟨#[33]⟩, .string ⟨#[90, 57]⟩, .string ⟨#[13]⟩]
theorem part_at (j : Nat) (h : j < 17) : ∃ x : ByteArray, partV[j]? = some (.string x) ∧ x.size ≤ 10 := by
  have : j = 0 ∨ j = 1 ∨ j = 2 ∨ j = 3 ∨ j = 4 ∨ j = 5 ∨ j = 6 ∨ j = 7 ∨ j = 8 ∨ j = 9 ∨ j = 10 ∨ j = 11 ∨ j = 12 ∨ j = 13 ∨ j = 14 ∨ j = 15 ∨ j = 16 := by omega
  rcases this with rfl | rfl | rfl | rfl | rfl | rfl | rfl | rfl | rfl | rfl | rfl | rfl | rfl | rfl | rfl | rfl | rfl <;> exact ⟨_, rfl, by decide⟩

theorem bytes_one (wx : World) (c : UInt8) :
    (convert 42 9 (.slice (some ⟨wx.heap.size, 0, none⟩) 1 1)).run Tryd.prog (wx.alloc (.cells #[.int .u8 (c.toNat : Int)] 5)) = .ok (.string ⟨#[c]⟩) (wx.alloc (.cells #[.int .u8 (c.toNat : Int)] 5)) :=
  run_convert_bytes_back (P := Tryd.prog) _ 42 9 5 _ 1 [c] Tryd.underlying42 Tryd.underlying5 Tryd.underlying9 (fun j hj => by
    obtain rfl : j = 0 := by simp at hj; exact hj
    exact World.cell?_alloc_new _ _ _ _)

theorem info_u8 : (Tryd.prog.info? 5).map (fun i => (i.zero, i.size, i.bytes)) = some (some (.int .u8 0), 1, 1) := by kernel_rfl
theorem zero_str (w : World) (base g N : Nat) (h : w.ownsRow base 5 1 (.slice (some ⟨g, 0, none⟩) N N) N (madeCells (Value.int .u8 0).cells (N * 1)).toList) :
    (convert 42 9 (.slice (some ⟨g, 0, none⟩) N N)).run Tryd.prog w = .ok (.string ⟨(List.replicate N (0 : UInt8)).toArray⟩) w := by
  have hc := h.cells (g := g) rfl
  have := run_convert_bytes_back (P := Tryd.prog) w 42 9 5 ⟨g, 0, none⟩ N (List.replicate N (0 : UInt8)) Tryd.underlying42 Tryd.underlying5 Tryd.underlying9 (fun j hj => by
    rw [List.length_replicate] at hj
    have := hc j (.int .u8 0) (by simp [madeCells, hj, Value.cells, Nat.mod_one])
    rw [this]; simp)
  rw [List.length_replicate] at this
  exact this

theorem zero_ex (w : World) (base g N : Nat) (hN : N = 65537) (h : w.ownsRow base 5 1 (.slice (some ⟨g, 0, none⟩) N N) N (madeCells (Value.int .u8 0).cells (N * 1)).toList) :
    ∃ S : ByteArray, (convert 42 9 (.slice (some ⟨g, 0, none⟩) N N)).run Tryd.prog w = .ok (.string S) w ∧ S.size ≤ 100000 :=
  ⟨_, zero_str w base g N h, by rw [← size_eq]; simp only [List.length_replicate]; omega⟩

set_option maxRecDepth 100000 in
set_option maxHeartbeats 3200000 in
theorem lexKnown_any (w : World) (hT : Tab w) : Calls Tryd.prog 8 #[] w fun e w' => e = .returned (.bool true) ∧ Below w.heap.size w w' := by
  obtain ⟨i8, hi8, hz0, hz1, hz2⟩ := info_parts info_u8
  go_enter Tryd.func8, Tryd.ntmps8
  go_wp2_with fail
  change Code.wp _ _ _ _ (w.alloc (Obj.cells partV 9))
  obtain ⟨wo, hwo⟩ : ∃ wo, wo = w.alloc (Obj.cells partV 9) := ⟨_, rfl⟩
  rw [← hwo]
  have hgo : Below w.heap.size w wo := by rw [hwo]; exact (Below.refl _ _).alloc (Nat.le_refl _) _
  have hcell : ∀ j, j < 17 → ∃ x : ByteArray, wo.cell? ⟨w.heap.size, j, none⟩ = some (.string x) ∧ x.size ≤ 10 := fun j hj => by
    obtain ⟨x, hx, hz⟩ := part_at j hj
    refine ⟨x, ?_, hz⟩
    rw [hwo, ← hx]
    exact World.cell?_alloc_new w partV 9 j
  have hsz : w.heap.size < wo.heap.size := by rw [hwo, World.size_alloc]; omega
  have HCell := Lib.hid hcell
  have HSZ := Lib.hid hsz
  have TO := hT.next hgo
  clear hcell hwo hsz
  go_loopw [2, 3, 4, 5] (fun i _ _ _ wr => ∃ k : Nat, k ≤ 17 ∧ i = .int .i64 k ∧ Below wo.heap.size wo wr) (fun i _ _ _ _ => 17 - (intOf i).toNat)
  case atStart => exact ⟨0, by omega, rfl, Below.refl _ _⟩
  case round =>
    obtain ⟨wa, rfl⟩ : ∃ wq : World, wq = wr := ⟨_, rfl⟩
    obtain ⟨ka, hka, rfl, hga⟩ := hrel
    by_cases hla : ka < 17
    · have hbka : decide ((ka : Int) < 17) = true := by simp; omega
      go_wp2_with fail
      go_loopw [3, 4, 5] (fun i _ _ wr => ∃ k : Nat, k ≤ 17 ∧ i = .int .i64 k ∧ Below wo.heap.size wo wr) (fun i _ _ _ => 17 - (intOf i).toNat)
      case atStart => exact ⟨0, by omega, rfl, hga⟩
      case round =>
        obtain ⟨wb, rfl⟩ : ∃ wq : World, wq = wr := ⟨_, rfl⟩
        obtain ⟨kb, hkb, rfl, hgb⟩ := hrel
        by_cases hlb : kb < 17
        · have hbkb : decide ((kb : Int) < 17) = true := by simp; omega
          go_wp2_with fail
          go_loopw [4, 5] (fun i _ wr => ∃ k : Nat, k ≤ 17 ∧ i = .int .i64 k ∧ Below wo.heap.size wo wr) (fun i _ _ => 17 - (intOf i).toNat)
          case atStart => exact ⟨0, by omega, rfl, hgb⟩
          case round =>
            obtain ⟨kc, hkc, rfl, hgc⟩ := hrel
            by_cases hlc : kc < 17
            · obtain ⟨x, hx, hxs⟩ := HCell.out ka hla
              obtain ⟨y, hy, hys⟩ := HCell.out kb hlb
              obtain ⟨z, hz, hzs⟩ := HCell.out kc hlc
              have cx := (hgc.cell (p := ⟨w.heap.size, ka, none⟩) HSZ.out).trans hx
              have cy := (hgc.cell (p := ⟨w.heap.size, kb, none⟩) HSZ.out).trans hy
              have cz := (hgc.cell (p := ⟨w.heap.size, kc, none⟩) HSZ.out).trans hz
              have HY := Lib.hid hy
              have ia0 : (0 : Int) ≤ ka := by omega
              have ib0 : (0 : Int) ≤ kb := by omega
              have ic0 : (0 : Int) ≤ kc := by omega
              have ia1 : (ka : Int) < 17 := by omega
              have ib1 : (kb : Int) < 17 := by omega
              have ic1 : (kc : Int) < 17 := by omega
              have hsz3 : (x ++ y ++ z).size ≤ 1000 := by rw [ByteArray.size_append, ByteArray.size_append]; omega
              have hsz2 : (x ++ y).size ≤ 20 := by rw [ByteArray.size_append]; omega
              have HS3 := Lib.hid hsz3
              clear hx hy hz hsz3
              go_wp2_with fail
              go_quiet (fail)
              have G0 := below_drewN hgc nq
              clear cx cy cz hgc
              go_wp2_with fail
              refine (lexCuts_lo _ _ (TO.next G0) (Nat.le_trans HS3.out (by omega))).mono ?_
              rintro e w1 ⟨rfl, g1⟩
              have G1 := G0.trans (g1.mono G0.size)
              clear G0 g1
              go_wp2_with fail
              refine (lexPlaces_lo _ _ (TO.next G1) HS3.out).mono ?_
              rintro e w2 ⟨rfl, g2⟩
              have G2 := G1.trans (g2.mono G1.size)
              clear G1 g2
              by_cases h3 : kc % 3 = 0
              · have hb3 : ((kc : Int) % 3 == 0) = true := by rw [beq_iff_eq]; omega
                clear h3
                go_wp2_with fail
                refine (lexBack_lo _ _ (TO.next G2) HS3.out).mono ?_
                rintro e w3 ⟨rfl, g3⟩
                have G3 := G2.trans (g3.mono G2.size)
                have cy := (G3.cell (p := ⟨w.heap.size, kb, none⟩) HSZ.out).trans HY.out
                clear G2 g3
                go_wp2_with fail
                refine (lexPieces_lo _ _ _ (TO.next G3) HS3.out (by omega)).mono ?_
                rintro e w4 ⟨rfl, g4⟩
                have G4 := G3.trans (g4.mono G3.size)
                clear G3 g4 cy
                go_wp2_with fail
                go_roundw
                case rel => exact ⟨kc + 1, by omega, by go_num, G4⟩
                case measure => simp [intOf] <;> omega
              · have hb3 : ((kc : Int) % 3 == 0) = false := by rw [beq_eq_false_iff_ne]; omega
                clear h3
                go_wp2_with fail
                go_roundw
                case rel => exact ⟨kc + 1, by omega, by go_num, G2⟩
                case measure => simp [intOf] <;> omega
            · go_wp2_with fail
              go_roundw
              case rel => exact ⟨kb + 1, by omega, by go_num, hgc⟩
              case measure => simp [intOf] <;> omega
        · go_wp2_with fail
          go_roundw
          case rel => exact ⟨ka + 1, by omega, by go_num, hgb⟩
          case measure => simp [intOf] <;> omega
    · go_wp2_with fail
      go_loopw [6, 7] (fun i _ wr => ∃ k : Nat, k ≤ 256 ∧ i = .int .i64 k ∧ Below wo.heap.size wo wr) (fun i _ _ => 256 - (intOf i).toNat)
      case atStart => exact ⟨0, by omega, rfl, hga⟩
      case round =>
        obtain ⟨wc, rfl⟩ : ∃ wq : World, wq = wr := ⟨_, rfl⟩
        obtain ⟨k, hk, rfl, hg⟩ := hrel
        by_cases hlt : k < 256
        · obtain ⟨c, hc⟩ : ∃ c : UInt8, c.toNat = k := ⟨UInt8.ofNat k, by simp; omega⟩
          have hcv := fun wx : World => bytes_one wx c
          rw [hc] at hcv
          have hbk : decide ((k : Int) < 256) = true := by simp; omega
          have hs1 : (ByteArray.mk #[c]).size = 1 := rfl
          have h97 : (ByteArray.mk #[97]).size = 1 := rfl
          have h98 : (ByteArray.mk #[98]).size = 1 := rfl
          have hm6 : (k % 6 : Nat) < 256 := by omega
          generalize ByteArray.mk #[c] = t at *
          clear hc
          have G0 := hg.alloc hg.size (.cells #[.int .u8 (k : Int)] 5)
          go_wp2_with fail
          refine (lexCuts_lo _ _ (TO.next G0) (by rw [ByteArray.size_append, ByteArray.size_append]; omega)).mono ?_
          rintro e w1 ⟨rfl, g1⟩
          have G1 := G0.trans (g1.mono G0.size)
          clear G0 g1 hcv hg
          go_wp2_with fail
          refine (lexIs_one _ _ _ _ (TO.next G1) (by omega) (by omega) (by omega) (by omega)).mono ?_
          rintro e w2 ⟨rfl, g2⟩
          have G2 := G1.trans (g2.mono G1.size)
          clear G1 g2
          go_wp2_with fail
          refine (lexIs_none _ _ (TO.next G2) (by rw [ByteArray.size_append]; omega)).mono ?_
          rintro e w3 ⟨rfl, g3⟩
          have G3 := G2.trans (g3.mono G2.size)
          clear G2 g3
          go_wp2_with fail
          go_roundw
          case rel => exact ⟨k + 1, by omega, by go_num, G3⟩
          case measure => simp [intOf] <;> omega
        · go_wp2_with fail
          go_loopw [8, 9] (fun v i wr => ∃ (j : Nat) (t : ByteArray), j ≤ 66 ∧ t.size ≤ j ∧ v = .string t ∧ i = .int .i64 j ∧ Below wo.heap.size wo wr) (fun _ i _ => 66 - (intOf i).toNat)
          case atStart => exact ⟨0, ⟨#[]⟩, by omega, Nat.le_refl _, rfl, rfl, hg⟩
          case round =>
            obtain ⟨j, t, hj, ht, rfl, rfl, hgj⟩ := hrel
            by_cases hlj : j < 66
            · have h120 : (ByteArray.mk #[120]).size = 1 := rfl
              have h49 : (ByteArray.mk #[49]).size = 1 := rfl
              have h32 : (ByteArray.mk #[32, 49]).size = 2 := rfl
              have htx : (t ++ ByteArray.mk #[120]).size ≤ j + 1 := by rw [ByteArray.size_append]; omega
              have hbj : decide ((j : Int) < 66) = true := by simp; omega
              by_cases h60 : 60 < j
              · have hb60 : decide ((60 : Int) < j) = true := by simp; omega
                go_wp2_with fail
                refine (lexCuts_lo _ _ (TO.next hgj) (by rw [ByteArray.size_append, ByteArray.size_append]; omega)).mono ?_
                rintro e w1 ⟨rfl, g1⟩
                have G1 := hgj.trans (g1.mono hgj.size)
                clear hgj g1
                go_wp2_with fail
                refine (lexCuts_lo _ _ (TO.next G1) (by rw [ByteArray.size_append, ByteArray.size_append]; omega)).mono ?_
                rintro e w2 ⟨rfl, g2⟩
                have G2 := G1.trans (g2.mono G1.size)
                clear G1 g2
                go_wp2_with fail
                refine (lexIs_one _ _ _ _ (TO.next G2) (by omega) (by omega) (by omega) (by omega)).mono ?_
                rintro e w3 ⟨rfl, g3⟩
                have G3 := G2.trans (g3.mono G2.size)
                clear G2 g3
                go_wp2_with fail
                go_roundw
                case rel => exact ⟨j + 1, _, by omega, htx, rfl, by go_num, G3⟩
                case measure => simp [intOf] <;> omega
              · have hb60 : decide ((60 : Int) < j) = false := by simp; omega
                go_wp2_with fail
                go_roundw
                case rel => exact ⟨j + 1, _, by omega, htx, rfl, by go_num, hgj⟩
                case measure => simp [intOf] <;> omega
            · obtain ⟨N, hN⟩ : ∃ N : Nat, N = 65537 := ⟨_, rfl⟩
              have hNi : (65537 : Int) = (N : Int) := by omega
              have hNb : i8.bytes * N ≤ 281474976710656 := by rw [hz2]; omega
              have hNm : N ≤ maxLen := by unfold maxLen; omega
              have HN := Lib.hid hN
              have HNI := Lib.hid hNi
              have HNB := Lib.hid hNb
              have HNM := Lib.hid hNm
              clear hN hNi hNb hNm
              go_wp2_with (at_make; refine wpList_make_full _ rfl _ _ 42 rfl wo.heap.size 5 i8 (.int .u8 0) 1 Tryd.underlying42 hi8 hz0 hz1 .i64 .i64 65537 65537 N rfl rfl HNI.out HNI.out HNB.out HNM.out hgj.size ?_; intro wz hownz hgrowz; obtain ⟨S, hS, hSz⟩ := zero_ex wz _ _ N HN.out hownz; have hgz := Lib.hid (Below.grown hgj hgrowz hgj.size (fun _ h => by cases h)); clear hownz hgrowz)
              have G0 := hgz.out
              clear hS hgz hgj
              refine (lexCuts_lo _ _ (TO.next G0) hSz).mono ?_
              rintro e w1 ⟨rfl, g1⟩
              have G1 := G0.trans (g1.mono G0.size)
              clear G0 g1
              go_wp2_with fail
              refine (lexCuts_lo _ _ (TO.next G1) (by decide)).mono ?_
              rintro e w2 ⟨rfl, g2⟩
              have G2 := G1.trans (g2.mono G1.size)
              clear G1 g2
              go_wp2_with fail
              refine (lexIs_one _ _ _ _ (TO.next G2) (by decide) (by decide) (by decide) (by decide)).mono ?_
              rintro e w3 ⟨rfl, g3⟩
              have G3 := G2.trans (g3.mono G2.size)
              clear G2 g3
              go_wp2_with fail
              refine (works_any _ (TO.next G3)).mono ?_
              rintro e w4 ⟨rfl, g4⟩
              have G4 := G3.trans (g4.mono G3.size)
              go_wp2_with fail
              go_ret
              exact ⟨rfl, hgo.trans (G4.mono hgo.size)⟩
end Go.Proofs
