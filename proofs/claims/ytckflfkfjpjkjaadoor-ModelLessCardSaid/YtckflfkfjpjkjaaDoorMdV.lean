/- Walks: what 'Right' leans on: the closures, part two. -/
import Derived.Test.YtckflfkfjpjkjaaDoorMdU
namespace Go.Proofs
open Go.RowKit Go.Lx Go.Md Go.Shelf
set_option linter.unusedVariables false

theorem int_ne_lit {n m : Nat} (h : n ≠ m) : ((n : Int) == (m : Int)) = false := by rw [nat_is]; simp [h]
theorem int_ne2 {n : Nat} (h : n ≠ 2) : ((n : Int) == 2) = false := int_ne_lit h
theorem eqS_arg (x : ByteArray) : eqS x argS = (x.toList == [97, 114, 103]) := by
  unfold eqS
  rw [show argS.toList = [97, 114, 103] by rw [toList_eq']; rfl]
set_option maxHeartbeats 1000000 in
theorem vars1_any {Q : Nat → BP} (m : MdlD) (p : Ph) (H i : Nat) (x : VarD) (w : World) (h : MBox Q w m p H) (hT : Tab w) (hm : MdlOk m) (hi : i < m.vars.length) (hx : x.nm.size ≤ 140737488355328) :
    Calls Tryd.prog 95 #[.int .i64 i, varA x, .pointer (some ⟨H, 0, none⟩)] w fun e w' => e = .returned (.bool (rVar m i x)) ∧ Below w.heap.size w w' := by
  have l1 := hm.vars
  have HE : Hid (rVar m i x = (isNm x.nm && !eqS x.nm argS && !((m.vars.take i).any fun y => eqS y.nm x.nm))) := by unfold Hid; rfl
  have HT := Lib.hid hT
  have HB := Lib.hid h
  have hcap := h.mod.vars.cap (by omega)
  have hHs := h.box.sl
  have HN : Hid (isNm x.nm = (isT x.nm.data.toList == 2)) := by unfold Hid; rfl
  have HL := Lib.hid (fun wx (hb : Below w.heap.size w wx) => lis_any x.nm wx (HT.out.next hb) hx)
  have HV := Lib.hid (fun wx (hb : Below w.heap.size w wx) (X : Nat) (hc : wx.cell? ⟨X, 0, none⟩ = some (.string x.nm)) (hX : X < wx.heap.size) => contfVar p.a1 p.c1 (m.vars.take i) x.nm X wx ((h.below hb).mod.vars.take (by omega)) (by rw [List.length_take_of_le (by omega)]; omega) hc hX)
  rw [List.length_take_of_le (by omega)] at HV
  generalize (m.vars.take i).any (fun y => eqS y.nm x.nm) = bV at HE HV
  generalize rVar m i x = R at HE ⊢
  generalize isNm x.nm = bN at HE HN
  generalize isT x.nm.data.toList = kk at HN HL
  have hiI : (i : Int) ≤ (p.c1 : Int) := by omega
  have hi0 : (0 : Int) ≤ (i : Int) := by omega
  obtain ⟨xn, xi⟩ := x
  unfold varA
  simp only at HE HL HV
  by_cases hk : kk = 2
  · subst hk
    obtain ⟨b0, b1, b2, b3, b4, b5, f0, f1, f2, f3, f4, f5⟩ := h.box
    clear h hT hm
    go_enter Tryd.func95, Tryd.ntmps95
    go_wp2_with fail
    refine (HL.out _ (below_al1 w _)).mono ?_
    rintro e w1 ⟨rfl, g1⟩
    have hc1 : w1.cell? ⟨w.heap.size, 0, none⟩ = some (.string xn) := (g1.cell (p := ⟨w.heap.size, 0, none⟩) (by simp)).trans (by simp)
    have hz1 : w.heap.size < w1.heap.size := World.block_lt_of_cell? w1 _ hc1
    have G1 := below_bx1 g1
    have b1' := (G1.cell (p := ⟨H, 1, none⟩) hHs).trans b1
    clear b0 b1 b2 b3 b4 b5 f0 f1 f2 f3 f4 f5
    go_wp2_with (go_at_call 96; refine (HV.out _ G1 _ hc1 hz1).mono ?_; rintro e w2 ⟨rfl, g2⟩)
    all_goals
      go_ret
      refine ⟨ret_bool ?_, ?_⟩
      · rw [HE.out, HN.out, eqS_arg]; simp_all
      · first | exact G1.trans (g2.mono G1.size) | exact G1
  · have hk2 := int_ne2 hk
    have HN2 : Hid (bN = false) := by unfold Hid; rw [HN.out]; simp [hk]
    clear h hT hm hk
    go_enter Tryd.func95, Tryd.ntmps95
    go_wp2_with (go_at_call 93; refine (HL.out _ (below_al1 w _)).mono ?_; rintro e w1 ⟨rfl, g1⟩)
    go_ret
    exact ⟨ret_bool (by rw [HE.out, HN2.out]; rfl), below_bx1 g1⟩
set_option maxHeartbeats 1000000 in
theorem signals1_any {Q : Nat → BP} (m : MdlD) (p : Ph) (H i : Nat) (s : ByteArray) (w : World) (h : MBox Q w m p H) (hT : Tab w) (hm : MdlOk m) (hi : i < m.evs.length) (hx : s.size ≤ 140737488355328) :
    Calls Tryd.prog 99 #[.int .i64 i, .string s, .pointer (some ⟨H, 0, none⟩)] w fun e w' => e = .returned (.bool (rEv m i s)) ∧ Below w.heap.size w w' := by
  have l1 := hm.evs
  have HE : Hid (rEv m i s = (isNm s && !inL (m.evs.take i) s)) := by unfold Hid; rfl
  have HT := Lib.hid hT
  have hcap := h.mod.evs.cap (by omega)
  have hHs := h.box.sl
  have HN : Hid (isNm s = (isT s.data.toList == 2)) := by unfold Hid; rfl
  have HL := Lib.hid (lis_any s w hT hx)
  have HV := Lib.hid (fun wx (hb : Below w.heap.size w wx) => slCont_any p.a2 p.c2 (m.evs.take i) s wx ((h.below hb).mod.evs.take (by omega)) (by rw [List.length_take_of_le (by omega)]; omega))
  rw [List.length_take_of_le (by omega)] at HV
  generalize inL (m.evs.take i) s = bV at HE HV
  generalize rEv m i s = R at HE ⊢
  generalize isNm s = bN at HE HN
  generalize isT s.data.toList = kk at HN HL
  have hiI : (i : Int) ≤ (p.c2 : Int) := by omega
  have hi0 : (0 : Int) ≤ (i : Int) := by omega
  by_cases hk : kk = 2
  · subst hk
    obtain ⟨b0, b1, b2, b3, b4, b5, f0, f1, f2, f3, f4, f5⟩ := h.box
    clear h hT hm
    go_enter Tryd.func99, Tryd.ntmps99
    go_wp2_with fail
    refine HL.out.mono ?_
    rintro e w1 ⟨rfl, g1⟩
    have b2' := (g1.cell (p := ⟨H, 2, none⟩) hHs).trans b2
    clear b0 b1 b2 b3 b4 b5 f0 f1 f2 f3 f4 f5
    go_wp2_with (go_at_call 100; refine (HV.out _ g1).mono ?_; rintro e w2 ⟨rfl, rfl⟩)
    all_goals
      go_ret
      refine ⟨ret_bool ?_, g1⟩
      rw [HE.out, HN.out]; simp_all
  · have hk2 := int_ne2 hk
    have HN2 : Hid (bN = false) := by unfold Hid; rw [HN.out]; simp [hk]
    clear h hT hm hk
    go_enter Tryd.func99, Tryd.ntmps99
    go_wp2_with (go_at_call 93; refine HL.out.mono ?_; rintro e w1 ⟨rfl, g1⟩)
    go_ret
    exact ⟨ret_bool (by rw [HE.out, HN2.out]; rfl), g1⟩
theorem noSub_at {m : MdlD} {k : Nat} (h : k < m.vers.length) : noSub m k = m.vers[k].sb.toList.isEmpty := by
  unfold noSub
  rw [show m.vers[(k : Int).toNat]? = some m.vers[k] by simp [h]]
  show (m.vers[k].sb.size == 0) = _
  rw [toList_eq', Bool.eq_iff_iff, beq_iff_eq, List.isEmpty_iff, ← List.length_eq_zero_iff]
  simp
set_option maxHeartbeats 1000000 in
theorem regions1_any {Q : Nat → BP} (m : MdlD) (p : Ph) (H i : Nat) (x : RegD) (w : World) (h : MBox Q w m p H) (hT : Tab w) (hm : MdlOk m) (hi : i < m.regs.length) (hx : x.nm.size ≤ 140737488355328) :
    Calls Tryd.prog 102 #[.int .i64 i, regA x, .pointer (some ⟨H, 0, none⟩)] w fun e w' => e = .returned (.bool (rReg m i x)) ∧ Below w.heap.size w w' := by
  have HE : Hid (rReg m i x = if i = 0 then nmd x.nm && x.own == -1 else nmd x.nm && Md.stM m x.own && noSub m x.own) := by unfold Hid; rfl
  have HT := Lib.hid hT
  have HB := Lib.hid h
  have hHs := h.box.sl
  have HL := Lib.hid (fun wx (hb : Below w.heap.size w wx) => named_any x.nm wx (HT.out.next hb) hx)
  have HS := Lib.hid (fun wx (hb : Below w.heap.size w wx) => state_any m p x.own wx (h.below hb).mod hm.vers)
  have l4 := hm.vers
  have HM := Lib.hid hm
  generalize rReg m i x = R at HE ⊢
  obtain ⟨xn, xo⟩ := x
  unfold regA
  unfold mdV at HS
  simp only at HE HL HS
  generalize nmd xn = bN at HE HL
  clear hT hm hx
  by_cases h0 : i = 0
  · have HE2 : Hid (R = (bN && xo == -1)) := by unfold Hid; rw [HE.out, if_pos h0]
    subst h0
    clear HE h
    go_enter Tryd.func102, Tryd.ntmps102
    go_wp2_with fail
    refine (HL.out _ (below_al1 w _)).mono ?_
    rintro e w1 ⟨rfl, g1⟩
    have hc1 : w1.cell? ⟨w.heap.size, 1, none⟩ = some (.int .i64 xo) := (g1.cell (p := ⟨w.heap.size, 1, none⟩) (by simp)).trans (by simp)
    go_wp2_with fail
    all_goals
      go_ret
      refine ⟨ret_bool ?_, below_bx1 g1⟩
      rw [HE2.out]; simp_all
  · have HE2 : Hid (R = (bN && Md.stM m xo && noSub m xo)) := by unfold Hid; rw [HE.out, if_neg h0]
    have hi0 : ((i : Int) == 0) = false := int_ne_lit (m := 0) h0
    clear HE h0
    cases hs : Md.stM m xo with
    | false =>
      rw [hs] at HE2 HS
      obtain ⟨b0, b1, b2, b3, b4, b5, f0, f1, f2, f3, f4, f5⟩ := h.box
      clear h hs
      go_enter Tryd.func102, Tryd.ntmps102
      go_wp2_with fail
      refine (HL.out _ (below_al1 w _)).mono ?_
      rintro e w1 ⟨rfl, g1⟩
      have hc1 : w1.cell? ⟨w.heap.size, 1, none⟩ = some (.int .i64 xo) := (g1.cell (p := ⟨w.heap.size, 1, none⟩) (by simp)).trans (by simp)
      have G1 := below_bx1 g1
      clear b0 b1 b2 b3 b4 b5 f0 f1 f2 f3 f4 f5
      obtain ⟨b0, b1, b2, b3, b4, b5, f0, f1, f2, f3, f4, f5⟩ := (HB.out.below G1).box
      go_wp2_with (go_at_call 104; refine (HS.out _ G1).mono ?_; rintro e w2 ⟨rfl, g2⟩)
      all_goals
        go_ret
        refine ⟨ret_bool ?_, ?_⟩
        · rw [HE2.out]; simp_all
        · first | exact G1.trans (g2.mono G1.size) | exact G1
    | true =>
      obtain ⟨z0, z1⟩ := Md.stM_lt hs
      rw [hs] at HE2 HS
      obtain ⟨k, rfl⟩ : ∃ k : Nat, xo = k := ⟨xo.toNat, by omega⟩
      have hlt : k < m.vers.length := by omega
      obtain ⟨b, o, ha, hb, dv, _, _, _, _, _, _, _, _, r7⟩ := h.mod.vers.get hlt
      have HA := Lib.hid ha
      rw [noSub_at hlt] at HE2
      generalize m.vers[k].sb = sb at HE2 r7
      clear ha
      clear h hs
      go_enter Tryd.func102, Tryd.ntmps102
      go_wp2_with fail
      refine (HL.out _ (below_al1 w _)).mono ?_
      rintro e w1 ⟨rfl, g1⟩
      have hc1 : w1.cell? ⟨w.heap.size, 1, none⟩ = some (.int .i64 k) := (g1.cell (p := ⟨w.heap.size, 1, none⟩) (by simp)).trans (by simp)
      have hz1 : w.heap.size < w1.heap.size := World.block_lt_of_cell? w1 _ hc1
      have G1 := below_bx1 g1
      obtain ⟨b0, b1, b2, b3, b4, b5, f0, f1, f2, f3, f4, f5⟩ := (HB.out.below G1).box
      go_wp2_with (go_at_call 104; refine (HS.out _ G1).mono ?_; rintro e w2 ⟨rfl, g2⟩; clear b0 b1 b2 b3 b4 b5 f0 f1 f2 f3 f4 f5; have G2 := G1.trans (g2.mono G1.size); have hc2 := (g2.cell (p := ⟨w.heap.size, 1, none⟩) hz1).trans hc1; obtain ⟨b0, b1, b2, b3, b4, b5, f0, f1, f2, f3, f4, f5⟩ := (HB.out.below G2).box; rw [HA.out] at b4; have r7' := (G2.cell (p := ⟨b, o + k * 8 + 7, none⟩) hb).trans r7)
      all_goals
        go_ret
        refine ⟨ret_bool ?_, ?_⟩
        · rw [HE2.out]; simp_all
        · first | exact G2 | exact G1
theorem deep1_any {Q : Nat → BP} (m : MdlD) (p : Ph) (H i : Nat) (x : VerD) (a : Option Addr) (c : Nat) (w : World) (h : MBox Q w m p H) (hU : UpOk m) (hm : MdlOk m) (hi : i < m.vers.length) :
    Calls Tryd.prog 109 #[.int .i64 i, verA x a c, .pointer (some ⟨H, 0, none⟩)] w fun e w' => e = .returned (.bool (rDeep m i)) ∧ Below w.heap.size w w' := by
  have HD := Lib.hid (fun wx (hb : Below w.heap.size w wx) => depth_any m p i wx (h.below hb).mod hU hi hm.vers hm.regs)
  have HE : Hid (rDeep m i = decide (deM m i ≤ 64)) := by unfold Hid; rfl
  generalize deM m i = d at HE HD
  generalize rDeep m i = R at HE ⊢
  unfold mdV at HD
  have hHs := h.box.sl
  obtain ⟨b0, b1, b2, b3, b4, b5, f0, f1, f2, f3, f4, f5⟩ := h.box
  unfold verA
  clear h hU hm
  go_enter Tryd.func109, Tryd.ntmps109
  go_wp2_with (go_at_call 92; refine (HD.out _ (below_al1 w _)).mono ?_; rintro e w1 ⟨rfl, g1⟩)
  go_ret
  refine ⟨ret_bool ?_, below_bx1 g1⟩
  rw [HE.out, Bool.eq_iff_iff]
  simp
  omega
end Go.Proofs
