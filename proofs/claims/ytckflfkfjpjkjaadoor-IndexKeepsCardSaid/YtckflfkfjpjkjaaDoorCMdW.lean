/- Walks: what 'Right' leans on: the closures, part three. -/
import Derived.Test.YtckflfkfjpjkjaaDoorCMdUV
namespace Go.Proofs
open Go.RowKit Go.Lx Go.Md Go.Shelf
set_option linter.unusedVariables false

theorem size0 (s : ByteArray) : (s.size == 0) = s.toList.isEmpty := by
  rw [toList_eq', Bool.eq_iff_iff, beq_iff_eq, List.isEmpty_iff, ← List.length_eq_zero_iff]
  simp
set_option maxRecDepth 100000 in
set_option maxHeartbeats 2000000 in
theorem vertices1_any {Q : Nat → BP} {Q' : BP} (m : MdlD) (p : Ph) (H i : Nat) (x : VerD) (a : Option Addr) (c : Nat) (w : World) (h : MBox Q w m p H) (hT : Tab w) (hm : MdlOk m) (hx : VerOk x) (hs : SlS Q' w (.slice a x.df.length c) x.df) :
    Calls Tryd.prog 106 #[.int .i64 i, verA x a c, .pointer (some ⟨H, 0, none⟩)] w fun e w' => e = .returned (.bool (rVer m x)) ∧ Below w.heap.size w w' := by
  have HE : Hid (rVer m x = (nmd x.nm && decide (1 ≤ x.kd) && decide (x.kd ≤ 12) && liesM m x && (bare x || x.kd == 1) && nmd x.sb && decide (x.en.size ≤ 4096) && decide (x.ex.size ≤ 4096) && evsG m.evs [] x.df)) := by unfold Hid; rfl
  have HR : Hid (bare x = (x.en.toList.isEmpty && x.ex.toList.isEmpty && x.df.length == 0 && x.sb.toList.isEmpty)) := by unfold Hid bare; rw [size0, size0, size0]
  have HB := Lib.hid h
  have hHs := h.box.sl
  have HN := Lib.hid (fun wx (hb : Below w.heap.size w wx) => named_any x.nm wx (hT.next hb) hx.nm)
  have HN2 := Lib.hid (fun wx (hb : Below w.heap.size w wx) => named_any x.sb wx (hT.next hb) hx.sb)
  have HL := Lib.hid (fun wx (hb : Below w.heap.size w wx) => lies_any m p x a c wx (h.below hb).mod hm)
  have HV := Lib.hid (fun wx (hb : Below w.heap.size w wx) => events_any m p a c x.df wx (h.below hb).mod hm.evs (hs.kept (Kept.of_below hb)) hx.df)
  generalize rVer m x = R at HE ⊢
  generalize bare x = bB at HE HR
  generalize liesM m x = bL at HE HL
  generalize evsG m.evs [] x.df = bV at HE HV
  generalize hdl : x.df.length = dn at HR HV
  unfold verA at HL ⊢
  unfold mdV at HL HV
  have z4 := hx.en
  have z5 := hx.ex
  have z6 := hx.df
  rw [hdl] at z6
  rw [hdl] at HL
  rw [hdl]
  clear h hT hm hx hs hdl
  obtain ⟨xnm, xkd, xrg, xof, xen, xex, xdf, xsb⟩ := x
  simp only at HE HR HN HN2 HL HV z4 z5 ⊢
  generalize nmd xnm = bN at HE HN
  generalize nmd xsb = bS at HE HN2
  have HF : Hid (∀ wx, Below (w.alloc (.cells #[.string xnm, .int .u8 xkd, .int .i64 xrg, .int .i64 xof, .string xen, .string xex, .slice a dn c, .string xsb] 65)).heap.size (w.alloc (.cells #[.string xnm, .int .u8 xkd, .int .i64 xrg, .int .i64 xof, .string xen, .string xex, .slice a dn c, .string xsb] 65)) wx →
      wx.cell? ⟨w.heap.size, 0, none⟩ = some (.string xnm) ∧ wx.cell? ⟨w.heap.size, 1, none⟩ = some (.int .u8 xkd) ∧ wx.cell? ⟨w.heap.size, 2, none⟩ = some (.int .i64 xrg) ∧ wx.cell? ⟨w.heap.size, 3, none⟩ = some (.int .i64 xof) ∧ wx.cell? ⟨w.heap.size, 4, none⟩ = some (.string xen) ∧ wx.cell? ⟨w.heap.size, 5, none⟩ = some (.string xex) ∧ wx.cell? ⟨w.heap.size, 6, none⟩ = some (.slice a dn c) ∧ wx.cell? ⟨w.heap.size, 7, none⟩ = some (.string xsb)) := by
    intro wx G
    exact ⟨bx1 G (by simp), bx1 G (by simp), bx1 G (by simp), bx1 G (by simp), bx1 G (by simp), bx1 G (by simp), bx1 G (by simp), bx1 G (by simp)⟩
  cases hD : ((dn : Int) == 0)
  all_goals
   go_enter Tryd.func106, Tryd.ntmps106
   go_upto_region 1 with fail
   go_cut [6] (fun s wx => s = .bool bB ∧ wx = w.alloc (.cells #[.string xnm, .int .u8 xkd, .int .i64 xrg, .int .i64 xof, .string xen, .string xex, .slice a dn c, .string xsb] 65))
   case first =>
     go_wp2_with fail
     all_goals
       go_meet
       refine ⟨?_, rfl⟩
       rw [HR.out]
       simp_all
   case rest =>
     obtain ⟨rfl, rfl⟩ := hcut
     go_wp2_with (first
       | (go_at_call_of 103 (Value.string xnm); refine (HN.out _ (below_al1 w _)).mono ?_; rintro e w1 ⟨rfl, g1⟩; have G1 := g1; obtain ⟨p0, p1, p2, p3, p4, p5, p6, p7⟩ := HF.out _ G1; obtain ⟨b0, b1, b2, b3, b4, b5, f0, f1, f2, f3, f4, f5⟩ := (HB.out.below (below_bx1 G1)).box)
       | (go_at_call 107; refine (HL.out _ (below_bx1 G1)).mono ?_; rintro e w2 ⟨rfl, g2⟩; have G2 := G1.trans (g2.mono G1.size); clear p0 p1 p2 p3 p4 p5 p6 p7; clear b0 b1 b2 b3 b4 b5 f0 f1 f2 f3 f4 f5; obtain ⟨p0, p1, p2, p3, p4, p5, p6, p7⟩ := HF.out _ G2; obtain ⟨b0, b1, b2, b3, b4, b5, f0, f1, f2, f3, f4, f5⟩ := (HB.out.below (below_bx1 G2)).box)
       | (go_at_call_of 103 (Value.string xsb); refine (HN2.out _ (below_bx1 G2)).mono ?_; rintro e w3 ⟨rfl, g3⟩; have G3 := G2.trans (g3.mono G2.size); clear p0 p1 p2 p3 p4 p5 p6 p7; clear b0 b1 b2 b3 b4 b5 f0 f1 f2 f3 f4 f5; obtain ⟨p0, p1, p2, p3, p4, p5, p6, p7⟩ := HF.out _ G3; obtain ⟨b0, b1, b2, b3, b4, b5, f0, f1, f2, f3, f4, f5⟩ := (HB.out.below (below_bx1 G3)).box)
       | (go_at_call 108; refine (HV.out _ (below_bx1 G3)).mono ?_; rintro e w4 ⟨rfl, g4⟩; have G4 := G3.trans (g4.mono G3.size); clear p0 p1 p2 p3 p4 p5 p6 p7; clear b0 b1 b2 b3 b4 b5 f0 f1 f2 f3 f4 f5))
     all_goals
       go_ret
       refine ⟨ret_bool ?_, ?_⟩
       · rw [HE.out]; simp_all <;> omega
       · first | exact below_bx1 G4 | exact below_bx1 G3 | exact below_bx1 G2 | exact below_bx1 G1
end Go.Proofs
