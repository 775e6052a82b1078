/- Walks: what 'Right' leans on: the closures, part four. -/
import Derived.Test.YtckflfkfjpjkjaaDoorCMdUV
namespace Go.Proofs
open Go.RowKit Go.Lx Go.Md Go.Shelf
set_option linter.unusedVariables false

def inV (m : MdlD) (v : Int) : Bool := decide (0 ≤ v) && decide (v < m.vers.length)
theorem ways1_any {Q : Nat → BP} (m : MdlD) (p : Ph) (H : Nat) (v : Int) (w : World) (h : MBox Q w m p H) (hm : MdlOk m) :
    Calls Tryd.prog 110 #[.int .i64 v, .pointer (some ⟨H, 0, none⟩)] w fun e w' => e = .returned (.bool (inV m v)) ∧ w = w' := by
  have l4 := hm.vers
  have HE : Hid (inV m v = (decide (0 ≤ v) && decide (v < m.vers.length))) := by unfold Hid; rfl
  have hHs := h.box.sl
  obtain ⟨b0, b1, b2, b3, b4, b5, f0, f1, f2, f3, f4, f5⟩ := h.box
  clear h hm
  go_enter Tryd.func110, Tryd.ntmps110
  go_wp2_with fail
  all_goals
    go_ret
    refine ⟨ret_bool ?_, rfl⟩
    rw [HE.out]; simp_all <;> omega
set_option maxRecDepth 100000 in
set_option maxHeartbeats 4000000 in
theorem ways2_any {Q : Nat → BP} {Q' : BP} (m : MdlD) (p : Ph) (H V i : Nat) (x : TrnD) (a : Option Addr) (c : Nat) (w : World) (h : MBox Q w m p H) (hT : Tab w) (hm : MdlOk m) (hx : TrnOk x) (hs : SlS Q' w (.slice a x.tr.length c) x.tr)
    (hV : w.cell? ⟨V, 0, none⟩ = some (.func (.func 110) #[] #[.pointer (some ⟨H, 0, none⟩)])) (hVs : V < w.heap.size) :
    Calls Tryd.prog 112 #[.int .i64 i, trnA x a c, .pointer (some ⟨V, 0, none⟩), .pointer (some ⟨H, 0, none⟩)] w fun e w' => e = .returned (.bool (rWay m x)) ∧ Below w.heap.size w w' := by
  have HE : Hid (rWay m x = (nmd x.nm && inV m x.src && inV m x.tgt && evsG m.evs [] x.tr && decide (0 ≤ x.af) && decide (x.af ≤ 65535) && (x.af == 0 || x.tr.length == 0) && decide (1 ≤ x.kd) && decide (x.kd ≤ 3) && decide (x.gd.size ≤ 4096) && decide (x.ef.size ≤ 4096))) := by unfold Hid; rfl
  have HB := Lib.hid h
  have hHs := h.box.sl
  have HN := Lib.hid (fun wx (hb : Below w.heap.size w wx) => named_any x.nm wx (hT.next hb) hx.nm)
  have HS := Lib.hid (fun wx (hb : Below w.heap.size w wx) => ways1_any m p H x.src wx (h.below hb) hm)
  have HG := Lib.hid (fun wx (hb : Below w.heap.size w wx) => ways1_any m p H x.tgt wx (h.below hb) hm)
  have HV := Lib.hid (fun wx (hb : Below w.heap.size w wx) => events_any m p a c x.tr wx (h.below hb).mod hm.evs (hs.kept (Kept.of_below hb)) hx.tr)
  have HC := Lib.hid (fun wx (hb : Below w.heap.size w wx) => (hb.cell (p := ⟨V, 0, none⟩) hVs).trans hV)
  generalize rWay m x = R at HE ⊢
  generalize inV m x.src = bI at HE HS
  generalize inV m x.tgt = bJ at HE HG
  generalize evsG m.evs [] x.tr = bV at HE HV
  generalize hdl : x.tr.length = dn at HE HV
  unfold trnA
  unfold mdV at HV
  have z4 := hx.gd
  have z5 := hx.ef
  have z6 := hx.tr
  rw [hdl] at z6
  rw [hdl]
  clear h hT hm hx hs hdl hV
  obtain ⟨xnm, xsrc, xtgt, xtr, xaf, xgd, xef, xkd⟩ := x
  simp only at HE HN HS HG HV z4 z5 ⊢
  generalize nmd xnm = bN at HE HN
  have HF : Hid (∀ wx, Below (w.alloc (.cells #[.string xnm, .int .i64 xsrc, .int .i64 xtgt, .slice a dn c, .int .i64 xaf, .string xgd, .string xef, .int .u8 xkd] 46)).heap.size (w.alloc (.cells #[.string xnm, .int .i64 xsrc, .int .i64 xtgt, .slice a dn c, .int .i64 xaf, .string xgd, .string xef, .int .u8 xkd] 46)) wx →
      wx.cell? ⟨w.heap.size, 0, none⟩ = some (.string xnm) ∧ wx.cell? ⟨w.heap.size, 1, none⟩ = some (.int .i64 xsrc) ∧ wx.cell? ⟨w.heap.size, 2, none⟩ = some (.int .i64 xtgt) ∧ wx.cell? ⟨w.heap.size, 3, none⟩ = some (.slice a dn c) ∧ wx.cell? ⟨w.heap.size, 4, none⟩ = some (.int .i64 xaf) ∧ wx.cell? ⟨w.heap.size, 5, none⟩ = some (.string xgd) ∧ wx.cell? ⟨w.heap.size, 6, none⟩ = some (.string xef) ∧ wx.cell? ⟨w.heap.size, 7, none⟩ = some (.int .u8 xkd)) := by
    intro wx G
    exact ⟨bx1 G (by simp), bx1 G (by simp), bx1 G (by simp), bx1 G (by simp), bx1 G (by simp), bx1 G (by simp), bx1 G (by simp), bx1 G (by simp)⟩
  cases hD : ((dn : Int) == 0)
  all_goals
   go_enter Tryd.func112, Tryd.ntmps112
   simp only [List.append_eq, List.cons_append, List.nil_append]
   go_wp2_with (first
      | (go_at_call 103; refine (HN.out _ (below_al1 w _)).mono ?_; rintro e w1 ⟨rfl, g1⟩; have G1 := g1; obtain ⟨p0, p1, p2, p3, p4, p5, p6, p7⟩ := HF.out _ G1; have hv := HC.out _ (below_bx1 G1); obtain ⟨b0, b1, b2, b3, b4, b5, f0, f1, f2, f3, f4, f5⟩ := (HB.out.below (below_bx1 G1)).box)
      | (go_at_call_of 110 (Value.int IntKind.i64 xsrc); refine (HS.out _ (below_bx1 G1)).mono ?_; rintro e w2 ⟨rfl, rfl⟩)
      | (go_at_call_of 110 (Value.int IntKind.i64 xtgt); refine (HG.out _ (below_bx1 G1)).mono ?_; rintro e w2 ⟨rfl, rfl⟩)
      | (go_at_call 108; refine (HV.out _ (below_bx1 G1)).mono ?_; rintro e w4 ⟨rfl, g4⟩; have G4 := G1.trans (g4.mono G1.size); clear p0 p1 p2 p3 p4 p5 p6 p7 hv; clear b0 b1 b2 b3 b4 b5 f0 f1 f2 f3 f4 f5; obtain ⟨p0, p1, p2, p3, p4, p5, p6, p7⟩ := HF.out _ G4))
   all_goals
     go_ret
     refine ⟨ret_bool ?_, ?_⟩
     · rw [HE.out]; simp_all <;> (first | omega | (rw [Bool.eq_iff_iff]; simp <;> omega))
     · first | exact below_bx1 G4 | exact below_bx1 G1
end Go.Proofs
