/- Walks: the rules, each. -/
import Derived.Test.YtckflfkfjpjkjaaDoorCMdY
import Derived.Laws.EntriesVeiled
namespace Go.Proofs
open Go.RowKit Go.Lx Go.Md Go.Shelf
set_option linter.unusedVariables false

theorem cell_newat (W : World) {n : Nat} {v : Value} {T : TypeId} (h : W.heap.size = n) : (W.alloc (.cells #[v] T)).cell? ⟨n, 0, none⟩ = some v := by
  subst h; simp
theorem zf0 (w : World) (a : Obj) {wx : World} (g : Below ((w.alloc a).alloc (.cells #[.int .u8 0, .int .i64 0, .int .i64 0] 98)).heap.size ((w.alloc a).alloc (.cells #[.int .u8 0, .int .i64 0, .int .i64 0] 98)) wx) :
    wx.cell? ⟨w.heap.size + 1, 0, none⟩ = some (.int .u8 0) ∧ wx.cell? ⟨w.heap.size + 1, 1, none⟩ = some (.int .i64 0) ∧ wx.cell? ⟨w.heap.size + 1, 2, none⟩ = some (.int .i64 0) ∧ wx.frozen? ⟨w.heap.size + 1, 0, none⟩ = false ∧ wx.frozen? ⟨w.heap.size + 1, 1, none⟩ = false ∧ wx.frozen? ⟨w.heap.size + 1, 2, none⟩ = false :=
  ⟨(g.cell (p := ⟨w.heap.size + 1, 0, none⟩) (by simp)).trans (by simp), (g.cell (p := ⟨w.heap.size + 1, 1, none⟩) (by simp)).trans (by simp), (g.cell (p := ⟨w.heap.size + 1, 2, none⟩) (by simp)).trans (by simp), (g.frozen (p := ⟨w.heap.size + 1, 0, none⟩) (by simp)).trans (by simp), (g.frozen (p := ⟨w.heap.size + 1, 1, none⟩) (by simp)).trans (by simp), (g.frozen (p := ⟨w.heap.size + 1, 2, none⟩) (by simp)).trans (by simp)⟩
theorem below_set3 {B : Nat} {w wx : World} {b : Nat} (h : Below B w wx) (hb : B ≤ b) (x y z : Value) : Below B w (((wx.setCell ⟨b, 0, none⟩ x).setCell ⟨b, 1, none⟩ y).setCell ⟨b, 2, none⟩ z) := ((h.setCell hb _).setCell hb _).setCell hb _

theorem mVars {Q : Nat → BP} (m : MdlD) (p : Ph) (w : World) (h : Mod Q w m p) (hT : Tab w) (hm : MdlOk m) :
    Calls Tryd.prog 65 #[mdV m p] w (FltR (f2 m) w) := by
  unfold mdV
  have HC := Lib.hid (wrVar_any m p w.heap.size ((w.alloc (.cells #[.string m.nm, .slice p.a1 m.vars.length p.c1, .slice p.a2 m.evs.length p.c2, .slice p.a3 m.regs.length p.c3, .slice p.a4 m.vers.length p.c4, .slice p.a5 m.trns.length p.c5] 28)).alloc (.cells #[.int .u8 0, .int .i64 0, .int .i64 0] 98)) ((MBox.made h).below (below_al1 _ _)) (hT.next (below_al2 w _ _)) hm)
  have HE : Hid (f2 m = wrL 2 64 (rVar m) 0 m.vars) := by unfold Hid; rfl
  rw [← HE.out] at HC
  unfold FltR fltV at HC
  generalize f2 m = f at HC ⊢
  clear h hT hm HE
  go_enter Tryd.func65, Tryd.ntmps65
  go_wp2_with (go_at_call 94; refine HC.out.mono ?_; rintro e wx ⟨rfl, g⟩; obtain ⟨q0, q1, q2, y0, y1, y2⟩ := zf0 w _ g)
  refine bodyPost_ret (v := fltV f) (by simp [results, Tryd.results65, go_sem, fltV, q0, q1, q2]) rfl ⟨rfl, ?_⟩
  exact below_set3 (below_box2 g) (by omega) _ _ _

theorem mSignals {Q : Nat → BP} (m : MdlD) (p : Ph) (w : World) (h : Mod Q w m p) (hT : Tab w) (hm : MdlOk m) :
    Calls Tryd.prog 66 #[mdV m p] w (FltR (f3 m) w) := by
  unfold mdV
  have HC := Lib.hid (wrEv_any m p w.heap.size ((w.alloc (.cells #[.string m.nm, .slice p.a1 m.vars.length p.c1, .slice p.a2 m.evs.length p.c2, .slice p.a3 m.regs.length p.c3, .slice p.a4 m.vers.length p.c4, .slice p.a5 m.trns.length p.c5] 28)).alloc (.cells #[.int .u8 0, .int .i64 0, .int .i64 0] 98)) ((MBox.made h).below (below_al1 _ _)) (hT.next (below_al2 w _ _)) hm)
  have HE : Hid (f3 m = wrL 3 64 (rEv m) 0 m.evs) := by unfold Hid; rfl
  rw [← HE.out] at HC
  unfold FltR fltV at HC
  generalize f3 m = f at HC ⊢
  clear h hT hm HE
  go_enter Tryd.func66, Tryd.ntmps66
  go_wp2_with (go_at_call 98; refine HC.out.mono ?_; rintro e wx ⟨rfl, g⟩; obtain ⟨q0, q1, q2, y0, y1, y2⟩ := zf0 w _ g)
  refine bodyPost_ret (v := fltV f) (by simp [results, Tryd.results66, go_sem, fltV, q0, q1, q2]) rfl ⟨rfl, ?_⟩
  exact below_set3 (below_box2 g) (by omega) _ _ _

theorem mVertices {Q : Nat → BP} (m : MdlD) (p : Ph) (w : World) (h : Mod Q w m p) (hT : Tab w) (hm : MdlOk m) :
    Calls Tryd.prog 68 #[mdV m p] w (FltR (f5 m) w) := by
  unfold mdV
  have HC := Lib.hid (wrVer_any m p w.heap.size ((w.alloc (.cells #[.string m.nm, .slice p.a1 m.vars.length p.c1, .slice p.a2 m.evs.length p.c2, .slice p.a3 m.regs.length p.c3, .slice p.a4 m.vers.length p.c4, .slice p.a5 m.trns.length p.c5] 28)).alloc (.cells #[.int .u8 0, .int .i64 0, .int .i64 0] 98)) ((MBox.made h).below (below_al1 _ _)) (hT.next (below_al2 w _ _)) hm)
  have HE : Hid (f5 m = wrL 5 512 (fun _ => rVer m) 0 m.vers) := by unfold Hid; rfl
  rw [← HE.out] at HC
  unfold FltR fltV at HC
  generalize f5 m = f at HC ⊢
  clear h hT hm HE
  go_enter Tryd.func68, Tryd.ntmps68
  go_wp2_with (go_at_call 105; refine HC.out.mono ?_; rintro e wx ⟨rfl, g⟩; obtain ⟨q0, q1, q2, y0, y1, y2⟩ := zf0 w _ g)
  refine bodyPost_ret (v := fltV f) (by simp [results, Tryd.results68, go_sem, fltV, q0, q1, q2]) rfl ⟨rfl, ?_⟩
  exact below_set3 (below_box2 g) (by omega) _ _ _

theorem mDeep {Q : Nat → BP} (m : MdlD) (p : Ph) (w : World) (h : Mod Q w m p) (hT : Tab w) (hm : MdlOk m) (hU : UpOk m) :
    Calls Tryd.prog 69 #[mdV m p] w (FltR (f6 m) w) := by
  unfold mdV
  have HC := Lib.hid (wrDeep_any m p w.heap.size ((w.alloc (.cells #[.string m.nm, .slice p.a1 m.vars.length p.c1, .slice p.a2 m.evs.length p.c2, .slice p.a3 m.regs.length p.c3, .slice p.a4 m.vers.length p.c4, .slice p.a5 m.trns.length p.c5] 28)).alloc (.cells #[.int .u8 0, .int .i64 0, .int .i64 0] 98)) ((MBox.made h).below (below_al1 _ _)) (hT.next (below_al2 w _ _)) hm hU)
  have HE : Hid (f6 m = wrL 5 512 (fun i _ => rDeep m i) 0 m.vers) := by unfold Hid; rfl
  rw [← HE.out] at HC
  unfold FltR fltV at HC
  generalize f6 m = f at HC ⊢
  clear h hT hm HE
  go_enter Tryd.func69, Tryd.ntmps69
  go_wp2_with (go_at_call 105; refine HC.out.mono ?_; rintro e wx ⟨rfl, g⟩; obtain ⟨q0, q1, q2, y0, y1, y2⟩ := zf0 w _ g)
  refine bodyPost_ret (v := fltV f) (by simp [results, Tryd.results69, go_sem, fltV, q0, q1, q2]) rfl ⟨rfl, ?_⟩
  exact below_set3 (below_box2 g) (by omega) _ _ _

theorem mName {Q : Nat → BP} (m : MdlD) (p : Ph) (w : World) (h : Mod Q w m p) (hT : Tab w) (hm : MdlOk m) :
    Calls Tryd.prog 64 #[mdV m p] w (FltR (f1 m) w) := by
  unfold mdV
  have HC := Lib.hid (lis_any m.nm ((w.alloc (.cells #[.string m.nm, .slice p.a1 m.vars.length p.c1, .slice p.a2 m.evs.length p.c2, .slice p.a3 m.regs.length p.c3, .slice p.a4 m.vers.length p.c4, .slice p.a5 m.trns.length p.c5] 28)).alloc (.cells #[.int .u8 0, .int .i64 0, .int .i64 0] 98)) (hT.next (below_al2 w _ _)) hm.nm)
  have HE : Hid (f1 m = if isT m.nm.data.toList == 2 then (0, 0, 0) else (1, 0, 130)) := by unfold Hid; rfl
  generalize f1 m = f at HE ⊢
  generalize isT m.nm.data.toList = kk at HE HC
  clear h hT hm
  by_cases hk : kk = 2
  · subst hk
    obtain rfl : f = (0, 0, 0) := by rw [HE.out]; rfl
    go_enter Tryd.func64, Tryd.ntmps64
    go_wp2_with (go_at_call 93; refine HC.out.mono ?_; rintro e wx ⟨rfl, g⟩; obtain ⟨q0, q1, q2, y0, y1, y2⟩ := zf0 w _ g)
    refine bodyPost_ret (v := fltV (0, 0, 0)) (by simp [results, Tryd.results64, go_sem, fltV, q0, q1, q2]) rfl ⟨rfl, ?_⟩
    first
    | exact below_set3 (below_box2 g) (by omega) _ _ _
    | exact ((below_box2 g).setCell (by simp) _).setCell (by simp) _
  · have hk2 := int_ne2 hk
    obtain rfl : f = (1, 0, 130) := by rw [HE.out]; simp [hk]
    clear hk
    go_enter Tryd.func64, Tryd.ntmps64
    go_wp2_with (go_at_call 93; refine HC.out.mono ?_; rintro e wx ⟨rfl, g⟩; obtain ⟨q0, q1, q2, y0, y1, y2⟩ := zf0 w _ g)
    refine bodyPost_ret (v := fltV (1, 0, 130)) (by simp [results, Tryd.results64, go_sem, fltV, q0, q1, q2]) rfl ⟨rfl, ?_⟩
    exact below_set3 (below_box2 g) (by omega) _ _ _
theorem mRegions {Q : Nat → BP} (m : MdlD) (p : Ph) (w : World) (h : Mod Q w m p) (hT : Tab w) (hm : MdlOk m) :
    Calls Tryd.prog 67 #[mdV m p] w (FltR (f4 m) w) := by
  unfold mdV
  have HC := Lib.hid (wrReg_any m p w.heap.size ((w.alloc (.cells #[.string m.nm, .slice p.a1 m.vars.length p.c1, .slice p.a2 m.evs.length p.c2, .slice p.a3 m.regs.length p.c3, .slice p.a4 m.vers.length p.c4, .slice p.a5 m.trns.length p.c5] 28)).alloc (.cells #[.int .u8 0, .int .i64 0, .int .i64 0] 98)) ((MBox.made h).below (below_al1 _ _)) (hT.next (below_al2 w _ _)) hm)
  have HE : Hid (f4 m = if m.regs.length = 0 then (4, 0, 130) else wrL 4 512 (rReg m) 0 m.regs) := by unfold Hid; rfl
  unfold FltR fltV at HC
  have l3 := hm.regs
  clear h hT hm
  cases h0 : ((m.regs.length : Int) == 0) with
  | true =>
    have hz : m.regs.length = 0 := by simpa using h0
    have HE2 : Hid (f4 m = (4, 0, 130)) := by unfold Hid; rw [HE.out, if_pos hz]
    generalize f4 m = f at HE2 ⊢
    obtain rfl := HE2.out
    clear hz
    go_enter Tryd.func67, Tryd.ntmps67
    go_wp2_with fail
    refine bodyPost_ret (v := fltV (4, 0, 130)) (by simp [results, Tryd.results67, go_sem, fltV]) rfl ⟨rfl, ?_⟩
    first
    | exact below_al2 w _ _
    | exact below_set3 (below_al2 w _ _) (by omega) _ _ _
  | false =>
    have hz : ¬ m.regs.length = 0 := by intro h; rw [h] at h0; exact absurd h0 (by decide)
    have HE2 : Hid (f4 m = wrL 4 512 (rReg m) 0 m.regs) := by unfold Hid; rw [HE.out, if_neg hz]
    rw [← HE2.out] at HC
    generalize f4 m = f at HC ⊢
    clear hz
    go_enter Tryd.func67, Tryd.ntmps67
    go_wp2_with (go_at_call 101; refine HC.out.mono ?_; rintro e wx ⟨rfl, g⟩; obtain ⟨q0, q1, q2, y0, y1, y2⟩ := zf0 w _ g)
    refine bodyPost_ret (v := fltV f) (by simp [results, Tryd.results67, go_sem, fltV, q0, q1, q2]) rfl ⟨rfl, ?_⟩
    exact below_set3 (below_box2 g) (by omega) _ _ _
theorem mWays {Q : Nat → BP} (m : MdlD) (p : Ph) (w : World) (h : Mod Q w m p) (hT : Tab w) (hm : MdlOk m) :
    Calls Tryd.prog 70 #[mdV m p] w (FltR (f7 m) w) := by
  unfold mdV
  have hg3 : Below w.heap.size w (((w.alloc (.cells #[.string m.nm, .slice p.a1 m.vars.length p.c1, .slice p.a2 m.evs.length p.c2, .slice p.a3 m.regs.length p.c3, .slice p.a4 m.vers.length p.c4, .slice p.a5 m.trns.length p.c5] 28)).alloc (.cells #[.int .u8 0, .int .i64 0, .int .i64 0] 98)).alloc (.cells #[.func (.func 110) #[] #[.pointer (some ⟨w.heap.size, 0, none⟩)]] 103)) := (below_al2 w _ _).alloc (by simp; omega) _
  have HC := Lib.hid (wrWay_any m p w.heap.size (w.heap.size + 2) (((w.alloc (.cells #[.string m.nm, .slice p.a1 m.vars.length p.c1, .slice p.a2 m.evs.length p.c2, .slice p.a3 m.regs.length p.c3, .slice p.a4 m.vers.length p.c4, .slice p.a5 m.trns.length p.c5] 28)).alloc (.cells #[.int .u8 0, .int .i64 0, .int .i64 0] 98)).alloc (.cells #[.func (.func 110) #[] #[.pointer (some ⟨w.heap.size, 0, none⟩)]] 103)) (((MBox.made h).below (below_al1 _ _)).below (below_al1 _ _)) (hT.next hg3) hm (cell_newat ((w.alloc (.cells #[.string m.nm, .slice p.a1 m.vars.length p.c1, .slice p.a2 m.evs.length p.c2, .slice p.a3 m.regs.length p.c3, .slice p.a4 m.vers.length p.c4, .slice p.a5 m.trns.length p.c5] 28)).alloc (.cells #[.int .u8 0, .int .i64 0, .int .i64 0] 98)) (by simp)) (by simp <;> omega))
  have HE : Hid (f7 m = wrL 6 512 (fun _ => rWay m) 0 m.trns) := by unfold Hid; rfl
  rw [← HE.out] at HC
  unfold FltR fltV at HC
  generalize f7 m = f at HC ⊢
  clear h hT hm HE
  go_enter Tryd.func70, Tryd.ntmps70
  go_wp2_with (go_at_call 111; refine HC.out.mono ?_; rintro e wx ⟨rfl, g0⟩; have g := (below_al1 ((w.alloc (.cells #[.string m.nm, .slice p.a1 m.vars.length p.c1, .slice p.a2 m.evs.length p.c2, .slice p.a3 m.regs.length p.c3, .slice p.a4 m.vers.length p.c4, .slice p.a5 m.trns.length p.c5] 28)).alloc (.cells #[.int .u8 0, .int .i64 0, .int .i64 0] 98)) (.cells #[.func (.func 110) #[] #[.pointer (some ⟨w.heap.size, 0, none⟩)]] 103)).trans (g0.mono (by simp)); obtain ⟨q0, q1, q2, y0, y1, y2⟩ := zf0 w _ g)
  refine bodyPost_ret (v := fltV f) (by simp [results, Tryd.results70, go_sem, fltV, q0, q1, q2]) rfl ⟨rfl, ?_⟩
  exact below_set3 (below_box2 g) (by omega) _ _ _
end Go.Proofs
