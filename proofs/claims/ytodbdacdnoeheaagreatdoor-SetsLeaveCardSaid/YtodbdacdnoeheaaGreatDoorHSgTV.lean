/- Walks: a configuration that is reached: 'start' of law 20. -/
import Derived.Test.YtodbdacdnoeheaaGreatDoorHSgAN
import Derived.Test.YtodbdacdnoeheaaGreatDoorHLrAD
import Derived.Test.YtodbdacdnoeheaaGreatDoorHLiA
namespace Go.Proofs
open Go.RowKit Go.Lx Go.Md Go.Shelf Go.BigFrame Go.Rgi
set_option linter.unusedVariables false
/-- A configuration's box, written to. -/
structure Bx (H : Nat) (a1 : Option Addr) (n1 c1 : Nat) (a2 : Option Addr) (n2 c2 : Nat) (w : World) : Prop where
 c0 : w.cell? ⟨H, 0, none⟩ = some (.slice a1 n1 c1)
 c1 : w.cell? ⟨H, 1, none⟩ = some (.slice a2 n2 c2)
 f0 : w.frozen? ⟨H, 0, none⟩ = false
 f1 : w.frozen? ⟨H, 1, none⟩ = false
 lt : H < w.heap.size
section
variable {H : Nat} {a1 a2 : Option Addr} {n1 c1 n2 c2 : Nat} {w w' : World}
theorem Bx.below (h : Bx H a1 n1 c1 a2 n2 c2 w) (g : Below w.heap.size w w') : Bx H a1 n1 c1 a2 n2 c2 w' :=
 ⟨(g.cell (p := ⟨H, 0, none⟩) h.lt).trans h.c0, (g.cell (p := ⟨H, 1, none⟩) h.lt).trans h.c1, (g.frozen (p := ⟨H, 0, none⟩) h.lt).trans h.f0, (g.frozen (p := ⟨H, 1, none⟩) h.lt).trans h.f1, Nat.lt_of_lt_of_le h.lt g.size⟩
theorem Bx.set (h : Bx H a1 n1 c1 a2 n2 c2 w) (b1 : Option Addr) (m1 d1 : Nat) (b2 : Option Addr) (m2 d2 : Nat) : Bx H b1 m1 d1 b2 m2 d2 ((w.setCell ⟨H, 0, none⟩ (.slice b1 m1 d1)).setCell ⟨H, 1, none⟩ (.slice b2 m2 d2)) :=
 ⟨(World.cell?_setCell_other _ _ _ _ (by simp)).trans (World.cell?_setCell_same _ _ _ h.c0), World.cell?_setCell_same _ _ _ ((World.cell?_setCell_other _ _ _ _ (by simp)).trans h.c1), by rw [World.frozen?_setCell, World.frozen?_setCell]; exact h.f0, by rw [World.frozen?_setCell, World.frozen?_setCell]; exact h.f1, by rw [World.size_setCell, World.size_setCell]; exact h.lt⟩
theorem Bx.other (h : Bx H a1 n1 c1 a2 n2 c2 w) {K : Nat} (hK : H ≠ K) (u v : Value) : Bx H a1 n1 c1 a2 n2 c2 ((w.setCell ⟨K, 0, none⟩ u).setCell ⟨K, 1, none⟩ v) :=
 ⟨((World.cell?_setCell_other _ _ _ _ (by simp <;> omega)).trans (World.cell?_setCell_other _ _ _ _ (by simp <;> omega))).trans h.c0, ((World.cell?_setCell_other _ _ _ _ (by simp <;> omega)).trans (World.cell?_setCell_other _ _ _ _ (by simp <;> omega))).trans h.c1, by rw [World.frozen?_setCell, World.frozen?_setCell]; exact h.f0, by rw [World.frozen?_setCell, World.frozen?_setCell]; exact h.f1, by rw [World.size_setCell, World.size_setCell]; exact h.lt⟩
theorem Bx.made (w : World) (a1 : Option Addr) (n1 c1 : Nat) (a2 : Option Addr) (n2 c2 : Nat) (T : TypeId) : Bx w.heap.size a1 n1 c1 a2 n2 c2 (w.alloc (.cells #[.slice a1 n1 c1, .slice a2 n2 c2] T)) := by
 have e := World.alloc_heap_new w (.cells #[.slice a1 n1 c1, .slice a2 n2 c2] T)
 exact ⟨cell_blk e 0, cell_blk e 1, frz_b e 0, frz_b e 1, by simp⟩
theorem RowIn.set {v : Value} {l : List Int} {k : Nat} (h : RowIn w v l) (hn : ∀ x, w.cell? ⟨H, k, none⟩ ≠ some (.int .i64 x)) (u : Value) : RowIn (w.setCell ⟨H, k, none⟩ u) v l := by
 rcases h with h | ⟨b, off, c, e, h0, h1, h3⟩
 · exact .inl h
 · refine .inr ⟨b, off, c, e, h0, by rw [World.size_setCell]; exact h1, fun j u' hj => ?_⟩
   have h4 := h3 j u' hj
   rw [addr_add] at h4 ⊢
   have : (⟨b, off + j, none⟩ : Addr) ≠ ⟨H, k, none⟩ := fun e2 => by
     rw [e2] at h4
     simp only [nums, List.getElem?_map] at hj
     cases hl : l[j]? with
     | none => rw [hl] at hj; cases hj
     | some x =>
      rw [hl] at hj
      simp only [Option.map_some, Option.some.injEq] at hj
      exact hn x (by rw [h4, hj])
   exact (World.cell?_setCell_other _ _ _ _ this.symm).trans h4
theorem RowIn.put {v : Value} {l : List Int} (h : RowIn w v l) (hb : Bx H a1 n1 c1 a2 n2 c2 w) (b1 : Option Addr) (m1 d1 : Nat) (b2 : Option Addr) (m2 d2 : Nat) : RowIn ((w.setCell ⟨H, 0, none⟩ (.slice b1 m1 d1)).setCell ⟨H, 1, none⟩ (.slice b2 m2 d2)) v l :=
 (h.set (fun x e => by rw [hb.c0] at e; cases e) _).set (fun x e => by rw [World.cell?_setCell_other _ _ _ _ (by simp), hb.c1] at e; cases e) _
/-- A configuration that is reached, in memory. -/
def CfgOk (m : MdlD) (a1 : Option Addr) (n1 c1 : Nat) (a2 : Option Addr) (n2 c2 : Nat) (w : World) : Prop := ∃ la ll, la.length = n1 ∧ ll.length = n2 ∧ RowIn w (.slice a1 n1 c1) la ∧ RowIn w (.slice a2 n2 c2) ll ∧ Rch m la ∧ Fit m ll
theorem CfgOk.below {m : MdlD} (h : CfgOk m a1 n1 c1 a2 n2 c2 w) (g : Below w.heap.size w w') : CfgOk m a1 n1 c1 a2 n2 c2 w' := by
 obtain ⟨la, ll, e1, e2, r1, r2, h1, h2⟩ := h
 exact ⟨la, ll, e1, e2, r1.below g, r2.below g, h1, h2⟩
theorem CfgOk.put {m : MdlD} {x1 x2 : Option Addr} {k1 d1 k2 d2 : Nat} (h : CfgOk m x1 k1 d1 x2 k2 d2 w) (hb : Bx H a1 n1 c1 a2 n2 c2 w) (b1 : Option Addr) (m1 t1 : Nat) (b2 : Option Addr) (m2 t2 : Nat) : CfgOk m x1 k1 d1 x2 k2 d2 ((w.setCell ⟨H, 0, none⟩ (.slice b1 m1 t1)).setCell ⟨H, 1, none⟩ (.slice b2 m2 t2)) := by
 obtain ⟨la, ll, e1, e2, r1, r2, h1, h2⟩ := h
 exact ⟨la, ll, e1, e2, r1.put hb b1 m1 t1 b2 m2 t2, r2.put hb b1 m1 t1 b2 m2 t2, h1, h2⟩
end
/-- What an entering, or a leaving, of a configuration that is reached gives. -/
def StepC (m : MdlD) (w : World) (e : Ending) (w' : World) : Prop := ∃ u1 k1 t1 u2 k2 t2 ec, e = .returned (.tuple #[.agg #[.slice u1 k1 t1, .slice u2 k2 t2], .int .i64 ((ec : Nat) : Int)]) ∧ Below w.heap.size w w' ∧ (ec = 0 → CfgOk m u1 k1 t1 u2 k2 t2 w')
theorem step_enter {B : Nat} {m : MdlD} {SB : Nat} {a1 a2 : Option Addr} {n1 c1 n2 c2 : Nat} {w : World} (h : SetAt B m SB w) (hm1 : m.regs.length ≤ 1000) (hm2 : m.vers.length ≤ 1000) (hc : CfgOk m a1 n1 c1 a2 n2 c2 w) (v : Int) :
   Calls Tryz.prog 25 #[.pointer (some ⟨SB, 0, none⟩), .agg #[.slice a1 n1 c1, .slice a2 n2 c2], .int .i64 v] w (StepC m w) := by
 obtain ⟨la, ll, rfl, rfl, r1, r2, R, F⟩ := hc
 refine (enter_any h F.h0 hm1 hm2 la ll a1 a2 c1 c2 r1 r2 (by rw [R.fit.hl]; omega) (by rw [F.hl]; omega) v).mono ?_
 rintro e w' ⟨hb, (⟨hn, rfl⟩ | ⟨_, _, rfl⟩ | ⟨hz, hk, v1, v2, rfl, o1, o2, _⟩)⟩
 · exact ⟨none, 0, 0, none, 0, 0, _, rfl, hb, fun h => absurd h hn⟩
 · exact ⟨none, 0, 0, none, 0, 0, 4, rfl, hb, fun h => by cases h⟩
 · have hs := (mayE_zero hz).2
   obtain ⟨x1, y1, rfl⟩ := ownsRow_slice o1
   obtain ⟨x2, y2, rfl⟩ := ownsRow_slice o2
   refine ⟨x1, _, y1, x2, _, y2, 0, rfl, hb, fun _ => ⟨la.set (rgA m v).toNat v, ll, List.length_set, rfl, RowIn.own (by rw [List.length_set]; exact o1), RowIn.own o2, rch_enter R hs hk, F⟩⟩
theorem step_leave {B : Nat} {m : MdlD} {SB : Nat} {a1 a2 : Option Addr} {n1 c1 n2 c2 : Nat} {w : World} (h : SetAt B m SB w) (hm1 : m.regs.length ≤ 1000) (hm2 : m.vers.length ≤ 1000) (hc : CfgOk m a1 n1 c1 a2 n2 c2 w) (v : Int) :
   Calls Tryz.prog 19 #[.pointer (some ⟨SB, 0, none⟩), .agg #[.slice a1 n1 c1, .slice a2 n2 c2], .int .i64 v] w (StepC m w) := by
 obtain ⟨la, ll, rfl, rfl, r1, r2, R, F⟩ := hc
 refine (leave_any h F.h0 hm1 hm2 la ll a1 a2 c1 c2 r1 r2 (by rw [R.fit.hl]; omega) (by rw [F.hl]; omega) v).mono ?_
 rintro e w' ⟨hb, (⟨hn, rfl⟩ | ⟨_, _, rfl⟩ | ⟨hz, hk, v1, v2, rfl, o1, o2, _⟩)⟩
 · exact ⟨none, 0, 0, none, 0, 0, _, rfl, hb, fun h => absurd h hn⟩
 · exact ⟨none, 0, 0, none, 0, 0, 4, rfl, hb, fun h => by cases h⟩
 · have hs := (mayE_zero hz).2
   obtain ⟨x1, y1, rfl⟩ := ownsRow_slice o1
   obtain ⟨x2, y2, rfl⟩ := ownsRow_slice o2
   obtain ⟨k, hk', rfl, _⟩ := stands_in F.h0 hs
   refine ⟨x1, _, y1, x2, _, y2, 0, rfl, hb, fun _ => ⟨la.set (rgA m k).toNat (-1), ll.set (rgA m k).toNat k, List.length_set, List.length_set, RowIn.own (by rw [List.length_set]; exact o1), RowIn.own (by rw [List.length_set]; exact o2), rch_leave R hk, fit_set F hs⟩⟩
/-- A new box, with what a step gave. -/
structure Nx (m : MdlD) (wo W : World) (b : Nat) (u1 : Option Addr) (k1 t1 : Nat) (u2 : Option Addr) (k2 t2 ec : Nat) : Prop where
 bel : Below wo.heap.size wo W
 bx : Bx b u1 k1 t1 u2 k2 t2 W
 lo : wo.heap.size ≤ b
 ok : ec = 0 → CfgOk m u1 k1 t1 u2 k2 t2 W
theorem nx_a {m : MdlD} {wo w9 : World} {u1 u2 : Option Addr} {k1 t1 k2 t2 ec : Nat} {zA : w9.heap[wo.heap.size]? = some (.cells #[.slice none 0 0, .slice none 0 0] 52 (0, 0))} (hB : Below wo.heap.size wo w9) (hz : wo.heap.size < w9.heap.size) (ho : ec = 0 → CfgOk m u1 k1 t1 u2 k2 t2 w9) :
   Nx m wo ((w9.setCell ⟨wo.heap.size, 0, none⟩ (.slice u1 k1 t1)).setCell ⟨wo.heap.size, 1, none⟩ (.slice u2 k2 t2)) wo.heap.size u1 k1 t1 u2 k2 t2 ec := by
 have hx : Bx wo.heap.size none 0 0 none 0 0 w9 := ⟨cell_blk zA 0, cell_blk zA 1, frz_b zA 0, frz_b zA 1, hz⟩
 exact ⟨(hB.setCell (p := ⟨wo.heap.size, 0, none⟩) (Nat.le_refl _) _).setCell (p := ⟨wo.heap.size, 1, none⟩) (Nat.le_refl _) _, hx.set _ _ _ _ _ _, Nat.le_refl _, fun h => (ho h).put hx _ _ _ _ _ _⟩
theorem nx_b {m : MdlD} {wo w9 : World} {u1 u2 : Option Addr} {k1 t1 k2 t2 ec : Nat} (hB : Below wo.heap.size wo w9) (ho : ec = 0 → CfgOk m u1 k1 t1 u2 k2 t2 w9) :
   Nx m wo (w9.alloc (.cells #[.slice u1 k1 t1, .slice u2 k2 t2] 52)) w9.heap.size u1 k1 t1 u2 k2 t2 ec :=
 ⟨hB.alloc hB.size _, Bx.made w9 u1 k1 t1 u2 k2 t2 _, hB.size, fun h => (ho h).below (below_al1 w9 _)⟩
/-- While entries and exits are tried. -/
structure Str (m : MdlD) (R H : Nat) (w wr : World) : Prop where
 bel : Below w.heap.size w wr
 rs : Bx R none 0 0 none 0 0 wr
 cb : ∃ a1 n1 c1 a2 n2 c2, Bx H a1 n1 c1 a2 n2 c2 wr ∧ CfgOk m a1 n1 c1 a2 n2 c2 wr
theorem Str.below {m : MdlD} {R H : Nat} {w wr wy : World} (h : Str m R H w wr) (g : Below wr.heap.size wr wy) : Str m R H w wy := by
 obtain ⟨a1, n1, c1, a2, n2, c2, hb, ho⟩ := h.cb
 exact ⟨below_ch h.bel g, h.rs.below g, a1, n1, c1, a2, n2, c2, hb.below g, ho.below g⟩
theorem Str.put {m : MdlD} {R H : Nat} {w wr : World} (h : Str m R H w wr) (hR : R ≠ H) (hH : w.heap.size ≤ H) {u1 : Option Addr} {k1 t1 : Nat} {u2 : Option Addr} {k2 t2 : Nat} (ho : CfgOk m u1 k1 t1 u2 k2 t2 wr) : Str m R H w ((wr.setCell ⟨H, 0, none⟩ (.slice u1 k1 t1)).setCell ⟨H, 1, none⟩ (.slice u2 k2 t2)) := by
 obtain ⟨a1, n1, c1, a2, n2, c2, hb, _⟩ := h.cb
 exact ⟨(h.bel.setCell (p := ⟨H, 0, none⟩) hH _).setCell (p := ⟨H, 1, none⟩) hH _, h.rs.other hR _ _, u1, k1, t1, u2, k2, t2, hb.set _ _ _ _ _ _, ho.put hb _ _ _ _ _ _⟩
theorem Str.side {m : MdlD} {R H K : Nat} {w wr : World} {a1 a2 : Option Addr} {n1 c1 n2 c2 : Nat} (h : Str m R H w wr) (hx : Bx K a1 n1 c1 a2 n2 c2 wr) (hR : R ≠ K) (hH : H ≠ K) (hK : w.heap.size ≤ K) (u1 : Option Addr) (k1 t1 : Nat) (u2 : Option Addr) (k2 t2 : Nat) : Str m R H w ((wr.setCell ⟨K, 0, none⟩ (.slice u1 k1 t1)).setCell ⟨K, 1, none⟩ (.slice u2 k2 t2)) := by
 obtain ⟨b1, m1, d1, b2, m2, d2, hb, ho⟩ := h.cb
 exact ⟨(h.bel.setCell (p := ⟨K, 0, none⟩) hK _).setCell (p := ⟨K, 1, none⟩) hK _, h.rs.other hR _ _, b1, m1, d1, b2, m2, d2, hb.other hH _ _, ho.put hx _ _ _ _ _ _⟩
theorem _root_.Go.RowKit.Below.two {B b : Nat} {w wx : World} (h : Below B w wx) (hb : B ≤ b) (u v : Value) : Below B w ((wx.setCell ⟨b, 0, none⟩ u).setCell ⟨b, 1, none⟩ v) :=
 (h.setCell (p := ⟨b, 0, none⟩) hb u).setCell (p := ⟨b, 1, none⟩) hb v
theorem bx_new2 {wo w9 : World} {n : Nat} (g : Below n (wo.alloc (.cells #[.slice none 0 0, .slice none 0 0] 52)).drew w9) (h : wo.heap.size < n) : w9.heap[wo.heap.size]? = some (.cells #[.slice none 0 0, .slice none 0 0] 52 (0, 0)) :=
 (g.block _ h).trans (World.alloc_heap_new wo (.cells #[.slice none 0 0, .slice none 0 0] 52))
theorem bx_facts2 {w : World} {b : Nat} (h : w.heap[b]? = some (.cells #[.slice none 0 0, .slice none 0 0] 52 (0, 0))) : w.cell? ⟨b, 0, none⟩ = some (.slice none 0 0) ∧ w.cell? ⟨b, 1, none⟩ = some (.slice none 0 0) ∧ w.frozen? ⟨b, 0, none⟩ = false ∧ w.frozen? ⟨b, 1, none⟩ = false :=
 ⟨cell_blk h 0, cell_blk h 1, frz_b h 0, frz_b h 1⟩
def StartP (m : MdlD) (w : World) (e : Ending) (w' : World) : Prop := ∃ a1 n1 c1 a2 n2 c2, e = .returned (.agg #[.slice a1 n1 c1, .slice a2 n2 c2]) ∧ CfgOk m a1 n1 c1 a2 n2 c2 w' ∧ Below w.heap.size w w'
set_option maxRecDepth 100000 in
set_option maxHeartbeats 8000000 in
theorem start_any {B : Nat} {m : MdlD} {SB : Nat} {w : World} (h : SetAt B m SB w) (h0 : riM m = (0, 0, 0)) (hm1 : m.regs.length ≤ 1000) (hm2 : m.vers.length ≤ 1000) (l : List Int) (av : Option Addr) (cv : Nat) (hr : RowIn w (.slice av l.length cv) l) (hl : l.length ≤ 1000) :
   Calls Tryz.prog 16 #[.pointer (some ⟨SB, 0, none⟩), .slice av l.length cv] w (StartP m w) := by
 unfold StartP
 have HAw := Lib.hid (fun wx (g : Below w.heap.size w wx) => h.grown g)
 have HRw := Lib.hid (fun wx (g : Below w.heap.size w wx) => (hr.below g).len)
 have HBl := Lib.hid (blank_any (h.grown (below_al1 w (.cells #[.slice none 0 0, .slice none 0 0] 52))) hm1)
 have HRs := Lib.hid (Bx.made w none 0 0 none 0 0 52)
 have HB1 : Hid (Below w.heap.size w (w.alloc (.cells #[.slice none 0 0, .slice none 0 0] 52))) := Lib.hid (below_al1 w _)
 have HNo := Lib.hid (rch_none h0)
 have HM1 := Lib.hid hm1
 have HM2 := Lib.hid hm2
 have hcp : l.length ≤ cv := by obtain ⟨a', c', e, h, _⟩ := hr.len; simp only [Value.slice.injEq] at e; rw [e.2.2]; exact h
 obtain ⟨n, hn⟩ : ∃ n, l.length = n := ⟨_, rfl⟩
 have HN := Lib.hid hn
 rw [hn] at hl hcp ⊢
 clear h h0 hr hn hm1 hm2
 go_enter Tryz.func16, Tryz.ntmps16
 go_wp2_with fail
 (with_reducible refine (HBl.out).mono ?_)
 rintro e w2 ⟨v1, v2, rfl, o1, o2, _, g2⟩
 rw [List.length_replicate] at o1 o2
 obtain ⟨x1, y1, rfl⟩ := ownsRow_slice o1
 obtain ⟨x2, y2, rfl⟩ := ownsRow_slice o2
 have HS0 : Hid (Str m w.heap.size w2.heap.size w (w2.alloc (.cells #[.slice x1 m.regs.length y1, .slice x2 m.regs.length y2] 52))) := Lib.hid
   ⟨below_ch (HB1.out.trans (g2.mono HB1.out.size)) (below_al1 _ _), (HRs.out.below g2).below (below_al1 _ _), _, _, _, _, _, _, Bx.made w2 _ _ _ _ _ _ _, List.replicate m.regs.length (-1), List.replicate m.regs.length (-1), List.length_replicate, List.length_replicate, (RowIn.own (by rw [List.length_replicate]; exact o1)).below (below_al1 _ _), (RowIn.own (by rw [List.length_replicate]; exact o2)).below (below_al1 _ _), HNo.out, HNo.out.fit⟩
 have hz2 : w.heap.size < w2.heap.size := by have := g2.size; rw [World.size_alloc] at this; omega
 obtain ⟨H5, hH5⟩ : ∃ H5, w2.heap.size = H5 := ⟨_, rfl⟩
 rw [hH5] at HS0 hz2
 clear o1 o2 g2 HBl HRs HB1 HNo
 go_upto_region 2 with fail
 clear hH5
 generalize w2.alloc (.cells #[.slice x1 m.regs.length y1, .slice x2 m.regs.length y2] 52) = W2 at *
 go_wp2_with fail
 go_loopw [6] (fun i wr => ∃ k : Nat, k ≤ n ∧ i = .int .i64 k ∧ Str m w.heap.size H5 w wr) (fun i _ => n - (intOf i).toNat)
 case atStart => exact ⟨0, by omega, rfl, HS0.out⟩
 case round =>
  obtain ⟨wo, rfl⟩ : ∃ wo : World, wo = wr := ⟨_, rfl⟩
  obtain ⟨k, hk, rfl, hs⟩ := hrel
  have HSo := Lib.hid hs
  have hzo : w.heap.size ≤ wo.heap.size := hs.bel.size
  obtain ⟨a1, n1, c1, a2, n2, c2, hb, ho⟩ := hs.cb
  have HBo := Lib.hid hb
  have HOo := Lib.hid ho
  have hH5o := hb.lt
  clear hs hb ho HS0
  by_cases hlt : k < n
  · have hil : k < l.length := by rw [HN.out]; exact hlt
    obtain ⟨a', c', e, _, q⟩ := HRw.out wo HSo.out.bel
    obtain ⟨b1, o1, ea, hbl, hcl⟩ := q k hil
    simp only [Value.slice.injEq] at e
    obtain ⟨rfl, e', rfl⟩ := e
    clear e'
    subst ea
    have hI : (k : Int) < (n : Int) := by omega
    have hI0 : (0 : Int) ≤ (k : Int) := by omega
    obtain ⟨y, hy⟩ : ∃ y, l[k]'hil = y := ⟨_, rfl⟩
    rw [hy] at hcl
    have EN := Lib.hid (fun wx (g : Below wo.heap.size wo wx) => step_enter (HAw.out wx (below_ch HSo.out.bel g)) HM1.out HM2.out (HOo.out.below g) y)
    have d0 := HBo.out.c0
    have d1 := HBo.out.c1
    have HSS : Hid (∀ W', Below wo.heap.size wo W' → W'.cell? ⟨H5, 0, none⟩ = some (.slice a1 n1 c1) ∧ W'.cell? ⟨H5, 1, none⟩ = some (.slice a2 n2 c2) ∧ W'.cell? ⟨b1, o1 + k, none⟩ = some (.int .i64 y)) := Lib.hid fun W' g => ⟨(g.cell (p := ⟨H5, 0, none⟩) hH5o).trans d0, (g.cell (p := ⟨H5, 1, none⟩) hH5o).trans d1, (g.cell (p := ⟨b1, o1 + k, none⟩) hbl).trans hcl⟩
    have hB0 : Below wo.heap.size wo wo := Below.refl _ _
    clear q hy d0 d1 hcl
    go_upto_region 5 with fail
    refine wp_region_any (by kernel_rfl) ?_
    change wpAny _ _ _ _ _ _ _ (World.drew _)
    refine wpAny_sink (n := 12) (o := ⟨some 8, .assign (.tmp 26), 56, "law.go:76", #[⟨9, .data⟩, ⟨11, .chain⟩, ⟨0, .phase⟩, ⟨1, .phase⟩, ⟨2, .phase⟩, ⟨3, .phase⟩, ⟨4, .phase⟩, ⟨5, .phase⟩, ⟨6, .phase⟩, ⟨7, .phase⟩, ⟨8, .phase⟩, ⟨9, .phase⟩, ⟨10, .phase⟩, ⟨11, .phase⟩], none⟩) (ops' := #[⟨some 18, .move (.tmp 0), 46, "law.go:76", #[], none⟩, ⟨some 19, .load 52 (.tmp 5), 52, "law.go:76", #[], none⟩, ⟨some 20, .move (.tmp 1), 29, "law.go:76", #[], none⟩, ⟨some 21, .move (.tmp 6), 3, "law.go:76", #[], none⟩, ⟨some 22, .indexAddr 29 (.tmp 20) (.tmp 21), 0, "law.go:76", #[⟨2, .data⟩, ⟨3, .data⟩], none⟩, ⟨some 23, .load 3 (.tmp 22), 3, "law.go:76", #[⟨4, .data⟩], none⟩, ⟨some 24, .call { callee := .value (.func 25), args := #[.tmp 18, .tmp 19, .tmp 23], argTypes := #[46, 52, 3] }, 57, "law.go:76", #[⟨0, .data⟩, ⟨1, .data⟩, ⟨5, .data⟩], none⟩, ⟨some 17, .move (.tmp 24), 57, "law.go:76", #[⟨6, .data⟩], none⟩, ⟨some 25, .extract (.tmp 17) 0, 52, "law.go:76", #[⟨7, .data⟩], none⟩, ⟨some 26, .extract (.tmp 17) 1, 56, "law.go:76", #[⟨7, .data⟩, { on := 11, ground := .gcOnly Go.Departure.lateStores }], none⟩, ⟨some 7, .alloc 52, 0, "law.go:76", #[], none⟩, ⟨none, .store 52 (.tmp 7) (.tmp 25), 0, "law.go:76", #[⟨10, .data⟩, ⟨8, .data⟩, ⟨6, .chain⟩, ⟨0, .phase⟩, ⟨1, .phase⟩, ⟨2, .phase⟩, ⟨3, .phase⟩, ⟨4, .phase⟩, ⟨5, .phase⟩, ⟨6, .phase⟩, ⟨7, .phase⟩, ⟨8, .phase⟩, { on := 9, ground := .textOnly Go.Departure.lateStores }, ⟨10, .phase⟩], none⟩]) (by decide) (by kernel_rfl) (by rfl) (by rfl) ?_
    refine wpAny_of_heldS (S := (fun W' => W'.cell? ⟨H5, 0, none⟩ = some (.slice a1 n1 c1) ∧ W'.cell? ⟨H5, 1, none⟩ = some (.slice a2 n2 c2) ∧ W'.cell? ⟨b1, o1 + k, none⟩ = some (.int .i64 y))) ?_ (fun hHeld => ?_)
    · (try dsimp only) <;> (exact HSS.out _ (by first | exact hB0.drew | exact (hB0.alloc (Nat.le_refl _) _).drew | exact hB9 | exact hB9.alloc hB9.size _ | exact hB9.two (Nat.le_refl _) _ _ | exact (hB9.alloc hB9.size _).two hB9.size _ _))
    refine tkH (i := 0) (oi := ⟨some 18, .move (.tmp 0), 46, "law.go:76", #[], none⟩) (v := ?_) rfl (by kernel_rfl) (fun _ _ _ h => h) (Or.inl ⟨by rfl, ?_⟩) (by assumption) ?_
    rotate_left; (intro w hSw; (try dsimp only at hSw); go_simp <;> with_reducible rfl); try simp only [Act.put, List.setIfInBounds_toArray, List.set_cons_zero, List.set_cons_succ]
    refine tkH (i := 1) (oi := ⟨some 19, .load 52 (.tmp 5), 52, "law.go:76", #[], none⟩) (v := ?_) rfl (by kernel_rfl) (fun _ _ _ h => h) (Or.inl ⟨by rfl, ?_⟩) (by assumption) ?_
    rotate_left; (intro w hSw; (try dsimp only at hSw); go_simp <;> with_reducible rfl); try simp only [Act.put, List.setIfInBounds_toArray, List.set_cons_zero, List.set_cons_succ]
    refine tkH (i := 2) (oi := ⟨some 20, .move (.tmp 1), 29, "law.go:76", #[], none⟩) (v := ?_) rfl (by kernel_rfl) (fun _ _ _ h => h) (Or.inl ⟨by rfl, ?_⟩) (by assumption) ?_
    rotate_left; (intro w hSw; (try dsimp only at hSw); go_simp <;> with_reducible rfl); try simp only [Act.put, List.setIfInBounds_toArray, List.set_cons_zero, List.set_cons_succ]
    refine tkH (i := 3) (oi := ⟨some 21, .move (.tmp 6), 3, "law.go:76", #[], none⟩) (v := ?_) rfl (by kernel_rfl) (fun _ _ _ h => h) (Or.inl ⟨by rfl, ?_⟩) (by assumption) ?_
    rotate_left; (intro w hSw; (try dsimp only at hSw); go_simp <;> with_reducible rfl); try simp only [Act.put, List.setIfInBounds_toArray, List.set_cons_zero, List.set_cons_succ]
    refine tkH (i := 4) (oi := ⟨some 22, .indexAddr 29 (.tmp 20) (.tmp 21), 0, "law.go:76", #[⟨2, .data⟩, ⟨3, .data⟩], none⟩) (v := ?_) rfl (by kernel_rfl) (fun _ _ _ h => h) (Or.inl ⟨by rfl, ?_⟩) (by assumption) ?_
    rotate_left; (intro w hSw; (try dsimp only at hSw); go_simp <;> with_reducible rfl); try simp only [Act.put, List.setIfInBounds_toArray, List.set_cons_zero, List.set_cons_succ]
    refine tkH (i := 5) (oi := ⟨some 23, .load 3 (.tmp 22), 3, "law.go:76", #[⟨4, .data⟩], none⟩) (v := ?_) rfl (by kernel_rfl) (fun _ _ _ h => h) (Or.inl ⟨by rfl, ?_⟩) (by assumption) ?_
    rotate_left; (intro w hSw; (try dsimp only at hSw); go_simp <;> with_reducible rfl); try simp only [Act.put, List.setIfInBounds_toArray, List.set_cons_zero, List.set_cons_succ]
    refine wpAnyH_ready (rs := [6, 10]) (by kernel_rfl) (by simp) ?_
    refine AllReadyH.cons (o := ⟨some 24, .call { callee := .value (.func 25), args := #[.tmp 18, .tmp 19, .tmp 23], argTypes := #[46, 52, 3] }, 57, "law.go:76", #[⟨0, .data⟩, ⟨1, .data⟩, ⟨5, .data⟩], none⟩) rfl (fun K hK => ?_) ?_
    (go_simp; (with_reducible refine (EN.out _ (by first | exact hB0.drew | exact (hB0.alloc (Nat.le_refl _) _).drew)).mono ?_); rintro e w9 ⟨u1, k1, t1, u2, k2, t2, ec, rfl, g9, hec⟩; have hB9 : Below wo.heap.size wo w9 := (by first | exact below_ch hB0.drew g9 | exact below_ch (hB0.alloc (Nat.le_refl _) _).drew g9); (first | (have zA := bx_new2 g9 (by simp); obtain ⟨za0, za1, za2, za3⟩ := bx_facts2 zA) | skip); go_wp2_with fail)
    refine hK.out _ _ ?_ (fun hH1 => ?_)
    · (try dsimp only) <;> (exact HSS.out _ (by first | exact hB0.drew | exact (hB0.alloc (Nat.le_refl _) _).drew | exact hB9 | exact hB9.alloc hB9.size _ | exact hB9.two (Nat.le_refl _) _ _ | exact (hB9.alloc hB9.size _).two hB9.size _ _))
    clear hK K hHeld
    try simp only [Act.put, List.setIfInBounds_toArray, List.set_cons_zero, List.set_cons_succ]
    refine tkH (i := 7) (oi := ⟨some 17, .move (.tmp 24), 57, "law.go:76", #[⟨6, .data⟩], none⟩) (v := ?_) rfl (by kernel_rfl) (fun _ _ _ h => h) (Or.inl ⟨by rfl, ?_⟩) (by assumption) ?_
    rotate_left; (intro w hSw; (try dsimp only at hSw); go_simp <;> with_reducible rfl); try simp only [Act.put, List.setIfInBounds_toArray, List.set_cons_zero, List.set_cons_succ]
    refine tkH (i := 8) (oi := ⟨some 25, .extract (.tmp 17) 0, 52, "law.go:76", #[⟨7, .data⟩], none⟩) (v := ?_) rfl (by kernel_rfl) (fun _ _ _ h => h) (Or.inl ⟨by rfl, ?_⟩) (by assumption) ?_
    rotate_left; (intro w hSw; (try dsimp only at hSw); go_simp <;> with_reducible rfl); try simp only [Act.put, List.setIfInBounds_toArray, List.set_cons_zero, List.set_cons_succ]
    refine tkH (i := 9) (oi := ⟨some 26, .extract (.tmp 17) 1, 56, "law.go:76", #[⟨7, .data⟩, { on := 11, ground := .gcOnly Go.Departure.lateStores }], none⟩) (v := ?_) rfl (by kernel_rfl) (fun _ _ _ h => h) (Or.inl ⟨by rfl, ?_⟩) (by assumption) ?_
    rotate_left; (intro w hSw; (try dsimp only at hSw); go_simp <;> with_reducible rfl); try simp only [Act.put, List.setIfInBounds_toArray, List.set_cons_zero, List.set_cons_succ]
    refine wpAnyH_ready (rs := [10]) (by kernel_rfl) (by simp) ?_
    refine AllReadyH.cons (o := ⟨some 7, .alloc 52, 0, "law.go:76", #[], none⟩) rfl (fun K hK => ?_) ?_
    (go_simp)
    refine hK.out _ _ ?_ (fun hH2 => ?_)
    · (try dsimp only) <;> (exact HSS.out _ (by first | exact hB0.drew | exact (hB0.alloc (Nat.le_refl _) _).drew | exact hB9 | exact hB9.alloc hB9.size _ | exact hB9.two (Nat.le_refl _) _ _ | exact (hB9.alloc hB9.size _).two hB9.size _ _))
    clear hK K hH1
    try simp only [Act.put, List.setIfInBounds_toArray, List.set_cons_zero, List.set_cons_succ]
    refine wpAnyH_ready (rs := [11]) (by kernel_rfl) (by simp) ?_
    refine AllReadyH.cons (o := ⟨none, .store 52 (.tmp 7) (.tmp 25), 0, "law.go:76", #[⟨10, .data⟩, ⟨8, .data⟩, ⟨6, .chain⟩, ⟨0, .phase⟩, ⟨1, .phase⟩, ⟨2, .phase⟩, ⟨3, .phase⟩, ⟨4, .phase⟩, ⟨5, .phase⟩, ⟨6, .phase⟩, ⟨7, .phase⟩, ⟨8, .phase⟩, { on := 9, ground := .textOnly Go.Departure.lateStores }, ⟨10, .phase⟩], none⟩) rfl (fun K hK => ?_) ?_
    (go_simp)
    refine hK.out _ _ ?_ (fun hH3 => ?_)
    · (try dsimp only) <;> (exact HSS.out _ (by first | exact hB0.drew | exact (hB0.alloc (Nat.le_refl _) _).drew | exact hB9 | exact hB9.alloc hB9.size _ | exact hB9.two (Nat.le_refl _) _ _ | exact (hB9.alloc hB9.size _).two hB9.size _ _))
    clear hK K hH2
    try simp only [Act.put, List.setIfInBounds_toArray, List.set_cons_zero, List.set_cons_succ]
    refine wpAnyH_done (by kernel_rfl) ?_ _
    rotate_left
    exact AllReadyH.nil
    exact AllReadyH.nil
    refine AllReadyH.cons (o := ⟨some 7, .alloc 52, 0, "law.go:76", #[], none⟩) rfl (fun K hK => ?_) ?_
    (go_simp)
    refine hK.out _ _ ?_ (fun hH4 => ?_)
    · (try dsimp only) <;> (exact HSS.out _ (by first | exact hB0.drew | exact (hB0.alloc (Nat.le_refl _) _).drew | exact hB9 | exact hB9.alloc hB9.size _ | exact hB9.two (Nat.le_refl _) _ _ | exact (hB9.alloc hB9.size _).two hB9.size _ _))
    clear hK K hHeld
    try simp only [Act.put, List.setIfInBounds_toArray, List.set_cons_zero, List.set_cons_succ]
    refine wpAnyH_ready (rs := [6]) (by kernel_rfl) (by simp) ?_
    refine AllReadyH.cons (o := ⟨some 24, .call { callee := .value (.func 25), args := #[.tmp 18, .tmp 19, .tmp 23], argTypes := #[46, 52, 3] }, 57, "law.go:76", #[⟨0, .data⟩, ⟨1, .data⟩, ⟨5, .data⟩], none⟩) rfl (fun K hK => ?_) ?_
    (go_simp; (with_reducible refine (EN.out _ (by first | exact hB0.drew | exact (hB0.alloc (Nat.le_refl _) _).drew)).mono ?_); rintro e w9 ⟨u1, k1, t1, u2, k2, t2, ec, rfl, g9, hec⟩; have hB9 : Below wo.heap.size wo w9 := (by first | exact below_ch hB0.drew g9 | exact below_ch (hB0.alloc (Nat.le_refl _) _).drew g9); (first | (have zA := bx_new2 g9 (by simp); obtain ⟨za0, za1, za2, za3⟩ := bx_facts2 zA) | skip); go_wp2_with fail)
    refine hK.out _ _ ?_ (fun hH5 => ?_)
    · (try dsimp only) <;> (exact HSS.out _ (by first | exact hB0.drew | exact (hB0.alloc (Nat.le_refl _) _).drew | exact hB9 | exact hB9.alloc hB9.size _ | exact hB9.two (Nat.le_refl _) _ _ | exact (hB9.alloc hB9.size _).two hB9.size _ _))
    clear hK K hH4
    try simp only [Act.put, List.setIfInBounds_toArray, List.set_cons_zero, List.set_cons_succ]
    refine tkH (i := 7) (oi := ⟨some 17, .move (.tmp 24), 57, "law.go:76", #[⟨6, .data⟩], none⟩) (v := ?_) rfl (by kernel_rfl) (fun _ _ _ h => h) (Or.inl ⟨by rfl, ?_⟩) (by assumption) ?_
    rotate_left; (intro w hSw; (try dsimp only at hSw); go_simp <;> with_reducible rfl); try simp only [Act.put, List.setIfInBounds_toArray, List.set_cons_zero, List.set_cons_succ]
    refine tkH (i := 8) (oi := ⟨some 25, .extract (.tmp 17) 0, 52, "law.go:76", #[⟨7, .data⟩], none⟩) (v := ?_) rfl (by kernel_rfl) (fun _ _ _ h => h) (Or.inl ⟨by rfl, ?_⟩) (by assumption) ?_
    rotate_left; (intro w hSw; (try dsimp only at hSw); go_simp <;> with_reducible rfl); try simp only [Act.put, List.setIfInBounds_toArray, List.set_cons_zero, List.set_cons_succ]
    refine tkH (i := 9) (oi := ⟨some 26, .extract (.tmp 17) 1, 56, "law.go:76", #[⟨7, .data⟩, { on := 11, ground := .gcOnly Go.Departure.lateStores }], none⟩) (v := ?_) rfl (by kernel_rfl) (fun _ _ _ h => h) (Or.inl ⟨by rfl, ?_⟩) (by assumption) ?_
    rotate_left; (intro w hSw; (try dsimp only at hSw); go_simp <;> with_reducible rfl); try simp only [Act.put, List.setIfInBounds_toArray, List.set_cons_zero, List.set_cons_succ]
    refine wpAnyH_ready (rs := [11]) (by kernel_rfl) (by simp) ?_
    refine AllReadyH.cons (o := ⟨none, .store 52 (.tmp 7) (.tmp 25), 0, "law.go:76", #[⟨10, .data⟩, ⟨8, .data⟩, ⟨6, .chain⟩, ⟨0, .phase⟩, ⟨1, .phase⟩, ⟨2, .phase⟩, ⟨3, .phase⟩, ⟨4, .phase⟩, ⟨5, .phase⟩, ⟨6, .phase⟩, ⟨7, .phase⟩, ⟨8, .phase⟩, { on := 9, ground := .textOnly Go.Departure.lateStores }, ⟨10, .phase⟩], none⟩) rfl (fun K hK => ?_) ?_
    (go_simp)
    refine hK.out _ _ ?_ (fun hH6 => ?_)
    · (try dsimp only) <;> (exact HSS.out _ (by first | exact hB0.drew | exact (hB0.alloc (Nat.le_refl _) _).drew | exact hB9 | exact hB9.alloc hB9.size _ | exact hB9.two (Nat.le_refl _) _ _ | exact (hB9.alloc hB9.size _).two hB9.size _ _))
    clear hK K hH5
    try simp only [Act.put, List.setIfInBounds_toArray, List.set_cons_zero, List.set_cons_succ]
    refine wpAnyH_done (by kernel_rfl) ?_ _
    rotate_left
    exact AllReadyH.nil
    exact AllReadyH.nil
    exact AllReadyH.nil
    all_goals
      refine sinkQ_of fun K hK => ?_
      go_simp
      refine hK _ _ ?_
      clear hK K
      first
        | (have HN0 := nx_a (m := m) (zA := zA) hB9 (by have := g9.size; simp at this; omega) hec
           generalize ((w9.setCell ⟨wo.heap.size, 0, none⟩ (.slice u1 k1 t1)).setCell ⟨wo.heap.size, 1, none⟩ (.slice u2 k2 t2)) = W18 at HN0 ⊢
           generalize wo.heap.size = B18 at HN0 ⊢
           clear zA za0 za1 za2 za3)
        | (have HN0 := nx_b (m := m) hB9 hec
           generalize w9.alloc (.cells #[.slice u1 k1 t1, .slice u2 k2 t2] 52) = W18 at HN0 ⊢
           generalize w9.heap.size = B18 at HN0 ⊢)
      have HN := Lib.hid HN0
      have HS18 := Lib.hid (HSo.out.below HN0.bel)
      have HO18 := Lib.hid (HOo.out.below HN0.bel)
      have hb18 := HBo.out.below HN0.bel
      have HB18 := Lib.hid hb18
      have hlo := HN0.lo
      have hne : H5 ≠ B18 := by omega
      have hneR : w.heap.size ≠ B18 := by omega
      have hwB : w.heap.size ≤ B18 := by omega
      have q0 := HN0.bx.c0
      have q1 := HN0.bx.c1
      have f0 := HN0.bx.f0
      have f1 := HN0.bx.f1
      have e0 := hb18.c0
      have e1 := hb18.c1
      have f2 := hb18.f0
      have f3 := hb18.f1
      have hw18 := Lib.hid HN0.bel
      clear HN0 hb18 hec g9 hB9 hB0
      by_cases h4 : ec = 4
      · subst h4
        obtain ⟨_, _, hcl⟩ := HSS.out W18 hw18.out
        have hl18 : b1 < W18.heap.size := Nat.lt_of_lt_of_le hbl hw18.out.size
        have hh18 := HB18.out.lt
        have hb18 := HN.out.bx.lt
        have LV := Lib.hid (fun wx (g : Below W18.heap.size W18 wx) => step_leave (HAw.out wx (below_ch HS18.out.bel g)) HM1.out HM2.out (HO18.out.below g) y)
        have HS7 : Hid (∀ W', Below W18.heap.size W18 W' → W'.cell? ⟨H5, 0, none⟩ = some (.slice a1 n1 c1) ∧ W'.cell? ⟨H5, 1, none⟩ = some (.slice a2 n2 c2) ∧ W'.cell? ⟨b1, o1 + k, none⟩ = some (.int .i64 y)) := Lib.hid fun W' g => ⟨(g.cell (p := ⟨H5, 0, none⟩) hh18).trans e0, (g.cell (p := ⟨H5, 1, none⟩) hh18).trans e1, (g.cell (p := ⟨b1, o1 + k, none⟩) hl18).trans hcl⟩
        have hb1n : b1 ≠ B18 := by omega
        have HP7 : Hid (∀ W', Below W18.heap.size W18 W' → ∀ u v, ((W'.setCell ⟨B18, 0, none⟩ u).setCell ⟨B18, 1, none⟩ v).cell? ⟨H5, 0, none⟩ = some (.slice a1 n1 c1) ∧ ((W'.setCell ⟨B18, 0, none⟩ u).setCell ⟨B18, 1, none⟩ v).cell? ⟨H5, 1, none⟩ = some (.slice a2 n2 c2) ∧ ((W'.setCell ⟨B18, 0, none⟩ u).setCell ⟨B18, 1, none⟩ v).cell? ⟨b1, o1 + k, none⟩ = some (.int .i64 y)) := Lib.hid fun W' g u v => by
          have e : ∀ b j, b ≠ B18 → ((W'.setCell ⟨B18, 0, none⟩ u).setCell ⟨B18, 1, none⟩ v).cell? ⟨b, j, none⟩ = W'.cell? ⟨b, j, none⟩ := fun b j hb => World.cell?_of_block (w := W') ((Below.heap_setCell _ _ _ _ hb).trans (Below.heap_setCell _ _ _ _ hb))
          obtain ⟨s0, s1, s2⟩ := HS7.out W' g
          exact ⟨(e _ _ hne).trans s0, (e _ _ hne).trans s1, (e _ _ hb1n).trans s2⟩
        have hB0 : Below W18.heap.size W18 W18 := Below.refl _ _
        clear q0 q1 f0 f1 e0 e1 f2 f3 hcl EN HSS
        go_upto_region 7 with fail
        refine wp_region_any (by kernel_rfl) ?_
        change wpAny _ _ _ _ _ _ _ (World.drew _)
        refine wpAny_sink (n := 11) (o := ⟨some 8, .assign (.tmp 38), 56, "law.go:78", #[⟨9, .data⟩, ⟨10, .chain⟩, ⟨0, .phase⟩, ⟨1, .phase⟩, ⟨2, .phase⟩, ⟨3, .phase⟩, ⟨4, .phase⟩, ⟨5, .phase⟩, ⟨6, .phase⟩, ⟨7, .phase⟩, ⟨8, .phase⟩, ⟨9, .phase⟩, ⟨10, .phase⟩], none⟩) (ops' := #[⟨some 30, .move (.tmp 0), 46, "law.go:78", #[], none⟩, ⟨some 31, .load 52 (.tmp 5), 52, "law.go:78", #[], none⟩, ⟨some 32, .move (.tmp 1), 29, "law.go:78", #[], none⟩, ⟨some 33, .move (.tmp 6), 3, "law.go:78", #[], none⟩, ⟨some 34, .indexAddr 29 (.tmp 32) (.tmp 33), 0, "law.go:78", #[⟨2, .data⟩, ⟨3, .data⟩], none⟩, ⟨some 35, .load 3 (.tmp 34), 3, "law.go:78", #[⟨4, .data⟩], none⟩, ⟨some 36, .call { callee := .value (.func 19), args := #[.tmp 30, .tmp 31, .tmp 35], argTypes := #[46, 52, 3] }, 57, "law.go:78", #[⟨0, .data⟩, ⟨1, .data⟩, ⟨5, .data⟩], none⟩, ⟨some 29, .move (.tmp 36), 57, "law.go:78", #[⟨6, .data⟩], none⟩, ⟨some 37, .extract (.tmp 29) 0, 52, "law.go:78", #[⟨7, .data⟩], none⟩, ⟨some 38, .extract (.tmp 29) 1, 56, "law.go:78", #[⟨7, .data⟩, { on := 10, ground := .gcOnly Go.Departure.lateStores }], none⟩, ⟨none, .store 52 (.tmp 7) (.tmp 37), 0, "law.go:78", #[⟨8, .data⟩, ⟨6, .chain⟩, ⟨0, .phase⟩, ⟨1, .phase⟩, ⟨2, .phase⟩, ⟨3, .phase⟩, ⟨4, .phase⟩, ⟨5, .phase⟩, ⟨6, .phase⟩, ⟨7, .phase⟩, ⟨8, .phase⟩, { on := 9, ground := .textOnly Go.Departure.lateStores }], none⟩]) (by decide) (by kernel_rfl) (by rfl) (by rfl) ?_
        refine wpAny_of_heldS (S := (fun W' => W'.cell? ⟨H5, 0, none⟩ = some (.slice a1 n1 c1) ∧ W'.cell? ⟨H5, 1, none⟩ = some (.slice a2 n2 c2) ∧ W'.cell? ⟨b1, o1 + k, none⟩ = some (.int .i64 y))) ?_ (fun hHeld => ?_)
        · (try dsimp only) <;> (first | exact HS7.out _ hB0.drew | exact HS7.out _ hB19 | exact HP7.out _ hB19 _ _)
        refine tkH (i := 0) (oi := ⟨some 30, .move (.tmp 0), 46, "law.go:78", #[], none⟩) (v := ?_) rfl (by kernel_rfl) (fun _ _ _ h => h) (Or.inl ⟨by rfl, ?_⟩) (by assumption) ?_
        rotate_left; (intro w hSw; (try dsimp only at hSw); go_simp <;> with_reducible rfl); try simp only [Act.put, List.setIfInBounds_toArray, List.set_cons_zero, List.set_cons_succ]
        refine tkH (i := 1) (oi := ⟨some 31, .load 52 (.tmp 5), 52, "law.go:78", #[], none⟩) (v := ?_) rfl (by kernel_rfl) (fun _ _ _ h => h) (Or.inl ⟨by rfl, ?_⟩) (by assumption) ?_
        rotate_left; (intro w hSw; (try dsimp only at hSw); go_simp <;> with_reducible rfl); try simp only [Act.put, List.setIfInBounds_toArray, List.set_cons_zero, List.set_cons_succ]
        refine tkH (i := 2) (oi := ⟨some 32, .move (.tmp 1), 29, "law.go:78", #[], none⟩) (v := ?_) rfl (by kernel_rfl) (fun _ _ _ h => h) (Or.inl ⟨by rfl, ?_⟩) (by assumption) ?_
        rotate_left; (intro w hSw; (try dsimp only at hSw); go_simp <;> with_reducible rfl); try simp only [Act.put, List.setIfInBounds_toArray, List.set_cons_zero, List.set_cons_succ]
        refine tkH (i := 3) (oi := ⟨some 33, .move (.tmp 6), 3, "law.go:78", #[], none⟩) (v := ?_) rfl (by kernel_rfl) (fun _ _ _ h => h) (Or.inl ⟨by rfl, ?_⟩) (by assumption) ?_
        rotate_left; (intro w hSw; (try dsimp only at hSw); go_simp <;> with_reducible rfl); try simp only [Act.put, List.setIfInBounds_toArray, List.set_cons_zero, List.set_cons_succ]
        refine tkH (i := 4) (oi := ⟨some 34, .indexAddr 29 (.tmp 32) (.tmp 33), 0, "law.go:78", #[⟨2, .data⟩, ⟨3, .data⟩], none⟩) (v := ?_) rfl (by kernel_rfl) (fun _ _ _ h => h) (Or.inl ⟨by rfl, ?_⟩) (by assumption) ?_
        rotate_left; (intro w hSw; (try dsimp only at hSw); go_simp <;> with_reducible rfl); try simp only [Act.put, List.setIfInBounds_toArray, List.set_cons_zero, List.set_cons_succ]
        refine tkH (i := 5) (oi := ⟨some 35, .load 3 (.tmp 34), 3, "law.go:78", #[⟨4, .data⟩], none⟩) (v := ?_) rfl (by kernel_rfl) (fun _ _ _ h => h) (Or.inl ⟨by rfl, ?_⟩) (by assumption) ?_
        rotate_left; (intro w hSw; (try dsimp only at hSw); go_simp <;> with_reducible rfl); try simp only [Act.put, List.setIfInBounds_toArray, List.set_cons_zero, List.set_cons_succ]
        refine wpAnyH_ready (rs := [6]) (by kernel_rfl) (by simp) ?_
        refine AllReadyH.cons (o := ⟨some 36, .call { callee := .value (.func 19), args := #[.tmp 30, .tmp 31, .tmp 35], argTypes := #[46, 52, 3] }, 57, "law.go:78", #[⟨0, .data⟩, ⟨1, .data⟩, ⟨5, .data⟩], none⟩) rfl (fun K hK => ?_) ?_
        (go_simp; (with_reducible refine (LV.out _ hB0.drew).mono ?_); rintro e w19 ⟨x1, m1, s1, x2, m2, s2, ed, rfl, g19, hed⟩; have hB19 : Below W18.heap.size W18 w19 := below_ch hB0.drew g19; go_wp2_with fail)
        refine hK.out _ _ ?_ (fun hH1 => ?_)
        · (try dsimp only) <;> (first | exact HS7.out _ hB0.drew | exact HS7.out _ hB19 | exact HP7.out _ hB19 _ _)
        clear hK K hHeld
        try simp only [Act.put, List.setIfInBounds_toArray, List.set_cons_zero, List.set_cons_succ]
        refine tkH (i := 7) (oi := ⟨some 29, .move (.tmp 36), 57, "law.go:78", #[⟨6, .data⟩], none⟩) (v := ?_) rfl (by kernel_rfl) (fun _ _ _ h => h) (Or.inl ⟨by rfl, ?_⟩) (by assumption) ?_
        rotate_left; (intro w hSw; (try dsimp only at hSw); go_simp <;> with_reducible rfl); try simp only [Act.put, List.setIfInBounds_toArray, List.set_cons_zero, List.set_cons_succ]
        refine tkH (i := 8) (oi := ⟨some 37, .extract (.tmp 29) 0, 52, "law.go:78", #[⟨7, .data⟩], none⟩) (v := ?_) rfl (by kernel_rfl) (fun _ _ _ h => h) (Or.inl ⟨by rfl, ?_⟩) (by assumption) ?_
        rotate_left; (intro w hSw; (try dsimp only at hSw); go_simp <;> with_reducible rfl); try simp only [Act.put, List.setIfInBounds_toArray, List.set_cons_zero, List.set_cons_succ]
        refine tkH (i := 9) (oi := ⟨some 38, .extract (.tmp 29) 1, 56, "law.go:78", #[⟨7, .data⟩, { on := 10, ground := .gcOnly Go.Departure.lateStores }], none⟩) (v := ?_) rfl (by kernel_rfl) (fun _ _ _ h => h) (Or.inl ⟨by rfl, ?_⟩) (by assumption) ?_
        rotate_left; (intro w hSw; (try dsimp only at hSw); go_simp <;> with_reducible rfl); try simp only [Act.put, List.setIfInBounds_toArray, List.set_cons_zero, List.set_cons_succ]
        refine wpAnyH_ready (rs := [10]) (by kernel_rfl) (by simp) ?_
        refine AllReadyH.cons (o := ⟨none, .store 52 (.tmp 7) (.tmp 37), 0, "law.go:78", #[⟨8, .data⟩, ⟨6, .chain⟩, ⟨0, .phase⟩, ⟨1, .phase⟩, ⟨2, .phase⟩, ⟨3, .phase⟩, ⟨4, .phase⟩, ⟨5, .phase⟩, ⟨6, .phase⟩, ⟨7, .phase⟩, ⟨8, .phase⟩, { on := 9, ground := .textOnly Go.Departure.lateStores }], none⟩) rfl (fun K hK => ?_) ?_
        (have hx19 := HN.out.bx.below hB19; have q0 := hx19.c0; have q1 := hx19.c1; have f0 := hx19.f0; have f1 := hx19.f1; go_simp)
        refine hK.out _ _ ?_ (fun hH2 => ?_)
        · (try dsimp only) <;> (first | exact HS7.out _ hB0.drew | exact HS7.out _ hB19 | exact HP7.out _ hB19 _ _)
        clear hK K hH1
        try simp only [Act.put, List.setIfInBounds_toArray, List.set_cons_zero, List.set_cons_succ]
        refine wpAnyH_done (by kernel_rfl) ?_ _
        rotate_left
        exact AllReadyH.nil
        exact AllReadyH.nil
        all_goals
          have HS19 := Lib.hid (HS18.out.below hB19)
          have HSn := Lib.hid (HS19.out.side hx19 hneR hne hwB x1 m1 s1 x2 m2 s2)
          have HXn := Lib.hid (hx19.set x1 m1 s1 x2 m2 s2)
          have HOn := Lib.hid (fun h : ed = 0 => (hed h).put hx19 x1 m1 s1 x2 m2 s2)
          refine sinkQ_of fun K hK => ?_
          go_simp
          refine hK _ _ ?_
          clear hK K
          clear q0 q1 f0 f1 hx19 hed g19 hB19
          generalize ((w19.setCell ⟨B18, 0, none⟩ (.slice x1 m1 s1)).setCell ⟨B18, 1, none⟩ (.slice x2 m2 s2)) = W20 at *
          have q0 := HXn.out.c0
          have q1 := HXn.out.c1
          obtain ⟨z1, i1, j1, z2, i2, j2, hbx, _⟩ := HSn.out.cb
          have p0 := hbx.c0
          have p1 := hbx.c1
          have p2 := hbx.f0
          have p3 := hbx.f1
          clear hbx
          by_cases hz : ed = 0
          · subst hz
            have HX := Lib.hid (HSn.out.put (by omega) (by omega) (HOn.out rfl))
            go_wp2_with fail
            go_roundw
            case rel => exact ⟨k + 1, by omega, by go_num, HX.out⟩
            case measure => simp [intOf] <;> omega
          · have hzb : ((ed : Int) == 0) = false := by rw [beq_eq_false_iff_ne]; omega
            clear hz
            go_wp2_with fail
            go_roundw
            case rel => exact ⟨k + 1, by omega, by go_num, HSn.out⟩
            case measure => simp [intOf] <;> omega
      · have h4b : ((ec : Int) == 4) = false := by rw [beq_eq_false_iff_ne]; omega
        by_cases hz : ec = 0
        · subst hz
          have HX := Lib.hid (HS18.out.put (by omega) (by omega) (HN.out.ok rfl))
          clear h4 h4b HN
          go_wp2_with fail
          go_roundw
          case rel => exact ⟨k + 1, by omega, by go_num, HX.out⟩
          case measure => simp [intOf] <;> omega
        · have hzb : ((ec : Int) == 0) = false := by rw [beq_eq_false_iff_ne]; omega
          clear h4 hz HN
          go_wp2_with fail
          go_roundw
          case rel => exact ⟨k + 1, by omega, by go_num, HS18.out⟩
          case measure => simp [intOf] <;> omega
  · have r0 := HSo.out.rs.c0
    have r1 := HSo.out.rs.c1
    have r2 := HSo.out.rs.f0
    have r3 := HSo.out.rs.f1
    have d0 := HBo.out.c0
    have d1 := HBo.out.c1
    have HE : Hid (CfgOk m a1 n1 c1 a2 n2 c2 ((wo.setCell ⟨w.heap.size, 0, none⟩ (.slice a1 n1 c1)).setCell ⟨w.heap.size, 1, none⟩ (.slice a2 n2 c2)) ∧ Below w.heap.size w ((wo.setCell ⟨w.heap.size, 0, none⟩ (.slice a1 n1 c1)).setCell ⟨w.heap.size, 1, none⟩ (.slice a2 n2 c2))) := Lib.hid ⟨HOo.out.put HSo.out.rs _ _ _ _ _ _, (HSo.out.bel.setCell (p := ⟨w.heap.size, 0, none⟩) (Nat.le_refl _) _).setCell (p := ⟨w.heap.size, 1, none⟩) (Nat.le_refl _) _⟩
    have HE2 := Lib.hid (HSo.out.rs.set a1 n1 c1 a2 n2 c2)
    clear HSo HBo HOo
    go_wp2_with fail
    refine bodyPost_ret (v := .agg #[.slice a1 n1 c1, .slice a2 n2 c2]) (by simp [results, Tryz.results16, go_sem, r0, r1]) rfl ⟨_, _, _, _, _, _, rfl, HE.out⟩
end Go.Proofs

namespace Go.Proofs
open Go.RowKit Go.Lx Go.Md Go.Shelf Go.BigFrame
set_option linter.unusedVariables false
theorem frz_rc {w : World} {b : Nat} {cs : Array Value} {T : TypeId} (h : w.heap[b]? = some (.cells cs T (0, 0))) (k : Nat) : w.frozen? ⟨b, k, none⟩ = false := by
 unfold World.frozen?; simp [h]
/-- Two rows in new memory. -/
def RefC (la ll : List Int) (w : World) (e : Ending) (w' : World) : Prop := ∃ v1 v2, e = .returned (.agg #[v1, v2]) ∧ w'.ownsRow w.heap.size 3 1 v1 la.length (nums la) ∧ w'.ownsRow w.heap.size 3 1 v2 ll.length (nums ll) ∧ Below w.heap.size w w'
/-- While they are made: the configuration, the result's box and the new one's. -/
structure Rw (a1 a2 : Option Addr) (n1 c1 n2 c2 : Nat) (u0 u1 : Value) (w wx : World) : Prop where
 bel : Below w.heap.size w wx
 d0 : wx.cell? ⟨w.heap.size, 0, none⟩ = some (.slice a1 n1 c1)
 d1 : wx.cell? ⟨w.heap.size, 1, none⟩ = some (.slice a2 n2 c2)
 r0 : wx.cell? ⟨w.heap.size + 1, 0, none⟩ = some (.slice none 0 0)
 r1 : wx.cell? ⟨w.heap.size + 1, 1, none⟩ = some (.slice none 0 0)
 q0 : wx.frozen? ⟨w.heap.size + 1, 0, none⟩ = false
 q1 : wx.frozen? ⟨w.heap.size + 1, 1, none⟩ = false
 x0 : wx.cell? ⟨w.heap.size + 1 + 1, 0, none⟩ = some u0
 x1 : wx.cell? ⟨w.heap.size + 1 + 1, 1, none⟩ = some u1
 y0 : wx.frozen? ⟨w.heap.size + 1 + 1, 0, none⟩ = false
 y1 : wx.frozen? ⟨w.heap.size + 1 + 1, 1, none⟩ = false
 sz : w.heap.size + 1 + 1 < wx.heap.size
section
variable {a1 a2 : Option Addr} {n1 c1 n2 c2 : Nat} {u0 u1 : Value} {w wx wy : World}
theorem Rw.below (h : Rw a1 a2 n1 c1 n2 c2 u0 u1 w wx) (g : Below wx.heap.size wx wy) : Rw a1 a2 n1 c1 n2 c2 u0 u1 w wy := by
 have hz := h.sz
 exact ⟨h.bel.trans (g.mono h.bel.size), (g.cell (p := ⟨w.heap.size, 0, none⟩) (by simp only; omega)).trans h.d0, (g.cell (p := ⟨w.heap.size, 1, none⟩) (by simp only; omega)).trans h.d1, (g.cell (p := ⟨w.heap.size + 1, 0, none⟩) (by simp only; omega)).trans h.r0, (g.cell (p := ⟨w.heap.size + 1, 1, none⟩) (by simp only; omega)).trans h.r1, (g.frozen (p := ⟨w.heap.size + 1, 0, none⟩) (by simp only; omega)).trans h.q0, (g.frozen (p := ⟨w.heap.size + 1, 1, none⟩) (by simp only; omega)).trans h.q1,
   (g.cell (p := ⟨w.heap.size + 1 + 1, 0, none⟩) (by simp only; omega)).trans h.x0, (g.cell (p := ⟨w.heap.size + 1 + 1, 1, none⟩) (by simp only; omega)).trans h.x1, (g.frozen (p := ⟨w.heap.size + 1 + 1, 0, none⟩) (by simp only; omega)).trans h.y0, (g.frozen (p := ⟨w.heap.size + 1 + 1, 1, none⟩) (by simp only; omega)).trans h.y1, Nat.lt_of_lt_of_le hz g.size⟩
theorem Rw.set0 (h : Rw a1 a2 n1 c1 n2 c2 u0 u1 w wx) (u : Value) : Rw a1 a2 n1 c1 n2 c2 u u1 w (wx.setCell ⟨w.heap.size + 1 + 1, 0, none⟩ u) := by
 have hb : ∀ b, b ≠ w.heap.size + 1 + 1 → (wx.setCell ⟨w.heap.size + 1 + 1, 0, none⟩ u).heap[b]? = wx.heap[b]? := fun b hb => Below.heap_setCell _ _ _ _ hb
 have hc : ∀ b k, b ≠ w.heap.size + 1 + 1 → (wx.setCell ⟨w.heap.size + 1 + 1, 0, none⟩ u).cell? ⟨b, k, none⟩ = wx.cell? ⟨b, k, none⟩ := fun b k h => World.cell?_of_block (w := wx) (hb b h)
 exact ⟨h.bel.setCell (p := ⟨w.heap.size + 1 + 1, 0, none⟩) (by simp only; omega) u, (hc _ _ (by omega)).trans h.d0, (hc _ _ (by omega)).trans h.d1, (hc _ _ (by omega)).trans h.r0, (hc _ _ (by omega)).trans h.r1, by rw [World.frozen?_setCell]; exact h.q0, by rw [World.frozen?_setCell]; exact h.q1, World.cell?_setCell_same _ _ _ h.x0, (World.cell?_setCell_other _ _ _ _ (by simp)).trans h.x1, by rw [World.frozen?_setCell]; exact h.y0, by rw [World.frozen?_setCell]; exact h.y1, by rw [World.size_setCell]; exact h.sz⟩
theorem Rw.set1 (h : Rw a1 a2 n1 c1 n2 c2 u0 u1 w wx) (u : Value) : Rw a1 a2 n1 c1 n2 c2 u0 u w (wx.setCell ⟨w.heap.size + 1 + 1, 1, none⟩ u) := by
 have hb : ∀ b, b ≠ w.heap.size + 1 + 1 → (wx.setCell ⟨w.heap.size + 1 + 1, 1, none⟩ u).heap[b]? = wx.heap[b]? := fun b hb => Below.heap_setCell _ _ _ _ hb
 have hc : ∀ b k, b ≠ w.heap.size + 1 + 1 → (wx.setCell ⟨w.heap.size + 1 + 1, 1, none⟩ u).cell? ⟨b, k, none⟩ = wx.cell? ⟨b, k, none⟩ := fun b k h => World.cell?_of_block (w := wx) (hb b h)
 exact ⟨h.bel.setCell (p := ⟨w.heap.size + 1 + 1, 1, none⟩) (by simp only; omega) u, (hc _ _ (by omega)).trans h.d0, (hc _ _ (by omega)).trans h.d1, (hc _ _ (by omega)).trans h.r0, (hc _ _ (by omega)).trans h.r1, by rw [World.frozen?_setCell]; exact h.q0, by rw [World.frozen?_setCell]; exact h.q1, (World.cell?_setCell_other _ _ _ _ (by simp)).trans h.x0, World.cell?_setCell_same _ _ _ h.x1, by rw [World.frozen?_setCell]; exact h.y0, by rw [World.frozen?_setCell]; exact h.y1, by rw [World.size_setCell]; exact h.sz⟩
end
theorem Rw.made (a1 a2 : Option Addr) (n1 c1 n2 c2 : Nat) (w : World) : Rw a1 a2 n1 c1 n2 c2 (.slice none 0 0) (.slice none 0 0) w (((w.alloc (.cells #[.slice a1 n1 c1, .slice a2 n2 c2] 52)).alloc (.cells #[.slice none 0 0, .slice none 0 0] 62)).alloc (.cells #[.slice none 0 0, .slice none 0 0] 62)) := by
 have e1 := World.alloc_heap_new w (.cells #[.slice a1 n1 c1, .slice a2 n2 c2] 52)
 have e2 := World.alloc_heap_new (w.alloc (.cells #[.slice a1 n1 c1, .slice a2 n2 c2] 52)) (.cells #[.slice none 0 0, .slice none 0 0] 62)
 have e3 := World.alloc_heap_new ((w.alloc (.cells #[.slice a1 n1 c1, .slice a2 n2 c2] 52)).alloc (.cells #[.slice none 0 0, .slice none 0 0] 62)) (.cells #[.slice none 0 0, .slice none 0 0] 62)
 simp only [World.size_alloc] at e2 e3
 have f1 := ((below_al2 (w.alloc (.cells #[.slice a1 n1 c1, .slice a2 n2 c2] 52)) (.cells #[.slice none 0 0, .slice none 0 0] 62) (.cells #[.slice none 0 0, .slice none 0 0] 62)).block w.heap.size (by simp)).trans e1
 have f2 := ((below_al1 ((w.alloc (.cells #[.slice a1 n1 c1, .slice a2 n2 c2] 52)).alloc (.cells #[.slice none 0 0, .slice none 0 0] 62)) (.cells #[.slice none 0 0, .slice none 0 0] 62)).block (w.heap.size + 1) (by simp)).trans e2
 exact ⟨(below_al1 w _).trans ((below_al2 _ _ _).mono (by simp)), cell_blk f1 0, cell_blk f1 1, cell_blk f2 0, cell_blk f2 1, frz_rc f2 0, frz_rc f2 1, cell_blk e3 0, cell_blk e3 1, frz_rc e3 0, frz_rc e3 1, by simp⟩
set_option maxRecDepth 100000 in
set_option maxHeartbeats 4000000 in
theorem ref20_any (la ll : List Int) (a1 a2 : Option Addr) (c1 c2 : Nat) (w : World) (h1 : RowIn w (.slice a1 la.length c1) la) (h2 : RowIn w (.slice a2 ll.length c2) ll) (b1 : la.length ≤ 900000) (b2 : ll.length ≤ 900000) :
   Calls Tryz.prog 23 #[.agg #[.slice a1 la.length c1, .slice a2 ll.length c2]] w (RefC la ll w) := by
 obtain ⟨iI, hiI, zI0, zI1, zI2⟩ := info_parts info_Num
 have HW := Lib.hid (Rw.made a1 a2 la.length c1 ll.length c2 w)
 have H1 := Lib.hid (fun wx (g : Below w.heap.size w wx) => h1.below g)
 have H2 := Lib.hid (fun wx (g : Below w.heap.size w wx) => h2.below g)
 clear h1 h2
 go_enter Tryz.func23, Tryz.ntmps23
 go_upto_region 2 with fail
 generalize ((w.alloc (.cells #[.slice a1 la.length c1, .slice a2 ll.length c2] 52)).alloc (.cells #[.slice none 0 0, .slice none 0 0] 62)).alloc (.cells #[.slice none 0 0, .slice none 0 0] 62) = W3 at *
 obtain ⟨hb3, d0, d1, r0, r1, q0, q1, x0, x1, y0, y1, hz⟩ := HW.out
 have hN : w.heap.size ≤ W3.heap.size := by omega
 have HLt := Lib.hid hz
 clear hb3 hz
 go_upto_region 3 with (at_builtin; refine wpList_append_row _ rfl _ _ 29 rfl 3 W3.heap.size iI (.int .i64 0) Tryz.underlying29 hiI zI0 zI1 zI2 rfl (.slice none 0 0) [] rfl (World.ownsRow_nil _ _ _ _) _ la rfl (H1.out _ HW.out.bel) (by simp; omega) (Nat.le_refl _) ?_; intro v4 w4 hown4 hgrow4 hnxt4; obtain ⟨x4, y4, rfl⟩ := ownsRow_slice hown4; have HW4 := Lib.hid (HW.out.below ((Below.refl W3.heap.size W3).grown hgrow4 (Nat.le_refl _) (fun q hq => by cases hq))); have HZ4 : Hid (W3.heap.size ≤ w4.heap.size) := Lib.hid hgrow4.size; clear d0 d1 r0 r1 q0 q1 x0 x1 y0 y1; obtain ⟨hb4, d0, d1, r0, r1, q0, q1, x0, x1, y0, y1, hz⟩ := HW4.out; clear hb4 hz; have HN4 := Lib.hid hnxt4; have HO4 := Lib.hid hown4; clear hown4 hgrow4 hnxt4)
 have HW5 := Lib.hid (HW4.out.set0 (.slice x4 la.length y4))
 have HO5 := Lib.hid (ownsRow_setCell_below (a := ⟨w.heap.size + 1 + 1, 0, none⟩) HO4.out (by have := HLt.out; simp only; omega) (.slice x4 la.length y4))
 have hz5 : W3.heap.size ≤ (w4.setCell ⟨w.heap.size + 1 + 1, 0, none⟩ (.slice x4 la.length y4)).heap.size := by
   rcases HO4.out.2 with ⟨e, h0⟩ | ⟨g, c', _, _, hb, hg, _⟩
   · have := HZ4.out; rw [World.size_setCell]; exact this
   · have := HZ4.out; rw [World.size_setCell]; exact this
 generalize w4.setCell ⟨w.heap.size + 1 + 1, 0, none⟩ (.slice x4 la.length y4) = W5 at *
 clear d0 d1 r0 r1 q0 q1 x0 x1 y0 y1
 obtain ⟨hb5, d0, d1, r0, r1, q0, q1, x0, x1, y0, y1, hz⟩ := HW5.out
 clear hb5 hz HW4 HO4
 go_wp2_with (at_builtin; refine wpList_append_row _ rfl _ _ 29 rfl 3 W3.heap.size iI (.int .i64 0) Tryz.underlying29 hiI zI0 zI1 zI2 rfl (.slice none 0 0) [] rfl (World.ownsRow_nil _ _ _ _) _ ll rfl (H2.out _ HW5.out.bel) (by simp; omega) hz5 ?_; intro v6 w6 hown6 hgrow6 hnxt6; obtain ⟨x6, y6, rfl⟩ := ownsRow_slice hown6; have HG6 := Lib.hid ((Below.refl W5.heap.size W5).grown hgrow6 (Nat.le_refl _) (fun q hq => by cases hq)); have HW6 := Lib.hid (HW5.out.below HG6.out); clear d0 d1 r0 r1 q0 q1 x0 x1 y0 y1; obtain ⟨hb6, d0, d1, r0, r1, q0, q1, x0, x1, y0, y1, hz⟩ := HW6.out; clear hb6 hz; have HO6 := Lib.hid hown6; have HO56 := Lib.hid (own_below HO5.out HG6.out); clear hown6 hgrow6 hnxt6)
 have hLt := HLt.out
 have k1 := (ownsRow_setCell_below (a := ⟨w.heap.size + 1, 1, none⟩) (ownsRow_setCell_below (a := ⟨w.heap.size + 1, 0, none⟩) (ownsRow_setCell_below (a := ⟨w.heap.size + 1 + 1, 1, none⟩) HO56.out (by simp only; omega) (.slice x6 ll.length y6)) (by simp only; omega) (.slice x4 la.length y4)) (by simp only; omega) (.slice x6 ll.length y6)).mono hN
 have k2 := (ownsRow_setCell_below (a := ⟨w.heap.size + 1, 1, none⟩) (ownsRow_setCell_below (a := ⟨w.heap.size + 1, 0, none⟩) (ownsRow_setCell_below (a := ⟨w.heap.size + 1 + 1, 1, none⟩) HO6.out (by simp only; omega) (.slice x6 ll.length y6)) (by simp only; omega) (.slice x4 la.length y4)) (by simp only; omega) (.slice x6 ll.length y6)).mono hN
 have kb := ((HW6.out.bel.setCell (p := ⟨w.heap.size + 1 + 1, 1, none⟩) (by simp only; omega) (.slice x6 ll.length y6)).setCell (p := ⟨w.heap.size + 1, 0, none⟩) (by simp only; omega) (.slice x4 la.length y4)).setCell (p := ⟨w.heap.size + 1, 1, none⟩) (by simp only; omega) (.slice x6 ll.length y6)
 refine bodyPost_ret (v := .agg #[.slice x4 la.length y4, .slice x6 ll.length y6]) (by simp [results, Tryz.results23, go_sem, r0, r1]) rfl ⟨_, _, rfl, k1, k2, kb⟩
end Go.Proofs

namespace Go.Proofs
open Go.RowKit Go.Lx Go.Md Go.Shelf Go.BigFrame Go.Rgi
set_option linter.unusedVariables false
/-- These rows, in memory. -/
structure CfgAt (la ll : List Int) (a1 : Option Addr) (n1 c1 : Nat) (a2 : Option Addr) (n2 c2 : Nat) (w : World) : Prop where
 e1 : la.length = n1
 e2 : ll.length = n2
 r1 : RowIn w (.slice a1 n1 c1) la
 r2 : RowIn w (.slice a2 n2 c2) ll
section
variable {la ll : List Int} {a1 a2 : Option Addr} {n1 c1 n2 c2 : Nat} {w w' : World} {m : MdlD}
theorem CfgAt.below (h : CfgAt la ll a1 n1 c1 a2 n2 c2 w) (g : Below w.heap.size w w') : CfgAt la ll a1 n1 c1 a2 n2 c2 w' := ⟨h.e1, h.e2, h.r1.below g, h.r2.below g⟩
theorem CfgAt.put {H : Nat} {x1 x2 : Option Addr} {k1 d1 k2 d2 : Nat} (h : CfgAt la ll a1 n1 c1 a2 n2 c2 w) (hb : Bx H x1 k1 d1 x2 k2 d2 w) (b1 : Option Addr) (m1 t1 : Nat) (b2 : Option Addr) (m2 t2 : Nat) : CfgAt la ll a1 n1 c1 a2 n2 c2 ((w.setCell ⟨H, 0, none⟩ (.slice b1 m1 t1)).setCell ⟨H, 1, none⟩ (.slice b2 m2 t2)) :=
 ⟨h.e1, h.e2, h.r1.put hb _ _ _ _ _ _, h.r2.put hb _ _ _ _ _ _⟩
theorem CfgOk.at (h : CfgOk m a1 n1 c1 a2 n2 c2 w) : ∃ la ll, CfgAt la ll a1 n1 c1 a2 n2 c2 w ∧ Rch m la ∧ Fit m ll := by
 obtain ⟨la, ll, e1, e2, r1, r2, R, F⟩ := h
 exact ⟨la, ll, ⟨e1, e2, r1, r2⟩, R, F⟩
theorem fit2_of (F1 : Fit m la) (F2 : Fit m ll) : fit2 m la ll = true := by
 unfold fit2 fit1
 rw [F1.hl, F1.hf, F2.hl, F2.hf]; simp
theorem may_of (F1 : Fit m la) (F2 : Fit m ll) {v : Int} (hs : stands m v = true) : mayE m la ll v = 0 := by
 unfold mayE
 rw [fit2_of F1 F2, hs]; rfl
variable {B SB : Nat}
theorem fits_at (h : SetAt B m SB w) (hm1 : m.regs.length ≤ 1000) (hm2 : m.vers.length ≤ 1000) (hc : CfgAt la ll a1 n1 c1 a2 n2 c2 w) (F1 : Fit m la) (F2 : Fit m ll) :
   Calls Tryz.prog 17 #[.pointer (some ⟨SB, 0, none⟩), .agg #[.slice a1 n1 c1, .slice a2 n2 c2]] w fun e w' => e = .returned (.bool true) ∧ Below w.heap.size w w' := by
 obtain ⟨rfl, rfl, r1, r2⟩ := hc
 rw [← fit2_of F1 F2]
 exact setsFits_any h F1.h0 la ll a1 a2 c1 c2 r1 r2 (by rw [F1.hl]; omega) (by rw [F2.hl]; omega) (by omega)
theorem exits_at (h : SetAt B m SB w) (hm1 : m.regs.length ≤ 1000) (hm2 : m.vers.length ≤ 1000) (hc : CfgAt la ll a1 n1 c1 a2 n2 c2 w) (F1 : Fit m la) (F2 : Fit m ll) (r : Int) :
   Calls Tryz.prog 18 #[.pointer (some ⟨SB, 0, none⟩), .agg #[.slice a1 n1 c1, .slice a2 n2 c2], .int .i64 r] w (RowP (exitsM m la ll r) w) := by
 obtain ⟨rfl, rfl, r1, r2⟩ := hc
 exact exits_any h F1.h0 hm1 hm2 la ll a1 a2 c1 c2 r1 r2 (by rw [F1.hl]; omega) (by rw [F2.hl]; omega) r
/-- What a leaving, or an entering, that may be gives. -/
def StepAt (la ll : List Int) (n1 n2 : Nat) (w : World) (e : Ending) (w' : World) : Prop := ∃ u1 t1 u2 t2, e = .returned (.tuple #[.agg #[.slice u1 n1 t1, .slice u2 n2 t2], .int .i64 0]) ∧ Below w.heap.size w w' ∧ CfgAt la ll u1 n1 t1 u2 n2 t2 w'
theorem leave_ok (h : SetAt B m SB w) (hm1 : m.regs.length ≤ 1000) (hm2 : m.vers.length ≤ 1000) (hc : CfgAt la ll a1 n1 c1 a2 n2 c2 w) (F1 : Fit m la) (F2 : Fit m ll) (v : Int) (hs : stands m v = true) (hk : leaveOk m la v = true) :
   Calls Tryz.prog 19 #[.pointer (some ⟨SB, 0, none⟩), .agg #[.slice a1 n1 c1, .slice a2 n2 c2], .int .i64 v] w (StepAt (la.set (rgA m v).toNat (-1)) (ll.set (rgA m v).toNat v) n1 n2 w) := by
 obtain ⟨rfl, rfl, r1, r2⟩ := hc
 refine (leave_any h F1.h0 hm1 hm2 la ll a1 a2 c1 c2 r1 r2 (by rw [F1.hl]; omega) (by rw [F2.hl]; omega) v).mono ?_
 rintro e w' ⟨hb, (⟨hn, _⟩ | ⟨_, hn, _⟩ | ⟨_, _, v1, v2, rfl, o1, o2, _⟩)⟩
 · exact absurd (may_of F1 F2 hs) hn
 · rw [hk] at hn; cases hn
 · obtain ⟨u1, t1, rfl⟩ := ownsRow_slice o1
   obtain ⟨u2, t2, rfl⟩ := ownsRow_slice o2
   exact ⟨u1, t1, u2, t2, rfl, hb, List.length_set, List.length_set, RowIn.own (by rw [List.length_set]; exact o1), RowIn.own (by rw [List.length_set]; exact o2)⟩
theorem enter_ok (h : SetAt B m SB w) (hm1 : m.regs.length ≤ 1000) (hm2 : m.vers.length ≤ 1000) (hc : CfgAt la ll a1 n1 c1 a2 n2 c2 w) (F1 : Fit m la) (F2 : Fit m ll) (v : Int) (hs : stands m v = true) (hk : enterOk m la v = true) :
   Calls Tryz.prog 25 #[.pointer (some ⟨SB, 0, none⟩), .agg #[.slice a1 n1 c1, .slice a2 n2 c2], .int .i64 v] w (StepAt (la.set (rgA m v).toNat v) ll n1 n2 w) := by
 obtain ⟨rfl, rfl, r1, r2⟩ := hc
 refine (enter_any h F1.h0 hm1 hm2 la ll a1 a2 c1 c2 r1 r2 (by rw [F1.hl]; omega) (by rw [F2.hl]; omega) v).mono ?_
 rintro e w' ⟨hb, (⟨hn, _⟩ | ⟨_, hn, _⟩ | ⟨_, _, v1, v2, rfl, o1, o2, _⟩)⟩
 · exact absurd (may_of F1 F2 hs) hn
 · rw [hk] at hn; cases hn
 · obtain ⟨u1, t1, rfl⟩ := ownsRow_slice o1
   obtain ⟨u2, t2, rfl⟩ := ownsRow_slice o2
   exact ⟨u1, t1, u2, t2, rfl, hb, List.length_set, rfl, RowIn.own (by rw [List.length_set]; exact o1), RowIn.own o2⟩
/-- A new box, with rows. -/
structure Nc (la ll : List Int) (wo W : World) (b : Nat) (u1 : Option Addr) (k1 t1 : Nat) (u2 : Option Addr) (k2 t2 : Nat) : Prop where
 bel : Below wo.heap.size wo W
 bx : Bx b u1 k1 t1 u2 k2 t2 W
 lo : wo.heap.size ≤ b
 cf : CfgAt la ll u1 k1 t1 u2 k2 t2 W
theorem nc_a {wo w9 : World} {u1 u2 : Option Addr} {k1 t1 k2 t2 : Nat} {zA : w9.heap[wo.heap.size]? = some (.cells #[.slice none 0 0, .slice none 0 0] 52 (0, 0))} (hB : Below wo.heap.size wo w9) (hz : wo.heap.size < w9.heap.size) (ho : CfgAt la ll u1 k1 t1 u2 k2 t2 w9) :
   Nc la ll wo ((w9.setCell ⟨wo.heap.size, 0, none⟩ (.slice u1 k1 t1)).setCell ⟨wo.heap.size, 1, none⟩ (.slice u2 k2 t2)) wo.heap.size u1 k1 t1 u2 k2 t2 := by
 have hx : Bx wo.heap.size none 0 0 none 0 0 w9 := ⟨cell_blk zA 0, cell_blk zA 1, frz_b zA 0, frz_b zA 1, hz⟩
 exact ⟨(hB.setCell (p := ⟨wo.heap.size, 0, none⟩) (Nat.le_refl _) _).setCell (p := ⟨wo.heap.size, 1, none⟩) (Nat.le_refl _) _, hx.set _ _ _ _ _ _, Nat.le_refl _, ho.put hx _ _ _ _ _ _⟩
theorem nc_b {wo w9 : World} {u1 u2 : Option Addr} {k1 t1 k2 t2 : Nat} (hB : Below wo.heap.size wo w9) (ho : CfgAt la ll u1 k1 t1 u2 k2 t2 w9) :
   Nc la ll wo (w9.alloc (.cells #[.slice u1 k1 t1, .slice u2 k2 t2] 52)) w9.heap.size u1 k1 t1 u2 k2 t2 :=
 ⟨hB.alloc hB.size _, Bx.made w9 u1 k1 t1 u2 k2 t2 _, hB.size, ho.below (below_al1 w9 _)⟩
def RefAt (la ll : List Int) (n1 n2 : Nat) (w : World) (e : Ending) (w' : World) : Prop := ∃ u1 t1 u2 t2, e = .returned (.agg #[.slice u1 n1 t1, .slice u2 n2 t2]) ∧ CfgAt la ll u1 n1 t1 u2 n2 t2 w' ∧ Below w.heap.size w w'
theorem ref_at (hc : CfgAt la ll a1 n1 c1 a2 n2 c2 w) (b1 : n1 ≤ 900000) (b2 : n2 ≤ 900000) : Calls Tryz.prog 23 #[.agg #[.slice a1 n1 c1, .slice a2 n2 c2]] w (RefAt la ll n1 n2 w) := by
 obtain ⟨rfl, rfl, r1, r2⟩ := hc
 refine (ref20_any la ll a1 a2 c1 c2 w r1 r2 b1 b2).mono ?_
 rintro e w' ⟨v1, v2, rfl, o1, o2, hb⟩
 obtain ⟨u1, t1, rfl⟩ := ownsRow_slice o1
 obtain ⟨u2, t2, rfl⟩ := ownsRow_slice o2
 exact ⟨u1, t1, u2, t2, rfl, ⟨rfl, rfl, RowIn.own o1, RowIn.own o2⟩, hb⟩
theorem is_at {Q : Nat → BP} {p : Ph} (h : Mod Q w m p) (hc : CfgAt la ll a1 n1 c1 a2 n2 c2 w) (F1 : Fit m la) (hvl : m.vers.length ≤ 100000) (v : Int) :
   Calls Tryz.prog 22 #[stV m p, .agg #[.slice a1 n1 c1, .slice a2 n2 c2], .int .i64 v] w fun e w' => e = .returned (.bool (isA m la v)) ∧ Below w.heap.size w w' := by
 obtain ⟨rfl, rfl, r1, r2⟩ := hc
 exact sis_any m p la ll a1 a2 c1 c2 v w h F1.h0 r1 F1.hl hvl
end
/-- What is active behind the leaving of whatever region. -/
theorem exits_act {m : MdlD} {la ll : List Int} (F : Fit m la) (F2 : Fit m ll) (hs : noStray m la) (r : Int) {v : Nat} (hv : v < m.vers.length) : isA m (leftM la (exitsM m la ll r)) v = (isA m la v && !inM m v r) := by
 unfold exitsM
 rw [fit2_of F F2]
 cases hr : hasR m r with
 | true =>
  obtain ⟨k, rfl, hk⟩ := hasR_yes hr
  exact left_act F hs hk hv
 | false =>
  have : inM m v r = false := by
    cases h : inM m v r with
    | false => rfl
    | true => rw [in_has F.h0 h] at hr; cases hr
  rw [this]
  simp [left_nil]
theorem exits_ok {m : MdlD} {la ll : List Int} {r : Int} (F : Fit m la) {i : Nat} (hi : i < (exitsM m la ll r).length) : leaveOk m (leftM la ((exitsM m la ll r).take i)) (exitsM m la ll r)[i] = true ∧ isA m la (exitsM m la ll r)[i] = true := by
 have e : exitsM m la ll r = [] ∨ ∃ k : Nat, k < m.regs.length ∧ exitsM m la ll r = exM m la k := by
   unfold exitsM
   split
   · rename_i hc
     rw [Bool.and_eq_true] at hc
     obtain ⟨k, rfl, hk⟩ := hasR_yes hc.2
     exact .inr ⟨k, hk, rfl⟩
   · exact .inl rfl
 rcases e with e | ⟨k, hk, e⟩
 · rw [e] at hi; simp at hi
 · simp only [e] at hi ⊢
   refine ⟨leave_at F hk hi, ?_⟩
   obtain ⟨j, ej, _, ha⟩ := exM_act F hk (List.getElem_mem hi)
   rw [ej]; exact ha
theorem left_next {m : MdlD} {la X : List Int} (F : Fit m la) {i : Nat} (hi : i < X.length) (ha : isA m la X[i] = true) : (leftM la (X.take i)).set (rgA m X[i]).toNat (-1) = leftM la (X.take (i + 1)) := by
 rw [left_step F ha, List.take_succ_eq_append_getElem hi]
--IF hopscotchlaw26.some
structure Sm20 (m : MdlD) : Prop where
 rg : m.regs.length ≤ 30
 vr : m.vers.length ≤ 40
 tr : m.trns.length ≤ 40
 few : FewP m
set_option maxHeartbeats 1000000 in
theorem small20_any {Q : Nat → BP} (m : MdlD) (p : Ph) (w : World) (h : Mod Q w m p) (hm : MdlOk m) :
   Calls Tryz.prog 13 #[mdV m p] w fun e w' => BoolSays (Sm20 m) e ∧ Below w.heap.size w w' := by
 have HB := Lib.hid (Mb.made h)
 have HF := Lib.hid (fun wx (g : Mb m p w.heap.size w wx) => few_any m p wx g.mod hm)
 unfold mdV at HF ⊢
 have b1 := hm.regs
 have b2 := hm.vers
 have b3 := hm.trns
 clear h hm
 by_cases h1 : m.regs.length ≤ 30
 · have d1 : decide ((m.regs.length : Int) ≤ 30) = true := by simp; omega
   by_cases h2 : m.vers.length ≤ 40
   · have d2 : decide ((m.vers.length : Int) ≤ 40) = true := by simp; omega
     by_cases h3 : m.trns.length ≤ 40
     · have d3 : decide ((m.trns.length : Int) ≤ 40) = true := by simp; omega
       go_enter Tryz.func13, Tryz.ntmps13
       go_wp2_with fail
       (with_reducible refine (HF.out _ HB.out).mono ?_)
       rintro e w2 ⟨⟨b, rfl, hs⟩, g2⟩
       have HB2 := Lib.hid (HB.out.below g2)
       have HSt := Lib.hid hs
       clear g2 HF HB hs
       go_wp2_with fail
       go_ret
       exact ⟨⟨b, rfl, fun ht => ⟨h1, h2, h3, HSt.out ht⟩⟩, HB2.out.bel⟩
     · have d3 : decide ((m.trns.length : Int) ≤ 40) = false := by simp; omega
       go_enter Tryz.func13, Tryz.ntmps13
       go_wp2_with fail
       go_ret
       exact ⟨⟨false, rfl, fun ht => by cases ht⟩, HB.out.bel⟩
   · have d2 : decide ((m.vers.length : Int) ≤ 40) = false := by simp; omega
     go_enter Tryz.func13, Tryz.ntmps13
     go_wp2_with fail
     go_ret
     exact ⟨⟨false, rfl, fun ht => by cases ht⟩, HB.out.bel⟩
 · have d1 : decide ((m.regs.length : Int) ≤ 30) = false := by simp; omega
   go_enter Tryz.func13, Tryz.ntmps13
   go_wp2_with fail
   go_ret
   exact ⟨⟨false, rfl, fun ht => by cases ht⟩, HB.out.bel⟩
theorem SetAt.low {B C : Nat} {m : MdlD} {SB : Nat} {w : World} (h : SetAt B m SB w) (hC : C ≤ B) : SetAt C m SB w := by
 obtain ⟨IB, kv, h1, r⟩ := h
 exact ⟨IB, kv, h1.low' hC, r⟩
theorem SetAt.six {B H : Nat} {m : MdlD} {SB : Nat} {w w' : World} (h : SetAt B m SB w) (s : Six H w w') (hH : H < B) (hn : ∀ j x, w.cell? ⟨H, j, none⟩ ≠ some (.int .u8 x)) (hp : ∀ x, w.cell? ⟨H, 0, none⟩ ≠ some (.pointer x)) : SetAt B m SB w' := by
 obtain ⟨IB, kv, h1, h2, h3, h4, h5, h6⟩ := h
 have hne : SB ≠ H := fun e => by subst e; exact hp _ h2
 have hc : ∀ b j, b ≠ H → w'.cell? ⟨b, j, none⟩ = w.cell? ⟨b, j, none⟩ := fun b j h => World.cell?_of_block (w := w) (s.blk b h)
 refine ⟨IB, kv, h1.keep (by rw [s.size]; exact Nat.le_refl _) (fun b hb1 _ => s.blk b (by omega)), (hc _ _ hne).trans h2, (hc _ _ hne).trans h3, (hc _ _ hne).trans h4, ?_, by rw [s.size]; exact h6⟩
 rcases h5 with h5 | ⟨b, off, c, e, g1, g2, g3⟩
 · exact .inl h5
 · refine .inr ⟨b, off, c, e, g1, by rw [s.size]; exact g2, fun j hj => ?_⟩
   have : b ≠ H := fun e => by subst e; exact hn _ _ (g3 j hj)
   exact (hc _ _ this).trans (g3 j hj)
/-- Twelve cells. -/
def zero12 : List Value := [.string ⟨#[]⟩, .slice none 0 0, .slice none 0 0, .slice none 0 0, .slice none 0 0, .slice none 0 0, .string ⟨#[]⟩, .slice none 0 0, .slice none 0 0, .slice none 0 0, .slice none 0 0, .slice none 0 0]
theorem own12_all {w : World} {N T g : Nat} {xs : List Value} (h : w.ownsRow N T 12 (.slice (some ⟨g, 0, none⟩) 1 1) 1 xs) (j : Nat) : w.cell? ⟨g, j, none⟩ = xs[j]? := by
 by_cases hj : j < 12
 · exact h.cellAt j (by omega)
 · obtain ⟨h1, h2⟩ := h
   rcases h2 with ⟨h0, _⟩ | ⟨g', c', cur, hv, hg, hh, hn, hcap, hsz, ht⟩
   · cases h0
   · cases hv
     rw [List.getElem?_eq_none (by omega)]
     unfold World.cell?
     simp only [hh]
     simp
     omega
theorem zero12_u8 {w : World} {N T g : Nat} (h : w.ownsRow N T 12 (.slice (some ⟨g, 0, none⟩) 1 1) 1 zero12) (j : Nat) (x : Int) : w.cell? ⟨g, j, none⟩ ≠ some (.int .u8 x) := fun e => by
 rw [own12_all h] at e
 have := List.mem_of_getElem? e
 simp [zero12] at this
theorem zero12_ptr {w : World} {N T g : Nat} (h : w.ownsRow N T 12 (.slice (some ⟨g, 0, none⟩) 1 1) 1 zero12) (x : Option Addr) : w.cell? ⟨g, 0, none⟩ ≠ some (.pointer x) := fun e => by
 rw [own12_all h] at e
 have := List.mem_of_getElem? e
 simp [zero12] at this
theorem zero12_made (w : World) (T : TypeId) : (w.alloc (.cells #[.string ⟨#[]⟩, .slice none 0 0, .slice none 0 0, .slice none 0 0, .slice none 0 0, .slice none 0 0, .string ⟨#[]⟩, .slice none 0 0, .slice none 0 0, .slice none 0 0, .slice none 0 0, .slice none 0 0] T)).ownsRow 0 T 12 (.slice (some ⟨w.heap.size, 0, none⟩) 1 1) 1 zero12 :=
 ⟨rfl, .inr ⟨w.heap.size, 1, _, rfl, Nat.zero_le _, World.alloc_heap_new w _, Nat.le_refl _, by unfold maxLen; omega, rfl, rfl⟩⟩
def BothS (m : MdlD) (w : World) (e : Ending) (w' : World) : Prop := Below w.heap.size w w' ∧ ∃ pr : Ph, ((riM m = (0, 0, 0) ∧ ∃ SB, e = .returned (.tuple #[.pointer (some ⟨SB, 0, none⟩), stV m pr, .bool true, .bool true]) ∧ SetAt w.heap.size m SB w' ∧ Mod anyM w' m pr) ∨
 ((riM m).2.2 ≠ 0 ∧ e = .returned (.tuple #[.pointer none, stV m pr, .bool false, .bool true])))
theorem twelve {w : World} {H : Nat} {m : MdlD} {p : Ph} {w' : World} (h : w.ownsRow 0 48 12 (.slice (some ⟨H, 0, none⟩) 1 1) 1 zero12)
   (e : w' = (((((((((((w.setCell ⟨H, 0, none⟩ (.string m.nm)).setCell ⟨H, 1, none⟩ (.slice p.a1 m.vars.length p.c1)).setCell ⟨H, 2, none⟩ (.slice p.a2 m.evs.length p.c2)).setCell ⟨H, 3, none⟩ (.slice p.a3 m.regs.length p.c3)).setCell ⟨H, 4, none⟩ (.slice p.a4 m.vers.length p.c4)).setCell ⟨H, 5, none⟩ (.slice p.a5 m.trns.length p.c5)).setCell ⟨H, 6, none⟩ (.string m.nm)).setCell ⟨H, 7, none⟩ (.slice p.a1 m.vars.length p.c1)).setCell ⟨H, 8, none⟩ (.slice p.a2 m.evs.length p.c2)).setCell ⟨H, 9, none⟩ (.slice p.a3 m.regs.length p.c3)).setCell ⟨H, 10, none⟩ (.slice p.a4 m.vers.length p.c4)).setCell ⟨H, 11, none⟩ (.slice p.a5 m.trns.length p.c5)) :
   Six H w w' ∧ w'.ownsRow 0 48 12 (.slice (some ⟨H, 0, none⟩) 1 1) 1 [.string m.nm, .slice p.a1 m.vars.length p.c1, .slice p.a2 m.evs.length p.c2, .slice p.a3 m.regs.length p.c3, .slice p.a4 m.vers.length p.c4, .slice p.a5 m.trns.length p.c5, .string m.nm, .slice p.a1 m.vars.length p.c1, .slice p.a2 m.evs.length p.c2, .slice p.a3 m.regs.length p.c3, .slice p.a4 m.vers.length p.c4, .slice p.a5 m.trns.length p.c5] := by
 subst e
 refine ⟨(((((((((((((Six.refl H w).set _).set _).set _).set _).set _).set _).set _).set _).set _).set _).set _).set _), ?_⟩
 have := ((((((((((((h.stored 0 (.string m.nm)).1.stored 1 (.slice p.a1 m.vars.length p.c1)).1.stored 2 (.slice p.a2 m.evs.length p.c2)).1.stored 3 (.slice p.a3 m.regs.length p.c3)).1.stored 4 (.slice p.a4 m.vers.length p.c4)).1.stored 5 (.slice p.a5 m.trns.length p.c5)).1.stored 6 (.string m.nm)).1.stored 7 (.slice p.a1 m.vars.length p.c1)).1.stored 8 (.slice p.a2 m.evs.length p.c2)).1.stored 9 (.slice p.a3 m.regs.length p.c3)).1.stored 10 (.slice p.a4 m.vers.length p.c4)).1.stored 11 (.slice p.a5 m.trns.length p.c5)).1
 exact this
set_option maxRecDepth 100000 in
set_option maxHeartbeats 8000000 in
theorem both20_any {Q : Nat → BP} (m : MdlD) (p : Ph) (w : World) (h : Mod Q w m p) (hm : MdlOk m) (hT : Tab w) (hs : Sm20 m) :
   Calls Tryz.prog 15 #[mdV m p] w (BothS m w) := by
 have hsm := few_sml hs.few
 have HB := Lib.hid ((Mb.made h).below (below_al1 _ (.cells #[.string ⟨#[]⟩, .slice none 0 0, .slice none 0 0, .slice none 0 0, .slice none 0 0, .slice none 0 0, .string ⟨#[]⟩, .slice none 0 0, .slice none 0 0, .slice none 0 0, .slice none 0 0, .slice none 0 0] 48)))
 have HZ : Hid (((w.alloc (.cells #[.string m.nm, .slice p.a1 m.vars.length p.c1, .slice p.a2 m.evs.length p.c2, .slice p.a3 m.regs.length p.c3, .slice p.a4 m.vers.length p.c4, .slice p.a5 m.trns.length p.c5] 28)).alloc (.cells #[.string ⟨#[]⟩, .slice none 0 0, .slice none 0 0, .slice none 0 0, .slice none 0 0, .slice none 0 0, .string ⟨#[]⟩, .slice none 0 0, .slice none 0 0, .slice none 0 0, .slice none 0 0, .slice none 0 0] 48)).ownsRow 0 48 12 (.slice (some ⟨w.heap.size + 1, 0, none⟩) 1 1) 1 zero12) := Lib.hid (by
   have := zero12_made (w.alloc (.cells #[.string m.nm, .slice p.a1 m.vars.length p.c1, .slice p.a2 m.evs.length p.c2, .slice p.a3 m.regs.length p.c3, .slice p.a4 m.vers.length p.c4, .slice p.a5 m.trns.length p.c5] 28)) 48
   rw [World.size_alloc] at this; exact this)
 have RF := Lib.hid (fun wx (g : Mb m p w.heap.size w wx) => ref_low m p wx g.mod hsm)
 have RR := Lib.hid (fun (pr : Ph) wx (hx : Mod anyM wx m pr) => rright_any m pr wx hx hm)
 have NW := Lib.hid (fun wx (g : Mb m p w.heap.size w wx) => setsNew_any m p wx g.mod hm (hT.next g.bel) (by have := hs.vr; omega) (by have := hs.rg; omega) (by have := hs.tr; omega))
 have OF := Lib.hid (fun (pr : Ph) wx => sof_any m pr wx)
 unfold mdV at RF RR NW OF ⊢
 clear h hm hT hs hsm
 go_enter Tryz.func15, Tryz.ntmps15
 go_wp2_with fail
 (with_reducible refine (RF.out _ HB.out).mono ?_)
 rintro e w3 ⟨pr1, rfl, hmr, g3⟩
 have HB3 := Lib.hid (HB.out.below g3)
 have HZ3 := Lib.hid (own_below HZ.out g3)
 have HMR := Lib.hid hmr.any
 clear hmr g3 HB HZ
 unfold mdV
 go_wp2_with fail
 (with_reducible refine (RR.out pr1 _ HMR.out).mono ?_)
 rintro e w4 ⟨rfl, g4⟩
 have HB4 := Lib.hid (HB3.out.below g4)
 have HZ4 := Lib.hid (own_below HZ3.out g4)
 clear g4 HB3 HZ3 HMR RR
 obtain ⟨x0, x1, x2, x3, x4, x5, _⟩ := HB4.out.box
 go_wp2_with fail
 (with_reducible refine (NW.out _ HB4.out).mono ?_)
 rintro e w5 ⟨g5, (⟨hr, SB, rfl, hi⟩ | ⟨hr, rfl⟩)⟩
 · have HB5 := Lib.hid (HB4.out.below g5)
   have HZ5 := Lib.hid (own_below HZ4.out g5)
   have HI5 := Lib.hid hi
   have HR := Lib.hid hr
   have hz4 : Hid (w.heap.size + 1 < w4.heap.size) := Lib.hid (HZ4.out.lt (w.heap.size + 1) rfl).2
   rw [hr]
   clear g5 hi HB4 HZ4 x0 x1 x2 x3 x4 x5 NW hr
   obtain ⟨x0, x1, x2, x3, x4, x5, _⟩ := HB5.out.box
   go_wp2_with fail
   (with_reducible refine (RF.out _ HB5.out).mono ?_)
   rintro e w6 ⟨pr, rfl, hmr, g6⟩
   have hz5 : Hid (w.heap.size + 1 < w5.heap.size) := Lib.hid (HZ5.out.lt (w.heap.size + 1) rfl).2
   have HB6 := Lib.hid (HB5.out.below g6)
   have HZ6 := Lib.hid (own_below HZ5.out g6)
   have HI6 := Lib.hid (HI5.out.grown g6)
   have HMR := Lib.hid hmr
   have OFx := Lib.hid (OF.out pr w6)
   clear g6 hmr HB5 HZ5 HI5 x0 x1 x2 x3 x4 x5 RF OF
   unfold mdV
   unfold stV at OFx
   go_wp2_with fail
   (with_reducible refine (OFx.out).mono ?_)
   rintro e w7 ⟨rfl, g7⟩
   have HB7 := Lib.hid (HB6.out.below g7)
   have HZ7 := Lib.hid (own_below HZ6.out g7)
   have HI7 := Lib.hid (HI6.out.grown g7)
   have HG7 := Lib.hid g7
   clear g7 HB6 HZ6 HI6 OFx
   have z0 : w7.cell? ⟨w.heap.size + 1, 0, none⟩ = some (.string ⟨#[]⟩) := own12_all HZ7.out 0
   have f0 := HZ7.out.frozenAt 0
   have z1 : w7.cell? ⟨w.heap.size + 1, 1, none⟩ = some (.slice none 0 0) := own12_all HZ7.out 1
   have f1 := HZ7.out.frozenAt 1
   have z2 : w7.cell? ⟨w.heap.size + 1, 2, none⟩ = some (.slice none 0 0) := own12_all HZ7.out 2
   have f2 := HZ7.out.frozenAt 2
   have z3 : w7.cell? ⟨w.heap.size + 1, 3, none⟩ = some (.slice none 0 0) := own12_all HZ7.out 3
   have f3 := HZ7.out.frozenAt 3
   have z4 : w7.cell? ⟨w.heap.size + 1, 4, none⟩ = some (.slice none 0 0) := own12_all HZ7.out 4
   have f4 := HZ7.out.frozenAt 4
   have z5 : w7.cell? ⟨w.heap.size + 1, 5, none⟩ = some (.slice none 0 0) := own12_all HZ7.out 5
   have f5 := HZ7.out.frozenAt 5
   have z6 : w7.cell? ⟨w.heap.size + 1, 6, none⟩ = some (.string ⟨#[]⟩) := own12_all HZ7.out 6
   have f6 := HZ7.out.frozenAt 6
   have z7 : w7.cell? ⟨w.heap.size + 1, 7, none⟩ = some (.slice none 0 0) := own12_all HZ7.out 7
   have f7 := HZ7.out.frozenAt 7
   have z8 : w7.cell? ⟨w.heap.size + 1, 8, none⟩ = some (.slice none 0 0) := own12_all HZ7.out 8
   have f8 := HZ7.out.frozenAt 8
   have z9 : w7.cell? ⟨w.heap.size + 1, 9, none⟩ = some (.slice none 0 0) := own12_all HZ7.out 9
   have f9 := HZ7.out.frozenAt 9
   have z10 : w7.cell? ⟨w.heap.size + 1, 10, none⟩ = some (.slice none 0 0) := own12_all HZ7.out 10
   have f10 := HZ7.out.frozenAt 10
   have z11 : w7.cell? ⟨w.heap.size + 1, 11, none⟩ = some (.slice none 0 0) := own12_all HZ7.out 11
   have f11 := HZ7.out.frozenAt 11
   go_wp2_with fail
   clear z0 f0 z1 f1 z2 f2 z3 f3 z4 f4 z5 f5 z6 f6 z7 f7 z8 f8 z9 f9 z10 f10 z11 f11
   have HT0 := twelve (m := m) (p := pr) HZ7.out rfl
   generalize ((((((((((((w7.setCell ⟨w.heap.size + 1, 0, none⟩ (.string m.nm)).setCell ⟨w.heap.size + 1, 1, none⟩ (.slice pr.a1 m.vars.length pr.c1)).setCell ⟨w.heap.size + 1, 2, none⟩ (.slice pr.a2 m.evs.length pr.c2)).setCell ⟨w.heap.size + 1, 3, none⟩ (.slice pr.a3 m.regs.length pr.c3)).setCell ⟨w.heap.size + 1, 4, none⟩ (.slice pr.a4 m.vers.length pr.c4)).setCell ⟨w.heap.size + 1, 5, none⟩ (.slice pr.a5 m.trns.length pr.c5)).setCell ⟨w.heap.size + 1, 6, none⟩ (.string m.nm)).setCell ⟨w.heap.size + 1, 7, none⟩ (.slice pr.a1 m.vars.length pr.c1)).setCell ⟨w.heap.size + 1, 8, none⟩ (.slice pr.a2 m.evs.length pr.c2)).setCell ⟨w.heap.size + 1, 9, none⟩ (.slice pr.a3 m.regs.length pr.c3)).setCell ⟨w.heap.size + 1, 10, none⟩ (.slice pr.a4 m.vers.length pr.c4)).setCell ⟨w.heap.size + 1, 11, none⟩ (.slice pr.a5 m.trns.length pr.c5)) = W9 at *
   have HS := Lib.hid HT0.1
   have HX := Lib.hid HT0.2
   clear HT0
   have y0 : W9.cell? ⟨w.heap.size + 1, 0, none⟩ = some (.string m.nm) := own12_all HX.out 0
   have y1 : W9.cell? ⟨w.heap.size + 1, 1, none⟩ = some (.slice pr.a1 m.vars.length pr.c1) := own12_all HX.out 1
   have y2 : W9.cell? ⟨w.heap.size + 1, 2, none⟩ = some (.slice pr.a2 m.evs.length pr.c2) := own12_all HX.out 2
   have y3 : W9.cell? ⟨w.heap.size + 1, 3, none⟩ = some (.slice pr.a3 m.regs.length pr.c3) := own12_all HX.out 3
   have y4 : W9.cell? ⟨w.heap.size + 1, 4, none⟩ = some (.slice pr.a4 m.vers.length pr.c4) := own12_all HX.out 4
   have y5 : W9.cell? ⟨w.heap.size + 1, 5, none⟩ = some (.slice pr.a5 m.trns.length pr.c5) := own12_all HX.out 5
   have y6 : W9.cell? ⟨w.heap.size + 1, 6, none⟩ = some (.string m.nm) := own12_all HX.out 6
   have y7 : W9.cell? ⟨w.heap.size + 1, 7, none⟩ = some (.slice pr.a1 m.vars.length pr.c1) := own12_all HX.out 7
   have y8 : W9.cell? ⟨w.heap.size + 1, 8, none⟩ = some (.slice pr.a2 m.evs.length pr.c2) := own12_all HX.out 8
   have y9 : W9.cell? ⟨w.heap.size + 1, 9, none⟩ = some (.slice pr.a3 m.regs.length pr.c3) := own12_all HX.out 9
   have y10 : W9.cell? ⟨w.heap.size + 1, 10, none⟩ = some (.slice pr.a4 m.vers.length pr.c4) := own12_all HX.out 10
   have y11 : W9.cell? ⟨w.heap.size + 1, 11, none⟩ = some (.slice pr.a5 m.trns.length pr.c5) := own12_all HX.out 11
   have hz := hz4.out
   have hy := hz5.out
   refine bodyPost_ret (v := .tuple #[.pointer (some ⟨SB, 0, none⟩), stV m pr, .bool true, .bool true]) (by simp [results, Tryz.results15, go_sem, stV, y0, y1, y2, y3, y4, y5, y6, y7, y8, y9, y10, y11]) rfl ⟨HS.out.bel HB7.out.bel (by omega), pr, .inl ⟨HR.out, SB, rfl, ?_, ?_⟩⟩
   · exact (HI7.out.six HS.out (by omega) (zero12_u8 HZ7.out) (zero12_ptr HZ7.out)).low (by omega)
   · exact ((HMR.out.below HG7.out).kept fun _ => HS.out.kept hy).any
 · have HB5 := Lib.hid (HB4.out.below g5)
   have HZ5 := Lib.hid (own_below HZ4.out g5)
   have HR := Lib.hid hr
   have hz4 : Hid (w.heap.size + 1 < w4.heap.size) := Lib.hid (HZ4.out.lt (w.heap.size + 1) rfl).2
   clear g5 HB4 HZ4 x0 x1 x2 x3 x4 x5 NW hr
   obtain ⟨x0, x1, x2, x3, x4, x5, _⟩ := HB5.out.box
   go_wp2_with fail
   (with_reducible refine (RF.out _ HB5.out).mono ?_)
   rintro e w6 ⟨pr, rfl, hmr, g6⟩
   have HB6 := Lib.hid (HB5.out.below g6)
   have HZ6 := Lib.hid (own_below HZ5.out g6)
   have OFx := Lib.hid (OF.out pr w6)
   clear g6 hmr HB5 HZ5 x0 x1 x2 x3 x4 x5 RF OF
   unfold mdV
   unfold stV at OFx
   go_wp2_with fail
   (with_reducible refine (OFx.out).mono ?_)
   rintro e w7 ⟨rfl, g7⟩
   have HB7 := Lib.hid (HB6.out.below g7)
   have HZ7 := Lib.hid (own_below HZ6.out g7)
   clear g7 HB6 HZ6 OFx
   have z0 : w7.cell? ⟨w.heap.size + 1, 0, none⟩ = some (.string ⟨#[]⟩) := own12_all HZ7.out 0
   have f0 := HZ7.out.frozenAt 0
   have z1 : w7.cell? ⟨w.heap.size + 1, 1, none⟩ = some (.slice none 0 0) := own12_all HZ7.out 1
   have f1 := HZ7.out.frozenAt 1
   have z2 : w7.cell? ⟨w.heap.size + 1, 2, none⟩ = some (.slice none 0 0) := own12_all HZ7.out 2
   have f2 := HZ7.out.frozenAt 2
   have z3 : w7.cell? ⟨w.heap.size + 1, 3, none⟩ = some (.slice none 0 0) := own12_all HZ7.out 3
   have f3 := HZ7.out.frozenAt 3
   have z4 : w7.cell? ⟨w.heap.size + 1, 4, none⟩ = some (.slice none 0 0) := own12_all HZ7.out 4
   have f4 := HZ7.out.frozenAt 4
   have z5 : w7.cell? ⟨w.heap.size + 1, 5, none⟩ = some (.slice none 0 0) := own12_all HZ7.out 5
   have f5 := HZ7.out.frozenAt 5
   have z6 : w7.cell? ⟨w.heap.size + 1, 6, none⟩ = some (.string ⟨#[]⟩) := own12_all HZ7.out 6
   have f6 := HZ7.out.frozenAt 6
   have z7 : w7.cell? ⟨w.heap.size + 1, 7, none⟩ = some (.slice none 0 0) := own12_all HZ7.out 7
   have f7 := HZ7.out.frozenAt 7
   have z8 : w7.cell? ⟨w.heap.size + 1, 8, none⟩ = some (.slice none 0 0) := own12_all HZ7.out 8
   have f8 := HZ7.out.frozenAt 8
   have z9 : w7.cell? ⟨w.heap.size + 1, 9, none⟩ = some (.slice none 0 0) := own12_all HZ7.out 9
   have f9 := HZ7.out.frozenAt 9
   have z10 : w7.cell? ⟨w.heap.size + 1, 10, none⟩ = some (.slice none 0 0) := own12_all HZ7.out 10
   have f10 := HZ7.out.frozenAt 10
   have z11 : w7.cell? ⟨w.heap.size + 1, 11, none⟩ = some (.slice none 0 0) := own12_all HZ7.out 11
   have f11 := HZ7.out.frozenAt 11
   go_wp2_with fail
   clear z0 f0 z1 f1 z2 f2 z3 f3 z4 f4 z5 f5 z6 f6 z7 f7 z8 f8 z9 f9 z10 f10 z11 f11
   have HT0 := twelve (m := m) (p := pr) HZ7.out rfl
   generalize ((((((((((((w7.setCell ⟨w.heap.size + 1, 0, none⟩ (.string m.nm)).setCell ⟨w.heap.size + 1, 1, none⟩ (.slice pr.a1 m.vars.length pr.c1)).setCell ⟨w.heap.size + 1, 2, none⟩ (.slice pr.a2 m.evs.length pr.c2)).setCell ⟨w.heap.size + 1, 3, none⟩ (.slice pr.a3 m.regs.length pr.c3)).setCell ⟨w.heap.size + 1, 4, none⟩ (.slice pr.a4 m.vers.length pr.c4)).setCell ⟨w.heap.size + 1, 5, none⟩ (.slice pr.a5 m.trns.length pr.c5)).setCell ⟨w.heap.size + 1, 6, none⟩ (.string m.nm)).setCell ⟨w.heap.size + 1, 7, none⟩ (.slice pr.a1 m.vars.length pr.c1)).setCell ⟨w.heap.size + 1, 8, none⟩ (.slice pr.a2 m.evs.length pr.c2)).setCell ⟨w.heap.size + 1, 9, none⟩ (.slice pr.a3 m.regs.length pr.c3)).setCell ⟨w.heap.size + 1, 10, none⟩ (.slice pr.a4 m.vers.length pr.c4)).setCell ⟨w.heap.size + 1, 11, none⟩ (.slice pr.a5 m.trns.length pr.c5)) = W9 at *
   have HS := Lib.hid HT0.1
   have HX := Lib.hid HT0.2
   clear HT0
   have y0 : W9.cell? ⟨w.heap.size + 1, 0, none⟩ = some (.string m.nm) := own12_all HX.out 0
   have y1 : W9.cell? ⟨w.heap.size + 1, 1, none⟩ = some (.slice pr.a1 m.vars.length pr.c1) := own12_all HX.out 1
   have y2 : W9.cell? ⟨w.heap.size + 1, 2, none⟩ = some (.slice pr.a2 m.evs.length pr.c2) := own12_all HX.out 2
   have y3 : W9.cell? ⟨w.heap.size + 1, 3, none⟩ = some (.slice pr.a3 m.regs.length pr.c3) := own12_all HX.out 3
   have y4 : W9.cell? ⟨w.heap.size + 1, 4, none⟩ = some (.slice pr.a4 m.vers.length pr.c4) := own12_all HX.out 4
   have y5 : W9.cell? ⟨w.heap.size + 1, 5, none⟩ = some (.slice pr.a5 m.trns.length pr.c5) := own12_all HX.out 5
   have y6 : W9.cell? ⟨w.heap.size + 1, 6, none⟩ = some (.string m.nm) := own12_all HX.out 6
   have y7 : W9.cell? ⟨w.heap.size + 1, 7, none⟩ = some (.slice pr.a1 m.vars.length pr.c1) := own12_all HX.out 7
   have y8 : W9.cell? ⟨w.heap.size + 1, 8, none⟩ = some (.slice pr.a2 m.evs.length pr.c2) := own12_all HX.out 8
   have y9 : W9.cell? ⟨w.heap.size + 1, 9, none⟩ = some (.slice pr.a3 m.regs.length pr.c3) := own12_all HX.out 9
   have y10 : W9.cell? ⟨w.heap.size + 1, 10, none⟩ = some (.slice pr.a4 m.vers.length pr.c4) := own12_all HX.out 10
   have y11 : W9.cell? ⟨w.heap.size + 1, 11, none⟩ = some (.slice pr.a5 m.trns.length pr.c5) := own12_all HX.out 11
   have hn : ¬ (riM m).2.2 = 0 := HR.out
   refine bodyPost_ret (v := .tuple #[.pointer none, stV m pr, .bool false, .bool true]) (by simp [results, Tryz.results15, go_sem, stV, y0, y1, y2, y3, y4, y5, y6, y7, y8, y9, y10, y11, hn]) rfl ⟨HS.out.bel HB7.out.bel (by omega), pr, .inr ⟨HR.out, rfl⟩⟩
end Go.Proofs
