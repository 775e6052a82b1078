/- Walks: the law 'ModelCopies'. -/
import Derived.Test.YtckflfkfjpjkjaaDoorMdSp
import Derived.Test.YtckflfkfjpjkjaaDoorMdSa
namespace Go.Proofs
open Go.RowKit Go.Lx Go.Md Go.Shelf
set_option linter.unusedVariables false

theorem made_box (w : World) (T : TypeId) (u0 u1 u2 u3 u4 u5 : Value) : Box (w.alloc (.cells #[u0, u1, u2, u3, u4, u5] T)) w.heap.size u0 u1 u2 u3 u4 u5 := by constructor <;> simp
/-- A model in a box, all of it in such blocks. -/
structure Hold (m : MdlD) (p : Ph) (lo hi H : Nat) (w : World) : Prop where
  mod : Mod (fun _ b _ => lo ≤ b ∧ b < hi) w m p
  box : Box w H (.string m.nm) (.slice p.a1 m.vars.length p.c1) (.slice p.a2 m.evs.length p.c2) (.slice p.a3 m.regs.length p.c3) (.slice p.a4 m.vers.length p.c4) (.slice p.a5 m.trns.length p.c5)
theorem Hold.below {m : MdlD} {p : Ph} {lo hi H : Nat} {w w' : World} (h : Hold m p lo hi H w) (g : Below w.heap.size w w') : Hold m p lo hi H w' := ⟨h.mod.below g, h.box.below g h.box.sl⟩
theorem Box.pl' {w wx : World} {lo hi H : Nat} {v0 v1 v2 v3 v4 v5 : Value} (h : Box w H v0 v1 v2 v3 v4 v5) (hb : Pl lo hi w wx) (hB : H < lo ∨ hi ≤ H) : Box wx H v0 v1 v2 v3 v4 v5 := by
  have hl : H < w.heap.size := World.block_lt_of_cell? w _ h.c0
  have hk := hb.block H hl hB
  have hc : ∀ k, wx.cell? ⟨H, k, none⟩ = w.cell? ⟨H, k, none⟩ := fun k => World.cell?_of_block (w := w) hk
  have hf : ∀ k, wx.frozen? ⟨H, k, none⟩ = w.frozen? ⟨H, k, none⟩ := fun k => World.frozen?_of_block (w := w) hk
  exact ⟨(hc 0).trans h.c0, (hc 1).trans h.c1, (hc 2).trans h.c2, (hc 3).trans h.c3, (hc 4).trans h.c4, (hc 5).trans h.c5, (hf 0).trans h.f0, (hf 1).trans h.f1, (hf 2).trans h.f2, (hf 3).trans h.f3, (hf 4).trans h.f4, (hf 5).trans h.f5⟩
theorem Hold.pl {m : MdlD} {p : Ph} {lo hi H : Nat} {w w' : World} (h : Hold m p lo hi H w) {l k : Nat} (g : Pl l k w w') (h1 : hi ≤ l ∨ k ≤ lo) (h2 : H < l ∨ k ≤ H) : Hold m p lo hi H w' :=
  ⟨h.mod.kept fun _ => g.kept fun b _ hb => by omega, h.box.pl' g h2⟩
/-- A copy in a box. -/
structure Cpy (m : MdlD) (p : Ph) (q : Nat → Nat) (H : Nat) (w : World) : Prop where
  mod : Mod (Lay q) w m p
  mono : ∀ j, q j ≤ q (j + 1)
  top : q 7 ≤ H
  box : Box w H (.string m.nm) (.slice p.a1 m.vars.length p.c1) (.slice p.a2 m.evs.length p.c2) (.slice p.a3 m.regs.length p.c3) (.slice p.a4 m.vers.length p.c4) (.slice p.a5 m.trns.length p.c5)
theorem Cpy.below {m : MdlD} {p : Ph} {q : Nat → Nat} {H : Nat} {w w' : World} (h : Cpy m p q H w) (g : Below w.heap.size w w') : Cpy m p q H w' := ⟨h.mod.below g, h.mono, h.top, h.box.below g h.box.sl⟩
theorem Cpy.sz {m : MdlD} {p : Ph} {q : Nat → Nat} {H : Nat} {w : World} (h : Cpy m p q H w) : q 7 ≤ w.heap.size := Nat.le_of_lt (Nat.lt_of_le_of_lt h.top h.box.sl)
theorem Cpy.pl {m : MdlD} {p : Ph} {q : Nat → Nat} {H : Nat} {w w' : World} (h : Cpy m p q H w) {l k : Nat} (g : Pl l k w w') (h1 : k ≤ q 0) : Cpy m p q H w' :=
  ⟨h.mod.kept fun j => by
    refine ⟨g.size, fun b hb hQ => g.block b hb (.inr ?_)⟩
    have h2 : q j ≤ b := hQ.1
    have h3 := q_le h.mono (Nat.zero_le j)
    omega, h.mono, h.top, h.box.pl' g (.inr (by have := q_le h.mono (Nat.zero_le 7); have := h.top; omega))⟩
/-- What the law has made: the model, the reference's. -/
structure S2 (m : MdlD) (w : World) (p p1 : Ph) (R : Nat) (wx : World) : Prop where
  bel : Below w.heap.size w wx
  hm : Hold m p 0 w.heap.size w.heap.size wx
  hr : Hold m p1 0 R R wx
  lt : w.heap.size < R
structure S3 (m : MdlD) (w : World) (p p1 pa : Ph) (R A : Nat) (qa : Nat → Nat) (wx : World) : Prop where
  s2 : S2 m w p p1 R wx
  ca : Cpy m pa qa A wx
  lt : R < qa 0
structure S4 (m : MdlD) (w : World) (p p1 pa pb : Ph) (R A B : Nat) (qa qb : Nat → Nat) (wx : World) : Prop where
  s3 : S3 m w p p1 pa R A qa wx
  cb : Cpy m pb qb B wx
  lt : A < qb 0
theorem S2.below {m : MdlD} {w : World} {p p1 : Ph} {R : Nat} {wx wy : World} (h : S2 m w p p1 R wx) (g : Below wx.heap.size wx wy) : S2 m w p p1 R wy := ⟨h.bel.trans (g.mono h.bel.size), h.hm.below g, h.hr.below g, h.lt⟩
theorem S3.below {m : MdlD} {w : World} {p p1 pa : Ph} {R A : Nat} {qa : Nat → Nat} {wx wy : World} (h : S3 m w p p1 pa R A qa wx) (g : Below wx.heap.size wx wy) : S3 m w p p1 pa R A qa wy := ⟨h.s2.below g, h.ca.below g, h.lt⟩
theorem S4.below {m : MdlD} {w : World} {p p1 pa pb : Ph} {R A B : Nat} {qa qb : Nat → Nat} {wx wy : World} (h : S4 m w p p1 pa pb R A B qa qb wx) (g : Below wx.heap.size wx wy) : S4 m w p p1 pa pb R A B qa qb wy := ⟨h.s3.below g, h.cb.below g, h.lt⟩
theorem S2.made {m : MdlD} {w : World} {p p1 : Ph} {wx : World} (hb : Below w.heap.size w wx) (hm : Hold m p 0 w.heap.size w.heap.size wx) (hr : Mod anyM wx m p1) : S2 m w p p1 wx.heap.size (wx.alloc (.cells #[.string m.nm, .slice p1.a1 m.vars.length p1.c1, .slice p1.a2 m.evs.length p1.c2, .slice p1.a3 m.regs.length p1.c3, .slice p1.a4 m.vers.length p1.c4, .slice p1.a5 m.trns.length p1.c5] 38)) := by
  have g := below_al1 wx (.cells #[.string m.nm, .slice p1.a1 m.vars.length p1.c1, .slice p1.a2 m.evs.length p1.c2, .slice p1.a3 m.regs.length p1.c3, .slice p1.a4 m.vers.length p1.c4, .slice p1.a5 m.trns.length p1.c5] 38)
  exact ⟨hb.trans (g.mono hb.size), hm.below g, ⟨(hr.weaken fun _ _ h _ => ⟨Nat.zero_le _, h⟩).below g, made_box _ _ _ _ _ _ _ _⟩, hm.box.sl⟩
theorem Cpy.made {m : MdlD} {p : Ph} {q : Nat → Nat} {wx : World} (h : Mod (Lay q) wx m p) (hq : ∀ j, q j ≤ q (j + 1)) (hz : q 7 ≤ wx.heap.size) : Cpy m p q wx.heap.size (wx.alloc (.cells #[.string m.nm, .slice p.a1 m.vars.length p.c1, .slice p.a2 m.evs.length p.c2, .slice p.a3 m.regs.length p.c3, .slice p.a4 m.vers.length p.c4, .slice p.a5 m.trns.length p.c5] 28)) :=
  ⟨h.below (below_al1 wx (.cells #[.string m.nm, .slice p.a1 m.vars.length p.c1, .slice p.a2 m.evs.length p.c2, .slice p.a3 m.regs.length p.c3, .slice p.a4 m.vers.length p.c4, .slice p.a5 m.trns.length p.c5] 28)), hq, hz, made_box _ _ _ _ _ _ _ _⟩
theorem S2.copied {m : MdlD} {w : World} {p p1 pa : Ph} {R : Nat} {qa : Nat → Nat} {wx wy : World} (h : S2 m w p p1 R wx) (ha : Mod (Lay qa) wy m pa) (h0 : wx.heap.size ≤ qa 0) (hq : ∀ j, qa j ≤ qa (j + 1)) (hz : qa 7 ≤ wy.heap.size) (g : Below wx.heap.size wx wy) :
    S3 m w p p1 pa R wy.heap.size qa (wy.alloc (.cells #[.string m.nm, .slice pa.a1 m.vars.length pa.c1, .slice pa.a2 m.evs.length pa.c2, .slice pa.a3 m.regs.length pa.c3, .slice pa.a4 m.vers.length pa.c4, .slice pa.a5 m.trns.length pa.c5] 28)) :=
  ⟨(h.below g).below (below_al1 wy (.cells #[.string m.nm, .slice pa.a1 m.vars.length pa.c1, .slice pa.a2 m.evs.length pa.c2, .slice pa.a3 m.regs.length pa.c3, .slice pa.a4 m.vers.length pa.c4, .slice pa.a5 m.trns.length pa.c5] 28)), Cpy.made ha hq hz, Nat.lt_of_lt_of_le h.hr.box.sl h0⟩
theorem S3.copied {m : MdlD} {w : World} {p p1 pa pb : Ph} {R A : Nat} {qa qb : Nat → Nat} {wx wy : World} (h : S3 m w p p1 pa R A qa wx) (ha : Mod (Lay qb) wy m pb) (h0 : wx.heap.size ≤ qb 0) (hq : ∀ j, qb j ≤ qb (j + 1)) (hz : qb 7 ≤ wy.heap.size) (g : Below wx.heap.size wx wy) :
    S4 m w p p1 pa pb R A wy.heap.size qa qb (wy.alloc (.cells #[.string m.nm, .slice pb.a1 m.vars.length pb.c1, .slice pb.a2 m.evs.length pb.c2, .slice pb.a3 m.regs.length pb.c3, .slice pb.a4 m.vers.length pb.c4, .slice pb.a5 m.trns.length pb.c5] 28)) :=
  ⟨(h.below g).below (below_al1 wy (.cells #[.string m.nm, .slice pb.a1 m.vars.length pb.c1, .slice pb.a2 m.evs.length pb.c2, .slice pb.a3 m.regs.length pb.c3, .slice pb.a4 m.vers.length pb.c4, .slice pb.a5 m.trns.length pb.c5] 28)), Cpy.made ha hq hz, Nat.lt_of_lt_of_le h.ca.box.sl h0⟩
theorem S4.spoiled {m : MdlD} {w : World} {p p1 pa pb : Ph} {R A B : Nat} {qa qb : Nat → Nat} {wx wy : World} (h : S4 m w p p1 pa pb R A B qa qb wx) (g : Pl (qa 0) (qa 7) wx wy) : S3 m w p p1 pb R B qb wy := by
  have a1 := h.s3.lt
  have a2 := h.s3.s2.lt
  have a3 := h.lt
  have a4 := h.s3.ca.top
  have a5 := q_le h.s3.ca.mono (Nat.zero_le 7)
  exact ⟨⟨h.s3.s2.bel.trans (g.below (by omega) h.s3.s2.bel.size), h.s3.s2.hm.pl g (.inl (by omega)) (.inl (by omega)), h.s3.s2.hr.pl g (.inl (by omega)) (.inl (by omega)), a2⟩, h.cb.pl g (by omega), by omega⟩

set_option maxRecDepth 100000 in
set_option maxHeartbeats 4000000 in
/-- 'ModelCopies'. -/
theorem modelCopies_any {Q : Nat → BP} (m : MdlD) (p : Ph) (w : World) (h1 : Mod Q w m p) (hm : MdlOk m) (hT : Tab w) :
    Calls Tryd.prog 4 #[mdV m p] w fun e w' => e = .returned (.bool true) ∧ Below w.heap.size w w' := by
  have F1 := Lib.hid (fun wx (hb : Below w.heap.size w wx) => few_any m p wx (h1.below hb) hm)
  have RM := Lib.hid (fun (hs : Sml m) (px : Ph) wx (hx : Mod anyM wx m px) => ref_any m px wx hx hs)
  have CM := Lib.hid (fun (hs : Sml m) (px : Ph) wx (hx : Mod anyM wx m px) => copy_any m px wx hx hs)
  have SP := Lib.hid (fun (hs : Sml m) (px : Ph) (qx : Nat → Nat) wx (hx : Mod (Lay qx) wx m px) (hq : ∀ j, qx j ≤ qx (j + 1)) (hz : qx 7 ≤ wx.heap.size) => spoil_any (q := qx) m px wx hx hq hz hs)
  have RS := Lib.hid (fun wx (p' q' : Ph) (ha : Mod anyM wx m p') (hb : Mod anyM wx m q') => rsame_any m m p' q' wx ha hb hm)
  have WK := Lib.hid (fun wx (hb : Below w.heap.size w wx) => works13 wx (hT.next hb))
  have S1 : Hid (∀ wx, Below (w.alloc (.cells #[.string m.nm, .slice p.a1 m.vars.length p.c1, .slice p.a2 m.evs.length p.c2, .slice p.a3 m.regs.length p.c3, .slice p.a4 m.vers.length p.c4, .slice p.a5 m.trns.length p.c5] 28)).heap.size (w.alloc (.cells #[.string m.nm, .slice p.a1 m.vars.length p.c1, .slice p.a2 m.evs.length p.c2, .slice p.a3 m.regs.length p.c3, .slice p.a4 m.vers.length p.c4, .slice p.a5 m.trns.length p.c5] 28)) wx → Below w.heap.size w wx ∧ Hold m p 0 w.heap.size w.heap.size wx) := fun wx g => by
    have gw := below_bx1 g
    exact ⟨gw, (h1.weaken fun _ _ h _ => ⟨Nat.zero_le _, h⟩).below gw, (box6 w m p).below g (by simp)⟩
  rw [sameM_refl] at RS
  unfold mdV at F1 RM CM SP RS ⊢
  clear h1 hm hT
  go_enter Tryd.func4, Tryd.ntmps4
  go_wp2_with fail
  refine (F1.out _ (below_al1 w _)).mono ?_
  rintro e w3 ⟨⟨b1, rfl, s1⟩, g3⟩
  have H3 := Lib.hid (S1.out w3 g3)
  obtain ⟨x0, x1, x2, x3, x4, x5, _⟩ := H3.out.2.box
  cases b1
  · go_wp2_with fail
    refine (WK.out _ H3.out.1).mono ?_
    rintro e w4 ⟨rfl, g4⟩
    go_wp2_with fail
    go_ret
    exact ⟨rfl, H3.out.1.trans (g4.mono H3.out.1.size)⟩
  have hs := Lib.hid (s1 rfl).sml
  clear s1 F1 S1 g3
  go_wp2_with fail
  refine (RM.out hs.out p _ H3.out.2.mod.any).mono ?_
  rintro e w4 ⟨p1, rfl, hr, g4⟩
  unfold mdV
  have H5 := Lib.hid (S2.made (p1 := p1) (H3.out.1.trans (g4.mono H3.out.1.size)) (H3.out.2.below g4) hr)
  clear hr x0 x1 x2 x3 x4 x5 g4
  go_upto_region 4 with fail
  generalize (w4.alloc (.cells #[.string m.nm, .slice p1.a1 m.vars.length p1.c1, .slice p1.a2 m.evs.length p1.c2, .slice p1.a3 m.regs.length p1.c3, .slice p1.a4 m.vers.length p1.c4, .slice p1.a5 m.trns.length p1.c5] 38)) = w5 at *
  obtain ⟨x0, x1, x2, x3, x4, x5, _⟩ := H5.out.hm.box
  go_wp2_with fail
  refine (CM.out hs.out p _ H5.out.hm.mod.any).mono ?_
  rintro e w6 ⟨pa, qa, rfl, ha, h0, hq, hz, g6⟩
  unfold mdV
  have H7 := Lib.hid (H5.out.copied ha h0 hq hz g6)
  clear ha h0 hq hz g6 x0 x1 x2 x3 x4 x5
  go_upto_region 5 with fail
  generalize (w6.alloc (.cells #[.string m.nm, .slice pa.a1 m.vars.length pa.c1, .slice pa.a2 m.evs.length pa.c2, .slice pa.a3 m.regs.length pa.c3, .slice pa.a4 m.vers.length pa.c4, .slice pa.a5 m.trns.length pa.c5] 28)) = w7 at *
  obtain ⟨y0, y1, y2, y3, y4, y5, _⟩ := H7.out.ca.box
  go_wp2_with fail
  refine (CM.out hs.out pa _ H7.out.ca.mod.any).mono ?_
  rintro e w8 ⟨pb, qb, rfl, hb, h0, hq, hz, g8⟩
  unfold mdV
  have H9 := Lib.hid (H7.out.copied hb h0 hq hz g8)
  clear hb h0 hq hz g8 y0 y1 y2 y3 y4 y5
  go_upto_region 6 with fail
  generalize (w8.alloc (.cells #[.string m.nm, .slice pb.a1 m.vars.length pb.c1, .slice pb.a2 m.evs.length pb.c2, .slice pb.a3 m.regs.length pb.c3, .slice pb.a4 m.vers.length pb.c4, .slice pb.a5 m.trns.length pb.c5] 28)) = w9 at *
  clear H5 H7
  have G10 := Lib.hid (H9.out.below (Below.refl _ w9).drew)
  obtain ⟨y0, y1, y2, y3, y4, y5, _⟩ := H9.out.s3.ca.box
  obtain ⟨z0, z1, z2, z3, z4, z5, _⟩ := H9.out.cb.box
  obtain ⟨v0, v1, v2, v3, v4, v5, _⟩ := H9.out.s3.s2.hr.box
  go_region_held3 (fun w' => w'.cell? ⟨w6.heap.size, 0, none⟩ = some (.string m.nm) ∧ w'.cell? ⟨w6.heap.size, 1, none⟩ = some (.slice pa.a1 m.vars.length pa.c1) ∧ w'.cell? ⟨w6.heap.size, 2, none⟩ = some (.slice pa.a2 m.evs.length pa.c2) ∧ w'.cell? ⟨w6.heap.size, 3, none⟩ = some (.slice pa.a3 m.regs.length pa.c3) ∧ w'.cell? ⟨w6.heap.size, 4, none⟩ = some (.slice pa.a4 m.vers.length pa.c4) ∧ w'.cell? ⟨w6.heap.size, 5, none⟩ = some (.slice pa.a5 m.trns.length pa.c5) ∧ w'.cell? ⟨w8.heap.size, 0, none⟩ = some (.string m.nm) ∧ w'.cell? ⟨w8.heap.size, 1, none⟩ = some (.slice pb.a1 m.vars.length pb.c1) ∧ w'.cell? ⟨w8.heap.size, 2, none⟩ = some (.slice pb.a2 m.evs.length pb.c2) ∧ w'.cell? ⟨w8.heap.size, 3, none⟩ = some (.slice pb.a3 m.regs.length pb.c3) ∧ w'.cell? ⟨w8.heap.size, 4, none⟩ = some (.slice pb.a4 m.vers.length pb.c4) ∧ w'.cell? ⟨w8.heap.size, 5, none⟩ = some (.slice pb.a5 m.trns.length pb.c5) ∧ w'.cell? ⟨w4.heap.size, 0, none⟩ = some (.string m.nm) ∧ w'.cell? ⟨w4.heap.size, 1, none⟩ = some (.slice p1.a1 m.vars.length p1.c1) ∧ w'.cell? ⟨w4.heap.size, 2, none⟩ = some (.slice p1.a2 m.evs.length p1.c2) ∧ w'.cell? ⟨w4.heap.size, 3, none⟩ = some (.slice p1.a3 m.regs.length p1.c3) ∧ w'.cell? ⟨w4.heap.size, 4, none⟩ = some (.slice p1.a4 m.vers.length p1.c4) ∧ w'.cell? ⟨w4.heap.size, 5, none⟩ = some (.slice p1.a5 m.trns.length p1.c5))
    (first | exact ⟨y0, y1, y2, y3, y4, y5, z0, z1, z2, z3, z4, z5, v0, v1, v2, v3, v4, v5⟩ | go_keep)
    (first
      | (go_at_call 14; ((with_reducible refine (RM.out hs.out pa _ G10.out.s3.ca.mod.any).mono ?_); rintro e w111 ⟨ra, rfl, hra, gw11⟩; have G11 := Lib.hid (G10.out.below gw11); have Hra11 := Lib.hid hra; unfold mdV; obtain ⟨y0, y1, y2, y3, y4, y5, _⟩ := G11.out.s3.ca.box; obtain ⟨z0, z1, z2, z3, z4, z5, _⟩ := G11.out.cb.box; obtain ⟨v0, v1, v2, v3, v4, v5, _⟩ := G11.out.s3.s2.hr.box))
      | (go_at_call 13; ((with_reducible refine (RS.out _ ra p1 Hra11.out G11.out.s3.s2.hr.mod.any).mono ?_); rintro e w112 ⟨rfl, gw12⟩; have G12 := Lib.hid (G11.out.below gw12); obtain ⟨y0, y1, y2, y3, y4, y5, _⟩ := G12.out.s3.ca.box; obtain ⟨z0, z1, z2, z3, z4, z5, _⟩ := G12.out.cb.box; obtain ⟨v0, v1, v2, v3, v4, v5, _⟩ := G12.out.s3.s2.hr.box))
      | (go_at_call 14; ((with_reducible refine (RM.out hs.out pb _ G12.out.cb.mod.any).mono ?_); rintro e w113 ⟨rb, rfl, hrb, gw13⟩; have G13 := Lib.hid (G12.out.below gw13); have Hrb13 := Lib.hid hrb; unfold mdV; obtain ⟨y0, y1, y2, y3, y4, y5, _⟩ := G13.out.s3.ca.box; obtain ⟨z0, z1, z2, z3, z4, z5, _⟩ := G13.out.cb.box; obtain ⟨v0, v1, v2, v3, v4, v5, _⟩ := G13.out.s3.s2.hr.box))
      | (go_at_call 13; ((with_reducible refine (RS.out _ rb p1 Hrb13.out G13.out.s3.s2.hr.mod.any).mono ?_); rintro e w114 ⟨rfl, gw14⟩; have G14 := Lib.hid (G13.out.below gw14); obtain ⟨y0, y1, y2, y3, y4, y5, _⟩ := G14.out.s3.ca.box; obtain ⟨z0, z1, z2, z3, z4, z5, _⟩ := G14.out.cb.box; obtain ⟨v0, v1, v2, v3, v4, v5, _⟩ := G14.out.s3.s2.hr.box)))
  go_wp2_with fail
  refine (SP.out hs.out pa qa _ G14.out.s3.ca.mod G14.out.s3.ca.mono G14.out.s3.ca.sz).mono ?_
  rintro e w20 ⟨rfl, hpl⟩
  have H20 := Lib.hid (G14.out.spoiled hpl)
  clear hpl y0 y1 y2 y3 y4 y5 z0 z1 z2 z3 z4 z5 v0 v1 v2 v3 v4 v5 H9
  have G20 := Lib.hid (H20.out.below (Below.refl _ w20).drew)
  obtain ⟨x0, x1, x2, x3, x4, x5, _⟩ := H20.out.s2.hm.box
  obtain ⟨z0, z1, z2, z3, z4, z5, _⟩ := H20.out.ca.box
  obtain ⟨v0, v1, v2, v3, v4, v5, _⟩ := H20.out.s2.hr.box
  go_wp2_with fail
  go_region_held3 (fun w' => w'.cell? ⟨w.heap.size, 0, none⟩ = some (.string m.nm) ∧ w'.cell? ⟨w.heap.size, 1, none⟩ = some (.slice p.a1 m.vars.length p.c1) ∧ w'.cell? ⟨w.heap.size, 2, none⟩ = some (.slice p.a2 m.evs.length p.c2) ∧ w'.cell? ⟨w.heap.size, 3, none⟩ = some (.slice p.a3 m.regs.length p.c3) ∧ w'.cell? ⟨w.heap.size, 4, none⟩ = some (.slice p.a4 m.vers.length p.c4) ∧ w'.cell? ⟨w.heap.size, 5, none⟩ = some (.slice p.a5 m.trns.length p.c5) ∧ w'.cell? ⟨w8.heap.size, 0, none⟩ = some (.string m.nm) ∧ w'.cell? ⟨w8.heap.size, 1, none⟩ = some (.slice pb.a1 m.vars.length pb.c1) ∧ w'.cell? ⟨w8.heap.size, 2, none⟩ = some (.slice pb.a2 m.evs.length pb.c2) ∧ w'.cell? ⟨w8.heap.size, 3, none⟩ = some (.slice pb.a3 m.regs.length pb.c3) ∧ w'.cell? ⟨w8.heap.size, 4, none⟩ = some (.slice pb.a4 m.vers.length pb.c4) ∧ w'.cell? ⟨w8.heap.size, 5, none⟩ = some (.slice pb.a5 m.trns.length pb.c5) ∧ w'.cell? ⟨w4.heap.size, 0, none⟩ = some (.string m.nm) ∧ w'.cell? ⟨w4.heap.size, 1, none⟩ = some (.slice p1.a1 m.vars.length p1.c1) ∧ w'.cell? ⟨w4.heap.size, 2, none⟩ = some (.slice p1.a2 m.evs.length p1.c2) ∧ w'.cell? ⟨w4.heap.size, 3, none⟩ = some (.slice p1.a3 m.regs.length p1.c3) ∧ w'.cell? ⟨w4.heap.size, 4, none⟩ = some (.slice p1.a4 m.vers.length p1.c4) ∧ w'.cell? ⟨w4.heap.size, 5, none⟩ = some (.slice p1.a5 m.trns.length p1.c5))
    (first | exact ⟨x0, x1, x2, x3, x4, x5, z0, z1, z2, z3, z4, z5, v0, v1, v2, v3, v4, v5⟩ | go_keep)
    (first
      | (go_at_call 14; ((with_reducible refine (RM.out hs.out p _ G20.out.s2.hm.mod.any).mono ?_); rintro e w121 ⟨rc, rfl, hrc, gw21⟩; have G21 := Lib.hid (G20.out.below gw21); have Hrc21 := Lib.hid hrc; unfold mdV; obtain ⟨x0, x1, x2, x3, x4, x5, _⟩ := G21.out.s2.hm.box; obtain ⟨z0, z1, z2, z3, z4, z5, _⟩ := G21.out.ca.box; obtain ⟨v0, v1, v2, v3, v4, v5, _⟩ := G21.out.s2.hr.box))
      | (go_at_call 13; ((with_reducible refine (RS.out _ rc p1 Hrc21.out G21.out.s2.hr.mod.any).mono ?_); rintro e w122 ⟨rfl, gw22⟩; have G22 := Lib.hid (G21.out.below gw22); obtain ⟨x0, x1, x2, x3, x4, x5, _⟩ := G22.out.s2.hm.box; obtain ⟨z0, z1, z2, z3, z4, z5, _⟩ := G22.out.ca.box; obtain ⟨v0, v1, v2, v3, v4, v5, _⟩ := G22.out.s2.hr.box))
      | (go_at_call 14; ((with_reducible refine (RM.out hs.out pb _ G22.out.ca.mod.any).mono ?_); rintro e w123 ⟨rd, rfl, hrd, gw23⟩; have G23 := Lib.hid (G22.out.below gw23); have Hrd23 := Lib.hid hrd; unfold mdV; obtain ⟨x0, x1, x2, x3, x4, x5, _⟩ := G23.out.s2.hm.box; obtain ⟨z0, z1, z2, z3, z4, z5, _⟩ := G23.out.ca.box; obtain ⟨v0, v1, v2, v3, v4, v5, _⟩ := G23.out.s2.hr.box))
      | (go_at_call 13; ((with_reducible refine (RS.out _ rd p1 Hrd23.out G23.out.s2.hr.mod.any).mono ?_); rintro e w124 ⟨rfl, gw24⟩; have G24 := Lib.hid (G23.out.below gw24); obtain ⟨x0, x1, x2, x3, x4, x5, _⟩ := G24.out.s2.hm.box; obtain ⟨z0, z1, z2, z3, z4, z5, _⟩ := G24.out.ca.box; obtain ⟨v0, v1, v2, v3, v4, v5, _⟩ := G24.out.s2.hr.box)))
  go_wp2_with fail
  refine (CM.out hs.out pb _ G24.out.ca.mod.any).mono ?_
  rintro e w30 ⟨pc, qc, rfl, hc, h0, hq, hz, g30⟩
  unfold mdV
  have H30 := Lib.hid (G24.out.copied hc h0 hq hz g30)
  clear hc h0 hq hz g30 x0 x1 x2 x3 x4 x5 z0 z1 z2 z3 z4 z5 v0 v1 v2 v3 v4 v5 H20
  go_upto_region 12 with fail
  generalize (w30.alloc (.cells #[.string m.nm, .slice pc.a1 m.vars.length pc.c1, .slice pc.a2 m.evs.length pc.c2, .slice pc.a3 m.regs.length pc.c3, .slice pc.a4 m.vers.length pc.c4, .slice pc.a5 m.trns.length pc.c5] 28)) = w31 at *
  obtain ⟨z0, z1, z2, z3, z4, z5, _⟩ := H30.out.s3.ca.box
  go_wp2_with fail
  refine (SP.out hs.out pb qb _ H30.out.s3.ca.mod H30.out.s3.ca.mono H30.out.s3.ca.sz).mono ?_
  rintro e w32 ⟨rfl, hpl⟩
  have H32 := Lib.hid (H30.out.spoiled hpl)
  clear hpl z0 z1 z2 z3 z4 z5 H30
  have G32 := Lib.hid (H32.out.below (Below.refl _ w32).drew)
  obtain ⟨y0, y1, y2, y3, y4, y5, _⟩ := H32.out.ca.box
  obtain ⟨v0, v1, v2, v3, v4, v5, _⟩ := H32.out.s2.hr.box
  go_wp2_with fail
  go_region_held3 (fun w' => w'.cell? ⟨w30.heap.size, 0, none⟩ = some (.string m.nm) ∧ w'.cell? ⟨w30.heap.size, 1, none⟩ = some (.slice pc.a1 m.vars.length pc.c1) ∧ w'.cell? ⟨w30.heap.size, 2, none⟩ = some (.slice pc.a2 m.evs.length pc.c2) ∧ w'.cell? ⟨w30.heap.size, 3, none⟩ = some (.slice pc.a3 m.regs.length pc.c3) ∧ w'.cell? ⟨w30.heap.size, 4, none⟩ = some (.slice pc.a4 m.vers.length pc.c4) ∧ w'.cell? ⟨w30.heap.size, 5, none⟩ = some (.slice pc.a5 m.trns.length pc.c5) ∧ w'.cell? ⟨w4.heap.size, 0, none⟩ = some (.string m.nm) ∧ w'.cell? ⟨w4.heap.size, 1, none⟩ = some (.slice p1.a1 m.vars.length p1.c1) ∧ w'.cell? ⟨w4.heap.size, 2, none⟩ = some (.slice p1.a2 m.evs.length p1.c2) ∧ w'.cell? ⟨w4.heap.size, 3, none⟩ = some (.slice p1.a3 m.regs.length p1.c3) ∧ w'.cell? ⟨w4.heap.size, 4, none⟩ = some (.slice p1.a4 m.vers.length p1.c4) ∧ w'.cell? ⟨w4.heap.size, 5, none⟩ = some (.slice p1.a5 m.trns.length p1.c5))
    (first | exact ⟨y0, y1, y2, y3, y4, y5, v0, v1, v2, v3, v4, v5⟩ | go_keep)
    (first
      | (go_at_call 14; ((with_reducible refine (RM.out hs.out pc _ G32.out.ca.mod.any).mono ?_); rintro e w133 ⟨re, rfl, hre, gw33⟩; have G33 := Lib.hid (G32.out.below gw33); have Hre33 := Lib.hid hre; unfold mdV; obtain ⟨y0, y1, y2, y3, y4, y5, _⟩ := G33.out.ca.box; obtain ⟨v0, v1, v2, v3, v4, v5, _⟩ := G33.out.s2.hr.box))
      | (go_at_call 13; ((with_reducible refine (RS.out _ re p1 Hre33.out G33.out.s2.hr.mod.any).mono ?_); rintro e w134 ⟨rfl, gw34⟩; have G34 := Lib.hid (G33.out.below gw34); obtain ⟨y0, y1, y2, y3, y4, y5, _⟩ := G34.out.ca.box; obtain ⟨v0, v1, v2, v3, v4, v5, _⟩ := G34.out.s2.hr.box))
      | (go_at_call 11; ((with_reducible refine (WK.out _ G34.out.s2.bel).mono ?_); rintro e w135 ⟨rfl, gw35⟩; have G35 := Lib.hid (G34.out.below gw35); obtain ⟨y0, y1, y2, y3, y4, y5, _⟩ := G35.out.ca.box; obtain ⟨v0, v1, v2, v3, v4, v5, _⟩ := G35.out.s2.hr.box)))
  go_wp2_with fail
  go_ret
  exact ⟨rfl, G35.out.s2.bel⟩
end Go.Proofs
