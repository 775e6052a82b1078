/- Walks: the law 'ModelLess'. -/
import Derived.Test.YtckflfkfjpjkjaaDoorMdLs
import Derived.Test.YtckflfkfjpjkjaaDoorMdPk
import Derived.Test.YtckflfkfjpjkjaaDoorMdSa
import Derived.KernelRfl
import Derived.Deep.RegionHeld3
import Derived.Deep.RegionLaw
import Derived.Deep.DeepCutAuto
import Derived.Deep.AppendLies
namespace Go.Proofs
open Go.RowKit Go.Lx Go.Md Go.Shelf
set_option linter.unusedVariables false
/-- The frame at the statement with three variables. -/
def fr7 (m : MdlD) (p : Ph) (i : Int) (H : Nat) (u0 u1 u2 u3 u4 u5 : Value) : Act := { tmps := #[(.agg #[.string m.nm, .slice p.a1 m.vars.length p.c1, .slice p.a2 m.evs.length p.c2, .slice p.a3 m.regs.length p.c3, .slice p.a4 m.vers.length p.c4, .slice p.a5 m.trns.length p.c5]), .int .i64 i, .pointer (some ⟨H, 0, none⟩), undef, .bool false, .int .u8 0, .int .i64 0, .int .i64 0, (.int .i64 m.trns.length), u3, u4, u5, undef, undef, undef, undef, undef, undef, undef, undef, undef, undef, undef, (.agg #[.string m.nm, .slice p.a1 m.vars.length p.c1, .slice p.a2 m.evs.length p.c2, .slice p.a3 m.regs.length p.c3, .slice p.a4 m.vers.length p.c4, .slice p.a5 m.trns.length p.c5]), .bool true, .bool false, .bool false, (.pointer (some ⟨H, 5, none⟩)), (.slice p.a5 m.trns.length p.c5), (.int .i64 m.trns.length), .bool false, .bool false, .bool false, (.pointer (some ⟨H, 5, none⟩)), (.slice p.a5 m.trns.length p.c5), (.int .i64 m.trns.length), .bool (decide ((40 : Int) < m.trns.length)), .bool (decide ((40 : Int) < m.trns.length)), undef, (.tuple #[.int .u8 0, .int .i64 0, .int .i64 0]), (.agg #[.string m.nm, .slice p.a1 m.vars.length p.c1, .slice p.a2 m.evs.length p.c2, .slice p.a3 m.regs.length p.c3, .slice p.a4 m.vers.length p.c4, .slice p.a5 m.trns.length p.c5]), (.tuple #[.int .u8 0, .int .i64 0, .int .i64 0]), .int .u8 0, .int .i64 0, .int .i64 0, .int .i64 0, .bool false, undef, undef, undef, undef, undef, undef, (.pointer (some ⟨H, 5, none⟩)), (.slice p.a5 m.trns.length p.c5), (.int .i64 m.trns.length), u0, u1, u2, undef, undef, undef, undef, undef, undef, undef, undef, undef, undef, undef, undef, undef, undef, undef, undef, undef, undef, undef, undef, undef, undef, undef, undef, undef, undef, undef, undef, undef, undef, undef, undef, undef, undef, undef, undef, undef, undef, undef, undef, undef, undef, undef, undef, undef, undef, undef, undef, undef, undef, undef, undef, undef, undef, undef, undef, undef, undef, undef, undef, undef, undef, undef, undef, undef, undef, undef, undef, undef], defers := [] }
def I7 (W : World) (m : MdlD) (p : Ph) (i : Int) (H : Nat) (l : Array Bool) (a : Act) (w : World) : Prop :=
  ∃ (B0 B1 B2 : Nat) (l0 l1 l2 l3 l4 l5 l6 l7 l8 : Bool) (u0 u1 u2 u3 u4 u5 : Value), l = #[l0, l1, l2, l3, l4, l5, l6, l7, l8] ∧ a = fr7 m p i H u0 u1 u2 u3 u4 u5 ∧ J7 W m p B0 B1 B2 l0 l1 l2 l3 l4 l5 l6 l7 l8 u0 u1 u2 u3 u4 u5 w
/-- Of a right model with other transitions, each of which was there, it is told that it is right. -/
theorem right_trns {Q : Nat → BP} (m : MdlD) (p : Ph) (w : World) (h : Mod Q w m p) (hT : Tab w) (hm : MdlOk m) (h0 : riM m = (0, 0, 0)) (l : List TrnD) (n : Nat) (hn : l.length = n) (hl : n ≤ 512) (hs : ∀ x ∈ l, x ∈ m.trns) (a : Option Addr) (c : Nat) (hl2 : Sl anyB 8 (TrnE anyB) w (.slice a n c) l) :
    Calls Tryd.prog 17 #[.agg #[.string m.nm, .slice p.a1 m.vars.length p.c1, .slice p.a2 m.evs.length p.c2, .slice p.a3 m.regs.length p.c3, .slice p.a4 m.vers.length p.c4, .slice a n c]] w fun e w' => e = .returned (.tuple #[.int .u8 0, .int .i64 0, .int .i64 0]) ∧ Below w.heap.size w w' := by
  subst hn
  have := right_any { m with trns := l } { p with a5 := a, c5 := c } w (h.trns_at hl2) hT (hm.trns_at (by omega) hs)
  rw [riM_trns h0 hl hs] at this
  exact this
set_option maxRecDepth 100000 in
set_option maxHeartbeats 8000000 in
theorem modelLess_any {Q : Nat → BP} (m : MdlD) (p : Ph) (i : Int) (w : World) (h1 : Mod Q w m p) (hm : MdlOk m) (hT : Tab w) (hi1 : -9223372036854775808 ≤ i) (hi2 : i ≤ 9223372036854775807) :
    Calls Tryd.prog 5 #[mdV m p, .int .i64 i] w fun e w' => e = .returned (.bool true) ∧ Below w.heap.size w w' := by
  have F1 := Lib.hid (fun wx (hb : Below w.heap.size w wx) => few_any m p wx (h1.below hb) hm)
  have R1 := Lib.hid (fun wx (hb : Below w.heap.size w wx) => right_any m p wx (h1.below hb) (hT.next hb) hm)
  have RR := Lib.hid (fun (h0 : riM m = (0, 0, 0)) (l : List TrnD) (n : Nat) (hn : l.length = n) (hl : n ≤ 512) (hs : ∀ x ∈ l, x ∈ m.trns) (a : Option Addr) (c : Nat) wx (hb : Below w.heap.size w wx) (hl2 : Sl anyB 8 (TrnE anyB) wx (.slice a n c) l) => right_trns m p wx (h1.below hb) (hT.next hb) hm h0 l n hn hl hs a c hl2)
  have WK := Lib.hid (fun wx (hb : Below w.heap.size w wx) => works13 wx (hT.next hb))
  have B0 : Hid (∀ wx, Below (w.alloc (.cells #[.string m.nm, .slice p.a1 m.vars.length p.c1, .slice p.a2 m.evs.length p.c2, .slice p.a3 m.regs.length p.c3, .slice p.a4 m.vers.length p.c4, .slice p.a5 m.trns.length p.c5] 28)).heap.size (w.alloc (.cells #[.string m.nm, .slice p.a1 m.vars.length p.c1, .slice p.a2 m.evs.length p.c2, .slice p.a3 m.regs.length p.c3, .slice p.a4 m.vers.length p.c4, .slice p.a5 m.trns.length p.c5] 28)) wx → Below w.heap.size w wx ∧ Box wx w.heap.size (.string m.nm) (.slice p.a1 m.vars.length p.c1) (.slice p.a2 m.evs.length p.c2) (.slice p.a3 m.regs.length p.c3) (.slice p.a4 m.vers.length p.c4) (.slice p.a5 m.trns.length p.c5)) := fun wx g => ⟨below_bx1 g, (box6 w m p).below g (by simp)⟩
  have HMod : Hid (∀ wx, Below w.heap.size w wx → Mod (fun _ => OldB w.heap.size) wx m p) := fun wx g => (h1.weaken fun _ _ h _ => h).below g
  have HR := Lib.hid (riM_fine m)
  generalize hr : riM m = r at R1 HR
  have HRE := Lib.hid hr
  clear hr
  unfold mdV at F1 R1 ⊢
  clear h1 hm hT
  go_enter Tryd.func5, Tryd.ntmps5
  go_wp2_with fail
  refine (F1.out _ (below_al1 w _)).mono ?_
  rintro e w3 ⟨⟨b1, rfl, s1⟩, g3⟩
  have H3 := Lib.hid (B0.out w3 g3)
  obtain ⟨x0, x1, x2, x3, x4, x5, _⟩ := H3.out.2
  clear F1 g3
  cases b1
  · go_wp2_with fail
    refine (WK.out _ H3.out.1).mono ?_
    rintro e w4 ⟨rfl, g4⟩
    go_wp2_with fail
    go_ret
    exact ⟨rfl, H3.out.1.trans (g4.mono H3.out.1.size)⟩
  have HS := Lib.hid (s1 rfl)
  clear s1
  cases hn0 : ((m.trns.length : Int) == 0) with
  | true =>
    go_wp2_with fail
    refine (WK.out _ H3.out.1).mono ?_
    rintro e w4 ⟨rfl, g4⟩
    go_wp2_with fail
    go_ret
    exact ⟨rfl, H3.out.1.trans (g4.mono H3.out.1.size)⟩
  | false =>
  by_cases hn40 : (40 : Int) < (m.trns.length : Int)
  · go_wp2_with fail
    refine (WK.out _ H3.out.1).mono ?_
    rintro e w4 ⟨rfl, g4⟩
    go_wp2_with fail
    go_ret
    exact ⟨rfl, H3.out.1.trans (g4.mono H3.out.1.size)⟩
  have hnp : 0 < m.trns.length := by have := beq_eq_false_iff_ne.1 hn0; omega
  have hle : m.trns.length ≤ 40 := by omega
  go_wp2_with fail
  refine (R1.out _ H3.out.1).mono ?_
  rintro e w4 ⟨rfl, g4⟩
  have H4 : Hid (Below w.heap.size w w4 ∧ Box w4 w.heap.size (.string m.nm) (.slice p.a1 m.vars.length p.c1) (.slice p.a2 m.evs.length p.c2) (.slice p.a3 m.regs.length p.c3) (.slice p.a4 m.vers.length p.c4) (.slice p.a5 m.trns.length p.c5)) := ⟨H3.out.1.trans (g4.mono H3.out.1.size), H3.out.2.below g4 H3.out.2.sl⟩
  clear x0 x1 x2 x3 x4 x5 g4
  obtain ⟨x0, x1, x2, x3, x4, x5, _⟩ := H4.out.2
  obtain ⟨ra, rb, rc⟩ := r
  rcases HR.out with h0 | ⟨_, h0 | h0⟩
  rotate_left
  · simp only at h0
    subst h0
    go_wp2_with fail
    go_ret
    exact ⟨rfl, H4.out.1⟩
  · simp only at h0
    subst h0
    go_wp2_with fail
    go_ret
    exact ⟨rfl, H4.out.1⟩
  simp only [Prod.mk.injEq] at h0
  obtain ⟨rfl, rfl, rfl⟩ := h0
  clear H3 HR R1
  go_upto_region 7 with fail
  have hzH : w.heap.size < w4.heap.size := H4.out.2.sl
  clear x0 x1 x2 x3 x4 x5
  go_cut [9, 10, 11] (fun s3 s4 s5 wx => R7S w4 m p s3 s4 s5 wx)
  case first =>
    refine Rgi.wp_region_inv (by kernel_rfl) (I7 w4 m p i w.heap.size) (by kernel_rfl) ?h0 ?hstep ?hend
    case h0 =>
      refine ⟨0, 0, 0, false, false, false, false, false, false, false, false, false, _, _, _, _, _, _, rfl, rfl, ?_⟩
      constructor <;> first | exact (Below.refl _ _).drew | (intro h; cases h)
    case hstep =>
      intro l a wx hs hI k o ho hl he
      obtain ⟨B0, B1, B2, l0, l1, l2, l3, l4, l5, l6, l7, l8, u0, u1, u2, u3, u4, u5, rfl, rfl, hJ⟩ := hI
      have hi : k < 9 := (Array.getElem?_eq_some_iff.1 ho).1
      have hi12 : k = 0 ∨ k = 1 ∨ k = 2 ∨ k = 3 ∨ k = 4 ∨ k = 5 ∨ k = 6 ∨ k = 7 ∨ k = 8 := by omega
      clear hi
      rcases hi12 with rfl | rfl | rfl | rfl | rfl | rfl | rfl | rfl | rfl
      · simp only [List.getElem?_toArray, List.getElem?_cons_zero, Option.some.injEq] at ho
        subst ho
        obtain ⟨b0, b1, b2, b3, b4, b5, f0, f1, f2, f3, f4, f5⟩ := H4.out.2.below hJ.bel hzH
        refine Rgi.step_of rfl fun K hK => ?_
        unfold fr7 at hK ⊢
        rw [if_pos (by rfl)]
        go_simp
        exact hK _ _ ⟨B0, B1, B2, _, _, _, _, _, _, _, _, _, _, _, _, _, _, _, rfl, rfl, J7.read0 hJ⟩
      · simp only [List.getElem?_toArray, List.getElem?_cons_zero, List.getElem?_cons_succ, Option.some.injEq] at ho
        subst ho
        obtain ⟨b0, b1, b2, b3, b4, b5, f0, f1, f2, f3, f4, f5⟩ := H4.out.2.below hJ.bel hzH
        refine Rgi.step_of rfl fun K hK => ?_
        unfold fr7 at hK ⊢
        rw [if_pos (by rfl)]
        go_simp
        exact hK _ _ ⟨B0, B1, B2, _, _, _, _, _, _, _, _, _, _, _, _, _, _, _, rfl, rfl, J7.read1 hJ⟩
      · simp only [List.getElem?_toArray, List.getElem?_cons_zero, List.getElem?_cons_succ, Option.some.injEq] at ho
        subst ho
        obtain ⟨b0, b1, b2, b3, b4, b5, f0, f1, f2, f3, f4, f5⟩ := H4.out.2.below hJ.bel hzH
        refine Rgi.step_of rfl fun K hK => ?_
        unfold fr7 at hK ⊢
        rw [if_pos (by rfl)]
        go_simp
        exact hK _ _ ⟨B0, B1, B2, _, _, _, _, _, _, _, _, _, _, _, _, _, _, _, rfl, rfl, J7.read2 hJ⟩
      · simp only [List.getElem?_toArray, List.getElem?_cons_zero, List.getElem?_cons_succ, Option.some.injEq] at ho
        subst ho
        refine Rgi.step_of rfl fun K hK => ?_
        unfold fr7 at hK ⊢
        rw [if_pos (by rfl)]
        go_simp
        exact hK _ _ ⟨wx.heap.size, B1, B2, _, _, _, _, _, _, _, _, _, _, _, _, _, _, _, rfl, rfl, J7.alloc0 hJ hl⟩
      · simp only [List.getElem?_toArray, List.getElem?_cons_zero, List.getElem?_cons_succ, Option.some.injEq] at ho
        subst ho
        refine Rgi.step_of rfl fun K hK => ?_
        unfold fr7 at hK ⊢
        rw [if_pos (by rfl)]
        go_simp
        exact hK _ _ ⟨B0, wx.heap.size, B2, _, _, _, _, _, _, _, _, _, _, _, _, _, _, _, rfl, rfl, J7.alloc1 hJ hl⟩
      · simp only [List.getElem?_toArray, List.getElem?_cons_zero, List.getElem?_cons_succ, Option.some.injEq] at ho
        subst ho
        refine Rgi.step_of rfl fun K hK => ?_
        unfold fr7 at hK ⊢
        rw [if_pos (by rfl)]
        go_simp
        exact hK _ _ ⟨B0, B1, wx.heap.size, _, _, _, _, _, _, _, _, _, _, _, _, _, _, _, rfl, rfl, J7.alloc2 hJ hl⟩
      · simp only [List.getElem?_toArray, List.getElem?_cons_zero, List.getElem?_cons_succ, Option.some.injEq] at ho
        subst ho
        have c0 : l3 = true := he { on := 3, ground := .data } (by simp) (by decide)
        have c1 : l0 = true := he { on := 0, ground := .data } (by simp) (by decide)
        have hx := hJ.x0 c0
        obtain rfl := hx.ptr
        obtain rfl := hJ.v0 c1
        obtain ⟨v0, v1, v2, v3, v4, v5, hbx⟩ := hx.has
        have HBX := Lib.hid hbx
        have HJ := Lib.hid hJ
        have hxl := hx.hi
        obtain ⟨b0, b1, b2, b3, b4, b5, f0, f1, f2, f3, f4, f5⟩ := hbx
        have HN := Lib.hid (J7.store0 HJ.out c0 (w1 := set6 wx B0 (.string m.nm) (.slice p.a1 m.vars.length p.c1) (.slice p.a2 m.evs.length p.c2) (.slice p.a3 m.regs.length p.c3) (.slice p.a4 m.vers.length p.c4) (.slice p.a5 m.trns.length p.c5)) (set6_meta _ _ _ _ _ _ _ _) (set6_size _ _ _ _ _ _ _ _) (set6_far _ _ _ _ _ _ _ _) (set6_box HBX.out _ _ _ _ _ _))
        unfold set6 mdV at HN
        clear hx hJ HJ HBX
        refine Rgi.step_of rfl fun K hK => ?_
        unfold fr7
        unfold mdV
        rw [if_pos (by rfl)]
        go_simp
        exact hK _ _ ⟨B0, B1, B2, _, _, _, _, _, _, _, _, _, _, _, _, _, _, _, rfl, rfl, HN.out⟩
      · simp only [List.getElem?_toArray, List.getElem?_cons_zero, List.getElem?_cons_succ, Option.some.injEq] at ho
        subst ho
        have c0 : l4 = true := he { on := 4, ground := .data } (by simp) (by decide)
        have c1 : l1 = true := he { on := 1, ground := .data } (by simp) (by decide)
        have hx := hJ.x1 c0
        obtain rfl := hx.ptr
        obtain rfl := hJ.v1 c1
        obtain ⟨v0, v1, v2, v3, v4, v5, hbx⟩ := hx.has
        have HBX := Lib.hid hbx
        have HJ := Lib.hid hJ
        have hxl := hx.hi
        obtain ⟨b0, b1, b2, b3, b4, b5, f0, f1, f2, f3, f4, f5⟩ := hbx
        have HN := Lib.hid (J7.store1 HJ.out c0 (w1 := set6 wx B1 (.string m.nm) (.slice p.a1 m.vars.length p.c1) (.slice p.a2 m.evs.length p.c2) (.slice p.a3 m.regs.length p.c3) (.slice p.a4 m.vers.length p.c4) (.slice p.a5 m.trns.length p.c5)) (set6_meta _ _ _ _ _ _ _ _) (set6_size _ _ _ _ _ _ _ _) (set6_far _ _ _ _ _ _ _ _) (set6_box HBX.out _ _ _ _ _ _))
        unfold set6 mdV at HN
        clear hx hJ HJ HBX
        refine Rgi.step_of rfl fun K hK => ?_
        unfold fr7
        unfold mdV
        rw [if_pos (by rfl)]
        go_simp
        exact hK _ _ ⟨B0, B1, B2, _, _, _, _, _, _, _, _, _, _, _, _, _, _, _, rfl, rfl, HN.out⟩
      · simp only [List.getElem?_toArray, List.getElem?_cons_zero, List.getElem?_cons_succ, Option.some.injEq] at ho
        subst ho
        have c0 : l5 = true := he { on := 5, ground := .data } (by simp) (by decide)
        have c1 : l2 = true := he { on := 2, ground := .data } (by simp) (by decide)
        have hx := hJ.x2 c0
        obtain rfl := hx.ptr
        obtain rfl := hJ.v2 c1
        obtain ⟨v0, v1, v2, v3, v4, v5, hbx⟩ := hx.has
        have HBX := Lib.hid hbx
        have HJ := Lib.hid hJ
        have hxl := hx.hi
        obtain ⟨b0, b1, b2, b3, b4, b5, f0, f1, f2, f3, f4, f5⟩ := hbx
        have HN := Lib.hid (J7.store2 HJ.out c0 (w1 := set6 wx B2 (.string m.nm) (.slice p.a1 m.vars.length p.c1) (.slice p.a2 m.evs.length p.c2) (.slice p.a3 m.regs.length p.c3) (.slice p.a4 m.vers.length p.c4) (.slice p.a5 m.trns.length p.c5)) (set6_meta _ _ _ _ _ _ _ _) (set6_size _ _ _ _ _ _ _ _) (set6_far _ _ _ _ _ _ _ _) (set6_box HBX.out _ _ _ _ _ _))
        unfold set6 mdV at HN
        clear hx hJ HJ HBX
        refine Rgi.step_of rfl fun K hK => ?_
        unfold fr7
        unfold mdV
        rw [if_pos (by rfl)]
        go_simp
        exact hK _ _ ⟨B0, B1, B2, _, _, _, _, _, _, _, _, _, _, _, _, _, _, _, rfl, rfl, HN.out⟩
    case hend =>
      intro l a wx hI hall
      obtain ⟨B0, B1, B2, l0, l1, l2, l3, l4, l5, l6, l7, l8, u0, u1, u2, u3, u4, u5, rfl, rfl, hJ⟩ := hI
      have h3 : l3 = true := hall 3 (by decide)
      have h4 : l4 = true := hall 4 (by decide)
      have h5 : l5 = true := hall 5 (by decide)
      have h6 : l6 = true := hall 6 (by decide)
      have h7 : l7 = true := hall 7 (by decide)
      have h8 : l8 = true := hall 8 (by decide)
      have HRR : Hid (R7S w4 m p u3 u4 u5 wx) := ⟨B0, B1, B2, ⟨hJ.bel, hJ.s0 h6, hJ.s1 h7, hJ.s2 h8, (hJ.x0 h3).lo, (hJ.x1 h4).lo, (hJ.x2 h5).lo, hJ.n01 h3 h4, hJ.n02 h3 h5, hJ.n12 h4 h5⟩, (hJ.x0 h3).ptr, (hJ.x1 h4).ptr, (hJ.x2 h5).ptr⟩
      clear hJ hall
      unfold fr7
      go_wp2_with fail
      go_meet
      exact HRR.out
  case rest =>
    obtain ⟨W7, hW7, hcut⟩ : ∃ W7 : World, W7 = _ ∧ R7S w4 m p _ _ _ W7 := ⟨_, rfl, hcut⟩
    subst hW7
    obtain ⟨A, B, C, h7, rfl, rfl, rfl⟩ := hcut
    have HL7 := Lib.hid h7.lx
    have g7 := h7.bel
    have hbel7 := Lib.hid (H4.out.1.trans (g7.mono H4.out.1.size))
    obtain ⟨b5, o5, ha5, hb5, hq5, hE5⟩ : ∃ b off, p.a5 = some ⟨b, off, none⟩ ∧ b < W7.heap.size ∧ b < w.heap.size ∧ ∀ i (h : i < m.trns.length), TrnE (OldB w.heap.size) W7 b (off + i * 8) m.trns[i] := by
      rcases (HMod.out W7 hbel7.out).trns.two with ⟨h0, _⟩ | ⟨_, b, off, ha, hb, hq, hx⟩
      · omega
      · exact ⟨b, off, ha, hb, hq, hx⟩
    have HE5 := Lib.hid hE5
    have hcap5 : m.trns.length ≤ p.c5 := (HMod.out W7 hbel7.out).trns.cap hnp
    have hHA : w.heap.size ≠ A := by have := h7.la; omega
    have hHB : w.heap.size ≠ B := by have := h7.lb; omega
    have hHC : w.heap.size ≠ C := by have := h7.lc; omega
    have HX7 := Lib.hid (H4.out.2.below g7 hzH)
    have hz7 : w.heap.size < W7.heap.size := HX7.out.sl
    obtain ⟨x0, x1, x2, x3, x4, x5, _⟩ := HX7.out
    obtain ⟨p0, p1, p2, p3, p4, p5, _, _, _, _, _, f5⟩ := HL7.out.a
    rw [ha5] at x5 p5
    have HA5 := Lib.hid ha5
    rw [ha5]
    have hn1 : ((m.trns.length : Int) - 1).toNat = m.trns.length - 1 := by omega
    have hn2 : (0 : Int) ≤ (m.trns.length : Int) - 1 := by omega
    have hn3 : (m.trns.length : Int) - 1 ≤ (p.c5 : Int) := by omega
    clear ha5 hE5 h7 g7
    go_upto_region 9 with fail
    have HL8 := Lib.hid (HL7.out.setA (.slice (some ⟨b5, o5, none⟩) (m.trns.length - 1) p.c5))
    have HX8 := Lib.hid (HX7.out.far (a := ⟨A, 5, none⟩) (.slice (some ⟨b5, o5, none⟩) (m.trns.length - 1) p.c5) hHA.symm)
    clear x0 x1 x2 x3 x4 x5 p0 p1 p2 p3 p4 p5 f5
    generalize W7.setCell ⟨A, 5, none⟩ (.slice (some ⟨b5, o5, none⟩) (m.trns.length - 1) p.c5) = W8 at *
    have HBel : Hid (∀ wx, Below w4.heap.size w4 wx → Below w.heap.size w wx) := fun wx g => H4.out.1.trans (g.mono H4.out.1.size)
    have HE : Hid (∀ wx, Below w4.heap.size w4 wx → ∀ i (h : i < m.trns.length), TrnE (OldB w.heap.size) wx b5 (o5 + i * 8) m.trns[i]) := fun wx g => by
      rcases (HMod.out wx (HBel.out wx g)).trns.two with ⟨h0, _⟩ | ⟨_, b, off, ha, hb, hq, hx⟩
      · omega
      · rw [HA5.out] at ha
        injection ha with ha
        injection ha with e1 e2
        subst e1 e2
        exact hx
    have HBoxM : Hid (∀ wx, Below w4.heap.size w4 wx → Box wx w.heap.size (.string m.nm) (.slice p.a1 m.vars.length p.c1) (.slice p.a2 m.evs.length p.c2) (.slice p.a3 m.regs.length p.c3) (.slice p.a4 m.vers.length p.c4) (.slice (some ⟨b5, o5, none⟩) m.trns.length p.c5)) := fun wx g => by
      have := H4.out.2.below g hzH
      rw [HA5.out] at this
      exact this
    obtain ⟨i4, hk4, mz0, mz1, mz2⟩ := info_parts info_Trn
    clear hcut HE5 HX8 HX7
    obtain ⟨hA8, hB8, hC8⟩ := HL8.out.blk
    obtain ⟨x0, x1, x2, x3, x4, x5, _⟩ := HBoxM.out W8 HL8.out.bel
    have hcc := cellsAt_cell (sl_cells (l := m.trns) TrnE.moves (HE.out W8 HL8.out.bel))
    have HCC := Lib.hid hcc
    clear hcc
    go_wp2_with (at_builtin; refine wpList_append_lies _ rfl (.tmp 65) (.tmp 67) 26 rfl W8.heap.size 46 i4 _ 8 104 Tryd.underlying26 hk4 mz0 mz1 mz2 rfl (by decide) (.slice none 0 0) 0 [] rfl ⟨rfl, .inl ⟨rfl, rfl⟩⟩ ⟨b5, o5, none⟩ m.trns.length p.c5 (cellsAt W8 b5 o5 (m.trns.length * 8)) rfl (cellsAt_len _ _ _ _) HCC.out.1 HCC.out.2 hnp (by unfold maxLen; omega) (by omega) (Nat.le_refl _) W8.heap.size rfl ?_; intro g9' c9 w9 hown9 hgrow9 hat9 hlt9; rw [Nat.zero_add] at hown9 ⊢)
    have g9 := (Below.refl W8.heap.size W8).grown hgrow9 (Nat.le_refl _) (fun k hk => by simp [Value.ownBlock] at hk)
    have HL9 := Lib.hid (HL8.out.grown g9 hA8 hB8 hC8)
    have HR9 : Hid (Rows (TrnX (OldB w.heap.size)) 46 8 W8.heap.size (.slice (some ⟨g9', 0, none⟩) m.trns.length c9) m.trns w9) :=
      rows_of (HE.out W8 HL8.out.bel) (kept_old (g9.mono (by have := HL8.out.bel.size; omega))) (by simpa using hown9)
    have hb9 : W8.heap.size ≤ w9.heap.size := g9.size
    have hq8 : w.heap.size ≤ W8.heap.size := Nat.le_trans (Nat.le_of_lt hzH) HL8.out.bel.size
    have hq4 : w.heap.size ≤ w4.heap.size := Nat.le_of_lt hzH
    clear x0 x1 x2 x3 x4 x5 hown9 hgrow9 hat9 hlt9 g9 HCC hn1 hn2 hn3
    have PK := Lib.hid (fun wx => pick_any i m.trns.length wx hi1 hi2 hnp (by omega))
    obtain ⟨B8, hB8e⟩ : ∃ B8, B8 = W8.heap.size := ⟨_, rfl⟩
    rw [← hB8e] at HR9 hA8 hB8 hC8 hb9 hq8
    go_cut [] (fun wx => C11 w4 m p w.heap.size A B C 46 B8 (.slice (some ⟨b5, o5, none⟩) (m.trns.length - 1) p.c5) (.slice p.a5 m.trns.length p.c5) wx)
    case first =>
      obtain ⟨css, hcl, hown, hX⟩ := HR9.out
      have HX := Lib.hid hX
      have HCL := Lib.hid hcl
      have hv9 : ∀ g, (Value.slice (some ⟨g9', 0, none⟩) m.trns.length c9).ownBlock = some g → B8 ≤ g := fun g hg => (hown.lt g hg).1
      have HV9 := Lib.hid hv9
      obtain ⟨x0, x1, x2, x3, x4, x5, _⟩ := HBoxM.out w9 HL9.out.bel
      obtain ⟨q0, q1, q2, q3, q4, q5, _, _, _, _, _, fq5⟩ := HL9.out.b
      have HFar : Hid (∀ (o : Obj) W', (w9.drew.alloc o).grownBy W' (Value.slice (some ⟨g9', 0, none⟩) m.trns.length c9).ownBlock → W'.cell? ⟨B, 5, none⟩ = some (.slice p.a5 m.trns.length p.c5) ∧ W'.frozen? ⟨B, 5, none⟩ = false) := fun o W' hg =>
        app_far hg (by omega) (fun e => by have := HV9.out B e.symm; omega) q5 fq5
      clear hX hcl hv9 q0 q1 q2 q3 q4 q5 fq5
      go_wp2_with fail
      go_region_law
        (first
          | (go_simp; go_at_call 18; ((refine (PK.out _).mono ?_; rintro e w2 ⟨⟨k, rfl, hk⟩, rfl⟩; have hkI : (k : Int) < (m.trns.length : Int) := (by omega); have hk0 : (0 : Int) ≤ (k : Int) := (by omega); have hEk := HE.out w9 HL9.out.bel k hk; obtain ⟨x, hxx⟩ : ∃ x, x = m.trns[k] := ⟨_, rfl⟩; rw [← hxx] at hEk; have HXX := Lib.hid hxx; clear hxx; obtain ⟨dv, hds, r0, r1, r2, r3, r4, r5, r6, r7⟩ := hEk; obtain ⟨da, dc, rfl⟩ := hds.len; have HDS := Lib.hid hds; have HDN : ∃ dn, dn = x.tr.length := ⟨_, rfl⟩; obtain ⟨dn, hdn⟩ := HDN; rw [← hdn] at r3 HDS; clear hds hdn; have hb5z : b5 < w9.heap.size := World.block_lt_of_cell? w9 _ r0)))
          | (refine step_append_lies _ (by rfl) _ _ _ (by rfl) B8 46 i4 _ 8 104 Tryd.underlying26 hk4 mz0 mz1 mz2 rfl (by omega) _ m.trns.length css.flatten (by rfl) ((hown.drew).alloc _) ⟨w9.heap.size, 0, none⟩ 1 1 [.string x.nm, .int .i64 x.src, .int .i64 x.tgt, .slice da dn dc, .int .i64 x.af, .string x.gd, .string x.ef, .int .u8 x.kd] (by rfl) (by rfl) (World.news_of_block (cs := #[.string x.nm, .int .i64 x.src, .int .i64 x.tgt, .slice da dn dc, .int .i64 x.af, .string x.gd, .string x.ef, .int .u8 x.kd]) (t := 46) (fr := (0, 0)) (alloc1_at w9.drew _)) (by simp [Value.oneCell']) (by omega) (by unfold maxLen; omega) (by omega) (by simp; omega) (w9.heap.size + 1) (by simp) ?_; intro gg cap2 w10 hown10 hgrow10 hat10 hlt10; obtain ⟨dd, gd⟩ := HFar.out _ _ hgrow10))
      all_goals
        go_wp2_with fail
        go_meet
        exact c11_of hk HL9.out hA8 hB8 hC8 hq4 hb9 HCL.out HX.out HV9.out hgrow10 hown10 rfl (by rw [← HXX.out]; exact ⟨_, HDS.out, rfl⟩)
    case rest =>
      obtain ⟨W11, hW11, hcut⟩ : ∃ W11 : World, W11 = _ ∧ C11 w4 m p w.heap.size A B C 46 B8 _ _ W11 := ⟨_, rfl, hcut⟩
      subst hW11
      obtain ⟨kp, hkp, g11, c11, hl11, hr11⟩ := hcut
      have HL11 := Lib.hid hl11
      have HR11 := Lib.hid hr11
      obtain ⟨q0, q1, q2, q3, q4, q5, _, _, _, _, _, fq5⟩ := hl11.c
      have hg11 : B8 ≤ g11 ∧ g11 < W11.heap.size := by
        obtain ⟨_, _, ho, _⟩ := hr11
        have h1 := ho.lt g11 rfl
        exact ⟨h1.1, h1.2⟩
      have hz11 : B8 ≤ W11.heap.size := by omega
      clear hl11 hr11 HR9 HL9 HL8 PK hb9
      go_upto_region 13 with fail
      have hne11 : ∀ g, (Value.slice (some ⟨g11, 0, none⟩) (m.trns.length + 1) c11).ownBlock = some g → g11 = g := fun g hg => by simpa [Value.ownBlock] using hg
      have hlc11 := HL11.out.lc
      have hst11 : Rows (TrnX (OldB w.heap.size)) 46 8 B8 (.slice (some ⟨g11, 0, none⟩) (m.trns.length + 1) c11) (m.trns ++ [m.trns[kp]]) (W11.setCell ⟨C, 5, none⟩ (.slice none 0 0)) :=
        HR11.out.stay ((Below.refl w.heap.size W11).setCell (p := ⟨C, 5, none⟩) (by simp only; omega) _) fun g hg => by
          have := hne11 g hg
          exact Below.heap_setCell _ _ _ _ (by simp only; omega)
      have HC0 : Hid (C16 w4 m p w.heap.size A B C 46 B8 W11.heap.size (.slice (some ⟨b5, o5, none⟩) (m.trns.length - 1) p.c5) (.slice (some ⟨g11, 0, none⟩) (m.trns.length + 1) c11) (.slice none 0 0) (m.trns ++ [m.trns[kp]]) m.trns.length (W11.setCell ⟨C, 5, none⟩ (.slice none 0 0))) :=
        ⟨HL11.out.setC _, hst11, (by rw [List.drop_length]; exact Rows.start), (by simp), fun g hg => (by have := hne11 g hg; omega)⟩
      clear hst11 hne11 hlc11
      obtain ⟨b2, hb2⟩ : ∃ b2, b2 = W11.heap.size := ⟨_, rfl⟩
      rw [← hb2] at HC0 hz11
      generalize W11.setCell ⟨C, 5, none⟩ (.slice none 0 0) = W12 at *
      clear HL11 HR11 q0 q1 q2 q3 q4 q5 fq5 hb2
      go_wp2_with fail
      go_loopw [13] (fun i wr => ∃ (k : Nat) (vc : Value), k ≤ m.trns.length ∧ i = .int .i64 ((k : Int) - 1) ∧ C16 w4 m p w.heap.size A B C 46 B8 b2 (.slice (some ⟨b5, o5, none⟩) (m.trns.length - 1) p.c5) (.slice (some ⟨g11, 0, none⟩) (m.trns.length + 1) c11) vc (m.trns ++ [m.trns[kp]]) k wr) (fun i _ => (intOf i + 1).toNat)
      case atStart => exact ⟨m.trns.length, _, Nat.le_refl _, rfl, HC0.out⟩
      case round =>
        obtain ⟨wo, rfl⟩ : ∃ wo : World, wo = wr := ⟨_, rfl⟩
        obtain ⟨k, vc, hk, rfl, hC⟩ := hrel
        have HC := Lib.hid hC
        obtain ⟨x0, x1, x2, x3, x4, x5, _⟩ := HBoxM.out wo hC.lx.bel
        cases k with
        | succ j =>
          have hkj : j < m.trns.length := by omega
          have hjI : (j : Int) < (m.trns.length : Int) := by omega
          have hj0 : (0 : Int) ≤ (j : Int) := by omega
          rw [show (((j + 1 : Nat) : Int) - 1) = (j : Int) by omega]
          obtain ⟨css, hcl, hown, hX⟩ := hC.rc
          rw [show (m.trns.drop (j + 1)).reverse.length = m.trns.length - (j + 1) by simp] at hown
          have HX := Lib.hid hX
          have HCL := Lib.hid hcl
          have hvc : ∀ g, vc.ownBlock = some g → b2 ≤ g := fun g hg => (hown.lt g hg).1
          have HVC := Lib.hid hvc
          obtain ⟨q0, q1, q2, q3, q4, q5, _, _, _, _, _, fq5⟩ := hC.lx.c
          obtain ⟨hA9, hB9, hC9⟩ := hC.lx.blk
          have hbz2 := hC.bz
          have HFar : Hid (∀ (o : Obj) W', (wo.drew.alloc o).grownBy W' vc.ownBlock → W'.cell? ⟨C, 5, none⟩ = some vc ∧ W'.frozen? ⟨C, 5, none⟩ = false) := fun o W' hg =>
            app_far hg hC9 (fun e => by have := HVC.out C e.symm; omega) q5 fq5
          have hEk := HE.out wo hC.lx.bel j hkj
          obtain ⟨x, hxx⟩ : ∃ x, x = m.trns[j] := ⟨_, rfl⟩
          rw [← hxx] at hEk
          have HXX := Lib.hid hxx
          clear hxx
          obtain ⟨dv, hds, r0, r1, r2, r3, r4, r5, r6, r7⟩ := hEk
          obtain ⟨da, dc, rfl⟩ := hds.len
          have HDS := Lib.hid hds
          obtain ⟨dn, hdn⟩ : ∃ dn, dn = x.tr.length := ⟨_, rfl⟩
          rw [← hdn] at r3 HDS
          have hb5z : b5 < wo.heap.size := World.block_lt_of_cell? wo _ r0
          clear hX hcl hvc hds hdn hC
          go_wp2_with fail
          go_region_law ((refine step_append_lies _ (by rfl) _ _ _ (by rfl) b2 46 i4 _ 8 104 Tryd.underlying26 hk4 mz0 mz1 mz2 rfl (by omega) _ (m.trns.length - (j + 1)) css.flatten (by rfl) ((hown.drew).alloc _) ⟨wo.heap.size, 0, none⟩ 1 1 [.string x.nm, .int .i64 x.src, .int .i64 x.tgt, .slice da dn dc, .int .i64 x.af, .string x.gd, .string x.ef, .int .u8 x.kd] (by rfl) (by rfl) (World.news_of_block (cs := #[.string x.nm, .int .i64 x.src, .int .i64 x.tgt, .slice da dn dc, .int .i64 x.af, .string x.gd, .string x.ef, .int .u8 x.kd]) (t := 46) (fr := (0, 0)) (alloc1_at wo.drew _)) (by simp [Value.oneCell']) (by omega) (by unfold maxLen; omega) (by omega) (by simp; omega) (wo.heap.size + 1) (by simp) ?_; intro gg cap2 w10 hown10 hgrow10 hat10 hlt10; obtain ⟨dd, gd⟩ := HFar.out _ _ hgrow10))
          all_goals
            go_wp2_with fail
            go_roundw
            case rel => exact ⟨j, _, by omega, by go_num, c16_of hkj HC.out hA8 hB8 hC8 hz11 hq4 HCL.out HX.out HVC.out hgrow10 hown10 rfl (by rw [← HXX.out]; exact ⟨_, HDS.out, rfl⟩)⟩
            case measure => simp [intOf] <;> omega
        | zero =>
          rw [show (((0 : Nat) : Int) - 1) = -1 by omega]
          have HB0x := Lib.hid (HC.out.lx.bel)
          have RA := Lib.hid (RR.out HRE.out (m.trns.take (m.trns.length - 1)) (m.trns.length - 1) (by simp) (by omega) (fun x hx => List.mem_of_mem_take hx) (some ⟨b5, o5, none⟩) p.c5 wo (HBel.out wo HC.out.lx.bel) (by
            have h5 := ((HMod.out wo (HBel.out wo HC.out.lx.bel)).trns.take (k := m.trns.length - 1) (by omega)).weaken (Q' := anyB) (E' := TrnE anyB) (fun _ _ _ => trivial) (fun _ _ _ h => h.weaken fun _ _ _ => trivial)
            rw [HA5.out, List.length_take, Nat.min_eq_left (by omega)] at h5
            exact h5))
          obtain ⟨sbn, hsb⟩ := Rows.sl HC.out.rb
          obtain ⟨av, cv, rfl⟩ := Rows.len HC.out.rc
          obtain ⟨_, hsc⟩ := Rows.sl HC.out.rc
          have HSB := Lib.hid hsb
          have HSC := Lib.hid hsc
          have RB := Lib.hid (fun wx (g : Below wo.heap.size wo wx) => RR.out HRE.out (m.trns ++ [m.trns[kp]]) (m.trns.length + 1) (by simp) (by omega) (fun x hx => by
            rcases List.mem_append.1 hx with h | h
            · exact h
            · rw [List.mem_singleton] at h; rw [h]; exact List.getElem_mem _) (some ⟨g11, 0, none⟩) c11 wx (HBel.out wx (HB0x.out.trans (g.mono HB0x.out.size))) (by
              have := HSB.out.kept TrnE.mono (Kept.of_below g) (Kept.of_below g)
              rw [← sbn] at this; exact this))
          have hlr : (m.trns.drop 0).reverse.length = m.trns.length := by simp
          have RC := Lib.hid (fun wx (g : Below wo.heap.size wo wx) => RR.out HRE.out (m.trns.drop 0).reverse (m.trns.drop 0).reverse.length rfl (by omega) (fun x hx => by simpa using hx) av cv wx (HBel.out wx (HB0x.out.trans (g.mono HB0x.out.size))) (HSC.out.kept TrnE.mono (Kept.of_below g) (Kept.of_below g)))
          obtain ⟨hA9, hB9, hC9⟩ := HC.out.lx.blk
          have HLX := Lib.hid (fun wx (g : Below wo.heap.size wo wx) => HC.out.lx.grown g hA9 hB9 hC9)
          obtain ⟨p0, p1, p2, p3, p4, p5, _⟩ := HC.out.lx.a
          have HFin : Hid (Below w.heap.size w wo) := HBel.out wo HB0x.out
          rw [hlr] at RC HLX
          clear hsb hsc sbn HC HSB HSC hk
          go_wp2_with fail
          refine RA.out.mono ?_
          rintro e w20 ⟨rfl, g20⟩
          obtain ⟨q0, q1, q2, q3, q4, q5, _⟩ := (HLX.out w20 g20).b
          have G20 := Lib.hid g20
          clear g20 p0 p1 p2 p3 p4 p5
          go_wp2_with fail
          refine (RB.out _ G20.out).mono ?_
          rintro e w21 ⟨rfl, g21⟩
          have G21 := Lib.hid (G20.out.trans (g21.mono G20.out.size))
          clear g21 q0 q1 q2 q3 q4 q5
          obtain ⟨q0, q1, q2, q3, q4, q5, _⟩ := (HLX.out w21 G21.out).c
          go_wp2_with fail
          refine (RC.out _ G21.out).mono ?_
          rintro e w22 ⟨rfl, g22⟩
          have G22 := Lib.hid (G21.out.trans (g22.mono G21.out.size))
          have G23 := Lib.hid (HFin.out.trans (G22.out.mono HFin.out.size))
          clear g22 q0 q1 q2 q3 q4 q5
          go_wp2_with fail
          refine (WK.out _ G23.out).mono ?_
          rintro e w24 ⟨rfl, g24⟩
          go_wp2_with fail
          go_ret
          exact ⟨rfl, G23.out.trans (g24.mono G23.out.size)⟩
end Go.Proofs
