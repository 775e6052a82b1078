/- Walks: 'works' of the model's laws. -/
import Derived.Test.YtckflfkfjpjkjaaDoorMdWk
import Derived.Test.YtckflfkfjpjkjaaDoorMdK
import Derived.Test.YtckflfkfjpjkjaaDoorMdD
import Derived.KernelRfl
import Derived.Deep.RegionHeld3
import Derived.Deep.RegionLaw
namespace Go.Proofs
open Go.RowKit Go.Lx Go.Md Go.Shelf
set_option linter.unusedVariables false
theorem ri_small : riM smallM = (0, 0, 0) := by kernel_rfl
theorem ri_a : riM smallA = (4, 0, 130) := by kernel_rfl
theorem ri_b : riM smallB = (5, 1, 130) := by kernel_rfl
theorem ri_c : riM smallC = (6, 0, 130) := by kernel_rfl
theorem same_mm : sameM smallM smallM = true := sameM_refl _
theorem same_ma : sameM smallM smallA = false := by kernel_rfl
theorem dep_m : depM smallM 1 = 0 := by kernel_rfl
theorem small_ok : MdlOk smallM where
  nm := by decide
  vars := by decide
  varn := fun x hx => by cases hx
  evs := by decide
  evn := fun x hx => by cases hx
  regs := by decide
  regn := fun x hx => by
    simp only [smallM, List.mem_singleton] at hx
    subst hx; decide
  rego := fun x hx => by
    simp only [smallM, List.mem_singleton] at hx
    subst hx; exact ⟨by decide, by decide⟩
  vers := by decide
  verx := fun x hx => by
    simp only [smallM, List.mem_cons, List.not_mem_nil, or_false] at hx
    rcases hx with rfl | rfl
    · exact ⟨by decide, by decide, by decide, by decide, by decide, (fun s hs => by cases hs), by decide, ⟨by decide, by decide⟩, ⟨by decide, by decide⟩⟩
    · exact ⟨by decide, by decide, by decide, by decide, by decide, (fun s hs => by cases hs), by decide, ⟨by decide, by decide⟩, ⟨by decide, by decide⟩⟩
  trns := by decide
  trnx := fun x hx => by
    simp only [smallM, List.mem_singleton] at hx
    subst hx
    exact ⟨by decide, by decide, by decide, by decide, by decide, (fun s hs => by cases hs), ⟨by decide, by decide⟩, ⟨by decide, by decide⟩, ⟨by decide, by decide⟩⟩
theorem smallA_ok : MdlOk smallA where
  nm := small_ok.nm
  vars := small_ok.vars
  varn := small_ok.varn
  evs := small_ok.evs
  evn := small_ok.evn
  vers := small_ok.vers
  verx := small_ok.verx
  trns := small_ok.trns
  trnx := small_ok.trnx
  regs := by decide
  regn := fun x hx => by
    simp only [smallA, List.mem_singleton] at hx
    subst hx; decide
  rego := fun x hx => by
    simp only [smallA, List.mem_singleton] at hx
    subst hx; exact ⟨by decide, by decide⟩
theorem smallB_ok : MdlOk smallB where
  nm := small_ok.nm
  vars := small_ok.vars
  varn := small_ok.varn
  evs := small_ok.evs
  evn := small_ok.evn
  regs := small_ok.regs
  regn := small_ok.regn
  rego := small_ok.rego
  trns := small_ok.trns
  trnx := small_ok.trnx
  vers := by decide
  verx := fun x hx => by
    simp only [smallB, List.mem_cons, List.not_mem_nil, or_false] at hx
    rcases hx with rfl | rfl
    · exact ⟨by decide, by decide, by decide, by decide, by decide, (fun s hs => by cases hs), by decide, ⟨by decide, by decide⟩, ⟨by decide, by decide⟩⟩
    · exact ⟨by decide, by decide, by decide, by decide, by decide, (fun s hs => by cases hs), by decide, ⟨by decide, by decide⟩, ⟨by decide, by decide⟩⟩
theorem smallC_ok : MdlOk smallC where
  nm := small_ok.nm
  vars := small_ok.vars
  varn := small_ok.varn
  evs := small_ok.evs
  evn := small_ok.evn
  regs := small_ok.regs
  regn := small_ok.regn
  rego := small_ok.rego
  vers := small_ok.vers
  verx := small_ok.verx
  trns := by decide
  trnx := fun x hx => by
    simp only [smallC, List.mem_singleton] at hx
    subst hx
    exact ⟨by decide, by decide, by decide, by decide, by decide, (fun s hs => by cases hs), ⟨by decide, by decide⟩, ⟨by decide, by decide⟩, ⟨by decide, by decide⟩⟩
theorem small_sml : Sml smallM := by
  constructor <;> first | (show (_ : Nat) ≤ _; decide) | (intro x hx; simp [smallM] at hx; rcases hx with rfl | rfl <;> decide) | (intro x hx; simp [smallM] at hx; subst hx; decide)
/-- The frame at the statement with three copies. -/
def frW (p : Ph) (B1 : Nat) (u24 u25 u26 u27 u28 u29 u5 u6 u7 : Value) : Act := { tmps := #[.bool false, .pointer (some ⟨B1, 0, none⟩), .int .u8 0, .int .i64 0, .int .i64 0, u5, u6, u7, undef, undef, undef, undef, undef, undef, undef, undef, undef, (.agg #[.string smallM.nm, .slice p.a1 smallM.vars.length p.c1, .slice p.a2 smallM.evs.length p.c2, .slice p.a3 smallM.regs.length p.c3, .slice p.a4 smallM.vers.length p.c4, .slice p.a5 smallM.trns.length p.c5]), .tuple #[.int .u8 0, .int .i64 0, .int .i64 0], (.agg #[.string smallM.nm, .slice p.a1 smallM.vars.length p.c1, .slice p.a2 smallM.evs.length p.c2, .slice p.a3 smallM.regs.length p.c3, .slice p.a4 smallM.vers.length p.c4, .slice p.a5 smallM.trns.length p.c5]), .tuple #[.int .u8 0, .int .i64 0, .int .i64 0], .int .u8 0, .int .i64 0, .int .i64 0, u24, u25, u26, u27, u28, u29, undef, undef, undef, undef, undef, undef, undef, undef, undef, undef, undef, undef, undef, undef, undef, undef, undef, undef, undef, undef, undef, undef, undef, undef, undef, undef, undef, undef, undef, undef, undef, undef, undef, undef, undef, undef, undef, undef, undef, undef, undef, undef, undef, undef, undef, undef, undef, undef, undef, undef, undef, undef, undef, undef, undef, undef, undef, undef, undef, undef, undef, undef, undef, undef, undef, undef, undef, undef, undef, undef, undef, undef, undef, undef, undef, undef, undef, undef, undef, undef, undef, undef, undef, undef, undef, undef, undef, undef, undef, undef, undef, undef, undef, undef, undef, undef, undef, undef, undef, undef], defers := [] }
def I3 (W : World) (p : Ph) (B1 : Nat) (l : Array Bool) (a : Act) (w : World) : Prop :=
  ∃ (pa pb pc : Ph) (qa qb qc : Nat → Nat) (B5 B6 B7 : Nat) (l0 l1 l2 l3 l4 l5 l6 l7 l8 l9 l10 l11 : Bool) (u24 u25 u26 u27 u28 u29 u5 u6 u7 : Value), l = #[l0, l1, l2, l3, l4, l5, l6, l7, l8, l9, l10, l11] ∧ a = frW p B1 u24 u25 u26 u27 u28 u29 u5 u6 u7 ∧ J3 W (.agg #[.string smallM.nm, .slice p.a1 smallM.vars.length p.c1, .slice p.a2 smallM.evs.length p.c2, .slice p.a3 smallM.regs.length p.c3, .slice p.a4 smallM.vers.length p.c4, .slice p.a5 smallM.trns.length p.c5]) pa pb pc qa qb qc B5 B6 B7 l0 l1 l2 l3 l4 l5 l6 l7 l8 l9 l10 l11 u24 u25 u26 u27 u28 u29 u5 u6 u7 w
/-- What the statement leaves. -/
def R3 (W : World) (s5 s6 s7 : Value) (w : World) : Prop :=
  ∃ (pa pb pc : Ph) (qa qb qc : Nat → Nat) (B5 B6 B7 : Nat), (Below W.heap.size W w ∧ CpyW W.heap.size w pa qa ∧ CpyW W.heap.size w pb qb ∧ CpyW W.heap.size w pc qc ∧ qa 7 ≤ qb 0 ∧ qb 7 ≤ qc 0) ∧ (s5 = .pointer (some ⟨B5, 0, none⟩) ∧ s6 = .pointer (some ⟨B6, 0, none⟩) ∧ s7 = .pointer (some ⟨B7, 0, none⟩)) ∧
    (BoxS w B5 pa ∧ BoxS w B6 pb ∧ BoxS w B7 pc) ∧ (W.heap.size ≤ B5 ∧ W.heap.size ≤ B6 ∧ W.heap.size ≤ B7) ∧ (Out B5 qa ∧ Out B5 qb ∧ Out B5 qc) ∧ (Out B6 qa ∧ Out B6 qb ∧ Out B6 qc) ∧ (Out B7 qa ∧ Out B7 qb ∧ Out B7 qc) ∧ (B5 ≠ B6 ∧ B5 ≠ B7 ∧ B6 ≠ B7)
set_option maxRecDepth 100000 in
set_option maxHeartbeats 4000000 in
theorem works13 (w : World) (hT : Tab w) : Calls Tryd.prog 11 #[] w fun e w' => e = .returned (.bool true) ∧ Below w.heap.size w w' := by
  go_enter Tryd.func11, Tryd.ntmps11
  go_wp2_with fail
  refine (small_any _).mono ?_
  rintro e w1 ⟨p, rfl, hm1, g1⟩
  have HR := Lib.hid (right_any smallM p (w1.alloc (.cells #[.string smallM.nm, .slice p.a1 smallM.vars.length p.c1, .slice p.a2 smallM.evs.length p.c2, .slice p.a3 smallM.regs.length p.c3, .slice p.a4 smallM.vers.length p.c4, .slice p.a5 smallM.trns.length p.c5] 28)) (hm1.below (below_al1 w1 _)) ((hT.next g1).next (below_al1 w1 _)) small_ok)
  rw [ri_small] at HR
  unfold mdV at HR ⊢
  have HM := Lib.hid hm1
  have HT := Lib.hid hT
  clear hm1 hT
  go_wp2_with (go_at_call 17; refine HR.out.mono ?_; rintro e w2 ⟨rfl, g2⟩)
  have HB1 : Hid (Box w2 w1.heap.size (.string smallM.nm) (.slice p.a1 smallM.vars.length p.c1) (.slice p.a2 smallM.evs.length p.c2) (.slice p.a3 smallM.regs.length p.c3) (.slice p.a4 smallM.vers.length p.c4) (.slice p.a5 smallM.trns.length p.c5)) := (box6 w1 smallM p).below g2 (by simp)
  have hz1 : w1.heap.size < w2.heap.size := HB1.out.sl
  have HM2 := Lib.hid (HM.out.below (below_bx1 g2))
  have HCp := Lib.hid (fun wx (hb : Below w2.heap.size w2 wx) => copy_any smallM p wx (HM2.out.below hb) small_sml)
  unfold mdV at HCp
  clear HR
  go_cut [5, 6, 7] (fun s5 s6 s7 wx => R3 w2 s5 s6 s7 wx)
  case first =>
    refine Rgi.wp_region_inv (by kernel_rfl) (I3 w2 p w1.heap.size) (by kernel_rfl) ?h0 ?hstep ?hend
    case h0 =>
      refine ⟨p, p, p, fun _ => 0, fun _ => 0, fun _ => 0, 0, 0, 0, false, false, false, false, false, false, false, false, false, false, false, false, _, _, _, _, _, _, _, _, _, rfl, rfl, ?_⟩
      constructor <;> first | exact (Below.refl _ _).drew | (intro h; cases h)
    case hstep =>
      intro l a wx hs hI i o ho hl he
      obtain ⟨pa, pb, pc, qa, qb, qc, B5, B6, B7, l0, l1, l2, l3, l4, l5, l6, l7, l8, l9, l10, l11, u24, u25, u26, u27, u28, u29, u5, u6, u7, rfl, rfl, hJ⟩ := hI
      have hi : i < 12 := (Array.getElem?_eq_some_iff.1 ho).1
      have hi12 : i = 0 ∨ i = 1 ∨ i = 2 ∨ i = 3 ∨ i = 4 ∨ i = 5 ∨ i = 6 ∨ i = 7 ∨ i = 8 ∨ i = 9 ∨ i = 10 ∨ i = 11 := by omega
      clear hi
      rcases hi12 with rfl | rfl | rfl | rfl | rfl | rfl | rfl | rfl | rfl | rfl | rfl | rfl
      · simp only [List.getElem?_toArray, List.getElem?_cons_zero, Option.some.injEq] at ho
        subst ho
        obtain ⟨b0, b1, b2, b3, b4, b5, f0, f1, f2, f3, f4, f5⟩ := HB1.out.below hJ.bel hz1
        refine Rgi.step_of rfl fun K hK => ?_
        unfold frW at hK ⊢
        rw [if_pos (by rfl)]
        go_simp
        exact hK _ _ ⟨pa, pb, pc, qa, qb, qc, B5, B6, B7, _, _, _, _, _, _, _, _, _, _, _, _, _, _, _, _, _, _, _, _, _, rfl, rfl, J3.read0 hJ⟩
      · simp only [List.getElem?_toArray, List.getElem?_cons_zero, List.getElem?_cons_succ, Option.some.injEq] at ho
        subst ho
        have c0 : l0 = true := he { on := 0, ground := .data } (by simp) (by decide)
        obtain rfl := hJ.v24 c0
        refine Rgi.step_of rfl fun K hK => ?_
        unfold frW at hK ⊢
        rw [if_pos (by rfl)]
        go_simp
        refine (HCp.out wx hJ.bel).mono ?_
        rintro e w' ⟨p', q', rfl, hm', h0', hq', h7', hb'⟩
        exact hK _ _ ⟨p', pb, pc, q', qb, qc, B5, B6, B7, _, _, _, _, _, _, _, _, _, _, _, _, _, _, _, _, _, _, _, _, _, rfl, rfl, J3.call1 hJ (show l1 = false from hl) hb' hm' h0' hq' h7'⟩
      · simp only [List.getElem?_toArray, List.getElem?_cons_zero, List.getElem?_cons_succ, Option.some.injEq] at ho
        subst ho
        obtain ⟨b0, b1, b2, b3, b4, b5, f0, f1, f2, f3, f4, f5⟩ := HB1.out.below hJ.bel hz1
        refine Rgi.step_of rfl fun K hK => ?_
        unfold frW at hK ⊢
        rw [if_pos (by rfl)]
        go_simp
        exact hK _ _ ⟨pa, pb, pc, qa, qb, qc, B5, B6, B7, _, _, _, _, _, _, _, _, _, _, _, _, _, _, _, _, _, _, _, _, _, rfl, rfl, J3.read2 hJ⟩
      · simp only [List.getElem?_toArray, List.getElem?_cons_zero, List.getElem?_cons_succ, Option.some.injEq] at ho
        subst ho
        have c0 : l2 = true := he { on := 2, ground := .data } (by simp) (by decide)
        have c1 : l1 = true := he { on := 1, ground := .chain } (by simp) (by decide)
        obtain rfl := hJ.v26 c0
        refine Rgi.step_of rfl fun K hK => ?_
        unfold frW at hK ⊢
        rw [if_pos (by rfl)]
        go_simp
        refine (HCp.out wx hJ.bel).mono ?_
        rintro e w' ⟨p', q', rfl, hm', h0', hq', h7', hb'⟩
        exact hK _ _ ⟨pa, p', pc, qa, q', qc, B5, B6, B7, _, _, _, _, _, _, _, _, _, _, _, _, _, _, _, _, _, _, _, _, _, rfl, rfl, J3.call3 hJ (show l3 = false from hl) c1 hb' hm' h0' hq' h7'⟩
      · simp only [List.getElem?_toArray, List.getElem?_cons_zero, List.getElem?_cons_succ, Option.some.injEq] at ho
        subst ho
        obtain ⟨b0, b1, b2, b3, b4, b5, f0, f1, f2, f3, f4, f5⟩ := HB1.out.below hJ.bel hz1
        refine Rgi.step_of rfl fun K hK => ?_
        unfold frW at hK ⊢
        rw [if_pos (by rfl)]
        go_simp
        exact hK _ _ ⟨pa, pb, pc, qa, qb, qc, B5, B6, B7, _, _, _, _, _, _, _, _, _, _, _, _, _, _, _, _, _, _, _, _, _, rfl, rfl, J3.read4 hJ⟩
      · simp only [List.getElem?_toArray, List.getElem?_cons_zero, List.getElem?_cons_succ, Option.some.injEq] at ho
        subst ho
        have c0 : l4 = true := he { on := 4, ground := .data } (by simp) (by decide)
        have c3 : l3 = true := he { on := 3, ground := .chain } (by simp) (by decide)
        obtain rfl := hJ.v28 c0
        refine Rgi.step_of rfl fun K hK => ?_
        unfold frW at hK ⊢
        rw [if_pos (by rfl)]
        go_simp
        refine (HCp.out wx hJ.bel).mono ?_
        rintro e w' ⟨p', q', rfl, hm', h0', hq', h7', hb'⟩
        exact hK _ _ ⟨pa, pb, p', qa, qb, q', B5, B6, B7, _, _, _, _, _, _, _, _, _, _, _, _, _, _, _, _, _, _, _, _, _, rfl, rfl, J3.call5 hJ (show l5 = false from hl) c3 hb' hm' h0' hq' h7'⟩
      · simp only [List.getElem?_toArray, List.getElem?_cons_zero, List.getElem?_cons_succ, Option.some.injEq] at ho
        subst ho
        refine Rgi.step_of rfl fun K hK => ?_
        unfold frW at hK ⊢
        rw [if_pos (by rfl)]
        go_simp
        exact hK _ _ ⟨pa, pb, pc, qa, qb, qc, wx.heap.size, B6, B7, _, _, _, _, _, _, _, _, _, _, _, _, _, _, _, _, _, _, _, _, _, rfl, rfl, J3.alloc6 hJ hl⟩
      · simp only [List.getElem?_toArray, List.getElem?_cons_zero, List.getElem?_cons_succ, Option.some.injEq] at ho
        subst ho
        refine Rgi.step_of rfl fun K hK => ?_
        unfold frW at hK ⊢
        rw [if_pos (by rfl)]
        go_simp
        exact hK _ _ ⟨pa, pb, pc, qa, qb, qc, B5, wx.heap.size, B7, _, _, _, _, _, _, _, _, _, _, _, _, _, _, _, _, _, _, _, _, _, rfl, rfl, J3.alloc7 hJ hl⟩
      · simp only [List.getElem?_toArray, List.getElem?_cons_zero, List.getElem?_cons_succ, Option.some.injEq] at ho
        subst ho
        refine Rgi.step_of rfl fun K hK => ?_
        unfold frW at hK ⊢
        rw [if_pos (by rfl)]
        go_simp
        exact hK _ _ ⟨pa, pb, pc, qa, qb, qc, B5, B6, wx.heap.size, _, _, _, _, _, _, _, _, _, _, _, _, _, _, _, _, _, _, _, _, _, rfl, rfl, J3.alloc8 hJ hl⟩
      · simp only [List.getElem?_toArray, List.getElem?_cons_zero, List.getElem?_cons_succ, Option.some.injEq] at ho
        subst ho
        have c0 : l6 = true := he { on := 6, ground := .data } (by simp) (by decide)
        have c1 : l1 = true := he { on := 1, ground := .data } (by simp) (by decide)
        have hx := hJ.x5 c0
        obtain rfl := hx.ptr
        obtain ⟨rfl, hcp⟩ := hJ.ca c1
        obtain ⟨v0, v1, v2, v3, v4, v5, hbx⟩ := hx.has
        have HBX := Lib.hid hbx
        have HJ := Lib.hid hJ
        have hxl := hx.hi
        obtain ⟨b0, b1, b2, b3, b4, b5, f0, f1, f2, f3, f4, f5⟩ := hbx
        have HN := Lib.hid (J3.store9 HJ.out c0 c1 (w1 := set6 wx B5 (.string smallM.nm) (.slice pa.a1 smallM.vars.length pa.c1) (.slice pa.a2 smallM.evs.length pa.c2) (.slice pa.a3 smallM.regs.length pa.c3) (.slice pa.a4 smallM.vers.length pa.c4) (.slice pa.a5 smallM.trns.length pa.c5)) (set6_meta _ _ _ _ _ _ _ _) (set6_size _ _ _ _ _ _ _ _) (set6_far _ _ _ _ _ _ _ _) (set6_box HBX.out _ _ _ _ _ _))
        unfold set6 mdV at HN
        clear hx hcp hJ HJ HBX
        refine Rgi.step_of rfl fun K hK => ?_
        unfold frW
        unfold mdV
        rw [if_pos (by rfl)]
        go_simp
        exact hK _ _ ⟨pa, pb, pc, qa, qb, qc, B5, B6, B7, _, _, _, _, _, _, _, _, _, _, _, _, _, _, _, _, _, _, _, _, _, rfl, rfl, HN.out⟩
      · simp only [List.getElem?_toArray, List.getElem?_cons_zero, List.getElem?_cons_succ, Option.some.injEq] at ho
        subst ho
        have c0 : l7 = true := he { on := 7, ground := .data } (by simp) (by decide)
        have c1 : l3 = true := he { on := 3, ground := .data } (by simp) (by decide)
        have hx := hJ.x6 c0
        obtain rfl := hx.ptr
        obtain ⟨rfl, hcp⟩ := hJ.cb c1
        obtain ⟨v0, v1, v2, v3, v4, v5, hbx⟩ := hx.has
        have HBX := Lib.hid hbx
        have HJ := Lib.hid hJ
        have hxl := hx.hi
        obtain ⟨b0, b1, b2, b3, b4, b5, f0, f1, f2, f3, f4, f5⟩ := hbx
        have HN := Lib.hid (J3.store10 HJ.out c0 c1 (w1 := set6 wx B6 (.string smallM.nm) (.slice pb.a1 smallM.vars.length pb.c1) (.slice pb.a2 smallM.evs.length pb.c2) (.slice pb.a3 smallM.regs.length pb.c3) (.slice pb.a4 smallM.vers.length pb.c4) (.slice pb.a5 smallM.trns.length pb.c5)) (set6_meta _ _ _ _ _ _ _ _) (set6_size _ _ _ _ _ _ _ _) (set6_far _ _ _ _ _ _ _ _) (set6_box HBX.out _ _ _ _ _ _))
        unfold set6 mdV at HN
        clear hx hcp hJ HJ HBX
        refine Rgi.step_of rfl fun K hK => ?_
        unfold frW
        unfold mdV
        rw [if_pos (by rfl)]
        go_simp
        exact hK _ _ ⟨pa, pb, pc, qa, qb, qc, B5, B6, B7, _, _, _, _, _, _, _, _, _, _, _, _, _, _, _, _, _, _, _, _, _, rfl, rfl, HN.out⟩
      · simp only [List.getElem?_toArray, List.getElem?_cons_zero, List.getElem?_cons_succ, Option.some.injEq] at ho
        subst ho
        have c0 : l8 = true := he { on := 8, ground := .data } (by simp) (by decide)
        have c1 : l5 = true := he { on := 5, ground := .data } (by simp) (by decide)
        have hx := hJ.x7 c0
        obtain rfl := hx.ptr
        obtain ⟨rfl, hcp⟩ := hJ.cc c1
        obtain ⟨v0, v1, v2, v3, v4, v5, hbx⟩ := hx.has
        have HBX := Lib.hid hbx
        have HJ := Lib.hid hJ
        have hxl := hx.hi
        obtain ⟨b0, b1, b2, b3, b4, b5, f0, f1, f2, f3, f4, f5⟩ := hbx
        have HN := Lib.hid (J3.store11 HJ.out c0 c1 (w1 := set6 wx B7 (.string smallM.nm) (.slice pc.a1 smallM.vars.length pc.c1) (.slice pc.a2 smallM.evs.length pc.c2) (.slice pc.a3 smallM.regs.length pc.c3) (.slice pc.a4 smallM.vers.length pc.c4) (.slice pc.a5 smallM.trns.length pc.c5)) (set6_meta _ _ _ _ _ _ _ _) (set6_size _ _ _ _ _ _ _ _) (set6_far _ _ _ _ _ _ _ _) (set6_box HBX.out _ _ _ _ _ _))
        unfold set6 mdV at HN
        clear hx hcp hJ HJ HBX
        refine Rgi.step_of rfl fun K hK => ?_
        unfold frW
        unfold mdV
        rw [if_pos (by rfl)]
        go_simp
        exact hK _ _ ⟨pa, pb, pc, qa, qb, qc, B5, B6, B7, _, _, _, _, _, _, _, _, _, _, _, _, _, _, _, _, _, _, _, _, _, rfl, rfl, HN.out⟩
    case hend =>
      intro l a wx hI hall
      obtain ⟨pa, pb, pc, qa, qb, qc, B5, B6, B7, l0, l1, l2, l3, l4, l5, l6, l7, l8, l9, l10, l11, u24, u25, u26, u27, u28, u29, u5, u6, u7, rfl, rfl, hJ⟩ := hI
      have h1 : l1 = true := hall 1 (by decide)
      have h3 : l3 = true := hall 3 (by decide)
      have h5 : l5 = true := hall 5 (by decide)
      have h6 : l6 = true := hall 6 (by decide)
      have h7 : l7 = true := hall 7 (by decide)
      have h8 : l8 = true := hall 8 (by decide)
      have h9 : l9 = true := hall 9 (by decide)
      have h10 : l10 = true := hall 10 (by decide)
      have h11 : l11 = true := hall 11 (by decide)
      have HRR : Hid (R3 w2 u5 u6 u7 wx) := ⟨pa, pb, pc, qa, qb, qc, B5, B6, B7, ⟨hJ.bel, (hJ.ca h1).2, (hJ.cb h3).2, (hJ.cc h5).2, hJ.ab h1 h3, hJ.bc h3 h5⟩, ⟨(hJ.x5 h6).ptr, (hJ.x6 h7).ptr, (hJ.x7 h8).ptr⟩, ⟨hJ.s5 h9, hJ.s6 h10, hJ.s7 h11⟩, ⟨(hJ.x5 h6).lo, (hJ.x6 h7).lo, (hJ.x7 h8).lo⟩, ⟨hJ.d5a h6 h1, hJ.d5b h6 h3, hJ.d5c h6 h5⟩, ⟨hJ.d6a h7 h1, hJ.d6b h7 h3, hJ.d6c h7 h5⟩, ⟨hJ.d7a h8 h1, hJ.d7b h8 h3, hJ.d7c h8 h5⟩, ⟨hJ.n56 h6 h7, hJ.n57 h6 h8, hJ.n67 h7 h8⟩⟩
      clear hJ hall
      unfold frW
      go_wp2_with fail
      go_meet
      exact HRR.out
  case rest =>
    obtain ⟨W3, hW3, hcut⟩ : ∃ W3 : World, W3 = _ ∧ R3 w2 _ _ _ W3 := ⟨_, rfl, hcut⟩
    subst hW3
    obtain ⟨pa, pb, pc, qa, qb, qc, B5, B6, B7, ⟨hbel, hca, hcb, hcc, hab, hbc⟩, ⟨rfl, rfl, rfl⟩, ⟨hx5, hx6, hx7⟩, ⟨hl5, hl6, hl7⟩, ⟨o5a, o5b, o5c⟩, ⟨o6a, o6b, o6c⟩, ⟨o7a, o7b, o7c⟩, ⟨n56, n57, n67⟩⟩ := hcut
    unfold BoxS at hx5 hx6 hx7
    have lr1 : ((smallM.regs.length : Int) != 1) = false := by decide
    have lv1 : ((smallM.vers.length : Int) != 2) = false := by decide
    have lt1 : ((smallM.trns.length : Int) != 1) = false := by decide
    have lr2 : ((smallM.regs.length : Int) == 1) = true := by decide
    have lv2 : ((smallM.vers.length : Int) == 2) = true := by decide
    have lt2' : ((smallM.trns.length : Int) == 1) = true := by decide
    have lr3 : 0 < smallM.regs.length := by decide
    have lv3 : (1 : Int) < (smallM.vers.length : Int) := by decide
    have lt3 : 0 < smallM.trns.length := by decide
    rcases hca.mod.regs.two with ⟨h0, _⟩ | ⟨_, ba, oa, ha, hbaz, hQa, hEa⟩
    · exact absurd h0 (by decide)
    rcases hcb.mod.vers.two with ⟨h0, _⟩ | ⟨_, bb, ob, hb, hbbz, hQb, hEb⟩
    · exact absurd h0 (by decide)
    rcases hcc.mod.trns.two with ⟨h0, _⟩ | ⟨_, bc, oc, hc, hbcz, hQc, hEc⟩
    · exact absurd h0 (by decide)
    obtain ⟨ra0, ra1⟩ := hEa 0 (by decide)
    obtain ⟨dvb, hdb, rb0, rb1, rb2, rb3, rb4, rb5, rb6, rb7⟩ := hEb 1 (by decide)
    obtain ⟨dvc, hdc, rc0, rc1, rc2, rc3, rc4, rc5, rc6, rc7⟩ := hEc 0 (by decide)
    simp only [Nat.zero_mul, Nat.one_mul, Nat.add_zero] at ra1 rb2 rc7
    have fa : W3.frozen? ⟨ba, oa + 1, none⟩ = false := NewB.free (lo := qa 2) (hi := qa 3) hQa
    have fb : W3.frozen? ⟨bb, ob + 8 + 2, none⟩ = false := NewB.free (lo := qb 3) (hi := qb 4) hQb
    have fc : W3.frozen? ⟨bc, oc + 7, none⟩ = false := NewB.free (lo := qc 4) (hi := qc 5) hQc
    have ia1 : qa 2 ≤ ba := hQa.1
    have ia2 : ba < qa 3 := hQa.2.1
    have ib1 : qb 3 ≤ bb := hQb.1
    have ib2 : bb < qb 4 := hQb.2.1
    have ic1 : qc 4 ≤ bc := hQc.1
    have ic2 : bc < qc 5 := hQc.2.1
    have ia3 := q_le hca.mono (show 0 ≤ 2 by decide)
    have ia4 := q_le hca.mono (show 3 ≤ 7 by decide)
    have ib3 := q_le hcb.mono (show 0 ≤ 3 by decide)
    have ib4 := q_le hcb.mono (show 4 ≤ 7 by decide)
    have ic3 := q_le hcc.mono (show 0 ≤ 4 by decide)
    have ic4 := q_le hcc.mono (show 5 ≤ 7 by decide)
    have ja := hca.lo
    have jb := hcb.lo
    have jc := hcc.lo
    unfold Out at o5a o5b o5c o6a o6b o6c o7a o7b o7c
    have na5 : ba ≠ B5 := by omega
    have na6 : ba ≠ B6 := by omega
    have na7 : ba ≠ B7 := by omega
    have nb5 : bb ≠ B5 := by omega
    have nb6 : bb ≠ B6 := by omega
    have nb7 : bb ≠ B7 := by omega
    have nc5 : bc ≠ B5 := by omega
    have nc6 : bc ≠ B6 := by omega
    have nc7 : bc ≠ B7 := by omega
    have nab : ba ≠ bb := by omega
    have nac : ba ≠ bc := by omega
    have nbc : bb ≠ bc := by omega
    have HX5 := Lib.hid hx5
    have HX6 := Lib.hid hx6
    have HX7 := Lib.hid hx7
    have HCA := Lib.hid hca
    have HCB := Lib.hid hcb
    have HCC := Lib.hid hcc
    obtain ⟨x50, x51, x52, x53, x54, x55, _⟩ := hx5
    obtain ⟨x60, x61, x62, x63, x64, x65, _⟩ := hx6
    obtain ⟨x70, x71, x72, x73, x74, x75, _⟩ := hx7
    rw [ha] at x53
    rw [hb] at x64
    rw [hc] at x75
    have HA := Lib.hid ha
    have HB := Lib.hid hb
    have HC := Lib.hid hc
    have HS4 : Hid (W3.heap.size ≤ (((W3.setCell ⟨ba, oa + 1, none⟩ (.int .i64 1)).setCell ⟨bb, ob + 8 + 2, none⟩ (.int .i64 3)).setCell ⟨bc, oc + 7, none⟩ (.int .u8 4)).heap.size) := by unfold Hid; simp
    have HK4 : Hid (∀ b, b ≠ ba → b ≠ bb → b ≠ bc → (((W3.setCell ⟨ba, oa + 1, none⟩ (.int .i64 1)).setCell ⟨bb, ob + 8 + 2, none⟩ (.int .i64 3)).setCell ⟨bc, oc + 7, none⟩ (.int .u8 4)).heap[b]? = W3.heap[b]?) := fun b h1 h2 h3 => by
      rw [Below.heap_setCell _ _ _ _ h3, Below.heap_setCell _ _ _ _ h2, Below.heap_setCell _ _ _ _ h1]
    have HA4 : Hid (Mod anyM (((W3.setCell ⟨ba, oa + 1, none⟩ (.int .i64 1)).setCell ⟨bb, ob + 8 + 2, none⟩ (.int .i64 3)).setCell ⟨bc, oc + 7, none⟩ (.int .u8 4)) smallA pa) := modA hca ha hQa.1 hQa.2.1 HS4.out (fun b h1 h2 h3 => HK4.out b h3 (by omega) (by omega))
      (by rw [World.cell?_setCell_far _ _ _ _ (by simp only; omega), World.cell?_setCell_far _ _ _ _ (by simp only; omega), World.cell?_setCell_other _ _ _ _ (by intro e; injection e with _ e2; omega)])
      (by rw [World.cell?_setCell_far _ _ _ _ (by simp only; omega), World.cell?_setCell_far _ _ _ _ (by simp only; omega)]; exact World.cell?_setCell_same _ _ _ ra1)
    have HB4 : Hid (Mod anyM (((W3.setCell ⟨ba, oa + 1, none⟩ (.int .i64 1)).setCell ⟨bb, ob + 8 + 2, none⟩ (.int .i64 3)).setCell ⟨bc, oc + 7, none⟩ (.int .u8 4)) smallB pb) := modB hcb hb hQb.1 hQb.2.1 HS4.out (fun b h1 h2 h3 => HK4.out b (by omega) h3 (by omega))
      (fun j hj => by rw [World.cell?_setCell_far _ _ _ _ (by simp only; omega), World.cell?_setCell_other _ _ _ _ (by intro e; injection e with _ e2; omega), World.cell?_setCell_far _ _ _ _ (by simp only; omega)])
      (by rw [World.cell?_setCell_far _ _ _ _ (by simp only; omega)]; exact World.cell?_setCell_same _ _ _ (by rw [World.cell?_setCell_far _ _ _ _ (by simp only; omega)]; exact rb2))
    have HC4 : Hid (Mod anyM (((W3.setCell ⟨ba, oa + 1, none⟩ (.int .i64 1)).setCell ⟨bb, ob + 8 + 2, none⟩ (.int .i64 3)).setCell ⟨bc, oc + 7, none⟩ (.int .u8 4)) smallC pc) := modC hcc hc hQc.1 hQc.2.1 HS4.out (fun b h1 h2 h3 => HK4.out b (by omega) (by omega) h3)
      (fun j hj => by rw [World.cell?_setCell_other _ _ _ _ (by intro e; injection e with _ e2; omega), World.cell?_setCell_far _ _ _ _ (by simp only; omega), World.cell?_setCell_far _ _ _ _ (by simp only; omega)])
      (World.cell?_setCell_same _ _ _ (by rw [World.cell?_setCell_far _ _ _ _ (by simp only; omega), World.cell?_setCell_far _ _ _ _ (by simp only; omega)]; exact rc7))
    have hG1 : Below w.heap.size w w2 := g1.trans ((below_bx1 g2).mono g1.size)
    have hG2 : Below w.heap.size w (((W3.setCell ⟨ba, oa + 1, none⟩ (.int .i64 1)).setCell ⟨bb, ob + 8 + 2, none⟩ (.int .i64 3)).setCell ⟨bc, oc + 7, none⟩ (.int .u8 4)) := (((hG1.trans (hbel.mono hG1.size)).setCell (by have := hG1.size; simp only; omega) _).setCell (by have := hG1.size; simp only; omega) _).setCell (by have := hG1.size; simp only; omega) _
    have HG2 := Lib.hid hG2
    have HX5' : Hid (Box (((W3.setCell ⟨ba, oa + 1, none⟩ (.int .i64 1)).setCell ⟨bb, ob + 8 + 2, none⟩ (.int .i64 3)).setCell ⟨bc, oc + 7, none⟩ (.int .u8 4)) B5 (.string smallM.nm) (.slice pa.a1 smallM.vars.length pa.c1) (.slice pa.a2 smallM.evs.length pa.c2) (.slice pa.a3 smallM.regs.length pa.c3) (.slice pa.a4 smallM.vers.length pa.c4) (.slice pa.a5 smallM.trns.length pa.c5)) := HX5.out.any (HK4.out _ na5.symm nb5.symm nc5.symm)
    have HX6' : Hid (Box (((W3.setCell ⟨ba, oa + 1, none⟩ (.int .i64 1)).setCell ⟨bb, ob + 8 + 2, none⟩ (.int .i64 3)).setCell ⟨bc, oc + 7, none⟩ (.int .u8 4)) B6 (.string smallM.nm) (.slice pb.a1 smallM.vars.length pb.c1) (.slice pb.a2 smallM.evs.length pb.c2) (.slice pb.a3 smallM.regs.length pb.c3) (.slice pb.a4 smallM.vers.length pb.c4) (.slice pb.a5 smallM.trns.length pb.c5)) := HX6.out.any (HK4.out _ na6.symm nb6.symm nc6.symm)
    have HX7' : Hid (Box (((W3.setCell ⟨ba, oa + 1, none⟩ (.int .i64 1)).setCell ⟨bb, ob + 8 + 2, none⟩ (.int .i64 3)).setCell ⟨bc, oc + 7, none⟩ (.int .u8 4)) B7 (.string smallM.nm) (.slice pc.a1 smallM.vars.length pc.c1) (.slice pc.a2 smallM.evs.length pc.c2) (.slice pc.a3 smallM.regs.length pc.c3) (.slice pc.a4 smallM.vers.length pc.c4) (.slice pc.a5 smallM.trns.length pc.c5)) := HX7.out.any (HK4.out _ na7.symm nb7.symm nc7.symm)
    have HB1' : Hid (Box (((W3.setCell ⟨ba, oa + 1, none⟩ (.int .i64 1)).setCell ⟨bb, ob + 8 + 2, none⟩ (.int .i64 3)).setCell ⟨bc, oc + 7, none⟩ (.int .u8 4)) w1.heap.size (.string smallM.nm) (.slice p.a1 smallM.vars.length p.c1) (.slice p.a2 smallM.evs.length p.c2) (.slice p.a3 smallM.regs.length p.c3) (.slice p.a4 smallM.vers.length p.c4) (.slice p.a5 smallM.trns.length p.c5)) := (HB1.out.below hbel hz1).any (HK4.out _ (by omega) (by omega) (by omega))
    have HM4 : Hid (Mod anyM (((W3.setCell ⟨ba, oa + 1, none⟩ (.int .i64 1)).setCell ⟨bb, ob + 8 + 2, none⟩ (.int .i64 3)).setCell ⟨bc, oc + 7, none⟩ (.int .u8 4)) smallM p) := HM2.out.kept fun j => ⟨Nat.le_trans hbel.size HS4.out, fun b hb _ => (HK4.out b (by omega) (by omega) (by omega)).trans (hbel.block b hb)⟩
    have HRA := Lib.hid (fun wx (hb : Below (((W3.setCell ⟨ba, oa + 1, none⟩ (.int .i64 1)).setCell ⟨bb, ob + 8 + 2, none⟩ (.int .i64 3)).setCell ⟨bc, oc + 7, none⟩ (.int .u8 4)).heap.size (((W3.setCell ⟨ba, oa + 1, none⟩ (.int .i64 1)).setCell ⟨bb, ob + 8 + 2, none⟩ (.int .i64 3)).setCell ⟨bc, oc + 7, none⟩ (.int .u8 4)) wx) => right_any smallA pa wx (HA4.out.below hb) (HT.out.next (HG2.out.trans (hb.mono HG2.out.size))) smallA_ok)
    have HRB := Lib.hid (fun wx (hb : Below (((W3.setCell ⟨ba, oa + 1, none⟩ (.int .i64 1)).setCell ⟨bb, ob + 8 + 2, none⟩ (.int .i64 3)).setCell ⟨bc, oc + 7, none⟩ (.int .u8 4)).heap.size (((W3.setCell ⟨ba, oa + 1, none⟩ (.int .i64 1)).setCell ⟨bb, ob + 8 + 2, none⟩ (.int .i64 3)).setCell ⟨bc, oc + 7, none⟩ (.int .u8 4)) wx) => right_any smallB pb wx (HB4.out.below hb) (HT.out.next (HG2.out.trans (hb.mono HG2.out.size))) smallB_ok)
    have HRC := Lib.hid (fun wx (hb : Below (((W3.setCell ⟨ba, oa + 1, none⟩ (.int .i64 1)).setCell ⟨bb, ob + 8 + 2, none⟩ (.int .i64 3)).setCell ⟨bc, oc + 7, none⟩ (.int .u8 4)).heap.size (((W3.setCell ⟨ba, oa + 1, none⟩ (.int .i64 1)).setCell ⟨bb, ob + 8 + 2, none⟩ (.int .i64 3)).setCell ⟨bc, oc + 7, none⟩ (.int .u8 4)) wx) => right_any smallC pc wx (HC4.out.below hb) (HT.out.next (HG2.out.trans (hb.mono HG2.out.size))) smallC_ok)
    rw [ri_a] at HRA
    rw [ri_b] at HRB
    rw [ri_c] at HRC
    have HRA2 : Hid (∀ wx, Below (((W3.setCell ⟨ba, oa + 1, none⟩ (.int .i64 1)).setCell ⟨bb, ob + 8 + 2, none⟩ (.int .i64 3)).setCell ⟨bc, oc + 7, none⟩ (.int .u8 4)).heap.size (((W3.setCell ⟨ba, oa + 1, none⟩ (.int .i64 1)).setCell ⟨bb, ob + 8 + 2, none⟩ (.int .i64 3)).setCell ⟨bc, oc + 7, none⟩ (.int .u8 4)) wx → Calls Tryd.prog 17 #[.agg #[.string smallM.nm, .slice pa.a1 smallM.vars.length pa.c1, .slice pa.a2 smallM.evs.length pa.c2, .slice (some ⟨ba, oa, none⟩) smallM.regs.length pa.c3, .slice pa.a4 smallM.vers.length pa.c4, .slice pa.a5 smallM.trns.length pa.c5]] wx fun e w' => e = .returned (.tuple #[.int .u8 4, .int .i64 0, .int .i64 130]) ∧ Below wx.heap.size wx w') := fun wx hb0 => by
      have := HRA.out wx hb0
      unfold mdV at this
      rw [ha] at this
      exact this
    have HRB2 : Hid (∀ wx, Below (((W3.setCell ⟨ba, oa + 1, none⟩ (.int .i64 1)).setCell ⟨bb, ob + 8 + 2, none⟩ (.int .i64 3)).setCell ⟨bc, oc + 7, none⟩ (.int .u8 4)).heap.size (((W3.setCell ⟨ba, oa + 1, none⟩ (.int .i64 1)).setCell ⟨bb, ob + 8 + 2, none⟩ (.int .i64 3)).setCell ⟨bc, oc + 7, none⟩ (.int .u8 4)) wx → Calls Tryd.prog 17 #[.agg #[.string smallM.nm, .slice pb.a1 smallM.vars.length pb.c1, .slice pb.a2 smallM.evs.length pb.c2, .slice pb.a3 smallM.regs.length pb.c3, .slice (some ⟨bb, ob, none⟩) smallM.vers.length pb.c4, .slice pb.a5 smallM.trns.length pb.c5]] wx fun e w' => e = .returned (.tuple #[.int .u8 5, .int .i64 1, .int .i64 130]) ∧ Below wx.heap.size wx w') := fun wx hb0 => by
      have := HRB.out wx hb0
      unfold mdV at this
      rw [hb] at this
      exact this
    have HRC2 : Hid (∀ wx, Below (((W3.setCell ⟨ba, oa + 1, none⟩ (.int .i64 1)).setCell ⟨bb, ob + 8 + 2, none⟩ (.int .i64 3)).setCell ⟨bc, oc + 7, none⟩ (.int .u8 4)).heap.size (((W3.setCell ⟨ba, oa + 1, none⟩ (.int .i64 1)).setCell ⟨bb, ob + 8 + 2, none⟩ (.int .i64 3)).setCell ⟨bc, oc + 7, none⟩ (.int .u8 4)) wx → Calls Tryd.prog 17 #[.agg #[.string smallM.nm, .slice pc.a1 smallM.vars.length pc.c1, .slice pc.a2 smallM.evs.length pc.c2, .slice pc.a3 smallM.regs.length pc.c3, .slice pc.a4 smallM.vers.length pc.c4, .slice (some ⟨bc, oc, none⟩) smallM.trns.length pc.c5]] wx fun e w' => e = .returned (.tuple #[.int .u8 6, .int .i64 0, .int .i64 130]) ∧ Below wx.heap.size wx w') := fun wx hb0 => by
      have := HRC.out wx hb0
      unfold mdV at this
      rw [hc] at this
      exact this
    have HSS := Lib.hid (fun wx (hb : Below (((W3.setCell ⟨ba, oa + 1, none⟩ (.int .i64 1)).setCell ⟨bb, ob + 8 + 2, none⟩ (.int .i64 3)).setCell ⟨bc, oc + 7, none⟩ (.int .u8 4)).heap.size (((W3.setCell ⟨ba, oa + 1, none⟩ (.int .i64 1)).setCell ⟨bb, ob + 8 + 2, none⟩ (.int .i64 3)).setCell ⟨bc, oc + 7, none⟩ (.int .u8 4)) wx) (q : Ph) (hq : Mod anyM wx smallM q) => same_any smallM smallM p q wx (HM4.out.below hb) hq small_ok)
    have HSA : Hid (∀ wx, Below (((W3.setCell ⟨ba, oa + 1, none⟩ (.int .i64 1)).setCell ⟨bb, ob + 8 + 2, none⟩ (.int .i64 3)).setCell ⟨bc, oc + 7, none⟩ (.int .u8 4)).heap.size (((W3.setCell ⟨ba, oa + 1, none⟩ (.int .i64 1)).setCell ⟨bb, ob + 8 + 2, none⟩ (.int .i64 3)).setCell ⟨bc, oc + 7, none⟩ (.int .u8 4)) wx → Calls Tryd.prog 12 #[mdV smallM p, .agg #[.string smallM.nm, .slice pa.a1 smallM.vars.length pa.c1, .slice pa.a2 smallM.evs.length pa.c2, .slice (some ⟨ba, oa, none⟩) smallM.regs.length pa.c3, .slice pa.a4 smallM.vers.length pa.c4, .slice pa.a5 smallM.trns.length pa.c5]] wx fun e w' => e = .returned (.bool (sameM smallM smallA)) ∧ Below wx.heap.size wx w') := fun wx hb0 => by
      have := same_any smallM smallA p pa wx (HM4.out.below hb0) (HA4.out.below hb0) small_ok
      unfold mdV at this
      rw [ha] at this
      exact this
    have HDD := Lib.hid (fun wx (hb : Below (((W3.setCell ⟨ba, oa + 1, none⟩ (.int .i64 1)).setCell ⟨bb, ob + 8 + 2, none⟩ (.int .i64 3)).setCell ⟨bc, oc + 7, none⟩ (.int .u8 4)).heap.size (((W3.setCell ⟨ba, oa + 1, none⟩ (.int .i64 1)).setCell ⟨bb, ob + 8 + 2, none⟩ (.int .i64 3)).setCell ⟨bc, oc + 7, none⟩ (.int .u8 4)) wx) => mdepth_any smallM p 1 wx (HM4.out.below hb) (HT.out.next (HG2.out.trans (hb.mono HG2.out.size))) small_ok)
    rw [same_mm] at HSS
    rw [same_ma] at HSA
    rw [dep_m] at HDD
    unfold mdV at HSS HSA HDD
    clear HRA HRB HRC
    clear HS4 hG1 hG2 HX5 HX6 HX7
    clear ha hb hc hca hcb hcc hEa hEb hEc ia1 ia2 ib1 ib2 ic1 ic2 ia3 ia4 ib3 ib4 ic3 ic4 o5a o5b o5c o6a o6b o6c o7a o7b o7c hdb hdc
    go_wp2_with fail
    refine (HRA2.out _ (Below.refl _ _)).mono ?_
    rintro e w5 ⟨rfl, g5⟩
    have G5 := Lib.hid g5
    clear x50 x51 x52 x53 x54 x55 x60 x61 x62 x63 x64 x65 x70 x71 x72 x73 x74 x75 ra0 ra1 rb0 rb1 rb2 rb3 rb4 rb5 rb6 rb7 rc0 rc1 rc2 rc3 rc4 rc5 rc6 rc7 fa fb fc
    obtain ⟨x60, x61, x62, x63, x64, x65, _⟩ := HX6'.out.below G5.out HX6'.out.sl
    rw [HB.out] at x64
    go_wp2_with fail
    refine (HRB2.out _ G5.out).mono ?_
    rintro e w6 ⟨rfl, g6⟩
    have G6 := Lib.hid (G5.out.trans (g6.mono G5.out.size))
    clear x60 x61 x62 x63 x64 x65
    obtain ⟨x70, x71, x72, x73, x74, x75, _⟩ := HX7'.out.below G6.out HX7'.out.sl
    rw [HC.out] at x75
    go_wp2_with fail
    refine (HRC2.out _ G6.out).mono ?_
    rintro e w7 ⟨rfl, g7⟩
    have G7 := Lib.hid (G6.out.trans (g7.mono G6.out.size))
    clear x70 x71 x72 x73 x74 x75
    obtain ⟨x50, x51, x52, x53, x54, x55, _⟩ := HX5'.out.below G7.out HX5'.out.sl
    rw [HA.out] at x53
    obtain ⟨y50, y51, y52, y53, y54, y55, _⟩ := HB1'.out.below G7.out HB1'.out.sl
    go_wp2_with fail
    go_region_held3 (fun w' => w'.cell? ⟨w1.heap.size, 0, none⟩ = some (.string smallM.nm) ∧ w'.cell? ⟨w1.heap.size, 1, none⟩ = some (.slice p.a1 smallM.vars.length p.c1) ∧ w'.cell? ⟨w1.heap.size, 2, none⟩ = some (.slice p.a2 smallM.evs.length p.c2) ∧ w'.cell? ⟨w1.heap.size, 3, none⟩ = some (.slice p.a3 smallM.regs.length p.c3) ∧ w'.cell? ⟨w1.heap.size, 4, none⟩ = some (.slice p.a4 smallM.vers.length p.c4) ∧ w'.cell? ⟨w1.heap.size, 5, none⟩ = some (.slice p.a5 smallM.trns.length p.c5) ∧ w'.cell? ⟨B5, 0, none⟩ = some (.string smallM.nm) ∧ w'.cell? ⟨B5, 1, none⟩ = some (.slice pa.a1 smallM.vars.length pa.c1) ∧ w'.cell? ⟨B5, 2, none⟩ = some (.slice pa.a2 smallM.evs.length pa.c2) ∧ w'.cell? ⟨B5, 3, none⟩ = some (.slice (some ⟨ba, oa, none⟩) smallM.regs.length pa.c3) ∧ w'.cell? ⟨B5, 4, none⟩ = some (.slice pa.a4 smallM.vers.length pa.c4) ∧ w'.cell? ⟨B5, 5, none⟩ = some (.slice pa.a5 smallM.trns.length pa.c5))
      (first | exact ⟨y50, y51, y52, y53, y54, y55, x50, x51, x52, x53, x54, x55⟩ | go_keep)
      (first
        | (go_at_call 46; refine (small_any _).mono ?_; rintro e w8 ⟨q, rfl, hq, g8⟩; unfold mdV; have G8 := Lib.hid (G7.out.trans (((Below.refl _ w7).drew.trans g8).mono G7.out.size)); have HQ := Lib.hid hq; obtain ⟨x50, x51, x52, x53, x54, x55, _⟩ := HX5'.out.below G8.out HX5'.out.sl; rw [HA.out] at x53; obtain ⟨y50, y51, y52, y53, y54, y55, _⟩ := HB1'.out.below G8.out HB1'.out.sl)
        | (go_at_call 12; ((with_reducible refine (HSS.out _ G8.out q HQ.out).mono ?_); rintro e w9 ⟨rfl, g9⟩; have G9 := Lib.hid (G8.out.trans (g9.mono G8.out.size)); obtain ⟨x50, x51, x52, x53, x54, x55, _⟩ := HX5'.out.below G9.out HX5'.out.sl; rw [HA.out] at x53; obtain ⟨y50, y51, y52, y53, y54, y55, _⟩ := HB1'.out.below G9.out HB1'.out.sl))
        | (go_at_call 12; ((with_reducible refine (HSA.out _ G9.out).mono ?_); rintro e w10 ⟨rfl, g10⟩; have G10 := Lib.hid (G9.out.trans (g10.mono G9.out.size)); obtain ⟨x50, x51, x52, x53, x54, x55, _⟩ := HX5'.out.below G10.out HX5'.out.sl; rw [HA.out] at x53; obtain ⟨y50, y51, y52, y53, y54, y55, _⟩ := HB1'.out.below G10.out HB1'.out.sl))
        | (go_at_call 47; ((with_reducible refine (HDD.out _ G10.out).mono ?_); rintro e w11 ⟨rfl, g11⟩; have G11 := Lib.hid (G10.out.trans (g11.mono G10.out.size)); obtain ⟨x50, x51, x52, x53, x54, x55, _⟩ := HX5'.out.below G11.out HX5'.out.sl; rw [HA.out] at x53; obtain ⟨y50, y51, y52, y53, y54, y55, _⟩ := HB1'.out.below G11.out HB1'.out.sl)))
    all_goals
      go_wp2_with fail
      go_ret
      exact ⟨rfl, (HG2.out.trans (G10.out.mono HG2.out.size)).trans (g11.mono (HG2.out.trans (G10.out.mono HG2.out.size)).size)⟩
end Go.Proofs
