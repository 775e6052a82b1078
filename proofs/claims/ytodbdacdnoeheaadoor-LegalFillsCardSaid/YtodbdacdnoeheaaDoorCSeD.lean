/- Walks: a vertex is left. -/
import Derived.Test.YtodbdacdnoeheaaDoorCSeC
import Derived.Deep.DeepCutAuto
namespace Go.Proofs
open Go.RowKit Go.Lx Go.Md Go.Shelf Go.BigFrame Go.Rgi
set_option linter.unusedVariables false
def LeaveP (m : MdlD) (la ll : List Int) (v : Int) (w : World) (e : Ending) (w' : World) : Prop := Below w.heap.size w w' ∧
  ((mayE m la ll v ≠ 0 ∧ e = .returned (.tuple #[.agg #[.slice none 0 0, .slice none 0 0], .int .i64 (mayE m la ll v : Int)])) ∨
   (mayE m la ll v = 0 ∧ leaveOk m la v = false ∧ e = .returned (.tuple #[.agg #[.slice none 0 0, .slice none 0 0], .int .i64 4])) ∨
   (mayE m la ll v = 0 ∧ leaveOk m la v = true ∧ ∃ v1 v2, e = .returned (.tuple #[.agg #[v1, v2], .int .i64 0]) ∧ w'.ownsRow w.heap.size 3 1 v1 la.length (nums (la.set (rgA m v).toNat (-1))) ∧ w'.ownsRow w.heap.size 3 1 v2 ll.length (nums (ll.set (rgA m v).toNat v)) ∧ ∀ g, v1.ownBlock = some g → v2.ownBlock ≠ some g))
theorem LeaveP.bad {m : MdlD} {la ll : List Int} {v : Int} {w w' : World} {E : Nat} (hE : mayE m la ll v = E) (hn : E ≠ 0) (hb : Below w.heap.size w w') : LeaveP m la ll v w (.returned (.tuple #[.agg #[.slice none 0 0, .slice none 0 0], .int .i64 (E : Int)])) w' := by
  subst hE; exact ⟨hb, .inl ⟨hn, rfl⟩⟩
theorem LeaveP.no {m : MdlD} {la ll : List Int} {v : Int} {w w' : World} (hE : mayE m la ll v = 0) (hn : leaveOk m la v = false) (hb : Below w.heap.size w w') : LeaveP m la ll v w (.returned (.tuple #[.agg #[.slice none 0 0, .slice none 0 0], .int .i64 4])) w' :=
  ⟨hb, .inr (.inl ⟨hE, hn, rfl⟩)⟩
theorem LeaveP.yes {m : MdlD} {la ll : List Int} {v : Int} {w w' : World} {v1 v2 : Value} {r : Nat} (hE : mayE m la ll v = 0) (hn : leaveOk m la v = true) (hr : (rgA m v).toNat = r) (hb : Below w.heap.size w w') (o1 : w'.ownsRow w.heap.size 3 1 v1 la.length ((nums la).set r (.int .i64 (-1)))) (o2 : w'.ownsRow w.heap.size 3 1 v2 ll.length ((nums ll).set r (.int .i64 v))) (hd : ∀ g, v1.ownBlock = some g → v2.ownBlock ≠ some g) :
    LeaveP m la ll v w (.returned (.tuple #[.agg #[v1, v2], .int .i64 0])) w' := by
  refine ⟨hb, .inr (.inr ⟨hE, hn, v1, v2, rfl, ?_, ?_, hd⟩)⟩
  · rw [hr, show nums (la.set r (-1)) = (nums la).set r (.int .i64 (-1)) by simp [nums, List.map_set]]; exact o1
  · rw [hr, show nums (ll.set r v) = (nums ll).set r (.int .i64 v) by simp [nums, List.map_set]]; exact o2
theorem mayE_zero {m : MdlD} {la ll : List Int} {v : Int} (h : mayE m la ll v = 0) : fit2 m la ll = true ∧ stands m v = true := by
  unfold mayE at h
  split at h
  · rename_i h2; rwa [Bool.and_eq_true] at h2
  · cases h
--IF (*sets.Sets).Leave
set_option maxRecDepth 100000 in
set_option maxHeartbeats 8000000 in
theorem leave_any {B : Nat} {m : MdlD} {SB : Nat} {w : World} (h : SetAt B m SB w) (h0 : riM m = (0, 0, 0)) (hm1 : m.regs.length ≤ 1000) (hm2 : m.vers.length ≤ 1000) (la ll : List Int) (a1 a2 : Option Addr) (c1 c2 : Nat) (h1 : RowIn w (.slice a1 la.length c1) la) (h2 : RowIn w (.slice a2 ll.length c2) ll) (b1 : la.length ≤ 140737488355328) (b2 : ll.length ≤ 140737488355328) (v : Int) :
    Calls Tryd.prog 13 #[.pointer (some ⟨SB, 0, none⟩), .agg #[.slice a1 la.length c1, .slice a2 ll.length c2], .int .i64 v] w (LeaveP m la ll v w) := by
  have HB1 : Hid (Below w.heap.size w ((w.alloc (.cells #[.slice a1 la.length c1, .slice a2 ll.length c2] 31)).alloc (.cells #[.slice none 0 0, .slice none 0 0] 31))) := Lib.hid (below_al2 w _ _)
  have HC := Lib.hid ((Cb.made h1 h2).below (below_al1 _ (.cells #[.slice none 0 0, .slice none 0 0] 31)))
  have HA := Lib.hid (h.grown HB1.out)
  have HAw := Lib.hid (fun wx (g : Below w.heap.size w wx) => h.grown g)
  have HSB : Hid (SB < w.heap.size) := Lib.hid (by obtain ⟨_, _, _, _, _, _, _, hz⟩ := h; exact hz)
  have hz : ((w.alloc (.cells #[.slice a1 la.length c1, .slice a2 ll.length c2] 31)).alloc (.cells #[.slice none 0 0, .slice none 0 0] 31)).heap.size = w.heap.size + 1 + 1 := by simp
  have e0 : ((w.alloc (.cells #[.slice a1 la.length c1, .slice a2 ll.length c2] 31)).alloc (.cells #[.slice none 0 0, .slice none 0 0] 31)).heap[w.heap.size]? = some (.cells #[.slice a1 la.length c1, .slice a2 ll.length c2] 31 (0, 0)) := (Below.heap_alloc _ _ _ (by simp)).trans (World.alloc_heap_new w _)
  have e1 := World.alloc_heap_new (w.alloc (.cells #[.slice a1 la.length c1, .slice a2 ll.length c2] 31)) (.cells #[.slice none 0 0, .slice none 0 0] 31)
  rw [World.size_alloc] at e1
  have HK : Hid (∀ wx, Below (w.heap.size + 1 + 1) ((w.alloc (.cells #[.slice a1 la.length c1, .slice a2 ll.length c2] 31)).alloc (.cells #[.slice none 0 0, .slice none 0 0] 31)) wx → (wx.cell? ⟨w.heap.size + 1, 0, none⟩ = some (.slice none 0 0) ∧ wx.cell? ⟨w.heap.size + 1, 1, none⟩ = some (.slice none 0 0) ∧ wx.frozen? ⟨w.heap.size + 1, 0, none⟩ = false ∧ wx.frozen? ⟨w.heap.size + 1, 1, none⟩ = false) ∧ wx.frozen? ⟨w.heap.size, 0, none⟩ = false ∧ wx.frozen? ⟨w.heap.size, 1, none⟩ = false) := Lib.hid fun wx g => by
    have f0 := (g.block w.heap.size (by omega)).trans e0
    have f1 := (g.block (w.heap.size + 1) (by omega)).trans e1
    exact ⟨⟨cell_blk f1 0, cell_blk f1 1, frz_b f1 0, frz_b f1 1⟩, frz_b f0 0, frz_b f0 1⟩
  clear e0 e1
  have MY := Lib.hid (may20_any HA.out h0 hm2 la ll a1 a2 c1 c2 HC.out.r1 HC.out.r2 b1 b2 v)
  have H0 := Lib.hid h0
  have HMz := Lib.hid (fun h : mayE m la ll v = 0 => mayE_zero h)
  obtain ⟨E, hEe⟩ : ∃ E, mayE m la ll v = E := ⟨_, rfl⟩
  rw [hEe] at MY HMz
  have HEe := Lib.hid hEe
  clear hEe
  clear h h1 h2 b1 b2 h0
  go_enter Tryd.func13, Tryd.ntmps13
  go_upto_region 1 with fail
  generalize (w.alloc (.cells #[.slice a1 la.length c1, .slice a2 ll.length c2] 31)).alloc (.cells #[.slice none 0 0, .slice none 0 0] 31) = W1 at *
  have d0 := HC.out.d0
  have d1 := HC.out.d1
  go_wp2_with fail
  (with_reducible refine (MY.out).mono ?_)
  rintro e w3 ⟨rfl, g3⟩
  have HC3 := Lib.hid (HC.out.below g3)
  have HA3 := Lib.hid (HA.out.grown g3)
  have HB3 := Lib.hid (HB1.out.trans (g3.mono HB1.out.size))
  have HK3 := Lib.hid (fun wx (g : Below w3.heap.size w3 wx) => HK.out wx ((g3.trans (g.mono g3.size)).mono (by omega)))
  have hz3 : w.heap.size + 1 + 1 ≤ w3.heap.size := by have := g3.size; omega
  clear d0 d1 HC HA HB1 HK g3 MY hz
  obtain ⟨⟨t0, t1, t2, t3⟩, t4, t5⟩ := HK3.out w3 (Below.refl _ _)
  by_cases hE : E = 0
  rotate_left
  · have hz1 : ((E : Int) != 0) = true := by simp only [bne_iff_ne, ne_eq]; omega
    have HE := Lib.hid hE
    clear HMz hE
    go_wp2_with fail
    refine bodyPost_ret (v := .tuple #[.agg #[.slice none 0 0, .slice none 0 0], .int .i64 (E : Int)]) (by simp [results, Tryd.results13, go_sem, t0, t1]) rfl (LeaveP.bad HEe.out HE.out ((HB3.out.setCell (p := ⟨w.heap.size + 1, 0, none⟩) (by simp) _).setCell (p := ⟨w.heap.size + 1, 1, none⟩) (by simp) _))
  subst hE
  obtain ⟨hfit, hst⟩ := HMz.out rfl
  obtain ⟨F1, F2⟩ := fit_of H0.out hfit
  obtain ⟨k, hk, rfl, r, hr, er1, er2, er3, er4, er5⟩ := stands_in H0.out hst
  have HEr := Lib.hid er2
  have HF1 := Lib.hid F1
  have HF2 := Lib.hid F2
  have hrl : r < la.length := by rw [F1.hl]; exact hr
  have hrl2 : r < ll.length := by rw [F2.hl]; exact hr
  have hla : la.length ≤ 1000 := by rw [F1.hl]; exact hm1
  have hll : ll.length ≤ 1000 := by rw [F2.hl]; exact hm1
  have d0 := HC3.out.d0
  have d1 := HC3.out.d1
  obtain ⟨IB, kv, hi, s0, s1, s2, hku, hzS⟩ := HA3.out
  have HRg := Lib.hid (regions_any hi (k : Int) (WalkArith.wf_i64 ⟨by omega, by omega⟩) (by omega))
  have HCt := Lib.hid (fun wx (g : Below w3.heap.size w3 wx) (rv : Value) (hr : RowIn wx rv (ownM m (k : Int))) => containsLv_any (fun q => decide (0 ≤ atL la q)) (ownM m (k : Int)) rv w.heap.size wx hr (by have := sel_len (isOwn (k : Int)) m.regs; have e : (ownM m (k : Int)).length ≤ m.regs.length := this; omega) (fun wy gy x hx => by
    obtain ⟨j, hj, rfl, _⟩ := own_at hx
    exact leave1_any (HC3.out.below (below_ch g gy)) (by rw [HF1.out.hl]; exact hj)))
  have HAc := Lib.hid (fun wx (g : Below w3.heap.size w3 wx) => active20_any (HA3.out.grown g) hm2 la ll a1 a2 c1 c2 (HC3.out.below g).r1 (HC3.out.below g).r2 k r hk er2 hrl)
  have HOk : Hid (∀ b c, (ownM m (k : Int)).any (fun q => decide (0 ≤ atL la q)) = b → (atL la r == (k : Int)) = c → leaveOk m la k = (!b && c)) := Lib.hid fun b c hb hc => by
    unfold leaveOk isA
    rw [hb, hst, er1, hc]; rfl
  have HRa : Hid ((rgA m (k : Int)).toNat = r) := Lib.hid (by rw [er1]; rfl)
  have hOl : (ownM m (k : Int)).length ≤ 1000 := by have := sel_len (isOwn (k : Int)) m.regs; have e : (ownM m (k : Int)).length ≤ m.regs.length := this; omega
  clear HMz hfit hst F1 F2 hi hku er1 er2 er3 er4 er5
  go_wp2_with fail
  (with_reducible refine (HRg.out).mono ?_)
  rintro e w4 ⟨rv, rfl, o4, g4⟩
  obtain ⟨ra, rc, rfl⟩ := ownsRow_slice o4
  have HCt4 := Lib.hid (HCt.out w4 g4 _ (RowIn.own o4))
  have HG4 := Lib.hid g4
  clear o4 g4 HRg HCt
  generalize (ownM m (k : Int)).any (fun q => decide (0 ≤ atL la q)) = bz at *
  go_wp2_with fail
  (with_reducible refine (HCt4.out).mono ?_)
  rintro e w5 ⟨rfl, g5⟩
  have HG5 := Lib.hid (below_ch HG4.out g5)
  clear g5 HG4 HCt4
  have hz5 : w.heap.size + 1 + 1 ≤ w5.heap.size := by have := HG5.out.size; omega
  clear d0 d1 s0 s1 s2 hzS t0 t1 t2 t3 t4 t5
  have d0 := (HC3.out.below HG5.out).d0
  have d1 := (HC3.out.below HG5.out).d1
  obtain ⟨⟨t0, t1, t2, t3⟩, t4, t5⟩ := HK3.out w5 HG5.out
  cases bz
  rotate_left
  · have HL := Lib.hid (HOk.out true (atL la r == (k : Int)) rfl rfl)
    have HB5 := Lib.hid (HB3.out.trans (HG5.out.mono HB3.out.size))
    clear HOk HAc
    go_wp2_with fail
    refine bodyPost_ret (v := .tuple #[.agg #[.slice none 0 0, .slice none 0 0], .int .i64 4]) (by simp [results, Tryd.results13, go_sem, t0, t1]) rfl (LeaveP.no HEe.out HL.out ((HB5.out.setCell (p := ⟨w.heap.size + 1, 0, none⟩) (by simp) _).setCell (p := ⟨w.heap.size + 1, 1, none⟩) (by simp) _))
  have HAc5 := Lib.hid (HAc.out w5 HG5.out)
  obtain ⟨y, hy⟩ : ∃ y, (atL la r == (k : Int)) = y := ⟨_, rfl⟩
  rw [hy] at HAc5
  have HL := Lib.hid (HOk.out false y rfl hy)
  clear HOk HAc hy
  go_wp2_with fail
  (with_reducible refine (HAc5.out).mono ?_)
  rintro e w6 ⟨rfl, g6⟩
  have HG6 := Lib.hid (below_ch HG5.out g6)
  clear g6 HG5 HAc5 d0 d1 t0 t1 t2 t3 t4 t5
  have hz6 : w.heap.size + 1 + 1 ≤ w6.heap.size := by have := HG6.out.size; omega
  have d0 := (HC3.out.below HG6.out).d0
  have d1 := (HC3.out.below HG6.out).d1
  have HB6 := Lib.hid (HB3.out.trans (HG6.out.mono HB3.out.size))
  obtain ⟨⟨t0, t1, t2, t3⟩, t4, t5⟩ := HK3.out w6 HG6.out
  cases y
  · go_wp2_with fail
    refine bodyPost_ret (v := .tuple #[.agg #[.slice none 0 0, .slice none 0 0], .int .i64 4]) (by simp [results, Tryd.results13, go_sem, t0, t1]) rfl (LeaveP.no HEe.out HL.out ((HB6.out.setCell (p := ⟨w.heap.size + 1, 0, none⟩) (by simp) _).setCell (p := ⟨w.heap.size + 1, 1, none⟩) (by simp) _))
  · have HCl := Lib.hid (cfgClone_any w6 (HC3.out.below HG6.out).r1 (HC3.out.below HG6.out).r2 (fun e => by rw [e] at hrl; simp at hrl) (fun e => by rw [e] at hrl2; simp at hrl2) (by omega) (by omega))
    clear HC3 t0 t1 t2 t3 t4 t5
    go_wp2_with fail
    (with_reducible refine (HCl.out).mono ?_)
    rintro e w7 ⟨v1, v2, rfl, o1, o2, hd, g7⟩
    obtain ⟨g1, cap1, rfl⟩ := ownsRow_pos o1 (by omega)
    obtain ⟨g2, cap2, rfl⟩ := ownsRow_pos o2 (by omega)
    have hg12 : g1 ≠ g2 := fun e => hd g1 rfl (by rw [e]; rfl)
    have hgl1 := o1.lt g1 rfl
    have hgl2 := o2.lt g2 rfl
    have hcp1 := ownsRow_capL o1
    have hcp2 := ownsRow_capL o2
    have HG7 := Lib.hid (below_ch HG6.out g7)
    obtain ⟨⟨t0, t1, t2, t3⟩, t4, t5⟩ := HK3.out w7 HG7.out
    have e0 := (g7.cell (p := ⟨w.heap.size, 0, none⟩) (by simp only; omega)).trans d0
    have e1 := (g7.cell (p := ⟨w.heap.size, 1, none⟩) (by simp only; omega)).trans d1
    have HB7 := Lib.hid (HB6.out.trans (g7.mono HB6.out.size))
    have HO1 := Lib.hid o1
    have HO2 := Lib.hid o2
    clear o1 o2 hd g7 d0 d1 HCl HK3
    go_upto_region 8 with fail
    have hB8 : Below w.heap.size w ((w7.setCell ⟨w.heap.size, 0, none⟩ (.slice (some ⟨g1, 0, none⟩) la.length cap1)).setCell ⟨w.heap.size, 1, none⟩ (.slice (some ⟨g2, 0, none⟩) ll.length cap2)) := (HB7.out.setCell (p := ⟨w.heap.size, 0, none⟩) (Nat.le_refl _) _).setCell (p := ⟨w.heap.size, 1, none⟩) (Nat.le_refl _) _
    have k1 : ((w7.setCell ⟨w.heap.size, 0, none⟩ (.slice (some ⟨g1, 0, none⟩) la.length cap1)).setCell ⟨w.heap.size, 1, none⟩ (.slice (some ⟨g2, 0, none⟩) ll.length cap2)).cell? ⟨w.heap.size, 1, none⟩ = some (.slice (some ⟨g2, 0, none⟩) ll.length cap2) := World.cell?_setCell_same _ _ _ ((World.cell?_setCell_other _ _ _ _ (by simp)).trans e1)
    have k0 : ((w7.setCell ⟨w.heap.size, 0, none⟩ (.slice (some ⟨g1, 0, none⟩) la.length cap1)).setCell ⟨w.heap.size, 1, none⟩ (.slice (some ⟨g2, 0, none⟩) ll.length cap2)).cell? ⟨w.heap.size, 0, none⟩ = some (.slice (some ⟨g1, 0, none⟩) la.length cap1) := (World.cell?_setCell_other _ _ _ _ (by simp)).trans (World.cell?_setCell_same _ _ _ e0)
    have p1 := ownsRow_setCell_below (a := ⟨w.heap.size, 1, none⟩) (ownsRow_setCell_below (a := ⟨w.heap.size, 0, none⟩) HO1.out (by simp only; omega) (.slice (some ⟨g1, 0, none⟩) la.length cap1)) (by simp only; omega) (.slice (some ⟨g2, 0, none⟩) ll.length cap2)
    have p2 := ownsRow_setCell_below (a := ⟨w.heap.size, 1, none⟩) (ownsRow_setCell_below (a := ⟨w.heap.size, 0, none⟩) HO2.out (by simp only; omega) (.slice (some ⟨g1, 0, none⟩) la.length cap1)) (by simp only; omega) (.slice (some ⟨g2, 0, none⟩) ll.length cap2)
    have kb : ∀ b, b ≠ w.heap.size → ((w7.setCell ⟨w.heap.size, 0, none⟩ (.slice (some ⟨g1, 0, none⟩) la.length cap1)).setCell ⟨w.heap.size, 1, none⟩ (.slice (some ⟨g2, 0, none⟩) ll.length cap2)).heap[b]? = w7.heap[b]? := fun b hb => (Below.heap_setCell _ _ _ _ hb).trans (Below.heap_setCell _ _ _ _ hb)
    generalize (w7.setCell ⟨w.heap.size, 0, none⟩ (.slice (some ⟨g1, 0, none⟩) la.length cap1)).setCell ⟨w.heap.size, 1, none⟩ (.slice (some ⟨g2, 0, none⟩) ll.length cap2) = W8 at *
    have u0 : W8.cell? ⟨w.heap.size + 1, 0, none⟩ = some (.slice none 0 0) := (World.cell?_of_block (w := w7) (kb _ (by simp))).trans t0
    have u1 : W8.cell? ⟨w.heap.size + 1, 1, none⟩ = some (.slice none 0 0) := (World.cell?_of_block (w := w7) (kb _ (by simp))).trans t1
    have u2 : W8.frozen? ⟨w.heap.size + 1, 0, none⟩ = false := (World.frozen?_of_block (w := w7) (kb _ (by simp))).trans t2
    have u3 : W8.frozen? ⟨w.heap.size + 1, 1, none⟩ = false := (World.frozen?_of_block (w := w7) (kb _ (by simp))).trans t3
    have hgl1 := p1.lt g1 rfl
    have hgl2 := p2.lt g2 rfl
    have HB8 := Lib.hid hB8
    have HP1 := Lib.hid p1
    have HP2 := Lib.hid p2
    clear t0 t1 t2 t3 t4 t5 e0 e1 HB7 HG7 HO1 HO2 kb
    obtain ⟨IB, kv, hi, s0, s1, s2, hku, hzS⟩ := HAw.out W8 hB8
    have HHm := Lib.hid (home_any hi (k : Int) (WalkArith.wf_i64 ⟨by omega, by omega⟩))
    rw [HEr.out] at HHm
    clear hi hku hB8
    go_wp2_with fail
    (with_reducible refine (HHm.out).mono ?_)
    rintro e w9 ⟨rfl, rfl⟩
    have q1 := (HP1.out.cellAt r (by omega)).trans (show (nums la)[r]? = some (.int .i64 la[r]) by simp [nums, hrl])
    have q2 := (HP2.out.cellAt r (by omega)).trans (show (nums ll)[r]? = some (.int .i64 ll[r]) by simp [nums, hrl2])
    have f1 := HP1.out.frozenAt r
    have f2 := HP2.out.frozenAt r
    have hrI : (r : Int) < (la.length : Int) := by omega
    have hrI2 : (r : Int) < (ll.length : Int) := by omega
    have hr0 : (0 : Int) ≤ (r : Int) := by omega
    clear p1 p2 HHm s0 s1 s2 hzS
    go_upto_region 9 with fail
    go_region
    have kb9 : ∀ b, b ≠ g1 → b ≠ g2 → (((W8.setCell ⟨g1, r, none⟩ (.int .i64 (-1))).setCell ⟨g2, r, none⟩ (.int .i64 (k : Int))).drew).heap[b]? = W8.heap[b]? := fun b h1 h2 => (Below.heap_setCell _ _ _ _ h2).trans (Below.heap_setCell _ _ _ _ h1)
    have hB9 : Below w.heap.size w (((W8.setCell ⟨g1, r, none⟩ (.int .i64 (-1))).setCell ⟨g2, r, none⟩ (.int .i64 (k : Int))).drew) := ((HB8.out.setCell (p := ⟨g1, r, none⟩) (by simp only; omega) _).setCell (p := ⟨g2, r, none⟩) (by simp only; omega) _).drew
    have m1 : (((W8.setCell ⟨g1, r, none⟩ (.int .i64 (-1))).setCell ⟨g2, r, none⟩ (.int .i64 (k : Int))).drew).ownsRow w6.heap.size 3 1 (.slice (some ⟨g1, 0, none⟩) la.length cap1) la.length ((nums la).set r (.int .i64 (-1))) :=
      own_below (ownsRow_setCell_other (HP1.out.stored r (.int .i64 (-1))).1 (fun e => hg12 (by simpa [Value.ownBlock] using e)) _) (Below.refl _ _).drew
    have m2 : (((W8.setCell ⟨g1, r, none⟩ (.int .i64 (-1))).setCell ⟨g2, r, none⟩ (.int .i64 (k : Int))).drew).ownsRow w6.heap.size 3 1 (.slice (some ⟨g2, 0, none⟩) ll.length cap2) ll.length ((nums ll).set r (.int .i64 (k : Int))) :=
      own_below ((ownsRow_setCell_other HP2.out (fun e => hg12 (by simpa [Value.ownBlock] using e.symm)) _).stored r (.int .i64 (k : Int))).1 (Below.refl _ _).drew
    generalize ((W8.setCell ⟨g1, r, none⟩ (.int .i64 (-1))).setCell ⟨g2, r, none⟩ (.int .i64 (k : Int))).drew = W9 at *
    have n0 : W9.cell? ⟨w.heap.size, 0, none⟩ = some (.slice (some ⟨g1, 0, none⟩) la.length cap1) := (World.cell?_of_block (w := W8) (kb9 _ (by simp only; omega) (by simp only; omega))).trans k0
    have n1 : W9.cell? ⟨w.heap.size, 1, none⟩ = some (.slice (some ⟨g2, 0, none⟩) ll.length cap2) := (World.cell?_of_block (w := W8) (kb9 _ (by simp only; omega) (by simp only; omega))).trans k1
    have n2 : W9.cell? ⟨w.heap.size + 1, 0, none⟩ = some (.slice none 0 0) := (World.cell?_of_block (w := W8) (kb9 _ (by simp only; omega) (by simp only; omega))).trans u0
    have n3 : W9.cell? ⟨w.heap.size + 1, 1, none⟩ = some (.slice none 0 0) := (World.cell?_of_block (w := W8) (kb9 _ (by simp only; omega) (by simp only; omega))).trans u1
    have n4 : W9.frozen? ⟨w.heap.size + 1, 0, none⟩ = false := (World.frozen?_of_block (w := W8) (kb9 _ (by simp only; omega) (by simp only; omega))).trans u2
    have n5 : W9.frozen? ⟨w.heap.size + 1, 1, none⟩ = false := (World.frozen?_of_block (w := W8) (kb9 _ (by simp only; omega) (by simp only; omega))).trans u3
    have HB9 := Lib.hid hB9
    have HM1 := Lib.hid m1
    have HM2 := Lib.hid m2
    clear kb9 hB9 m1 m2 u0 u1 u2 u3 k0 k1 q1 q2 f1 f2 HP1 HP2 HB8
    go_wp2_with fail
    refine bodyPost_ret (v := .tuple #[.agg #[.slice (some ⟨g1, 0, none⟩) la.length cap1, .slice (some ⟨g2, 0, none⟩) ll.length cap2], .int .i64 0]) (by simp [results, Tryd.results13, go_sem, n2, n3]) rfl (LeaveP.yes HEe.out HL.out HRa.out ((HB9.out.setCell (p := ⟨w.heap.size + 1, 0, none⟩) (by simp) _).setCell (p := ⟨w.heap.size + 1, 1, none⟩) (by simp) _) ?_ ?_ (fun g h1 h2 => hg12 (by simp only [Value.ownBlock, Option.some.injEq] at h1 h2; omega)))
    · exact (ownsRow_setCell_below (a := ⟨w.heap.size + 1, 1, none⟩) (ownsRow_setCell_below (a := ⟨w.heap.size + 1, 0, none⟩) HM1.out (by simp only; omega) _) (by simp only; omega) _).mono (by omega)
    · exact (ownsRow_setCell_below (a := ⟨w.heap.size + 1, 1, none⟩) (ownsRow_setCell_below (a := ⟨w.heap.size + 1, 0, none⟩) HM2.out (by simp only; omega) _) (by simp only; omega) _).mono (by omega)
--FI
end Go.Proofs
