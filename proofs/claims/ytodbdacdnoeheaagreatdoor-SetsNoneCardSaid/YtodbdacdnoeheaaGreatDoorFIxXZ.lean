/- Walks: 'small' of law 16; the index behind what is written over. -/
import Derived.Test.YtodbdacdnoeheaaGreatDoorFIxVX
import Derived.Test.YtodbdacdnoeheaaGreatDoorFMdPl
import Derived.Test.YtodbdacdnoeheaaGreatDoorFLexAB
import Derived.Deep.RegionLaw
import Derived.Deep.DeepCutAuto
import Derived.Test.YtodbdacdnoeheaaGreatDoorFMdJ
namespace Go.Proofs
open Go.RowKit Go.Lx Go.Md Go.Shelf Go.BigFrame
set_option linter.unusedVariables false
theorem few_sml {m : MdlD} (h : FewP m) : Sml m :=
  ⟨by have := h.vars; omega, by have := h.evs; omega, by have := h.regs; omega, by have := h.vers; omega, by have := h.trns; omega, fun x hx => by have := h.df x hx; omega, fun x hx => by have := h.tr x hx; omega⟩
structure Sm16 (m : MdlD) : Prop where
  rg : m.regs.length ≤ 30
  vr : m.vers.length ≤ 40
  tr : m.trns.length ≤ 40
  few : FewP m
set_option maxHeartbeats 1000000 in
theorem small16_any {Q : Nat → BP} (m : MdlD) (p : Ph) (w : World) (h : Mod Q w m p) (hm : MdlOk m) :
    Calls Tryz.prog 8 #[mdV m p] w fun e w' => BoolSays (Sm16 m) e ∧ Below w.heap.size w w' := by
  have HF := Lib.hid (fun wx (hb : Below w.heap.size w wx) => few_any m p wx (h.kept fun _ => Kept.of_below hb) hm)
  have HB : Hid (∀ o wx, Below (w.alloc o).heap.size (w.alloc o) wx → Below w.heap.size w wx) := fun o wx g => below_bx1 g
  unfold mdV at HF ⊢
  have b1 := hm.regs
  have b2 := hm.vers
  have b3 := hm.trns
  clear h hm
  by_cases h1 : m.regs.length ≤ 30
  · have d1 : ((m.regs.length : Int) ≤ 30) := by omega
    by_cases h2 : m.vers.length ≤ 40
    · have d2 : ((m.vers.length : Int) ≤ 40) := by omega
      by_cases h3 : m.trns.length ≤ 40
      · have d3 : ((m.trns.length : Int) ≤ 40) := by omega
        go_enter Tryz.func8, Tryz.ntmps8
        go_wp2_with ((with_reducible refine (HF.out _ (below_al1 w _)).mono ?_); rintro e w' ⟨⟨b, rfl, hs⟩, hb⟩)
        go_ret
        exact ⟨⟨b, rfl, fun ht => ⟨h1, h2, h3, hs ht⟩⟩, HB.out _ _ hb⟩
      · have d3 : ¬ ((m.trns.length : Int) ≤ 40) := by omega
        go_enter Tryz.func8, Tryz.ntmps8
        go_wp2_with fail
        go_ret
        exact ⟨⟨false, rfl, fun ht => by cases ht⟩, below_al1 w _⟩
    · have d2 : ¬ ((m.vers.length : Int) ≤ 40) := by omega
      go_enter Tryz.func8, Tryz.ntmps8
      go_wp2_with fail
      go_ret
      exact ⟨⟨false, rfl, fun ht => by cases ht⟩, below_al1 w _⟩
  · have d1 : ¬ ((m.regs.length : Int) ≤ 30) := by omega
    go_enter Tryz.func8, Tryz.ntmps8
    go_wp2_with fail
    go_ret
    exact ⟨⟨false, rfl, fun ht => by cases ht⟩, below_al1 w _⟩
/-- The index behind a change of blocks below its own. -/
theorem IxSt.keepC {W W' : World} {np nk N1 PB KB MO MP IB XB : Nat} {pl : Nat → PlD} {F : RI → List Int} {V : RI → Value} {co cp : Nat} {wx wy : World} (h : IxSt W np nk N1 PB KB MO MP IB XB pl F V co cp wx) (D : Dst W.heap.size N1 PB KB MO MP IB XB) (hb : Below W'.heap.size W' wy)
    (k1 : ∀ b, W.heap.size ≤ b → b < wx.heap.size → wy.heap[b]? = wx.heap[b]?) (hN : W.heap.size ≤ N1) (hz : wx.heap.size ≤ wy.heap.size) : IxSt W' np nk N1 PB KB MO MP IB XB pl F V co cp wy := by
  obtain ⟨h1, h2, h3, h4, h5, h6⟩ := D.hi
  obtain ⟨l1, l2, l3, l4, l5, l6⟩ := D.lo
  have z := h.z
  have kc : ∀ b k, W.heap.size ≤ b → b < wx.heap.size → wy.cell? ⟨b, k, none⟩ = wx.cell? ⟨b, k, none⟩ := fun b k h1 h2 => World.cell?_of_block (w := wx) (k1 b h1 h2)
  have kf : ∀ b k, W.heap.size ≤ b → b < wx.heap.size → wy.frozen? ⟨b, k, none⟩ = wx.frozen? ⟨b, k, none⟩ := fun b k h1 h2 => World.frozen?_of_block (w := wx) (k1 b h1 h2)
  exact ⟨hb, (kc _ _ l6 (by omega)).trans h.x, (k1 _ l5 (by omega)).trans h.i, fun i hi => (h.pl i hi).keep fun j _ => kc _ _ l1 (by omega), fun k => (kf _ _ l1 (by omega)).trans (h.pf k), fun r hr => (kc _ _ l2 (by omega)).trans (h.kd r hr), fun k => (kf _ _ l2 (by omega)).trans (h.kf k), h.mo.keep (k1 _ l3 (by omega)), h.mp.keep (k1 _ l4 (by omega)), h.rw.keep (fun i g hg => k1 g (by have := (h.rw.lt hg).1; omega) (h.rw.lt hg).2), by omega⟩
theorem IdxAt.keep {B : Nat} {m : MdlD} {IB : Nat} {wx wy : World} (h : IdxAt B m IB wx) (hz : wx.heap.size ≤ wy.heap.size) (k1 : ∀ b, B ≤ b → b < wx.heap.size → wy.heap[b]? = wx.heap[b]?) : IdxAt B m IB wy := by
  obtain ⟨W, N1, PB, KB, MO, MP, XB, cp, V, h1, h2, D, h⟩ := h
  have hW : W.heap.size ≤ wy.heap.size := Nat.le_trans h.bel.size hz
  have hs : ({ wy with heap := wy.heap.extract 0 W.heap.size } : World).heap.size = W.heap.size := by simp; omega
  refine ⟨{ wy with heap := wy.heap.extract 0 W.heap.size }, N1, PB, KB, MO, MP, XB, cp, V, by rw [hs]; exact h1, by rw [hs]; exact h2, by rw [hs]; exact D, h.keepC D ⟨rfl, rfl, rfl, by rw [hs]; exact hW, fun b hb => ?_⟩ (fun b hb hl => k1 b (Nat.le_trans h1 hb) hl) h2 hz⟩
  rw [hs] at hb
  show wy.heap[b]? = (wy.heap.extract 0 W.heap.size)[b]?
  rw [Array.getElem?_extract]
  simp; omega
theorem IdxAt.pl {B : Nat} {m : MdlD} {IB lo hi : Nat} {wx wy : World} (h : IdxAt B m IB wx) (g : Pl lo hi wx wy) (hB : hi ≤ B) : IdxAt B m IB wy :=
  h.keep g.size fun b hb hl => g.block b hl (.inr (by omega))
end Go.Proofs
