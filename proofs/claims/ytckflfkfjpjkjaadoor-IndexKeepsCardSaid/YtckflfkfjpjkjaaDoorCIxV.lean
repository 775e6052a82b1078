/- Walks: 'works' of law 16. -/
import Derived.Test.YtckflfkfjpjkjaaDoorCIxY
import Derived.Test.YtckflfkfjpjkjaaDoorCIxW
import Derived.Test.YtckflfkfjpjkjaaDoorCIxDr
namespace Go.Proofs
open Go.RowKit Go.Lx Go.Md Go.Shelf Go.BigFrame
set_option linter.unusedVariables false
theorem RowIn.fresh (w : World) (l : List Int) (cs : Array Value) (h : cs.toList = nums l) (n : Nat) (hn : l.length = n) : RowIn (w.alloc (.cells cs 3)) (.slice (some ⟨w.heap.size, 0, none⟩) n n) l := by
  subst hn
  refine .inr ⟨w.heap.size, 0, l.length, rfl, Nat.le_refl _, by simp, fun j u hj => ?_⟩
  rw [addr_add, Nat.zero_add]
  refine (cell_blk (alloc1_at w (.cells cs 3)) j).trans ?_
  rw [← Array.getElem?_toList, h]; exact hj
theorem same_self (l : List Int) (v1 v2 : Value) (w : World) (h1 : RowIn w v1 l) (h2 : RowIn w v2 l) (b1 : l.length ≤ 1000000) : Calls Tryd.prog 38 #[v1, v2] w fun e w' => e = .returned (.bool true) ∧ Below w.heap.size w w' := by
  refine (sameints_any l l v1 v2 w h1 h2 b1 b1).mono ?_
  rintro e w' ⟨rfl, hb⟩
  exact ⟨by simp, hb⟩
section
variable {B IB : Nat} {w : World}
def RowD (l : List Int) (w : World) (e : Ending) (w' : World) : Prop := ∃ v, e = .returned v ∧ RowIn w' v l ∧ Below w.heap.size w w'
theorem RowP.d {l l' : List Int} {w w' : World} {e : Ending} (h : RowP l w e w') (hl : l = l') : RowD l' w e w' := by
  obtain ⟨v, rfl, ho, hb⟩ := h
  subst hl
  exact ⟨v, rfl, RowIn.own ho, hb⟩
theorem door_common (h : IdxAt B doorM IB w) (a b r : Int) (hr : commonM doorM a [b] = r) : Calls Tryd.prog 85 #[.pointer (some ⟨IB, 0, none⟩), .int .i64 a, .int .i64 b, .slice none 0 0] w fun e w' => e = .returned (.int .i64 r) ∧ Below w.heap.size w w' := by
  rw [← hr]; exact common_any h a b _ [] (by simp) (.inl ⟨rfl, rfl⟩) door_right
theorem door_orth (h : IdxAt B doorM IB w) (a b : Int) (r : Bool) (hr : orthM doorM a b = r) : Calls Tryd.prog 86 #[.pointer (some ⟨IB, 0, none⟩), .int .i64 a, .int .i64 b] w fun e w' => e = .returned (.bool r) ∧ Below w.heap.size w w' := by
  rw [← hr]; exact orth_any h a b door_right
theorem door_chain (h : IdxAt B doorM IB w) (a : Int) (l : List Int) (hr : chainM doorM a = l) : Calls Tryd.prog 37 #[.pointer (some ⟨IB, 0, none⟩), .int .i64 a] w (RowD l w) := (chain_any h a door_right).mono fun _ _ h => h.d hr
theorem door_kids (h : IdxAt B doorM IB w) (a : Int) (l : List Int) (hr : kidsR doorM a = l) : Calls Tryd.prog 36 #[.pointer (some ⟨IB, 0, none⟩), .int .i64 a] w (RowD l w) := (kids_any h a (by decide)).mono fun _ _ h => h.d hr
theorem door_regions (h : IdxAt B doorM IB w) (a : Int) (l : List Int) (hr : ownM doorM a = l) (hw : (Lit.int .i64 a).wf = true) : Calls Tryd.prog 41 #[.pointer (some ⟨IB, 0, none⟩), .int .i64 a] w (RowD l w) := (regions_any h a hw (by decide)).mono fun _ _ h => h.d hr
theorem door_points (h : IdxAt B doorM IB w) (a : Int) (l : List Int) (hr : pntM doorM a = l) (hw : (Lit.int .i64 a).wf = true) : Calls Tryd.prog 87 #[.pointer (some ⟨IB, 0, none⟩), .int .i64 a] w (RowD l w) := (points_any h a hw (by decide)).mono fun _ _ h => h.d hr
theorem door_out (h : IdxAt B doorM IB w) (a : Int) (l : List Int) (hr : outR doorM a = l) : Calls Tryd.prog 40 #[.pointer (some ⟨IB, 0, none⟩), .int .i64 a] w (RowD l w) := (out_any h a (by decide)).mono fun _ _ h => h.d hr
end
set_option maxRecDepth 100000 in
set_option maxHeartbeats 8000000 in
theorem works16 (w : World) (hT : Tab w) : Calls Tryd.prog 34 #[] w fun e w' => e = .returned (.bool true) ∧ Below w.heap.size w w' := by
  have HN := Lib.hid (fun (p : Ph) (wx : World) (hm : Mod anyM wx doorM p) (g : Below w.heap.size w wx) => new_right doorM p wx hm door_ok (hT.next g) door_right (by decide) (by decide) (by decide))
  unfold mdV at HN
  clear hT
  go_enter Tryd.func34, Tryd.ntmps34
  go_wp2_with fail
  refine (door_any w).mono ?_
  rintro e w1 ⟨p, rfl, hm, g1⟩
  have HN1 := Lib.hid (HN.out p w1 hm g1)
  have HB1 := Lib.hid g1
  unfold mdV
  clear HN hm g1
  go_wp2_with fail
  refine (HN1.out).mono ?_
  rintro e w2 ⟨IB, rfl, g2, hi⟩
  have HI := Lib.hid (fun (wx : World) (g : Below w2.heap.size w2 wx) => hi.grown g)
  have HB : Hid (Below w.heap.size w w2) := HB1.out.trans (g2.mono HB1.out.size)
  have hb0 : Hid (Below w2.heap.size w2 w2) := Below.refl _ _
  clear HN1 hi g2 HB1
  go_wp2_with fail
  refine (door_chain (HI.out _ hb0.out) 3 [1] (by kernel_rfl)).mono ?_
  rintro e x1 ⟨r1, rfl, hr1, hq1⟩
  have R1 := Lib.hid hr1
  have hb1 : Hid (Below w2.heap.size w2 x1) := hb0.out.trans (hq1.mono hb0.out.size)
  clear hq1 hr1 hb0
  go_wp2_with fail
  refine (same_self [1] _ _ _ (R1.out.below (below_al1 x1 _)) (RowIn.fresh x1 [1] _ rfl _ rfl) (by decide)).mono ?_
  rintro e x2 ⟨rfl, hq2⟩
  have hb2 : Hid (Below w2.heap.size w2 x2) := hb1.out.trans ((below_bx1 hq2).mono hb1.out.size)
  clear hq2 hb1 R1
  go_wp2_with fail
  refine (door_common (HI.out _ hb2.out) 3 4 1 (by kernel_rfl)).mono ?_
  rintro e x3 ⟨rfl, hq3⟩
  have hb3 : Hid (Below w2.heap.size w2 x3) := hb2.out.trans (hq3.mono hb2.out.size)
  clear hq3 hb2
  go_wp2_with fail
  refine (door_common (HI.out _ hb3.out) 3 6 0 (by kernel_rfl)).mono ?_
  rintro e x4 ⟨rfl, hq4⟩
  have hb4 : Hid (Below w2.heap.size w2 x4) := hb3.out.trans (hq4.mono hb3.out.size)
  clear hq4 hb3
  go_wp2_with fail
  refine (door_common (HI.out _ hb4.out) 9 10 0 (by kernel_rfl)).mono ?_
  rintro e x5 ⟨rfl, hq5⟩
  have hb5 : Hid (Below w2.heap.size w2 x5) := hb4.out.trans (hq5.mono hb4.out.size)
  clear hq5 hb4
  go_wp2_with fail
  refine (door_orth (HI.out _ hb5.out) 3 6 true (by kernel_rfl)).mono ?_
  rintro e x6 ⟨rfl, hq6⟩
  have hb6 : Hid (Below w2.heap.size w2 x6) := hb5.out.trans (hq6.mono hb5.out.size)
  clear hq6 hb5
  go_wp2_with fail
  refine (door_orth (HI.out _ hb6.out) 3 4 false (by kernel_rfl)).mono ?_
  rintro e x7 ⟨rfl, hq7⟩
  have hb7 : Hid (Below w2.heap.size w2 x7) := hb6.out.trans (hq7.mono hb6.out.size)
  clear hq7 hb6
  go_wp2_with fail
  refine (door_orth (HI.out _ hb7.out) 3 9 false (by kernel_rfl)).mono ?_
  rintro e x8 ⟨rfl, hq8⟩
  have hb8 : Hid (Below w2.heap.size w2 x8) := hb7.out.trans (hq8.mono hb7.out.size)
  clear hq8 hb7
  go_wp2_with fail
  refine (door_kids (HI.out _ hb8.out) 1 [2, 3, 4, 8] (by kernel_rfl)).mono ?_
  rintro e x9 ⟨r9, rfl, hr9, hq9⟩
  have R9 := Lib.hid hr9
  have hb9 : Hid (Below w2.heap.size w2 x9) := hb8.out.trans (hq9.mono hb8.out.size)
  clear hq9 hr9 hb8
  go_wp2_with fail
  refine (same_self [2, 3, 4, 8] _ _ _ (R9.out.below (below_al1 x9 _)) (RowIn.fresh x9 [2, 3, 4, 8] _ rfl _ rfl) (by decide)).mono ?_
  rintro e x10 ⟨rfl, hq10⟩
  have hb10 : Hid (Below w2.heap.size w2 x10) := hb9.out.trans ((below_bx1 hq10).mono hb9.out.size)
  clear hq10 hb9 R9
  go_wp2_with fail
  refine (door_regions (HI.out _ hb10.out) 1 [1, 2] (by kernel_rfl) (by decide)).mono ?_
  rintro e x11 ⟨r11, rfl, hr11, hq11⟩
  have R11 := Lib.hid hr11
  have hb11 : Hid (Below w2.heap.size w2 x11) := hb10.out.trans (hq11.mono hb10.out.size)
  clear hq11 hr11 hb10
  go_wp2_with fail
  refine (same_self [1, 2] _ _ _ (R11.out.below (below_al1 x11 _)) (RowIn.fresh x11 [1, 2] _ rfl _ rfl) (by decide)).mono ?_
  rintro e x12 ⟨rfl, hq12⟩
  have hb12 : Hid (Below w2.heap.size w2 x12) := hb11.out.trans ((below_bx1 hq12).mono hb11.out.size)
  clear hq12 hb11 R11
  go_wp2_with fail
  refine (door_points (HI.out _ hb12.out) 1 [9] (by kernel_rfl) (by decide)).mono ?_
  rintro e x13 ⟨r13, rfl, hr13, hq13⟩
  have R13 := Lib.hid hr13
  have hb13 : Hid (Below w2.heap.size w2 x13) := hb12.out.trans (hq13.mono hb12.out.size)
  clear hq13 hr13 hb12
  go_wp2_with fail
  refine (same_self [9] _ _ _ (R13.out.below (below_al1 x13 _)) (RowIn.fresh x13 [9] _ rfl _ rfl) (by decide)).mono ?_
  rintro e x14 ⟨rfl, hq14⟩
  have hb14 : Hid (Below w2.heap.size w2 x14) := hb13.out.trans ((below_bx1 hq14).mono hb13.out.size)
  clear hq14 hb13 R13
  go_wp2_with fail
  refine (door_out (HI.out _ hb14.out) 4 [3, 6] (by kernel_rfl)).mono ?_
  rintro e x15 ⟨r15, rfl, hr15, hq15⟩
  have R15 := Lib.hid hr15
  have hb15 : Hid (Below w2.heap.size w2 x15) := hb14.out.trans (hq15.mono hb14.out.size)
  clear hq15 hr15 hb14
  go_wp2_with fail
  refine (same_self [3, 6] _ _ _ (R15.out.below (below_al1 x15 _)) (RowIn.fresh x15 [3, 6] _ rfl _ rfl) (by decide)).mono ?_
  rintro e x16 ⟨rfl, hq16⟩
  have hb16 : Hid (Below w2.heap.size w2 x16) := hb15.out.trans ((below_bx1 hq16).mono hb15.out.size)
  clear hq16 hb15 R15
  go_wp2_with fail
  go_ret
  exact ⟨rfl, HB.out.trans (hb16.out.mono HB.out.size)⟩
end Go.Proofs
