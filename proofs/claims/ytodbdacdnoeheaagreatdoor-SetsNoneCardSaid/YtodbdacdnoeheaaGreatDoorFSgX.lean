/- Texts put together. -/
import Derived.Test.YtodbdacdnoeheaaGreatDoorFSgAN
import Derived.Test.YtodbdacdnoeheaaGreatDoorFSgW
/- Walks: what a configuration bears; the law 'SetsNone'. -/
namespace Go.Proofs
open Go.RowKit Go.Lx Go.Md Go.Shelf Go.BigFrame
set_option linter.unusedVariables false
theorem box2_made (a1 a2 : Option Addr) (n1 n2 c1 c2 : Nat) (w wx : World) (g : Below (w.alloc (.cells #[.slice a1 n1 c1, .slice a2 n2 c2] 52)).heap.size (w.alloc (.cells #[.slice a1 n1 c1, .slice a2 n2 c2] 52)) wx) : Below w.heap.size w wx ∧ wx.cell? ⟨w.heap.size, 0, none⟩ = some (.slice a1 n1 c1) ∧ wx.cell? ⟨w.heap.size, 1, none⟩ = some (.slice a2 n2 c2) :=
  ⟨(below_al1 w _).trans (g.mono (by simp)), (g.cell (p := ⟨w.heap.size, 0, none⟩) (by simp)).trans (by simp), (g.cell (p := ⟨w.heap.size, 1, none⟩) (by simp)).trans (by simp)⟩
theorem bear20_any (a1 a2 : Option Addr) (n1 n2 c1 c2 : Nat) (w : World) (b1 : n1 ≤ 140737488355328) (b2 : n2 ≤ 140737488355328) : Calls Tryz.prog 28 #[.agg #[.slice a1 n1 c1, .slice a2 n2 c2]] w fun e w' => e = .returned (.bool (decide (n1 ≤ 40) && decide (n2 ≤ 40))) ∧ Below w.heap.size w w' := by
  by_cases h1 : n1 ≤ 40
  · by_cases h2 : n2 ≤ 40
    · have d1 : decide ((n1 : Int) ≤ 40) = true := by simp; omega
      have d2 : decide ((n2 : Int) ≤ 40) = true := by simp; omega
      go_enter Tryz.func28, Tryz.ntmps28
      go_wp2_with fail
      go_ret
      exact ⟨by rw [decide_eq_true h1, decide_eq_true h2]; rfl, below_al1 w _⟩
    · have d1 : decide ((n1 : Int) ≤ 40) = true := by simp; omega
      have d2 : decide ((n2 : Int) ≤ 40) = false := by simp; omega
      go_enter Tryz.func28, Tryz.ntmps28
      go_wp2_with fail
      go_ret
      exact ⟨by rw [decide_eq_true h1, decide_eq_false h2]; rfl, below_al1 w _⟩
  · have d1 : decide ((n1 : Int) ≤ 40) = false := by simp; omega
    go_enter Tryz.func28, Tryz.ntmps28
    go_wp2_with fail
    go_ret
    exact ⟨by rw [decide_eq_false h1]; rfl, below_al1 w _⟩
set_option maxRecDepth 100000 in
set_option maxHeartbeats 8000000 in
theorem setsNone_any (la ll : List Int) (a1 a2 : Option Addr) (c1 c2 : Nat) (v : Int) (w : World) (hT : Tab w) (b1 : la.length ≤ 140737488355328) (b2 : ll.length ≤ 140737488355328) :
    Calls Tryz.prog 6 #[.agg #[.slice a1 la.length c1, .slice a2 ll.length c2], .int .i64 v] w fun e w' => e = .returned (.bool true) ∧ Below w.heap.size w w' := by
  have WK := Lib.hid (fun wx (g : Below w.heap.size w wx) => works20 wx (hT.next g))
  obtain ⟨n1, hn1⟩ : ∃ n, la.length = n := ⟨_, rfl⟩
  obtain ⟨n2, hn2⟩ : ∃ n, ll.length = n := ⟨_, rfl⟩
  rw [hn1] at b1 ⊢
  rw [hn2] at b2 ⊢
  have BR := Lib.hid (fun wx => bear20_any a1 a2 n1 n2 c1 c2 wx b1 b2)
  have HD := Lib.hid (fun wx g => box2_made a1 a2 n1 n2 c1 c2 w wx g)
  have i0 : ∀ w (v0 v1 : Value), (Instr.field 52 (.agg #[v0, v1]) 0).run Tryz.prog w = .ok v0 w := fun _ _ _ => by kernel_rfl
  clear hT hn1 hn2
  go_enter Tryz.func6, Tryz.ntmps6
  go_upto_region 1 with fail
  generalize w.alloc (.cells #[.slice a1 n1 c1, .slice a2 n2 c2] 52) = W1 at *
  have hb0 : Hid (Below W1.heap.size W1 W1) := Lib.hid (Below.refl _ _)
  obtain ⟨_, d0, d1⟩ := HD.out W1 hb0.out
  go_wp2_with fail
  (with_reducible refine (BR.out _).mono ?_)
  rintro e x0 ⟨rfl, hq⟩
  have hbx0 : Hid (Below W1.heap.size W1 x0) := Lib.hid (below_ch hb0.out hq)
  generalize (decide (n1 ≤ 40) && decide (n2 ≤ 40)) = bb at *
  clear d0 d1 hq hb0
  cases bb
  · obtain ⟨hbw, d0, d1⟩ := HD.out x0 hbx0.out
    have HBw := Lib.hid hbw
    clear hbw
    go_wp2_with fail
    (with_reducible refine (WK.out _ HBw.out).mono ?_)
    rintro e x1 ⟨rfl, hq⟩
    go_wp2_with fail
    go_ret
    exact ⟨rfl, below_ch HBw.out hq⟩
  obtain ⟨_, d0, d1⟩ := HD.out x0 hbx0.out
  go_wp2_with fail
  (with_reducible refine (noenter_any a1 a2 n1 n2 c1 c2 _ v).mono ?_)
  rintro e x1 ⟨rfl, hq⟩
  have hby : Hid (Below W1.heap.size W1 (x1.alloc (.cells #[.slice none 0 0, .slice none 0 0] 52))) := Lib.hid (below_ch (below_ch hbx0.out hq) (below_al1 _ _))
  clear d0 d1 hq hbx0
  go_upto_region 5 with fail
  generalize x1.alloc (.cells #[.slice none 0 0, .slice none 0 0] 52) = y1 at *
  have hbx1 := hby
  obtain ⟨x1, hy1⟩ : ∃ x1, y1 = x1 := ⟨_, rfl⟩
  rw [hy1] at hbx1 ⊢
  clear hby hy1
  obtain ⟨_, d0, d1⟩ := HD.out x1 hbx1.out
  go_wp2_with fail
  (with_reducible refine (noleave_any a1 a2 n1 n2 c1 c2 _ v).mono ?_)
  rintro e x2 ⟨rfl, hq⟩
  have hby : Hid (Below W1.heap.size W1 (x2.alloc (.cells #[.slice none 0 0, .slice none 0 0] 52))) := Lib.hid (below_ch (below_ch hbx1.out hq) (below_al1 _ _))
  clear d0 d1 hq hbx1
  go_upto_region 6 with fail
  generalize x2.alloc (.cells #[.slice none 0 0, .slice none 0 0] 52) = y2 at *
  have hbx2 := hby
  obtain ⟨x2, hy2⟩ : ∃ x2, y2 = x2 := ⟨_, rfl⟩
  rw [hy2] at hbx2 ⊢
  clear hby hy2
  obtain ⟨_, d0, d1⟩ := HD.out x2 hbx2.out
  go_wp2_with fail
  (with_reducible refine (nohome_any _ _).mono ?_)
  rintro e x3 ⟨rfl, hq⟩
  have hbx3 : Hid (Below W1.heap.size W1 x3) := Lib.hid (below_ch hbx2.out (below_bx1 hq))
  clear d0 d1 hq hbx2
  obtain ⟨_, d0, d1⟩ := HD.out x3 hbx3.out
  go_wp2_with fail
  (with_reducible refine (nofits_any a1 a2 n1 n2 c1 c2 _).mono ?_)
  rintro e x4 ⟨rfl, hq⟩
  have hbx4 : Hid (Below W1.heap.size W1 x4) := Lib.hid (below_ch hbx3.out hq)
  clear d0 d1 hq hbx3
  obtain ⟨_, d0, d1⟩ := HD.out x4 hbx4.out
  go_wp2_with fail
  (with_reducible refine (noexits_any a1 a2 n1 n2 c1 c2 _ v).mono ?_)
  rintro e x5 ⟨rfl, hq⟩
  have hbx5 : Hid (Below W1.heap.size W1 x5) := Lib.hid (below_ch hbx4.out hq)
  clear d0 d1 hq hbx4
  obtain ⟨_, d0, d1⟩ := HD.out x5 hbx5.out
  go_wp2_with fail
  (with_reducible refine (noentries_any _ v v).mono ?_)
  rintro e x6 ⟨rfl, hq⟩
  have hbx6 : Hid (Below W1.heap.size W1 x6) := Lib.hid (below_ch hbx5.out hq)
  clear d0 d1 hq hbx5
  obtain ⟨_, d0, d1⟩ := HD.out x6 hbx6.out
  go_wp2_with fail
  (with_reducible refine (noactive_any a1 a2 n1 n2 c1 c2 _).mono ?_)
  rintro e x7 ⟨rfl, hq⟩
  have hbx7 : Hid (Below W1.heap.size W1 x7) := Lib.hid (below_ch hbx6.out hq)
  clear d0 d1 hq hbx6
  obtain ⟨_, d0, d1⟩ := HD.out x7 hbx7.out
  go_wp2_with fail
  (with_reducible refine (nocomplete_any a1 a2 n1 n2 c1 c2 _ v).mono ?_)
  rintro e x8 ⟨rfl, hq⟩
  have hbx8 : Hid (Below W1.heap.size W1 x8) := Lib.hid (below_ch hbx7.out hq)
  clear d0 d1 hq hbx7
  obtain ⟨_, d0, d1⟩ := HD.out x8 hbx8.out
  go_wp2_with fail
  (with_reducible refine (noblank_any _).mono ?_)
  rintro e x9 ⟨rfl, hq⟩
  have hbx9 : Hid (Below W1.heap.size W1 x9) := Lib.hid (below_ch hbx8.out hq)
  clear d0 d1 hq hbx8
  obtain ⟨hbw, d0, d1⟩ := HD.out x9 hbx9.out
  have HBw := Lib.hid hbw
  clear hbw
  go_wp2_with fail
  (with_reducible refine (WK.out _ HBw.out).mono ?_)
  rintro e z1 ⟨rfl, hq⟩
  go_wp2_with fail
  go_ret
  exact ⟨rfl, below_ch HBw.out hq⟩
end Go.Proofs
