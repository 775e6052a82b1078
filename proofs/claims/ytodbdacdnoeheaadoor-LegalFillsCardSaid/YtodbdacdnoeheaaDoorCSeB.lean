/- Walks: a configuration's clone; may a vertex be entered or left; is it active. -/
import Derived.Test.YtodbdacdnoeheaaDoorCSeA
import Derived.Test.YtodbdacdnoeheaaDoorCIxJK
import Derived.Test.YtodbdacdnoeheaaDoorCRyAB
namespace Go.Proofs
open Go.RowKit Go.Lx Go.Md Go.Shelf Go.BigFrame Go.Rgi
set_option linter.unusedVariables false
theorem frz_b {w : World} {b : Nat} {cs : Array Value} {T : TypeId} (h : w.heap[b]? = some (.cells cs T (0, 0))) (k : Nat) : w.frozen? ⟨b, k, none⟩ = false := by
  unfold World.frozen?; simp [h]
theorem clone_fin {la ll : List Int} {w W2 wF : World} {v1 v2 : Value} (hB : Below w.heap.size w W2) (hz : W2.heap.size = w.heap.size + 1 + 1) (gF : Below W2.heap.size W2 wF) (o1 : wF.ownsRow W2.heap.size 3 1 v1 la.length (nums la)) (o2 : wF.ownsRow W2.heap.size 3 1 v2 ll.length (nums ll)) (hd : ∀ g, v1.ownBlock = some g → v2.ownBlock ≠ some g) :
    ((wF.setCell ⟨w.heap.size + 1, 0, none⟩ v1).setCell ⟨w.heap.size + 1, 1, none⟩ v2).ownsRow w.heap.size 3 1 v1 la.length (nums la) ∧ ((wF.setCell ⟨w.heap.size + 1, 0, none⟩ v1).setCell ⟨w.heap.size + 1, 1, none⟩ v2).ownsRow w.heap.size 3 1 v2 ll.length (nums ll) ∧ (∀ g, v1.ownBlock = some g → v2.ownBlock ≠ some g) ∧ Below w.heap.size w ((wF.setCell ⟨w.heap.size + 1, 0, none⟩ v1).setCell ⟨w.heap.size + 1, 1, none⟩ v2) :=
  ⟨(ownsRow_setCell_below (a := ⟨w.heap.size + 1, 1, none⟩) (ownsRow_setCell_below (a := ⟨w.heap.size + 1, 0, none⟩) o1 (by simp only; omega) _) (by simp only; omega) _).mono (by omega), (ownsRow_setCell_below (a := ⟨w.heap.size + 1, 1, none⟩) (ownsRow_setCell_below (a := ⟨w.heap.size + 1, 0, none⟩) o2 (by simp only; omega) _) (by simp only; omega) _).mono (by omega), hd, ((hB.trans (gF.mono hB.size)).setCell (p := ⟨w.heap.size + 1, 0, none⟩) (by simp) _).setCell (p := ⟨w.heap.size + 1, 1, none⟩) (by simp) _⟩
def CloneC (la ll : List Int) (w : World) (e : Ending) (w' : World) : Prop := ∃ v1 v2, e = .returned (.agg #[v1, v2]) ∧ w'.ownsRow w.heap.size 3 1 v1 la.length (nums la) ∧ w'.ownsRow w.heap.size 3 1 v2 ll.length (nums ll) ∧ (∀ g, v1.ownBlock = some g → v2.ownBlock ≠ some g) ∧ Below w.heap.size w w'
--IF (sets.Config).clone
set_option maxRecDepth 100000 in
set_option maxHeartbeats 2000000 in
theorem cfgClone_any {la ll : List Int} {a1 a2 : Option Addr} {c1 c2 : Nat} (w : World) (h1 : RowIn w (.slice a1 la.length c1) la) (h2 : RowIn w (.slice a2 ll.length c2) ll) (n1 : la ≠ []) (n2 : ll ≠ []) (b1 : la.length ≤ 100000) (b2 : ll.length ≤ 100000) :
    Calls Tryd.prog 34 #[.agg #[.slice a1 la.length c1, .slice a2 ll.length c2]] w (CloneC la ll w) := by
  unfold CloneC
  have HB : Hid (Below w.heap.size w ((w.alloc (.cells #[.slice a1 la.length c1, .slice a2 ll.length c2] 31)).alloc (.cells #[.slice none 0 0, .slice none 0 0] 31))) := Lib.hid (below_al2 w _ _)
  have HC := Lib.hid ((Cb.made h1 h2).below (below_al1 _ (.cells #[.slice none 0 0, .slice none 0 0] 31)))
  have hz : ((w.alloc (.cells #[.slice a1 la.length c1, .slice a2 ll.length c2] 31)).alloc (.cells #[.slice none 0 0, .slice none 0 0] 31)).heap.size = w.heap.size + 1 + 1 := by simp
  have t0 : ((w.alloc (.cells #[.slice a1 la.length c1, .slice a2 ll.length c2] 31)).alloc (.cells #[.slice none 0 0, .slice none 0 0] 31)).cell? ⟨w.heap.size + 1, 0, none⟩ = some (.slice none 0 0) ∧ ((w.alloc (.cells #[.slice a1 la.length c1, .slice a2 ll.length c2] 31)).alloc (.cells #[.slice none 0 0, .slice none 0 0] 31)).cell? ⟨w.heap.size + 1, 1, none⟩ = some (.slice none 0 0) ∧ ((w.alloc (.cells #[.slice a1 la.length c1, .slice a2 ll.length c2] 31)).alloc (.cells #[.slice none 0 0, .slice none 0 0] 31)).frozen? ⟨w.heap.size + 1, 0, none⟩ = false ∧ ((w.alloc (.cells #[.slice a1 la.length c1, .slice a2 ll.length c2] 31)).alloc (.cells #[.slice none 0 0, .slice none 0 0] 31)).frozen? ⟨w.heap.size + 1, 1, none⟩ = false := by
    have e1 := World.alloc_heap_new (w.alloc (.cells #[.slice a1 la.length c1, .slice a2 ll.length c2] 31)) (.cells #[.slice none 0 0, .slice none 0 0] 31)
    rw [World.size_alloc] at e1
    refine ⟨?_, ?_, ?_, ?_⟩
    · unfold World.cell?; simp only [e1]; rfl
    · unfold World.cell?; simp only [e1]; rfl
    · exact frz_b e1 0
    · exact frz_b e1 1
  clear h1 h2
  go_enter Tryd.func34, Tryd.ntmps34
  go_upto_region 1 with fail
  generalize (w.alloc (.cells #[.slice a1 la.length c1, .slice a2 ll.length c2] 31)).alloc (.cells #[.slice none 0 0, .slice none 0 0] 31) = W2 at *
  have HT0 := Lib.hid t0
  have hB0 : Below W2.heap.size W2 W2 := Below.refl _ _
  have HSS : Hid (∀ W', Below W2.heap.size W2 W' → W'.cell? ⟨w.heap.size, 0, none⟩ = some (.slice a1 la.length c1) ∧ W'.cell? ⟨w.heap.size, 1, none⟩ = some (.slice a2 ll.length c2) ∧ W'.cell? ⟨w.heap.size + 1, 0, none⟩ = some (.slice none 0 0) ∧ W'.cell? ⟨w.heap.size + 1, 1, none⟩ = some (.slice none 0 0) ∧ W'.frozen? ⟨w.heap.size + 1, 0, none⟩ = false ∧ W'.frozen? ⟨w.heap.size + 1, 1, none⟩ = false) := Lib.hid fun W' g => by
    have k : ∀ j, W'.cell? ⟨w.heap.size + 1, j, none⟩ = W2.cell? ⟨w.heap.size + 1, j, none⟩ := fun j => g.cell (p := ⟨w.heap.size + 1, j, none⟩) (by simp only; omega)
    have k2 : ∀ j, W'.frozen? ⟨w.heap.size + 1, j, none⟩ = W2.frozen? ⟨w.heap.size + 1, j, none⟩ := fun j => g.frozen (p := ⟨w.heap.size + 1, j, none⟩) (by simp only; omega)
    exact ⟨(HC.out.below g).d0, (HC.out.below g).d1, (k 0).trans HT0.out.1, (k 1).trans HT0.out.2.1, (k2 0).trans HT0.out.2.2.1, (k2 1).trans HT0.out.2.2.2⟩
  have CA := Lib.hid (fun W' (g : Below W2.heap.size W2 W') => cloneIn (HC.out.below g).r1 b1 (.inl n1))
  have CL := Lib.hid (fun W' (g : Below W2.heap.size W2 W') => cloneIn (HC.out.below g).r2 b2 (.inl n2))
  have HZ := Lib.hid hz
  clear t0 n1 n2
  refine wp_region_any (by kernel_rfl) ?_
  change wpAny _ _ _ _ _ _ _ (World.drew _)
  refine wpAny_sink (n := 7) (o := { dst := none, op := Go.Op.store 31 (Go.Operand.tmp 2) (Go.Operand.tmp 9), type := 0, pos := "sets.go:20", after := #[{ on := 6, ground := Go.Ground.data }, { on := 5, ground := Go.Ground.chain }, { on := 0, ground := Go.Ground.phase }, { on := 1, ground := Go.Ground.phase }, { on := 2, ground := Go.Ground.phase }, { on := 3, ground := Go.Ground.phase }, { on := 4, ground := Go.Ground.phase }, { on := 5, ground := Go.Ground.phase }, { on := 6, ground := Go.Ground.phase }], guard := none }) (ops' := #[{ dst := some 3, op := Go.Op.fieldAddr 31 (Go.Operand.tmp 1) 0, type := 0, pos := "sets.go:20", after := #[], guard := none }, { dst := some 4, op := Go.Op.load 29 (Go.Operand.tmp 3), type := 29, pos := "sets.go:20", after := #[{ on := 0, ground := Go.Ground.data }], guard := none }, { dst := some 5, op := Go.Op.call { callee := Go.Callee.value (Go.Operand.func 19), args := #[Go.Operand.tmp 4], argTypes := #[29] }, type := 29, pos := "sets.go:20", after := #[{ on := 1, ground := Go.Ground.data }], guard := none }, { dst := some 6, op := Go.Op.fieldAddr 31 (Go.Operand.tmp 1) 1, type := 0, pos := "sets.go:20", after := #[], guard := none }, { dst := some 7, op := Go.Op.load 29 (Go.Operand.tmp 6), type := 29, pos := "sets.go:20", after := #[{ on := 3, ground := Go.Ground.data }], guard := none }, { dst := some 8, op := Go.Op.call { callee := Go.Callee.value (Go.Operand.func 19), args := #[Go.Operand.tmp 7], argTypes := #[29] }, type := 29, pos := "sets.go:20", after := #[{ on := 4, ground := Go.Ground.data }, { on := 2, ground := Go.Ground.chain }], guard := none }, { dst := some 9, op := Go.Op.build 31 #[(0, Go.Operand.tmp 5), (1, Go.Operand.tmp 8)], type := 31, pos := "sets.go:20", after := #[{ on := 2, ground := Go.Ground.data }, { on := 5, ground := Go.Ground.data }], guard := none }]) (by decide) (by kernel_rfl) (by rfl) (by rfl) ?_
  refine wpAny_of_heldS (S := (fun W' => W'.cell? ⟨w.heap.size, 0, none⟩ = some (.slice a1 la.length c1) ∧ W'.cell? ⟨w.heap.size, 1, none⟩ = some (.slice a2 ll.length c2) ∧ W'.cell? ⟨w.heap.size + 1, 0, none⟩ = some (.slice none 0 0) ∧ W'.cell? ⟨w.heap.size + 1, 1, none⟩ = some (.slice none 0 0) ∧ W'.frozen? ⟨w.heap.size + 1, 0, none⟩ = false ∧ W'.frozen? ⟨w.heap.size + 1, 1, none⟩ = false)) ?_ (fun hHeld => ?_)
  · (try dsimp only) <;> (first | exact HSS.out _ hB0.drew | exact HSS.out _ (by assumption))
  refine wpAnyH_take (i := 0) (oi := { dst := some 3, op := Go.Op.fieldAddr 31 (Go.Operand.tmp 1) 0, type := 0, pos := "sets.go:20", after := #[], guard := none }) (v := ?_) rfl (by kernel_rfl) (by kernel_rfl) (by kernel_rfl) (fun _ _ _ h => h) (Or.inl ⟨by rfl, ?_⟩) (by assumption) ?_
  rotate_left
  (intro w hSw; (try dsimp only at hSw); go_simp <;> with_reducible rfl)
  try simp only [Act.put, List.setIfInBounds_toArray, List.set_cons_zero, List.set_cons_succ]
  refine wpAnyH_take (i := 1) (oi := { dst := some 4, op := Go.Op.load 29 (Go.Operand.tmp 3), type := 29, pos := "sets.go:20", after := #[{ on := 0, ground := Go.Ground.data }], guard := none }) (v := ?_) rfl (by kernel_rfl) (by kernel_rfl) (by kernel_rfl) (fun _ _ _ h => h) (Or.inl ⟨by rfl, ?_⟩) (by assumption) ?_
  rotate_left
  (intro w hSw; (try dsimp only at hSw); go_simp <;> with_reducible rfl)
  try simp only [Act.put, List.setIfInBounds_toArray, List.set_cons_zero, List.set_cons_succ]
  refine wpAnyH_take (i := 3) (oi := { dst := some 6, op := Go.Op.fieldAddr 31 (Go.Operand.tmp 1) 1, type := 0, pos := "sets.go:20", after := #[], guard := none }) (v := ?_) rfl (by kernel_rfl) (by kernel_rfl) (by kernel_rfl) (fun _ _ _ h => h) (Or.inl ⟨by rfl, ?_⟩) (by assumption) ?_
  rotate_left
  (intro w hSw; (try dsimp only at hSw); go_simp <;> with_reducible rfl)
  try simp only [Act.put, List.setIfInBounds_toArray, List.set_cons_zero, List.set_cons_succ]
  refine wpAnyH_take (i := 4) (oi := { dst := some 7, op := Go.Op.load 29 (Go.Operand.tmp 6), type := 29, pos := "sets.go:20", after := #[{ on := 3, ground := Go.Ground.data }], guard := none }) (v := ?_) rfl (by kernel_rfl) (by kernel_rfl) (by kernel_rfl) (fun _ _ _ h => h) (Or.inl ⟨by rfl, ?_⟩) (by assumption) ?_
  rotate_left
  (intro w hSw; (try dsimp only at hSw); go_simp <;> with_reducible rfl)
  try simp only [Act.put, List.setIfInBounds_toArray, List.set_cons_zero, List.set_cons_succ]
  refine wpAnyH_ready (rs := [2]) (by kernel_rfl) (by simp) ?_
  refine AllReadyH.cons (o := { dst := some 5, op := Go.Op.call { callee := Go.Callee.value (Go.Operand.func 19), args := #[Go.Operand.tmp 4], argTypes := #[29] }, type := 29, pos := "sets.go:20", after := #[{ on := 1, ground := Go.Ground.data }], guard := none }) rfl (fun K hK => ?_) ?_
  (go_simp; (with_reducible refine (CA.out _ (by first | assumption | exact hB0.drew)).mono ?_); rintro e w10 ⟨v10, rfl, o10, hb10⟩; obtain ⟨x10, y10, rfl⟩ := ownsRow_slice o10; have hB10 : Below W2.heap.size W2 w10 := below_ch (by first | assumption | exact hB0.drew) hb10; obtain ⟨q0, q1, q2, q3, q4, q5⟩ := HSS.out _ hB10; go_wp2_with fail)
  refine hK.out _ _ ?_ (fun hH1 => ?_)
  · (try dsimp only) <;> (first | exact HSS.out _ hB0.drew | exact HSS.out _ (by assumption))
  clear hK K hHeld
  try simp only [Act.put, List.setIfInBounds_toArray, List.set_cons_zero, List.set_cons_succ]
  refine wpAnyH_ready (rs := [5]) (by kernel_rfl) (by simp) ?_
  refine AllReadyH.cons (o := { dst := some 8, op := Go.Op.call { callee := Go.Callee.value (Go.Operand.func 19), args := #[Go.Operand.tmp 7], argTypes := #[29] }, type := 29, pos := "sets.go:20", after := #[{ on := 4, ground := Go.Ground.data }, { on := 2, ground := Go.Ground.chain }], guard := none }) rfl (fun K hK => ?_) ?_
  (go_simp; (with_reducible refine (CL.out _ (by first | assumption | exact hB0.drew)).mono ?_); rintro e w11 ⟨v11, rfl, o11, hb11⟩; obtain ⟨x11, y11, rfl⟩ := ownsRow_slice o11; have hB11 : Below W2.heap.size W2 w11 := below_ch (by first | assumption | exact hB0.drew) hb11; obtain ⟨q0, q1, q2, q3, q4, q5⟩ := HSS.out _ hB11; go_wp2_with fail)
  refine hK.out _ _ ?_ (fun hH2 => ?_)
  · (try dsimp only) <;> (first | exact HSS.out _ hB0.drew | exact HSS.out _ (by assumption))
  clear hK K hH1
  try simp only [Act.put, List.setIfInBounds_toArray, List.set_cons_zero, List.set_cons_succ]
  refine wpAnyH_take (i := 6) (oi := { dst := some 9, op := Go.Op.build 31 #[(0, Go.Operand.tmp 5), (1, Go.Operand.tmp 8)], type := 31, pos := "sets.go:20", after := #[{ on := 2, ground := Go.Ground.data }, { on := 5, ground := Go.Ground.data }], guard := none }) (v := ?_) rfl (by kernel_rfl) (by kernel_rfl) (by kernel_rfl) (fun _ _ _ h => h) (Or.inl ⟨by rfl, ?_⟩) (by assumption) ?_
  rotate_left
  (intro w hSw; (try dsimp only at hSw); go_simp <;> with_reducible rfl)
  try simp only [Act.put, List.setIfInBounds_toArray, List.set_cons_zero, List.set_cons_succ]
  refine wpAnyH_done (by kernel_rfl) ?_ _
  rotate_left
  exact AllReadyH.nil
  exact AllReadyH.nil
  all_goals
    refine sinkQ_of fun K hK => ?_
    go_simp
    refine hK _ _ ?_
    clear hK K
    go_wp2_with fail
    refine bodyPost_ret (v := .agg #[.slice x10 la.length y10, .slice x11 ll.length y11]) (by simp [results, Tryd.results34, go_sem, q2, q3]) rfl ?_
    first
      | exact ⟨_, _, rfl, clone_fin HB.out HZ.out hB11 (own_below (o10.mono (Nat.le_refl _)) hb11) (o11.mono hB10.size) (fun g hg hg2 => by have := (o10.lt g hg).2; have := (o11.lt g hg2).1; omega)⟩
      | exact ⟨_, _, rfl, clone_fin HB.out HZ.out hB10 (o10.mono hB11.size) (own_below (o11.mono (Nat.le_refl _)) hb10) (fun g hg hg2 => by have := (o10.lt g hg).1; have := (o11.lt g hg2).2; omega)⟩
--FI
end Go.Proofs
