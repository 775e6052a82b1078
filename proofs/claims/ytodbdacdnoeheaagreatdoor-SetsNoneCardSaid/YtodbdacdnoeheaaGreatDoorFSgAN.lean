/- Texts put together. -/
import Derived.Test.YtodbdacdnoeheaaGreatDoorFSeAD
import Derived.Test.YtodbdacdnoeheaaGreatDoorFSePT
import Derived.Test.YtodbdacdnoeheaaGreatDoorFRyAB
import Derived.Test.YtodbdacdnoeheaaGreatDoorFGRwM
import Derived.Test.YtodbdacdnoeheaaGreatDoorFGHiP
import Derived.BigQuiet
import Derived.OwnWalk
import Derived.Lib.SliceRun
/- Walks: a vertex is entered. -/
namespace Go.Proofs
open Go.RowKit Go.Lx Go.Md Go.Shelf Go.BigFrame Go.Rgi
set_option linter.unusedVariables false
def EnterP (m : MdlD) (la ll : List Int) (v : Int) (w : World) (e : Ending) (w' : World) : Prop := Below w.heap.size w w' ∧
  ((mayE m la ll v ≠ 0 ∧ e = .returned (.tuple #[.agg #[.slice none 0 0, .slice none 0 0], .int .i64 (mayE m la ll v : Int)])) ∨
   (mayE m la ll v = 0 ∧ enterOk m la v = false ∧ e = .returned (.tuple #[.agg #[.slice none 0 0, .slice none 0 0], .int .i64 4])) ∨
   (mayE m la ll v = 0 ∧ enterOk m la v = true ∧ ∃ v1 v2, e = .returned (.tuple #[.agg #[v1, v2], .int .i64 0]) ∧ w'.ownsRow w.heap.size 3 1 v1 la.length (nums (la.set (rgA m v).toNat v)) ∧ w'.ownsRow w.heap.size 3 1 v2 ll.length (nums ll) ∧ ∀ g, v1.ownBlock = some g → v2.ownBlock ≠ some g))
theorem EnterP.bad {m : MdlD} {la ll : List Int} {v : Int} {w w' : World} {E : Nat} (hE : mayE m la ll v = E) (hn : E ≠ 0) (hb : Below w.heap.size w w') : EnterP m la ll v w (.returned (.tuple #[.agg #[.slice none 0 0, .slice none 0 0], .int .i64 (E : Int)])) w' := by
  subst hE; exact ⟨hb, .inl ⟨hn, rfl⟩⟩
theorem EnterP.no {m : MdlD} {la ll : List Int} {v : Int} {w w' : World} (hE : mayE m la ll v = 0) (hn : enterOk m la v = false) (hb : Below w.heap.size w w') : EnterP m la ll v w (.returned (.tuple #[.agg #[.slice none 0 0, .slice none 0 0], .int .i64 4])) w' :=
  ⟨hb, .inr (.inl ⟨hE, hn, rfl⟩)⟩
theorem EnterP.yes {m : MdlD} {la ll : List Int} {v : Int} {w w' : World} {v1 v2 : Value} {r : Nat} (hE : mayE m la ll v = 0) (hn : enterOk m la v = true) (hr : (rgA m v).toNat = r) (hb : Below w.heap.size w w') (o1 : w'.ownsRow w.heap.size 3 1 v1 la.length ((nums la).set r (.int .i64 v))) (o2 : w'.ownsRow w.heap.size 3 1 v2 ll.length (nums ll)) (hd : ∀ g, v1.ownBlock = some g → v2.ownBlock ≠ some g) :
    EnterP m la ll v w (.returned (.tuple #[.agg #[v1, v2], .int .i64 0])) w' := by
  refine ⟨hb, .inr (.inr ⟨hE, hn, v1, v2, rfl, ?_, o2, hd⟩)⟩
  rw [hr, show nums (la.set r v) = (nums la).set r (.int .i64 v) by simp [nums, List.map_set]]; exact o1
end Go.Proofs

/- Walks: a row without vertices; Blank, Home, Complete of the sets. -/
namespace Go.Proofs
open Go.RowKit Go.Lx Go.Md Go.Shelf Go.BigFrame Go.Rgi
set_option linter.unusedVariables false
theorem nums_set (l : List Int) (k : Nat) (x : Int) : nums (l.set k x) = (nums l).set k (.int .i64 x) := by simp [nums, List.map_set]
set_option maxRecDepth 100000 in
set_option maxHeartbeats 2000000 in
theorem home20_any {B : Nat} {m : MdlD} {SB : Nat} {w : World} (h : SetAt B m SB w) (h0 : riM m = (0, 0, 0)) (l : List Int) (lv : Value) (hr : RowIn w lv l) (hl : l.length ≤ 90000) :
    Calls Tryz.prog 27 #[.pointer (some ⟨SB, 0, none⟩), lv] w fun e w' => e = .returned (.int .i64 (homeL m l)) ∧ Below w.heap.size w w' := by
  obtain ⟨IB, kv, hi, s0, s1, s2, hku, hz⟩ := h
  have HI := Lib.hid (fun wx (g : Below w.heap.size w wx) => hi.grown g)
  obtain ⟨ad, c, rfl, hc, q⟩ := hr.len
  have H0 := Lib.hid h0
  have HR := Lib.hid (fun (wx : World) (g : Below w.heap.size w wx) => hr.below g)
  clear hi hku s1 s2 hr h0
  cases l with
  | nil =>
    clear q
    go_enter Tryz.func27, Tryz.ntmps27
    go_wp2_with fail
    go_ret
    exact ⟨rfl, Below.refl _ _⟩
  | cons a t =>
    obtain ⟨b, o, rfl, hbl, hcl⟩ := q 0 (by simp)
    rw [List.getElem_cons_zero, Nat.add_zero] at hcl
    have HT : Hid (∀ wx, Below w.heap.size w wx → ∀ a1 c1, (a1 = some ⟨b, o + 1, none⟩ ∧ c1 = c - 1 ∨ t.length = 0) → Calls Tryz.prog 11 #[.pointer (some ⟨IB, 0, none⟩), .int .i64 a, .int .i64 a, .slice a1 t.length c1] wx fun e w' => e = .returned (.int .i64 (homeL m (a :: t))) ∧ Below wx.heap.size wx w') := Lib.hid fun wx g a1 c1 hh => by
      refine common_any (HI.out wx g) a a _ t (by rw [List.length_cons] at hl; omega) ?_ H0.out
      by_cases ht : t.length = 0
      · have : t = [] := List.length_eq_zero_iff.1 ht
        subst this
        exact RowIn.nil0 _ _
      · obtain ⟨rfl, rfl⟩ := hh.resolve_right ht
        have := (HR.out wx g).back (j := 1) (by rw [List.length_cons]; omega)
        simpa using this
    obtain ⟨n, hn⟩ : ∃ n, t.length = n := ⟨_, rfl⟩
    rw [hn] at HT
    rw [List.length_cons, hn] at hc ⊢
    generalize homeL m (a :: t) = X at *
    have HSS : Hid (∀ W', Below w.heap.size w W' → W'.cell? ⟨SB, 0, none⟩ = some (.pointer (some ⟨IB, 0, none⟩)) ∧ W'.cell? ⟨b, o, none⟩ = some (.int .i64 a)) := Lib.hid fun W' g => ⟨(g.cell (p := ⟨SB, 0, none⟩) hz).trans s0, (g.cell (p := ⟨b, o, none⟩) hbl).trans hcl⟩
    have hB0 : Below w.heap.size w w := Below.refl _ _
    clear q s0 hcl hz hbl hl HR HI hn
    go_enter Tryz.func27, Tryz.ntmps27
    by_cases hc1 : c = 1
    · subst hc1
      obtain rfl : n = 0 := by omega
      have HTx := Lib.hid (HT.out w.drew hB0.drew (some ⟨b, o, none⟩) 0 (.inr rfl))
      clear HT hc
      go_upto_region 3 with fail
      refine wp_region_any (by kernel_rfl) ?_
      change wpAny _ _ _ _ _ _ _ (World.drew _)
      refine wpAny_of_heldS (S := (fun W' => W'.cell? ⟨SB, 0, none⟩ = some (.pointer (some ⟨IB, 0, none⟩)) ∧ W'.cell? ⟨b, o, none⟩ = some (.int .i64 a))) ?_ (fun hHeld => ?_)
      · (try dsimp only) <;> (first | exact HSS.out _ hB0.drew | exact HSS.out _ (by assumption))
      refine wpAnyH_take (i := 0) (oi := { dst := some 12, op := Go.Op.move (Go.Operand.tmp 0), type := 46, pos := "sets.go:92", after := #[], guard := none }) (v := ?_) rfl (by kernel_rfl) (by kernel_rfl) (by kernel_rfl) (fun _ _ _ h => h) (Or.inl ⟨by rfl, ?_⟩) (by assumption) ?_
      rotate_left
      (intro w hSw; (try dsimp only at hSw); go_simp <;> with_reducible rfl)
      try simp only [Act.put, List.setIfInBounds_toArray, List.set_cons_zero, List.set_cons_succ]
      refine wpAnyH_take (i := 1) (oi := { dst := some 13, op := Go.Op.nilCheck (Go.Operand.tmp 12), type := 0, pos := "sets.go:92", after := #[{ on := 0, ground := Go.Ground.data }], guard := none }) (v := ?_) rfl (by kernel_rfl) (by kernel_rfl) (by kernel_rfl) (fun _ _ _ h => h) (Or.inl ⟨by rfl, ?_⟩) (by assumption) ?_
      rotate_left
      (intro w hSw; (try dsimp only at hSw); go_simp <;> with_reducible rfl)
      try simp only [Act.put, List.setIfInBounds_toArray, List.set_cons_zero, List.set_cons_succ]
      refine wpAnyH_take (i := 2) (oi := { dst := some 14, op := Go.Op.fieldAddr 109 (Go.Operand.tmp 13) 0, type := 0, pos := "sets.go:92", after := #[{ on := 1, ground := Go.Ground.data }], guard := none }) (v := ?_) rfl (by kernel_rfl) (by kernel_rfl) (by kernel_rfl) (fun _ _ _ h => h) (Or.inl ⟨by rfl, ?_⟩) (by assumption) ?_
      rotate_left
      (intro w hSw; (try dsimp only at hSw); go_simp <;> with_reducible rfl)
      try simp only [Act.put, List.setIfInBounds_toArray, List.set_cons_zero, List.set_cons_succ]
      refine wpAnyH_take (i := 3) (oi := { dst := some 15, op := Go.Op.load 32 (Go.Operand.tmp 14), type := 32, pos := "sets.go:92", after := #[{ on := 2, ground := Go.Ground.data }], guard := none }) (v := ?_) rfl (by kernel_rfl) (by kernel_rfl) (by kernel_rfl) (fun _ _ _ h => h) (Or.inl ⟨by rfl, ?_⟩) (by assumption) ?_
      rotate_left
      (intro w hSw; (try dsimp only at hSw); go_simp <;> with_reducible rfl)
      try simp only [Act.put, List.setIfInBounds_toArray, List.set_cons_zero, List.set_cons_succ]
      refine wpAnyH_take (i := 4) (oi := { dst := some 16, op := Go.Op.move (Go.Operand.tmp 1), type := 29, pos := "sets.go:92", after := #[], guard := none }) (v := ?_) rfl (by kernel_rfl) (by kernel_rfl) (by kernel_rfl) (fun _ _ _ h => h) (Or.inl ⟨by rfl, ?_⟩) (by assumption) ?_
      rotate_left
      (intro w hSw; (try dsimp only at hSw); go_simp <;> with_reducible rfl)
      try simp only [Act.put, List.setIfInBounds_toArray, List.set_cons_zero, List.set_cons_succ]
      refine wpAnyH_take (i := 5) (oi := { dst := some 17, op := Go.Op.indexAddr 29 (Go.Operand.tmp 16) (Go.Operand.const (Go.Value.int Go.IntKind.i64 0)), type := 0, pos := "sets.go:92", after := #[{ on := 4, ground := Go.Ground.data }], guard := none }) (v := ?_) rfl (by kernel_rfl) (by kernel_rfl) (by kernel_rfl) (fun _ _ _ h => h) (Or.inl ⟨by rfl, ?_⟩) (by assumption) ?_
      rotate_left
      (intro w hSw; (try dsimp only at hSw); go_simp <;> with_reducible rfl)
      try simp only [Act.put, List.setIfInBounds_toArray, List.set_cons_zero, List.set_cons_succ]
      refine wpAnyH_take (i := 6) (oi := { dst := some 18, op := Go.Op.load 3 (Go.Operand.tmp 17), type := 3, pos := "sets.go:92", after := #[{ on := 5, ground := Go.Ground.data }], guard := none }) (v := ?_) rfl (by kernel_rfl) (by kernel_rfl) (by kernel_rfl) (fun _ _ _ h => h) (Or.inl ⟨by rfl, ?_⟩) (by assumption) ?_
      rotate_left
      (intro w hSw; (try dsimp only at hSw); go_simp <;> with_reducible rfl)
      try simp only [Act.put, List.setIfInBounds_toArray, List.set_cons_zero, List.set_cons_succ]
      refine wpAnyH_take (i := 7) (oi := { dst := some 19, op := Go.Op.move (Go.Operand.tmp 1), type := 29, pos := "sets.go:92", after := #[], guard := none }) (v := ?_) rfl (by kernel_rfl) (by kernel_rfl) (by kernel_rfl) (fun _ _ _ h => h) (Or.inl ⟨by rfl, ?_⟩) (by assumption) ?_
      rotate_left
      (intro w hSw; (try dsimp only at hSw); go_simp <;> with_reducible rfl)
      try simp only [Act.put, List.setIfInBounds_toArray, List.set_cons_zero, List.set_cons_succ]
      refine wpAnyH_take (i := 8) (oi := { dst := some 20, op := Go.Op.indexAddr 29 (Go.Operand.tmp 19) (Go.Operand.const (Go.Value.int Go.IntKind.i64 0)), type := 0, pos := "sets.go:92", after := #[{ on := 7, ground := Go.Ground.data }], guard := none }) (v := ?_) rfl (by kernel_rfl) (by kernel_rfl) (by kernel_rfl) (fun _ _ _ h => h) (Or.inl ⟨by rfl, ?_⟩) (by assumption) ?_
      rotate_left
      (intro w hSw; (try dsimp only at hSw); go_simp <;> with_reducible rfl)
      try simp only [Act.put, List.setIfInBounds_toArray, List.set_cons_zero, List.set_cons_succ]
      refine wpAnyH_take (i := 9) (oi := { dst := some 21, op := Go.Op.load 3 (Go.Operand.tmp 20), type := 3, pos := "sets.go:92", after := #[{ on := 8, ground := Go.Ground.data }], guard := none }) (v := ?_) rfl (by kernel_rfl) (by kernel_rfl) (by kernel_rfl) (fun _ _ _ h => h) (Or.inl ⟨by rfl, ?_⟩) (by assumption) ?_
      rotate_left
      (intro w hSw; (try dsimp only at hSw); go_simp <;> with_reducible rfl)
      try simp only [Act.put, List.setIfInBounds_toArray, List.set_cons_zero, List.set_cons_succ]
      refine wpAnyH_take (i := 10) (oi := { dst := some 22, op := Go.Op.move (Go.Operand.tmp 1), type := 29, pos := "sets.go:92", after := #[], guard := none }) (v := ?_) rfl (by kernel_rfl) (by kernel_rfl) (by kernel_rfl) (fun _ _ _ h => h) (Or.inl ⟨by rfl, ?_⟩) (by assumption) ?_
      rotate_left
      (intro w hSw; (try dsimp only at hSw); go_simp <;> with_reducible rfl)
      try simp only [Act.put, List.setIfInBounds_toArray, List.set_cons_zero, List.set_cons_succ]
      refine wpAnyH_take (i := 11) (oi := { dst := some 23, op := Go.Op.slice 29 (Go.Operand.tmp 22) (some (Go.Operand.const (Go.Value.int Go.IntKind.i64 1))) none none, type := 29, pos := "sets.go:92", after := #[{ on := 10, ground := Go.Ground.data }], guard := none }) (v := ?_) rfl (by kernel_rfl) (by kernel_rfl) (by kernel_rfl) (fun _ _ _ h => h) (Or.inl ⟨by rfl, ?_⟩) (by assumption) ?_
      rotate_left
      (intro w hSw; (try dsimp only at hSw); go_simp <;> with_reducible rfl)
      try simp only [Act.put, List.setIfInBounds_toArray, List.set_cons_zero, List.set_cons_succ]
      refine wpAnyH_ready (rs := [12]) (by kernel_rfl) (by simp) ?_
      refine AllReadyH.cons (o := { dst := some 24, op := Go.Op.call { callee := Go.Callee.value (Go.Operand.func 11), args := #[Go.Operand.tmp 15, Go.Operand.tmp 18, Go.Operand.tmp 21, Go.Operand.tmp 23], argTypes := #[32, 3, 3, 29] }, type := 3, pos := "sets.go:92", after := #[{ on := 3, ground := Go.Ground.data }, { on := 6, ground := Go.Ground.data }, { on := 9, ground := Go.Ground.data }, { on := 11, ground := Go.Ground.data }], guard := none }) rfl (fun K hK => ?_) ?_
      (go_simp; (with_reducible refine (HTx.out).mono ?_); rintro e w9 ⟨rfl, g9⟩; have hB9 : Below w.heap.size w w9 := below_ch hB0.drew g9; go_wp2_with fail)
      refine hK.out _ _ ?_ (fun hH1 => ?_)
      · (try dsimp only) <;> (first | exact HSS.out _ hB0.drew | exact HSS.out _ (by assumption))
      clear hK K hHeld
      try simp only [Act.put, List.setIfInBounds_toArray, List.set_cons_zero, List.set_cons_succ]
      refine wpAnyH_take (i := 13) (oi := { dst := some 4, op := Go.Op.assign (Go.Operand.tmp 24), type := 3, pos := "sets.go:92", after := #[{ on := 12, ground := Go.Ground.data }, { on := 12, ground := Go.Ground.chain }, { on := 0, ground := Go.Ground.phase }, { on := 1, ground := Go.Ground.phase }, { on := 2, ground := Go.Ground.phase }, { on := 3, ground := Go.Ground.phase }, { on := 4, ground := Go.Ground.phase }, { on := 5, ground := Go.Ground.phase }, { on := 6, ground := Go.Ground.phase }, { on := 7, ground := Go.Ground.phase }, { on := 8, ground := Go.Ground.phase }, { on := 9, ground := Go.Ground.phase }, { on := 10, ground := Go.Ground.phase }, { on := 11, ground := Go.Ground.phase }, { on := 12, ground := Go.Ground.phase }], guard := none }) (v := ?_) rfl (by kernel_rfl) (by kernel_rfl) (by kernel_rfl) (fun _ _ _ h => h) (Or.inl ⟨by rfl, ?_⟩) (by assumption) ?_
      rotate_left
      (intro w hSw; (try dsimp only at hSw); go_simp <;> with_reducible rfl)
      try simp only [Act.put, List.setIfInBounds_toArray, List.set_cons_zero, List.set_cons_succ]
      refine wpAnyH_done (by kernel_rfl) ?_ _
      rotate_left
      exact AllReadyH.nil
      all_goals
        go_wp2_with fail
        go_ret
        exact ⟨rfl, hB9⟩
    · have HTx := Lib.hid (HT.out w.drew hB0.drew (some ⟨b, o + 1, none⟩) (c - 1) (.inl ⟨rfl, rfl⟩))
      have hc2 : (1 : Int) ≤ (c : Int) := by omega
      have hc3 : (1 : Int) ≤ (n : Int) + 1 := by omega
      clear HT
      go_upto_region 3 with fail
      refine wp_region_any (by kernel_rfl) ?_
      change wpAny _ _ _ _ _ _ _ (World.drew _)
      refine wpAny_of_heldS (S := (fun W' => W'.cell? ⟨SB, 0, none⟩ = some (.pointer (some ⟨IB, 0, none⟩)) ∧ W'.cell? ⟨b, o, none⟩ = some (.int .i64 a))) ?_ (fun hHeld => ?_)
      · (try dsimp only) <;> (first | exact HSS.out _ hB0.drew | exact HSS.out _ (by assumption))
      refine wpAnyH_take (i := 0) (oi := { dst := some 12, op := Go.Op.move (Go.Operand.tmp 0), type := 46, pos := "sets.go:92", after := #[], guard := none }) (v := ?_) rfl (by kernel_rfl) (by kernel_rfl) (by kernel_rfl) (fun _ _ _ h => h) (Or.inl ⟨by rfl, ?_⟩) (by assumption) ?_
      rotate_left
      (intro w hSw; (try dsimp only at hSw); go_simp <;> with_reducible rfl)
      try simp only [Act.put, List.setIfInBounds_toArray, List.set_cons_zero, List.set_cons_succ]
      refine wpAnyH_take (i := 1) (oi := { dst := some 13, op := Go.Op.nilCheck (Go.Operand.tmp 12), type := 0, pos := "sets.go:92", after := #[{ on := 0, ground := Go.Ground.data }], guard := none }) (v := ?_) rfl (by kernel_rfl) (by kernel_rfl) (by kernel_rfl) (fun _ _ _ h => h) (Or.inl ⟨by rfl, ?_⟩) (by assumption) ?_
      rotate_left
      (intro w hSw; (try dsimp only at hSw); go_simp <;> with_reducible rfl)
      try simp only [Act.put, List.setIfInBounds_toArray, List.set_cons_zero, List.set_cons_succ]
      refine wpAnyH_take (i := 2) (oi := { dst := some 14, op := Go.Op.fieldAddr 109 (Go.Operand.tmp 13) 0, type := 0, pos := "sets.go:92", after := #[{ on := 1, ground := Go.Ground.data }], guard := none }) (v := ?_) rfl (by kernel_rfl) (by kernel_rfl) (by kernel_rfl) (fun _ _ _ h => h) (Or.inl ⟨by rfl, ?_⟩) (by assumption) ?_
      rotate_left
      (intro w hSw; (try dsimp only at hSw); go_simp <;> with_reducible rfl)
      try simp only [Act.put, List.setIfInBounds_toArray, List.set_cons_zero, List.set_cons_succ]
      refine wpAnyH_take (i := 3) (oi := { dst := some 15, op := Go.Op.load 32 (Go.Operand.tmp 14), type := 32, pos := "sets.go:92", after := #[{ on := 2, ground := Go.Ground.data }], guard := none }) (v := ?_) rfl (by kernel_rfl) (by kernel_rfl) (by kernel_rfl) (fun _ _ _ h => h) (Or.inl ⟨by rfl, ?_⟩) (by assumption) ?_
      rotate_left
      (intro w hSw; (try dsimp only at hSw); go_simp <;> with_reducible rfl)
      try simp only [Act.put, List.setIfInBounds_toArray, List.set_cons_zero, List.set_cons_succ]
      refine wpAnyH_take (i := 4) (oi := { dst := some 16, op := Go.Op.move (Go.Operand.tmp 1), type := 29, pos := "sets.go:92", after := #[], guard := none }) (v := ?_) rfl (by kernel_rfl) (by kernel_rfl) (by kernel_rfl) (fun _ _ _ h => h) (Or.inl ⟨by rfl, ?_⟩) (by assumption) ?_
      rotate_left
      (intro w hSw; (try dsimp only at hSw); go_simp <;> with_reducible rfl)
      try simp only [Act.put, List.setIfInBounds_toArray, List.set_cons_zero, List.set_cons_succ]
      refine wpAnyH_take (i := 5) (oi := { dst := some 17, op := Go.Op.indexAddr 29 (Go.Operand.tmp 16) (Go.Operand.const (Go.Value.int Go.IntKind.i64 0)), type := 0, pos := "sets.go:92", after := #[{ on := 4, ground := Go.Ground.data }], guard := none }) (v := ?_) rfl (by kernel_rfl) (by kernel_rfl) (by kernel_rfl) (fun _ _ _ h => h) (Or.inl ⟨by rfl, ?_⟩) (by assumption) ?_
      rotate_left
      (intro w hSw; (try dsimp only at hSw); go_simp <;> with_reducible rfl)
      try simp only [Act.put, List.setIfInBounds_toArray, List.set_cons_zero, List.set_cons_succ]
      refine wpAnyH_take (i := 6) (oi := { dst := some 18, op := Go.Op.load 3 (Go.Operand.tmp 17), type := 3, pos := "sets.go:92", after := #[{ on := 5, ground := Go.Ground.data }], guard := none }) (v := ?_) rfl (by kernel_rfl) (by kernel_rfl) (by kernel_rfl) (fun _ _ _ h => h) (Or.inl ⟨by rfl, ?_⟩) (by assumption) ?_
      rotate_left
      (intro w hSw; (try dsimp only at hSw); go_simp <;> with_reducible rfl)
      try simp only [Act.put, List.setIfInBounds_toArray, List.set_cons_zero, List.set_cons_succ]
      refine wpAnyH_take (i := 7) (oi := { dst := some 19, op := Go.Op.move (Go.Operand.tmp 1), type := 29, pos := "sets.go:92", after := #[], guard := none }) (v := ?_) rfl (by kernel_rfl) (by kernel_rfl) (by kernel_rfl) (fun _ _ _ h => h) (Or.inl ⟨by rfl, ?_⟩) (by assumption) ?_
      rotate_left
      (intro w hSw; (try dsimp only at hSw); go_simp <;> with_reducible rfl)
      try simp only [Act.put, List.setIfInBounds_toArray, List.set_cons_zero, List.set_cons_succ]
      refine wpAnyH_take (i := 8) (oi := { dst := some 20, op := Go.Op.indexAddr 29 (Go.Operand.tmp 19) (Go.Operand.const (Go.Value.int Go.IntKind.i64 0)), type := 0, pos := "sets.go:92", after := #[{ on := 7, ground := Go.Ground.data }], guard := none }) (v := ?_) rfl (by kernel_rfl) (by kernel_rfl) (by kernel_rfl) (fun _ _ _ h => h) (Or.inl ⟨by rfl, ?_⟩) (by assumption) ?_
      rotate_left
      (intro w hSw; (try dsimp only at hSw); go_simp <;> with_reducible rfl)
      try simp only [Act.put, List.setIfInBounds_toArray, List.set_cons_zero, List.set_cons_succ]
      refine wpAnyH_take (i := 9) (oi := { dst := some 21, op := Go.Op.load 3 (Go.Operand.tmp 20), type := 3, pos := "sets.go:92", after := #[{ on := 8, ground := Go.Ground.data }], guard := none }) (v := ?_) rfl (by kernel_rfl) (by kernel_rfl) (by kernel_rfl) (fun _ _ _ h => h) (Or.inl ⟨by rfl, ?_⟩) (by assumption) ?_
      rotate_left
      (intro w hSw; (try dsimp only at hSw); go_simp <;> with_reducible rfl)
      try simp only [Act.put, List.setIfInBounds_toArray, List.set_cons_zero, List.set_cons_succ]
      refine wpAnyH_take (i := 10) (oi := { dst := some 22, op := Go.Op.move (Go.Operand.tmp 1), type := 29, pos := "sets.go:92", after := #[], guard := none }) (v := ?_) rfl (by kernel_rfl) (by kernel_rfl) (by kernel_rfl) (fun _ _ _ h => h) (Or.inl ⟨by rfl, ?_⟩) (by assumption) ?_
      rotate_left
      (intro w hSw; (try dsimp only at hSw); go_simp <;> with_reducible rfl)
      try simp only [Act.put, List.setIfInBounds_toArray, List.set_cons_zero, List.set_cons_succ]
      refine wpAnyH_take (i := 11) (oi := { dst := some 23, op := Go.Op.slice 29 (Go.Operand.tmp 22) (some (Go.Operand.const (Go.Value.int Go.IntKind.i64 1))) none none, type := 29, pos := "sets.go:92", after := #[{ on := 10, ground := Go.Ground.data }], guard := none }) (v := ?_) rfl (by kernel_rfl) (by kernel_rfl) (by kernel_rfl) (fun _ _ _ h => h) (Or.inl ⟨by rfl, ?_⟩) (by assumption) ?_
      rotate_left
      (intro w hSw; (try dsimp only at hSw); go_simp <;> with_reducible rfl)
      try simp only [Act.put, List.setIfInBounds_toArray, List.set_cons_zero, List.set_cons_succ]
      refine wpAnyH_ready (rs := [12]) (by kernel_rfl) (by simp) ?_
      refine AllReadyH.cons (o := { dst := some 24, op := Go.Op.call { callee := Go.Callee.value (Go.Operand.func 11), args := #[Go.Operand.tmp 15, Go.Operand.tmp 18, Go.Operand.tmp 21, Go.Operand.tmp 23], argTypes := #[32, 3, 3, 29] }, type := 3, pos := "sets.go:92", after := #[{ on := 3, ground := Go.Ground.data }, { on := 6, ground := Go.Ground.data }, { on := 9, ground := Go.Ground.data }, { on := 11, ground := Go.Ground.data }], guard := none }) rfl (fun K hK => ?_) ?_
      (go_simp; (with_reducible refine (HTx.out).mono ?_); rintro e w9 ⟨rfl, g9⟩; have hB9 : Below w.heap.size w w9 := below_ch hB0.drew g9; go_wp2_with fail)
      refine hK.out _ _ ?_ (fun hH1 => ?_)
      · (try dsimp only) <;> (first | exact HSS.out _ hB0.drew | exact HSS.out _ (by assumption))
      clear hK K hHeld
      try simp only [Act.put, List.setIfInBounds_toArray, List.set_cons_zero, List.set_cons_succ]
      refine wpAnyH_take (i := 13) (oi := { dst := some 4, op := Go.Op.assign (Go.Operand.tmp 24), type := 3, pos := "sets.go:92", after := #[{ on := 12, ground := Go.Ground.data }, { on := 12, ground := Go.Ground.chain }, { on := 0, ground := Go.Ground.phase }, { on := 1, ground := Go.Ground.phase }, { on := 2, ground := Go.Ground.phase }, { on := 3, ground := Go.Ground.phase }, { on := 4, ground := Go.Ground.phase }, { on := 5, ground := Go.Ground.phase }, { on := 6, ground := Go.Ground.phase }, { on := 7, ground := Go.Ground.phase }, { on := 8, ground := Go.Ground.phase }, { on := 9, ground := Go.Ground.phase }, { on := 10, ground := Go.Ground.phase }, { on := 11, ground := Go.Ground.phase }, { on := 12, ground := Go.Ground.phase }], guard := none }) (v := ?_) rfl (by kernel_rfl) (by kernel_rfl) (by kernel_rfl) (fun _ _ _ h => h) (Or.inl ⟨by rfl, ?_⟩) (by assumption) ?_
      rotate_left
      (intro w hSw; (try dsimp only at hSw); go_simp <;> with_reducible rfl)
      try simp only [Act.put, List.setIfInBounds_toArray, List.set_cons_zero, List.set_cons_succ]
      refine wpAnyH_done (by kernel_rfl) ?_ _
      rotate_left
      exact AllReadyH.nil
      all_goals
        go_wp2_with fail
        go_ret
        exact ⟨rfl, hB9⟩
end Go.Proofs

/- Walks: rows of numbers, searched and thinned by a function of the sets. -/
namespace Go.Proofs
open Go.RowKit Go.Lx Go.Md Go.Shelf Go.BigFrame Go.Rgi
set_option linter.unusedVariables false
/-- While a row is thinned. -/
structure Del (P : Int → Bool) (l cur : List Int) (i j : Nat) : Prop where
  len : cur.length = l.length
  lt : i < j
  le : j ≤ l.length
  fst : cur.take i = (l.take j).filter fun x => !P x
  rst : ∀ k, j ≤ k → cur[k]? = l[k]?
theorem Del.start {P : Int → Bool} {l : List Int} {i : Nat} (hi : i < l.length) (hp : P l[i] = true) (hno : ∀ k (hk : k < l.length), k < i → P l[k] = false) : Del P l l i (i + 1) := by
  refine ⟨rfl, by omega, by omega, ?_, fun _ _ => rfl⟩
  rw [List.take_succ_eq_append_getElem hi, List.filter_append]
  have e : ([l[i]]).filter (fun x => !P x) = [] := by simp [hp]
  rw [e, List.append_nil]
  refine (List.filter_eq_self.2 fun x hx => ?_).symm
  obtain ⟨k, hk, rfl⟩ := List.getElem_of_mem hx
  rw [List.length_take] at hk
  rw [List.getElem_take, hno k (by omega) (by omega)]; rfl
theorem Del.keep {P : Int → Bool} {l cur : List Int} {i j : Nat} (h : Del P l cur i j) (hj : j < l.length) (hp : P l[j] = false) : Del P l (cur.set i l[j]) (i + 1) (j + 1) := by
  have hl := h.len
  have hlt := h.lt
  refine ⟨by rw [List.length_set]; exact hl, by omega, by omega, ?_, fun k hk => ?_⟩
  · rw [List.take_succ_eq_append_getElem (by rw [List.length_set]; omega), List.take_set_of_le (Nat.le_refl _), h.fst, List.take_succ_eq_append_getElem hj, List.filter_append, List.getElem_set_self]
    congr 1
    simp [hp]
  · rw [List.getElem?_set_ne (by omega)]
    exact h.rst k (by omega)
theorem Del.skip {P : Int → Bool} {l cur : List Int} {i j : Nat} (h : Del P l cur i j) (hj : j < l.length) (hp : P l[j] = true) : Del P l cur i (j + 1) := by
  have hlt := h.lt
  refine ⟨h.len, by omega, by omega, ?_, fun k hk => h.rst k (by omega)⟩
  rw [h.fst, List.take_succ_eq_append_getElem hj, List.filter_append]
  have e : ([l[j]]).filter (fun x => !P x) = [] := by simp [hp]
  rw [e, List.append_nil]
theorem Del.done {P : Int → Bool} {l cur : List Int} {i : Nat} (h : Del P l cur i l.length) : cur.take i = l.filter fun x => !P x := by
  rw [h.fst, List.take_length]
theorem own_cut {N : Nat} {e : TypeId} {g n c i : Nat} {w : World} {xs : List Value} (h : w.ownsRow N e 1 (.slice (some ⟨g, 0, none⟩) n c) n xs) (hi : i ≤ n) : w.ownsRow N e 1 (.slice (some ⟨g, 0, none⟩) i c) i (xs.take i) := by
  obtain ⟨h1, h2⟩ := h
  rcases h2 with ⟨h0, _⟩ | ⟨g', c', cur, hv, hg, hh, hn, hcap, hsz, ht⟩
  · cases h0
  · cases hv
    refine ⟨by rw [List.length_take]; omega, .inr ⟨g, c, cur, rfl, hg, hh, by omega, hcap, hsz, ?_⟩⟩
    rw [← ht, List.take_take, Nat.min_eq_left (by omega), Nat.mul_one]
theorem own_past {N : Nat} {e : TypeId} {g c i : Nat} {xs : List Value} : ∀ (vs : List Value) (o : Nat) {w : World}, w.ownsRow N e 1 (.slice (some ⟨g, 0, none⟩) i c) i xs → i ≤ o → (w.setCells g o vs).ownsRow N e 1 (.slice (some ⟨g, 0, none⟩) i c) i xs
  | [], _, _, h, _ => h
  | v :: t, o, w, h, ho => by
    refine own_past t (o + 1) ?_ (by omega)
    have := (h.stored o v).1
    rwa [List.set_eq_of_length_le (by rw [h.1]; omega)] at this
theorem below_past {N g : Nat} (hg : N ≤ g) {a : World} : ∀ (vs : List Value) (o : Nat) {w : World}, Below N a w → Below N a (w.setCells g o vs)
  | [], _, _, h => h
  | v :: t, o, w, h => below_past hg t (o + 1) (h.setCell (p := ⟨g, o, none⟩) hg v)
/-- What a search by a function finds. -/
def IdxQ (P : Int → Bool) (l : List Int) (w : World) (e : Ending) (w' : World) : Prop := ∃ i : Int, e = .returned (.int .i64 i) ∧ ((i = -1 ∧ ∀ j (hj : j < l.length), P l[j] = false) ∨ ∃ k : Nat, ∃ hk : k < l.length, i = k ∧ P l[k] = true ∧ ∀ j (hj : j < l.length), j < k → P l[j] = false) ∧ Below w.heap.size w w'
def DelP (P : Int → Bool) (l : List Int) (N : Nat) (w : World) (e : Ending) (w' : World) : Prop := ∃ v', e = .returned v' ∧ w'.ownsRow N 3 1 v' (l.filter fun x => !P x).length (nums (l.filter fun x => !P x)) ∧ Below N w w'
theorem zero_int (w : World) : (zeroValue 3).run Tryz.prog w = .ok (.int .i64 0) w := by kernel_rfl
set_option maxHeartbeats 1000000 in
theorem findEn_any (P : Int → Bool) (l : List Int) (v : Value) (B4 B5 : Nat) (w : World) (h : RowIn w v l) (hl : l.length ≤ 100000)
    (hK : ∀ wx, Below w.heap.size w wx → ∀ x ∈ l, Calls Tryz.prog 75 #[.int .i64 x, .pointer (some (.mk B4 0 none)), .pointer (some (.mk B5 0 none))] wx fun e w' => e = .returned (.bool (P x)) ∧ Below wx.heap.size wx w') :
    Calls Tryz.prog 97 #[v, .func (.func 75) #[] #[.pointer (some (.mk B4 0 none)), .pointer (some (.mk B5 0 none))]] w (IdxQ P l w) := by
  have HK := Lib.hid hK
  have HR := Lib.hid (fun (wx : World) (g : Below w.heap.size w wx) => (h.below g).len)
  obtain ⟨a, c, rfl, hc, _⟩ := h.len
  obtain ⟨n, hn⟩ : ∃ n, l.length = n := ⟨_, rfl⟩
  have HN := Lib.hid hn
  rw [hn] at hl hc ⊢
  clear h hK hn
  go_enter Tryz.func97, Tryz.ntmps97
  go_wp2_with fail
  go_loopw [8] (fun i wr => ∃ k' : Nat, k' ≤ n ∧ i = .int .i64 k' ∧ Below w.heap.size w wr ∧ ∀ j (hj : j < l.length), j < k' → P l[j] = false) (fun i _ => n - (intOf i).toNat)
  case atStart => exact ⟨0, by omega, rfl, Below.refl _ _, fun j _ hj => by omega⟩
  case round =>
    obtain ⟨wo, rfl⟩ : ∃ wo : World, wo = wr := ⟨_, rfl⟩
    obtain ⟨i, hi, rfl, hb, hno⟩ := hrel
    have HB := Lib.hid hb
    have HNo := Lib.hid hno
    clear hb hno
    by_cases hlt : i < n
    · have hil : i < l.length := by rw [HN.out]; exact hlt
      obtain ⟨a', c', e, _, q⟩ := HR.out wo HB.out
      obtain ⟨b1, o1, ea, hbl, hcl⟩ := q i hil
      simp only [Value.slice.injEq] at e
      obtain ⟨rfl, e', rfl⟩ := e
      clear e'
      subst ea
      have hI : (i : Int) < (n : Int) := by omega
      have hI0 : (0 : Int) ≤ (i : Int) := by omega
      have HKv := Lib.hid (HK.out wo HB.out (l[i]'hil) (List.getElem_mem hil))
      have HS : Hid (∀ b, P (l[i]'hil) = b → (b = true → ∃ k : Nat, ∃ hk : k < l.length, (i : Int) = k ∧ P l[k] = true ∧ ∀ j (hj : j < l.length), j < k → P l[j] = false) ∧ (b = false → ∀ j (hj : j < l.length), j < i + 1 → P l[j] = false)) := fun b hb => ⟨fun ht => ⟨i, hil, rfl, by rw [hb, ht], HNo.out⟩, fun hf j hj hji => by
        by_cases e : j = i
        · subst e; rw [hb, hf]
        · exact HNo.out j hj (by omega)⟩
      obtain ⟨y, hy⟩ : ∃ y, l[i]'hil = y := ⟨_, rfl⟩
      rw [hy] at hcl HKv
      obtain ⟨b, hb⟩ : ∃ b, P y = b := ⟨_, rfl⟩
      rw [hb] at HKv
      have HSb := Lib.hid (HS.out b (by rw [hy]; exact hb))
      clear q hb HS hy
      cases b with
      | true =>
        go_wp2_with fail
        (with_reducible refine (HKv.out).mono ?_)
        rintro e w5 ⟨rfl, g5⟩
        go_wp2_with fail
        go_ret
        exact ⟨_, rfl, .inr (HSb.out.1 (by trivial)), below_ch HB.out g5⟩
      | false =>
        go_wp2_with fail
        (with_reducible refine (HKv.out).mono ?_)
        rintro e w5 ⟨rfl, g5⟩
        go_wp2_with fail
        go_roundw
        case rel => exact ⟨i + 1, by omega, by go_num, below_ch HB.out g5, HSb.out.2 (by trivial)⟩
        case measure => simp [intOf] <;> omega
    · have hA : Hid (∀ j (hj : j < l.length), P l[j] = false) := Lib.hid fun j hj => HNo.out j hj (by have := HN.out; omega)
      go_wp2_with fail
      go_ret
      exact ⟨-1, rfl, .inl ⟨rfl, hA.out⟩, HB.out⟩
set_option maxHeartbeats 1000000 in
theorem findCo_any (P : Int → Bool) (l : List Int) (v : Value) (B4 B5 : Nat) (w : World) (h : RowIn w v l) (hl : l.length ≤ 100000)
    (hK : ∀ wx, Below w.heap.size w wx → ∀ x ∈ l, Calls Tryz.prog 80 #[.int .i64 x, .pointer (some (.mk B4 0 none)), .pointer (some (.mk B5 0 none))] wx fun e w' => e = .returned (.bool (P x)) ∧ Below wx.heap.size wx w') :
    Calls Tryz.prog 97 #[v, .func (.func 80) #[] #[.pointer (some (.mk B4 0 none)), .pointer (some (.mk B5 0 none))]] w (IdxQ P l w) := by
  have HK := Lib.hid hK
  have HR := Lib.hid (fun (wx : World) (g : Below w.heap.size w wx) => (h.below g).len)
  obtain ⟨a, c, rfl, hc, _⟩ := h.len
  obtain ⟨n, hn⟩ : ∃ n, l.length = n := ⟨_, rfl⟩
  have HN := Lib.hid hn
  rw [hn] at hl hc ⊢
  clear h hK hn
  go_enter Tryz.func97, Tryz.ntmps97
  go_wp2_with fail
  go_loopw [8] (fun i wr => ∃ k' : Nat, k' ≤ n ∧ i = .int .i64 k' ∧ Below w.heap.size w wr ∧ ∀ j (hj : j < l.length), j < k' → P l[j] = false) (fun i _ => n - (intOf i).toNat)
  case atStart => exact ⟨0, by omega, rfl, Below.refl _ _, fun j _ hj => by omega⟩
  case round =>
    obtain ⟨wo, rfl⟩ : ∃ wo : World, wo = wr := ⟨_, rfl⟩
    obtain ⟨i, hi, rfl, hb, hno⟩ := hrel
    have HB := Lib.hid hb
    have HNo := Lib.hid hno
    clear hb hno
    by_cases hlt : i < n
    · have hil : i < l.length := by rw [HN.out]; exact hlt
      obtain ⟨a', c', e, _, q⟩ := HR.out wo HB.out
      obtain ⟨b1, o1, ea, hbl, hcl⟩ := q i hil
      simp only [Value.slice.injEq] at e
      obtain ⟨rfl, e', rfl⟩ := e
      clear e'
      subst ea
      have hI : (i : Int) < (n : Int) := by omega
      have hI0 : (0 : Int) ≤ (i : Int) := by omega
      have HKv := Lib.hid (HK.out wo HB.out (l[i]'hil) (List.getElem_mem hil))
      have HS : Hid (∀ b, P (l[i]'hil) = b → (b = true → ∃ k : Nat, ∃ hk : k < l.length, (i : Int) = k ∧ P l[k] = true ∧ ∀ j (hj : j < l.length), j < k → P l[j] = false) ∧ (b = false → ∀ j (hj : j < l.length), j < i + 1 → P l[j] = false)) := fun b hb => ⟨fun ht => ⟨i, hil, rfl, by rw [hb, ht], HNo.out⟩, fun hf j hj hji => by
        by_cases e : j = i
        · subst e; rw [hb, hf]
        · exact HNo.out j hj (by omega)⟩
      obtain ⟨y, hy⟩ : ∃ y, l[i]'hil = y := ⟨_, rfl⟩
      rw [hy] at hcl HKv
      obtain ⟨b, hb⟩ : ∃ b, P y = b := ⟨_, rfl⟩
      rw [hb] at HKv
      have HSb := Lib.hid (HS.out b (by rw [hy]; exact hb))
      clear q hb HS hy
      cases b with
      | true =>
        go_wp2_with fail
        (with_reducible refine (HKv.out).mono ?_)
        rintro e w5 ⟨rfl, g5⟩
        go_wp2_with fail
        go_ret
        exact ⟨_, rfl, .inr (HSb.out.1 (by trivial)), below_ch HB.out g5⟩
      | false =>
        go_wp2_with fail
        (with_reducible refine (HKv.out).mono ?_)
        rintro e w5 ⟨rfl, g5⟩
        go_wp2_with fail
        go_roundw
        case rel => exact ⟨i + 1, by omega, by go_num, below_ch HB.out g5, HSb.out.2 (by trivial)⟩
        case measure => simp [intOf] <;> omega
    · have hA : Hid (∀ j (hj : j < l.length), P l[j] = false) := Lib.hid fun j hj => HNo.out j hj (by have := HN.out; omega)
      go_wp2_with fail
      go_ret
      exact ⟨-1, rfl, .inl ⟨rfl, hA.out⟩, HB.out⟩
theorem hasCo_any (P : Int → Bool) (l : List Int) (v : Value) (B4 B5 : Nat) (w : World) (h : RowIn w v l) (hl : l.length ≤ 100000)
    (hK : ∀ wx, Below w.heap.size w wx → ∀ x ∈ l, Calls Tryz.prog 80 #[.int .i64 x, .pointer (some (.mk B4 0 none)), .pointer (some (.mk B5 0 none))] wx fun e w' => e = .returned (.bool (P x)) ∧ Below wx.heap.size wx w') :
    Calls Tryz.prog 56 #[v, .func (.func 80) #[] #[.pointer (some (.mk B4 0 none)), .pointer (some (.mk B5 0 none))]] w fun e w' => e = .returned (.bool (l.any P)) ∧ Below w.heap.size w w' := by
  have HC := Lib.hid (findCo_any P l v B4 B5 w h hl hK)
  clear h hK
  go_enter Tryz.func56, Tryz.ntmps56
  go_wp2_with ((with_reducible refine (HC.out).mono ?_); rintro e w' ⟨i, rfl, hi, hb⟩)
  go_ret
  refine ⟨?_, hb⟩
  rcases hi with ⟨rfl, hno⟩ | ⟨k, hk, rfl, hp, _⟩
  · rw [any_no hno]; rfl
  · rw [any_yes hk hp]; simp
set_option maxRecDepth 100000 in
set_option maxHeartbeats 4000000 in
theorem thinEn_any (P : Int → Bool) (l : List Int) (v : Value) (B4 B5 : Nat) (N : Nat) (w : World) (h : w.ownsRow N 3 1 v l.length (nums l)) (hN : N ≤ w.heap.size) (hl : l.length ≤ 100000)
    (hK : ∀ wx, Below N w wx → ∀ x ∈ l, Calls Tryz.prog 75 #[.int .i64 x, .pointer (some (.mk B4 0 none)), .pointer (some (.mk B5 0 none))] wx fun e w' => e = .returned (.bool (P x)) ∧ Below wx.heap.size wx w') :
    Calls Tryz.prog 74 #[v, .func (.func 75) #[] #[.pointer (some (.mk B4 0 none)), .pointer (some (.mk B5 0 none))]] w (DelP P l N w) := by
  obtain ⟨a, c, rfl⟩ := ownsRow_slice h
  have HI := Lib.hid (findEn_any P l (.slice a l.length c) B4 B5 w (RowIn.own h) hl (fun wx g => hK wx (g.mono hN)))
  have HK := Lib.hid hK
  have HO := Lib.hid h
  obtain ⟨n, hn⟩ : ∃ n, l.length = n := ⟨_, rfl⟩
  have HN := Lib.hid hn
  have HNw := Lib.hid hN
  rw [hn] at HI HO hl ⊢
  clear h hK hn hN
  go_enter Tryz.func74, Tryz.ntmps74
  go_wp2_with fail
  (with_reducible refine (HI.out).mono ?_)
  rintro e w2 ⟨i, rfl, hi, g2⟩
  have HB2 : Hid (Below N w w2) := Lib.hid (g2.mono HNw.out)
  have HO2 := Lib.hid (own_below HO.out g2)
  clear g2 HO HI
  rcases hi with ⟨rfl, hno⟩ | ⟨k, hk, rfl, hp, hno⟩
  · have HE : Hid (l.filter (fun x => !P x) = l) := Lib.hid (List.filter_eq_self.2 fun x hx => by
      obtain ⟨j, hj, rfl⟩ := List.getElem_of_mem hx
      rw [hno j hj]; rfl)
    clear hno
    go_wp2_with fail
    go_ret
    unfold DelP
    rw [HE.out]
    exact ⟨_, rfl, by rw [HN.out]; exact HO2.out, HB2.out⟩
  · have hkn : k < n := by rw [← HN.out]; exact hk
    obtain ⟨g, c', e⟩ := ownsRow_pos HO2.out (by omega)
    simp only [Value.slice.injEq, true_and] at e
    obtain ⟨rfl, rfl⟩ := e
    have hcap := ownsRow_capL HO2.out
    have hd : ((k : Int) == -1) = false := by rw [beq_eq_false_iff_ne]; omega
    have HD := Lib.hid (Del.start hk hp hno)
    have HZ : Hid (∀ (wo : World) (cur : List Int) (i : Nat), wo.ownsRow N 3 1 (.slice (some ⟨g, 0, none⟩) n c) n (nums cur) → i < n → ∀ ty, (Builtin.clear_ #[29] ty #[.slice (some ⟨g, i, none⟩) (n - i) (c - i)]).run Tryz.prog wo = .ok (.tuple #[]) (wo.setCells g i (List.replicate (n - i) (.int .i64 0)))) := Lib.hid fun wo cur i ho hi ty => by
      refine Lib.run_clear_slice wo _ _ ty _ Tryz.underlying29 zero_int rfl rfl g i _ _ (by omega) (fun t ht => ?_) (fun t ht => ?_)
      · rw [ho.cellAt (i + t) (by omega), List.getElem?_eq_getElem (by rw [ho.1]; omega)]; rfl
      · exact ho.frozenAt (i + t)
    clear hp hno hk
    go_wp2_with fail
    go_loopw [5, 6] (fun i j wr => ∃ (i' j' : Nat) (cur : List Int), i = .int .i64 i' ∧ j = .int .i64 j' ∧ Del P l cur i' j' ∧ Below N w wr ∧ wr.ownsRow N 3 1 (.slice (some ⟨g, 0, none⟩) n c) n (nums cur)) (fun _ j _ => n - (intOf j).toNat)
    case atStart => exact ⟨k, k + 1, l, rfl, by go_num, HD.out, HB2.out, HO2.out⟩
    case round =>
      obtain ⟨wo, rfl⟩ : ∃ wo : World, wo = wr := ⟨_, rfl⟩
      obtain ⟨i, j, cur, rfl, rfl, hD, hb, ho⟩ := hrel
      have hij := hD.lt
      have hjn : j ≤ n := by rw [← HN.out]; exact hD.le
      have HDo := Lib.hid hD
      have HBo := Lib.hid hb
      have HOo := Lib.hid ho
      have hgN := (ho.lt g rfl).1
      have hNo : N ≤ wo.heap.size := Nat.le_trans HNw.out hb.size
      clear hD hb ho HD HB2 HO2
      by_cases hlt : j < n
      · have hjl : j < l.length := by rw [HN.out]; exact hlt
        have hI : (j : Int) < (n : Int) := by omega
        have hI0 : (0 : Int) ≤ (j : Int) := by omega
        have hi1 : (i : Int) < (n : Int) := by omega
        have hi0 : (0 : Int) ≤ (i : Int) := by omega
        have cj : wo.cell? ⟨g, j, none⟩ = some (.int .i64 l[j]) := (HOo.out.cellAt j (by omega)).trans (by
          unfold nums
          rw [List.getElem?_map, HDo.out.rst j (Nat.le_refl _), List.getElem?_eq_getElem hjl]; rfl)
        have HKv := Lib.hid (HK.out wo HBo.out l[j] (List.getElem_mem hjl))
        have HSk := Lib.hid (fun hp => HDo.out.keep hjl hp)
        have HSs := Lib.hid (fun hp => HDo.out.skip hjl hp)
        have HLc : Hid (cur.length = n) := Lib.hid (by rw [HDo.out.len]; exact HN.out)
        obtain ⟨y, hy⟩ : ∃ y, l[j] = y := ⟨_, rfl⟩
        rw [hy] at cj HKv HSk HSs
        clear hy HDo
        cases hp : P y with
        | false =>
          rw [hp] at HKv
          have HDn := Lib.hid (HSk.out hp)
          clear HSk HSs hp
          go_wp2_with fail
          (with_reducible refine (HKv.out).mono ?_)
          rintro e w5 ⟨rfl, g5⟩
          have HO5 := Lib.hid (own_below HOo.out g5)
          have HB5 := Lib.hid (HBo.out.trans (g5.mono hNo))
          obtain ⟨x, hx⟩ : ∃ x, (nums cur)[i]? = some x := ⟨_, List.getElem?_eq_getElem (by unfold nums; rw [List.length_map, HLc.out]; omega)⟩
          have ci : w5.cell? ⟨g, i, none⟩ = some x := (HO5.out.cellAt i (by omega)).trans hx
          have fi := HO5.out.frozenAt i
          have HFin : Hid (Below N w (w5.setCell ⟨g, i, none⟩ (.int .i64 y)) ∧ (w5.setCell ⟨g, i, none⟩ (.int .i64 y)).ownsRow N 3 1 (.slice (some ⟨g, 0, none⟩) n c) n (nums (cur.set i y))) := Lib.hid ⟨HB5.out.setCell (p := ⟨g, i, none⟩) hgN _, by rw [nums_set]; exact (HO5.out.stored i (.int .i64 y)).1⟩
          clear hx HOo HBo HO5 HB5 g5 cj
          go_wp2_with fail
          go_roundw
          case rel => exact ⟨i + 1, j + 1, _, by go_num, by go_num, HDn.out, HFin.out⟩
          case measure => simp [intOf] <;> omega
        | true =>
          rw [hp] at HKv
          have HDn := Lib.hid (HSs.out hp)
          clear HSk HSs hp
          go_wp2_with fail
          (with_reducible refine (HKv.out).mono ?_)
          rintro e w5 ⟨rfl, g5⟩
          go_wp2_with fail
          go_roundw
          case rel => exact ⟨i, j + 1, cur, rfl, by go_num, HDn.out, HBo.out.trans (g5.mono hNo), own_below HOo.out g5⟩
          case measure => simp [intOf] <;> omega
      · obtain rfl : n = j := by omega
        have hcl := HZ.out wo cur i HOo.out hij
        have HDe : Hid (cur.take i = l.filter fun x => !P x) := Lib.hid (by have := HDo.out; rw [← HN.out] at this; exact this.done)
        have HLc : Hid (cur.length = n) := Lib.hid (by rw [HDo.out.len]; exact HN.out)
        have hi1 : (i : Int) < (n : Int) := by omega
        have hi0 : (0 : Int) ≤ (i : Int) := by omega
        clear HDo hlt
        go_wp2_with fail
        go_ret
        have e1 := own_past (List.replicate (n - i) (.int .i64 0)) i (own_cut HOo.out (i := i) (by omega)) (Nat.le_refl _)
        have e2 : (nums cur).take i = nums (l.filter fun x => !P x) := by rw [← HDe.out]; unfold nums; rw [List.map_take]
        have e3 : (l.filter fun x => !P x).length = i := by rw [← HDe.out, List.length_take, HLc.out]; omega
        rw [e2] at e1
        unfold DelP
        rw [e3]
        exact ⟨_, rfl, e1, below_past hgN _ _ HBo.out⟩
end Go.Proofs

/- Walks: what is entered; what is active; is a state complete. -/
namespace Go.Proofs
open Go.RowKit Go.Lx Go.Md Go.Shelf Go.BigFrame Go.Rgi
set_option linter.unusedVariables false
set_option maxRecDepth 100000 in
set_option maxHeartbeats 2000000 in
theorem entries1_any {B : Nat} {m : MdlD} {SB : Nat} {w : World} (h : SetAt B m SB w) (h0 : riM m = (0, 0, 0)) (v r : Int) (B4 B5 : Nat) (h4 : w.cell? ⟨B4, 0, none⟩ = some (.pointer (some ⟨SB, 0, none⟩))) (h5 : w.cell? ⟨B5, 0, none⟩ = some (.int .i64 r)) :
    Calls Tryz.prog 75 #[.int .i64 v, .pointer (some (.mk B4 0 none)), .pointer (some (.mk B5 0 none))] w fun e w' => e = .returned (.bool (!inM m v r)) ∧ Below w.heap.size w w' := by
  obtain ⟨IB, kv, hi, s0, s1, s2, hku, hz⟩ := h
  have HC := Lib.hid (fun wx (g : Below w.heap.size w wx) => in_any (hi.grown g) v r h0)
  have z4 := World.block_lt_of_cell? w _ h4
  have z5 := World.block_lt_of_cell? w _ h5
  have HSS : Hid (∀ W', Below w.heap.size w W' → W'.cell? ⟨B4, 0, none⟩ = some (.pointer (some ⟨SB, 0, none⟩)) ∧ W'.cell? ⟨B5, 0, none⟩ = some (.int .i64 r) ∧ W'.cell? ⟨SB, 0, none⟩ = some (.pointer (some ⟨IB, 0, none⟩))) := Lib.hid fun W' g => ⟨(g.cell (p := ⟨B4, 0, none⟩) z4).trans h4, (g.cell (p := ⟨B5, 0, none⟩) z5).trans h5, (g.cell (p := ⟨SB, 0, none⟩) hz).trans s0⟩
  have hB0 : Below w.heap.size w w := Below.refl _ _
  clear hi hku s0 s1 s2 h4 h5 h0 z4 z5 hz
  go_enter Tryz.func75, Tryz.ntmps75
  go_upto_region 1 with fail
  refine wp_region_any (by kernel_rfl) ?_
  change wpAny _ _ _ _ _ _ _ (World.drew _)
  refine wpAny_of_heldS (S := (fun W' => W'.cell? ⟨B4, 0, none⟩ = some (.pointer (some ⟨SB, 0, none⟩)) ∧ W'.cell? ⟨B5, 0, none⟩ = some (.int .i64 r) ∧ W'.cell? ⟨SB, 0, none⟩ = some (.pointer (some ⟨IB, 0, none⟩)))) ?_ (fun hHeld => ?_)
  · (try dsimp only) <;> (first | exact HSS.out _ hB0.drew | exact HSS.out _ (by assumption))
  refine wpAnyH_take (i := 0) (oi := { dst := some 5, op := Go.Op.load 46 (Go.Operand.tmp 1), type := 46, pos := "sets.go:126", after := #[], guard := none }) (v := ?_) rfl (by kernel_rfl) (by kernel_rfl) (by kernel_rfl) (fun _ _ _ h => h) (Or.inl ⟨by rfl, ?_⟩) (by assumption) ?_
  rotate_left
  (intro w hSw; (try dsimp only at hSw); go_simp <;> with_reducible rfl)
  try simp only [Act.put, List.setIfInBounds_toArray, List.set_cons_zero, List.set_cons_succ]
  refine wpAnyH_take (i := 1) (oi := { dst := some 6, op := Go.Op.nilCheck (Go.Operand.tmp 5), type := 0, pos := "sets.go:126", after := #[{ on := 0, ground := Go.Ground.data }], guard := none }) (v := ?_) rfl (by kernel_rfl) (by kernel_rfl) (by kernel_rfl) (fun _ _ _ h => h) (Or.inl ⟨by rfl, ?_⟩) (by assumption) ?_
  rotate_left
  (intro w hSw; (try dsimp only at hSw); go_simp <;> with_reducible rfl)
  try simp only [Act.put, List.setIfInBounds_toArray, List.set_cons_zero, List.set_cons_succ]
  refine wpAnyH_take (i := 2) (oi := { dst := some 7, op := Go.Op.fieldAddr 109 (Go.Operand.tmp 6) 0, type := 0, pos := "sets.go:126", after := #[{ on := 1, ground := Go.Ground.data }], guard := none }) (v := ?_) rfl (by kernel_rfl) (by kernel_rfl) (by kernel_rfl) (fun _ _ _ h => h) (Or.inl ⟨by rfl, ?_⟩) (by assumption) ?_
  rotate_left
  (intro w hSw; (try dsimp only at hSw); go_simp <;> with_reducible rfl)
  try simp only [Act.put, List.setIfInBounds_toArray, List.set_cons_zero, List.set_cons_succ]
  refine wpAnyH_take (i := 3) (oi := { dst := some 8, op := Go.Op.load 32 (Go.Operand.tmp 7), type := 32, pos := "sets.go:126", after := #[{ on := 2, ground := Go.Ground.data }], guard := none }) (v := ?_) rfl (by kernel_rfl) (by kernel_rfl) (by kernel_rfl) (fun _ _ _ h => h) (Or.inl ⟨by rfl, ?_⟩) (by assumption) ?_
  rotate_left
  (intro w hSw; (try dsimp only at hSw); go_simp <;> with_reducible rfl)
  try simp only [Act.put, List.setIfInBounds_toArray, List.set_cons_zero, List.set_cons_succ]
  refine wpAnyH_take (i := 4) (oi := { dst := some 9, op := Go.Op.move (Go.Operand.tmp 0), type := 3, pos := "sets.go:126", after := #[], guard := none }) (v := ?_) rfl (by kernel_rfl) (by kernel_rfl) (by kernel_rfl) (fun _ _ _ h => h) (Or.inl ⟨by rfl, ?_⟩) (by assumption) ?_
  rotate_left
  (intro w hSw; (try dsimp only at hSw); go_simp <;> with_reducible rfl)
  try simp only [Act.put, List.setIfInBounds_toArray, List.set_cons_zero, List.set_cons_succ]
  refine wpAnyH_take (i := 5) (oi := { dst := some 10, op := Go.Op.load 3 (Go.Operand.tmp 2), type := 3, pos := "sets.go:126", after := #[], guard := none }) (v := ?_) rfl (by kernel_rfl) (by kernel_rfl) (by kernel_rfl) (fun _ _ _ h => h) (Or.inl ⟨by rfl, ?_⟩) (by assumption) ?_
  rotate_left
  (intro w hSw; (try dsimp only at hSw); go_simp <;> with_reducible rfl)
  try simp only [Act.put, List.setIfInBounds_toArray, List.set_cons_zero, List.set_cons_succ]
  refine wpAnyH_ready (rs := [6]) (by kernel_rfl) (by simp) ?_
  refine AllReadyH.cons (o := { dst := some 11, op := Go.Op.call { callee := Go.Callee.value (Go.Operand.func 58), args := #[Go.Operand.tmp 8, Go.Operand.tmp 9, Go.Operand.tmp 10], argTypes := #[32, 3, 3] }, type := 4, pos := "sets.go:126", after := #[{ on := 3, ground := Go.Ground.data }, { on := 4, ground := Go.Ground.data }, { on := 5, ground := Go.Ground.data }], guard := none }) rfl (fun K hK => ?_) ?_
  (go_simp; (with_reducible refine (HC.out _ hB0.drew).mono ?_); rintro e w9 ⟨rfl, g9⟩; have hB9 : Below w.heap.size w w9 := below_ch hB0.drew g9; go_wp2_with fail)
  refine hK.out _ _ ?_ (fun hH1 => ?_)
  · (try dsimp only) <;> (first | exact HSS.out _ hB0.drew | exact HSS.out _ (by assumption))
  clear hK K hHeld
  try simp only [Act.put, List.setIfInBounds_toArray, List.set_cons_zero, List.set_cons_succ]
  refine wpAnyH_take (i := 7) (oi := { dst := some 12, op := Go.Op.unOp Go.UnOp.not 4 (Go.Operand.tmp 11), type := 4, pos := "sets.go:126", after := #[{ on := 6, ground := Go.Ground.data }], guard := none }) (v := ?_) rfl (by kernel_rfl) (by kernel_rfl) (by kernel_rfl) (fun _ _ _ h => h) (Or.inl ⟨by rfl, ?_⟩) (by assumption) ?_
  rotate_left
  (intro w hSw; (try dsimp only at hSw); go_simp <;> with_reducible rfl)
  try simp only [Act.put, List.setIfInBounds_toArray, List.set_cons_zero, List.set_cons_succ]
  refine wpAnyH_take (i := 8) (oi := { dst := some 4, op := Go.Op.assign (Go.Operand.tmp 12), type := 4, pos := "sets.go:126", after := #[{ on := 7, ground := Go.Ground.data }, { on := 6, ground := Go.Ground.chain }, { on := 0, ground := Go.Ground.phase }, { on := 1, ground := Go.Ground.phase }, { on := 2, ground := Go.Ground.phase }, { on := 3, ground := Go.Ground.phase }, { on := 4, ground := Go.Ground.phase }, { on := 5, ground := Go.Ground.phase }, { on := 6, ground := Go.Ground.phase }, { on := 7, ground := Go.Ground.phase }], guard := none }) (v := ?_) rfl (by kernel_rfl) (by kernel_rfl) (by kernel_rfl) (fun _ _ _ h => h) (Or.inl ⟨by rfl, ?_⟩) (by assumption) ?_
  rotate_left
  (intro w hSw; (try dsimp only at hSw); go_simp <;> with_reducible rfl)
  try simp only [Act.put, List.setIfInBounds_toArray, List.set_cons_zero, List.set_cons_succ]
  refine wpAnyH_done (by kernel_rfl) ?_ _
  rotate_left
  exact AllReadyH.nil
  all_goals
    go_wp2_with fail
    go_ret
    exact ⟨rfl, hB9⟩
theorem entX_no {m : MdlD} {r e : Int} (h : r < 0 ∨ inM m e r = false) : entX m r e = [] := by
  unfold entX
  split
  · rfl
  · unfold entM
    rw [(h.resolve_left (by omega)), if_neg (by decide)]
theorem entX_yes {m : MdlD} {r e : Int} (h : ¬ r < 0) (hi : inM m e r = true) : entX m r e = ((chainM m e).filter fun x => !(fun v => !inM m v r) x) ++ (if stands m e then [e] else []) := by
  unfold entX
  rw [if_neg h]
  unfold entM
  rw [hi, if_pos rfl]
  simp only [Bool.not_not]
theorem chainM_le {m : MdlD} (h0 : riM m = (0, 0, 0)) (v : Int) : (chainM m v).length ≤ 64 := by
  cases hv : hasV m v with
  | false => unfold chainM; rw [hv]; simp
  | true =>
    obtain ⟨k, rfl, hk⟩ := hasV_nat hv
    rw [chainM_len h0 hk]
    exact deep_right h0 hk
set_option maxRecDepth 100000 in
set_option maxHeartbeats 4000000 in
theorem entries_any {B : Nat} {m : MdlD} {SB : Nat} {w : World} (h : SetAt B m SB w) (h0 : riM m = (0, 0, 0)) (r e : Int) :
    Calls Tryz.prog 24 #[.pointer (some ⟨SB, 0, none⟩), .int .i64 r, .int .i64 e] w (RowP (entX m r e) w) := by
  obtain ⟨iI, hiI, zI0, zI1, zI2⟩ := info_parts info_Num
  unfold RowP
  have HB1 : Hid (Below w.heap.size w ((w.alloc (.cells #[.pointer (some ⟨SB, 0, none⟩)] 46)).alloc (.cells #[.int .i64 r] 3))) := Lib.hid (below_al2 w _ _)
  obtain ⟨t4, t5, _, tz⟩ := two_allocs_c w (.pointer (some ⟨SB, 0, none⟩)) (.int .i64 r) 46 3
  have HA := Lib.hid (fun wx (g : Below w.heap.size w wx) => h.grown g)
  have HX0 := Lib.hid (fun hh => entX_no (m := m) (r := r) (e := e) hh)
  have HX1 := Lib.hid (fun h1 h2 => entX_yes (m := m) (r := r) (e := e) h1 h2)
  have HCl := Lib.hid (chainM_le h0 e)
  have HFl := Lib.hid (List.length_filter_le (fun x => !(fun v => !inM m v r) x) (chainM m e))
  have CH := Lib.hid (fun wx IB (hi : IdxAt B m IB wx) => chain_any hi e h0)
  have IN := Lib.hid (fun wx IB (hi : IdxAt B m IB wx) => in_any hi e r h0)
  have E1 := Lib.hid (fun wx (hs : SetAt B m SB wx) (x : Int) B4 B5 h4 h5 => entries1_any hs h0 x r B4 B5 h4 h5)
  have IS := Lib.hid (fun wx (hs : SetAt B m SB wx) => (setsIs_any (hs.grown (below_al1 wx (.cells #[.int .u8 1, .int .u8 2] 5))) e (.slice (some ⟨wx.heap.size, 0, none⟩) 2 2) [1, 2] (RowU.fresh wx [1, 2] _ rfl 2 rfl _ rfl) (by decide)).mono (fun e1 w' q => (show e1 = .returned (.bool (stands m e)) ∧ Below wx.heap.size wx w' from ⟨by rw [← st_kd]; exact q.1, below_bx1 q.2⟩)))
  obtain ⟨IB, kv, hi, s0, s1, s2, hku, hz⟩ := h
  have HI := Lib.hid (fun wx (g : Below w.heap.size w wx) => hi.grown g)
  generalize entX m r e = X at *
  generalize inM m e r = ib at *
  generalize stands m e = sb at *
  clear hi hku s1 s2 h0
  go_enter Tryz.func24, Tryz.ntmps24
  go_upto_region 1 with fail
  have s0' := (HB1.out.cell (p := ⟨SB, 0, none⟩) hz).trans s0
  have hz' : SB < ((w.alloc (.cells #[.pointer (some ⟨SB, 0, none⟩)] 46)).alloc (.cells #[.int .i64 r] 3)).heap.size := by omega
  generalize (w.alloc (.cells #[.pointer (some ⟨SB, 0, none⟩)] 46)).alloc (.cells #[.int .i64 r] 3) = W1 at *
  have hB0 : Below W1.heap.size W1 W1 := Below.refl _ _
  by_cases hr : r < 0
  · have HX := Lib.hid (HX0.out (.inl hr))
    have hd : decide (r < 0) = true := decide_eq_true hr
    clear HX0 HX1
    go_quiet (fail)
    go_wp2_with fail
    go_ret
    rw [HX.out]
    exact ⟨_, rfl, World.ownsRow_nil _ _ _ _, below_drewN HB1.out _⟩
  · have hd : decide (r < 0) = false := decide_eq_false hr
    have HSS : Hid (∀ W', Below W1.heap.size W1 W' → W'.cell? ⟨w.heap.size, 0, none⟩ = some (.pointer (some ⟨SB, 0, none⟩)) ∧ W'.cell? ⟨w.heap.size + 1, 0, none⟩ = some (.int .i64 r) ∧ W'.cell? ⟨SB, 0, none⟩ = some (.pointer (some ⟨IB, 0, none⟩))) := Lib.hid fun W' g => ⟨(g.cell (p := ⟨w.heap.size, 0, none⟩) (by simp only; omega)).trans t4, (g.cell (p := ⟨w.heap.size + 1, 0, none⟩) (by simp only; omega)).trans t5, (g.cell (p := ⟨SB, 0, none⟩) hz').trans s0'⟩
    have INx := Lib.hid (IN.out W1.drew IB (HI.out _ HB1.out.drew))
    have HNr := Lib.hid hr
    clear IN t4 t5 s0 s0' hr
    refine wp_region_any (by kernel_rfl) ?_
    change wpAny _ _ _ _ _ _ _ (World.drew _)
    refine wpAny_of_heldS (S := (fun W' => W'.cell? ⟨w.heap.size, 0, none⟩ = some (.pointer (some ⟨SB, 0, none⟩)) ∧ W'.cell? ⟨w.heap.size + 1, 0, none⟩ = some (.int .i64 r) ∧ W'.cell? ⟨SB, 0, none⟩ = some (.pointer (some ⟨IB, 0, none⟩)))) ?_ (fun hHeld => ?_)
    · (try dsimp only) <;> (first | exact HSS.out _ hB0.drew | exact HSS.out _ (by assumption))
    refine wpAnyH_take (i := 0) (oi := { dst := some 8, op := Go.Op.load 46 (Go.Operand.tmp 3), type := 46, pos := "sets.go:123", after := #[], guard := none }) (v := ?_) rfl (by kernel_rfl) (by kernel_rfl) (by kernel_rfl) (fun _ _ _ h => h) (Or.inl ⟨by rfl, ?_⟩) (by assumption) ?_
    rotate_left
    (intro w hSw; (try dsimp only at hSw); go_simp <;> with_reducible rfl)
    try simp only [Act.put, List.setIfInBounds_toArray, List.set_cons_zero, List.set_cons_succ]
    refine wpAnyH_take (i := 1) (oi := { dst := some 9, op := Go.Op.binOp Go.BinOp.eql 46 (Go.Operand.tmp 8) (Go.Operand.const (Go.Value.pointer none)) 46, type := 4, pos := "sets.go:123", after := #[{ on := 0, ground := Go.Ground.data }], guard := none }) (v := ?_) rfl (by kernel_rfl) (by kernel_rfl) (by kernel_rfl) (fun _ _ _ h => h) (Or.inl ⟨by rfl, ?_⟩) (by assumption) ?_
    rotate_left
    (intro w hSw; (try dsimp only at hSw); go_simp <;> with_reducible rfl)
    try simp only [Act.put, List.setIfInBounds_toArray, List.set_cons_zero, List.set_cons_succ]
    refine wpAnyH_take (i := 2) (oi := { dst := some 10, op := Go.Op.move (Go.Operand.tmp 9), type := 4, pos := "sets.go:123", after := #[{ on := 1, ground := Go.Ground.data }], guard := none }) (v := ?_) rfl (by kernel_rfl) (by kernel_rfl) (by kernel_rfl) (fun _ _ _ h => h) (Or.inl ⟨by rfl, ?_⟩) (by assumption) ?_
    rotate_left
    (intro w hSw; (try dsimp only at hSw); go_simp <;> with_reducible rfl)
    try simp only [Act.put, List.setIfInBounds_toArray, List.set_cons_zero, List.set_cons_succ]
    refine wpAnyH_take (i := 3) (oi := { dst := some 11, op := Go.Op.load 3 (Go.Operand.tmp 4), type := 3, pos := "sets.go:123", after := #[{ on := 2, ground := Go.Ground.guard }], guard := some (2, false) }) (v := ?_) rfl (by kernel_rfl) (by kernel_rfl) (by kernel_rfl) (fun _ _ _ h => h) (Or.inl ⟨by rfl, ?_⟩) (by assumption) ?_
    rotate_left
    (intro w hSw; (try dsimp only at hSw); go_simp <;> with_reducible rfl)
    try simp only [Act.put, List.setIfInBounds_toArray, List.set_cons_zero, List.set_cons_succ]
    refine wpAnyH_take (i := 4) (oi := { dst := some 12, op := Go.Op.binOp Go.BinOp.lss 3 (Go.Operand.tmp 11) (Go.Operand.const (Go.Value.int Go.IntKind.i64 0)) 3, type := 4, pos := "sets.go:123", after := #[{ on := 3, ground := Go.Ground.data }, { on := 2, ground := Go.Ground.guard }], guard := some (2, false) }) (v := ?_) rfl (by kernel_rfl) (by kernel_rfl) (by kernel_rfl) (fun _ _ _ h => h) (Or.inl ⟨by rfl, ?_⟩) (by assumption) ?_
    rotate_left
    (intro w hSw; (try dsimp only at hSw); go_simp <;> with_reducible rfl)
    try simp only [Act.put, List.setIfInBounds_toArray, List.set_cons_zero, List.set_cons_succ]
    refine wpAnyH_take (i := 5) (oi := { dst := some 13, op := Go.Op.pick (Go.Operand.tmp 10) (Go.Operand.const (Go.Value.bool true)) (Go.Operand.tmp 12), type := 4, pos := "sets.go:123", after := #[{ on := 2, ground := Go.Ground.data }, { on := 4, ground := Go.Ground.data }], guard := none }) (v := ?_) rfl (by kernel_rfl) (by kernel_rfl) (by kernel_rfl) (fun _ _ _ h => h) (Or.inl ⟨by rfl, ?_⟩) (by assumption) ?_
    rotate_left
    (intro w hSw; (try dsimp only at hSw); go_simp <;> with_reducible rfl)
    try simp only [Act.put, List.setIfInBounds_toArray, List.set_cons_zero, List.set_cons_succ]
    refine wpAnyH_take (i := 6) (oi := { dst := some 14, op := Go.Op.move (Go.Operand.tmp 13), type := 4, pos := "sets.go:123", after := #[{ on := 5, ground := Go.Ground.data }, { on := 2, ground := Go.Ground.chain }], guard := none }) (v := ?_) rfl (by kernel_rfl) (by kernel_rfl) (by kernel_rfl) (fun _ _ _ h => h) (Or.inl ⟨by rfl, ?_⟩) (by assumption) ?_
    rotate_left
    (intro w hSw; (try dsimp only at hSw); go_simp <;> with_reducible rfl)
    try simp only [Act.put, List.setIfInBounds_toArray, List.set_cons_zero, List.set_cons_succ]
    refine wpAnyH_take (i := 7) (oi := { dst := some 15, op := Go.Op.load 46 (Go.Operand.tmp 3), type := 46, pos := "sets.go:123", after := #[{ on := 6, ground := Go.Ground.guard }], guard := some (6, false) }) (v := ?_) rfl (by kernel_rfl) (by kernel_rfl) (by kernel_rfl) (fun _ _ _ h => h) (Or.inl ⟨by rfl, ?_⟩) (by assumption) ?_
    rotate_left
    (intro w hSw; (try dsimp only at hSw); go_simp <;> with_reducible rfl)
    try simp only [Act.put, List.setIfInBounds_toArray, List.set_cons_zero, List.set_cons_succ]
    refine wpAnyH_take (i := 8) (oi := { dst := some 16, op := Go.Op.nilCheck (Go.Operand.tmp 15), type := 0, pos := "sets.go:123", after := #[{ on := 7, ground := Go.Ground.data }, { on := 6, ground := Go.Ground.guard }], guard := some (6, false) }) (v := ?_) rfl (by kernel_rfl) (by kernel_rfl) (by kernel_rfl) (fun _ _ _ h => h) (Or.inl ⟨by rfl, ?_⟩) (by assumption) ?_
    rotate_left
    (intro w hSw; (try dsimp only at hSw); go_simp <;> with_reducible rfl)
    try simp only [Act.put, List.setIfInBounds_toArray, List.set_cons_zero, List.set_cons_succ]
    refine wpAnyH_take (i := 9) (oi := { dst := some 17, op := Go.Op.fieldAddr 109 (Go.Operand.tmp 16) 0, type := 0, pos := "sets.go:123", after := #[{ on := 8, ground := Go.Ground.data }, { on := 6, ground := Go.Ground.guard }], guard := some (6, false) }) (v := ?_) rfl (by kernel_rfl) (by kernel_rfl) (by kernel_rfl) (fun _ _ _ h => h) (Or.inl ⟨by rfl, ?_⟩) (by assumption) ?_
    rotate_left
    (intro w hSw; (try dsimp only at hSw); go_simp <;> with_reducible rfl)
    try simp only [Act.put, List.setIfInBounds_toArray, List.set_cons_zero, List.set_cons_succ]
    refine wpAnyH_take (i := 10) (oi := { dst := some 18, op := Go.Op.load 32 (Go.Operand.tmp 17), type := 32, pos := "sets.go:123", after := #[{ on := 9, ground := Go.Ground.data }, { on := 6, ground := Go.Ground.guard }], guard := some (6, false) }) (v := ?_) rfl (by kernel_rfl) (by kernel_rfl) (by kernel_rfl) (fun _ _ _ h => h) (Or.inl ⟨by rfl, ?_⟩) (by assumption) ?_
    rotate_left
    (intro w hSw; (try dsimp only at hSw); go_simp <;> with_reducible rfl)
    try simp only [Act.put, List.setIfInBounds_toArray, List.set_cons_zero, List.set_cons_succ]
    refine wpAnyH_take (i := 11) (oi := { dst := some 19, op := Go.Op.move (Go.Operand.tmp 2), type := 3, pos := "sets.go:123", after := #[{ on := 6, ground := Go.Ground.guard }], guard := some (6, false) }) (v := ?_) rfl (by kernel_rfl) (by kernel_rfl) (by kernel_rfl) (fun _ _ _ h => h) (Or.inl ⟨by rfl, ?_⟩) (by assumption) ?_
    rotate_left
    (intro w hSw; (try dsimp only at hSw); go_simp <;> with_reducible rfl)
    try simp only [Act.put, List.setIfInBounds_toArray, List.set_cons_zero, List.set_cons_succ]
    refine wpAnyH_take (i := 12) (oi := { dst := some 20, op := Go.Op.load 3 (Go.Operand.tmp 4), type := 3, pos := "sets.go:123", after := #[{ on := 6, ground := Go.Ground.guard }], guard := some (6, false) }) (v := ?_) rfl (by kernel_rfl) (by kernel_rfl) (by kernel_rfl) (fun _ _ _ h => h) (Or.inl ⟨by rfl, ?_⟩) (by assumption) ?_
    rotate_left
    (intro w hSw; (try dsimp only at hSw); go_simp <;> with_reducible rfl)
    try simp only [Act.put, List.setIfInBounds_toArray, List.set_cons_zero, List.set_cons_succ]
    refine wpAnyH_ready (rs := [13]) (by kernel_rfl) (by simp) ?_
    refine AllReadyH.cons (o := { dst := some 21, op := Go.Op.call { callee := Go.Callee.value (Go.Operand.func 58), args := #[Go.Operand.tmp 18, Go.Operand.tmp 19, Go.Operand.tmp 20], argTypes := #[32, 3, 3] }, type := 4, pos := "sets.go:123", after := #[{ on := 10, ground := Go.Ground.data }, { on := 11, ground := Go.Ground.data }, { on := 12, ground := Go.Ground.data }, { on := 6, ground := Go.Ground.chain }, { on := 6, ground := Go.Ground.guard }], guard := some (6, false) }) rfl (fun K hK => ?_) ?_
    (go_simp; (with_reducible refine (INx.out).mono ?_); rintro e1 w9 ⟨rfl, g9⟩; have hB9 : Below W1.heap.size W1 w9 := below_ch hB0.drew g9; go_wp2_with fail)
    refine hK.out _ _ ?_ (fun hH1 => ?_)
    · (try dsimp only) <;> (first | exact HSS.out _ hB0.drew | exact HSS.out _ (by assumption))
    clear hK K hHeld
    try simp only [Act.put, List.setIfInBounds_toArray, List.set_cons_zero, List.set_cons_succ]
    refine wpAnyH_take (i := 14) (oi := { dst := some 22, op := Go.Op.unOp Go.UnOp.not 4 (Go.Operand.tmp 21), type := 4, pos := "sets.go:123", after := #[{ on := 13, ground := Go.Ground.data }, { on := 6, ground := Go.Ground.guard }], guard := some (6, false) }) (v := ?_) rfl (by kernel_rfl) (by kernel_rfl) (by kernel_rfl) (fun _ _ _ h => h) (Or.inl ⟨by rfl, ?_⟩) (by assumption) ?_
    rotate_left
    (intro w hSw; (try dsimp only at hSw); go_simp <;> with_reducible rfl)
    try simp only [Act.put, List.setIfInBounds_toArray, List.set_cons_zero, List.set_cons_succ]
    refine wpAnyH_take (i := 15) (oi := { dst := some 23, op := Go.Op.pick (Go.Operand.tmp 14) (Go.Operand.const (Go.Value.bool true)) (Go.Operand.tmp 22), type := 4, pos := "sets.go:123", after := #[{ on := 6, ground := Go.Ground.data }, { on := 14, ground := Go.Ground.data }], guard := none }) (v := ?_) rfl (by kernel_rfl) (by kernel_rfl) (by kernel_rfl) (fun _ _ _ h => h) (Or.inl ⟨by rfl, ?_⟩) (by assumption) ?_
    rotate_left
    (intro w hSw; (try dsimp only at hSw); go_simp <;> with_reducible rfl)
    try simp only [Act.put, List.setIfInBounds_toArray, List.set_cons_zero, List.set_cons_succ]
    refine wpAnyH_done (by kernel_rfl) ?_ _
    rotate_left
    exact AllReadyH.nil
    all_goals
      have HB9 : Hid (Below w.heap.size w w9) := Lib.hid (HB1.out.trans (hB9.mono HB1.out.size))
      obtain ⟨q4, q5, q0⟩ := HSS.out _ hB9
      cases ib
      · have HX := Lib.hid (HX0.out (.inr rfl))
        clear HX0 HX1
        go_wp2_with fail
        go_ret
        rw [HX.out]
        exact ⟨_, rfl, World.ownsRow_nil _ _ _ _, HB9.out⟩
      · have HX := Lib.hid (HX1.out HNr.out rfl)
        have CHx := Lib.hid (CH.out w9 IB (HI.out _ HB9.out))
        have hz9 := hB9.size
        clear HX0 HX1 CH
        go_wp2_with fail
        (with_reducible refine (CHx.out).mono ?_)
        rintro e1 w10 ⟨v10, rfl, o10, g10⟩
        have hB10 : Below W1.heap.size W1 w10 := below_ch hB9 g10
        have HB10 : Hid (Below w.heap.size w w10) := Lib.hid (HB1.out.trans (hB10.mono HB1.out.size))
        have THx := Lib.hid (thinEn_any (fun v => !inM m v r) (chainM m e) v10 w.heap.size (w.heap.size + 1) w9.heap.size w10 o10 g10.size (by have := HCl.out; omega) (fun wx gx x _ => E1.out wx (HA.out wx (HB9.out.trans ((g10.trans gx).mono HB9.out.size))) x w.heap.size (w.heap.size + 1) (HSS.out _ (hB9.trans ((g10.trans gx).mono hB9.size))).1 (HSS.out _ (hB9.trans ((g10.trans gx).mono hB9.size))).2.1))
        unfold DelP at THx
        generalize (chainM m e).filter (fun x => !(fun v => !inM m v r) x) = F at *
        have hHl : F.length ≤ 64 := by have := HCl.out; have := HFl.out; omega
        have HG10 := Lib.hid g10
        have hz10 : w.heap.size ≤ w10.heap.size := HB10.out.size
        clear o10 g10 CHx E1 q4 q5 q0 hB10 HB10
        go_wp2_with fail
        (with_reducible refine (THx.out).mono ?_)
        rintro e1 w11 ⟨v11, rfl, o11, g11⟩
        have hB11 : Below W1.heap.size W1 w11 := hB9.trans ((HG10.out.trans g11).mono hB9.size)
        have HB11 : Hid (Below w.heap.size w w11) := Lib.hid (HB1.out.trans (hB11.mono HB1.out.size))
        have HO11 := Lib.hid o11
        obtain ⟨q4, q5, q0⟩ := HSS.out _ hB11
        have ISx := Lib.hid (IS.out w11 (HA.out w11 HB11.out))
        have hz11 : w9.heap.size ≤ w11.heap.size := Nat.le_trans HG10.out.size g11.size
        have hz0 : w.heap.size ≤ w9.heap.size := HB9.out.size
        clear o11 g11 THx HG10 IS hB9 HB9
        go_wp2_with fail
        (with_reducible refine (ISx.out).mono ?_)
        rintro e1 w12 ⟨rfl, g12⟩
        have HO12 := Lib.hid (own_below HO11.out g12)
        have HB12 : Hid (Below w.heap.size w w12) := Lib.hid (HB11.out.trans (g12.mono HB11.out.size))
        have hz12 : w9.heap.size ≤ w12.heap.size := Nat.le_trans hz11 g12.size
        clear g12 HO11 HB11 ISx q4 q5 q0 hB11
        cases sb
        · rw [if_neg (by decide), List.append_nil] at HX
          go_wp2_with fail
          go_ret
          rw [HX.out]
          exact ⟨_, rfl, HO12.out.mono hz0, HB12.out⟩
        · rw [if_pos rfl] at HX
          go_wp2_with (at_builtin; refine wpList_append_row _ rfl _ _ 29 rfl 3 w9.heap.size iI (.int .i64 0) Tryz.underlying29 hiI zI0 zI1 zI2 rfl _ F rfl (HO12.out.alloc _) _ [e] rfl (row1 _ _ _) (by simp; omega) (by simp; omega) ?_; intro v13 w13 hown13 hgrow13 hnxt13)
          have HO13 := Lib.hid hown13
          have HB13 : Hid (Below w.heap.size w w13) := Lib.hid (((HB12.out.alloc HB12.out.size _)).grown hgrow13 (by simp; omega) (fun q hq => by have := (HO12.out.lt q hq).1; omega))
          clear hown13 hgrow13 hnxt13
          go_ret
          rw [HX.out]
          exact ⟨_, rfl, HO13.out.mono hz0, HB13.out⟩
end Go.Proofs

/- Walks: is a state complete; a vertex is entered. -/
namespace Go.Proofs
open Go.RowKit Go.Lx Go.Md Go.Shelf Go.BigFrame Go.Rgi
set_option linter.unusedVariables false
theorem fin_kd (m : MdlD) (v : Int) : ofKd m [2] v = finM m v := by
  unfold ofKd finM hasN
  cases hasV m v <;> simp
theorem sta_kd (m : MdlD) (v : Int) : ofKd m [1] v = stA m v := by
  unfold ofKd stA hasN
  cases hasV m v <;> simp
theorem sta_stands {m : MdlD} {v : Int} (h : stA m v = true) : stands m v = true := by
  unfold stA at h
  rw [Bool.and_eq_true, beq_iff_eq] at h
  obtain ⟨k, rfl, hk⟩ := hasV_nat h.1
  rw [kdA_at hk] at h
  rw [stands_at hk, h.2]; rfl
def compl (m : MdlD) (la ll : List Int) (v : Int) : Bool := cmpM m la ll v (fit2 m la ll)
theorem compl_no {m : MdlD} {la ll : List Int} {v : Int} (h : fit2 m la ll = false ∨ stA m v = false ∨ isA m la v = false) : compl m la ll v = false := by
  unfold compl cmpM
  rcases h with h | h | h <;> rw [h] <;> simp
theorem compl_yes {m : MdlD} {la ll : List Int} {v : Int} (h1 : fit2 m la ll = true) (h2 : stA m v = true) (h3 : isA m la v = true) {b : Bool} (hb : ((ownM m v).any fun q => !finM m (atL la q)) = b) : compl m la ll v = !b := by
  unfold compl cmpM
  rw [h1, h2, h3, hb]; rfl
set_option maxRecDepth 100000 in
set_option maxHeartbeats 2000000 in
theorem complete1_any {B : Nat} {m : MdlD} {SB : Nat} {la ll : List Int} {a1 a2 : Option Addr} {c1 c2 H B4 : Nat} {w : World} (h : SetAt B m SB w) (hc : Cb la ll a1 a2 c1 c2 H w) (h4 : w.cell? ⟨B4, 0, none⟩ = some (.pointer (some ⟨SB, 0, none⟩))) (r : Nat) (hr : r < la.length) :
    Calls Tryz.prog 80 #[.int .i64 (r : Int), .pointer (some (.mk B4 0 none)), .pointer (some (.mk H 0 none))] w fun e w' => e = .returned (.bool (!finM m (atL la r))) ∧ Below w.heap.size w w' := by
  have IS := Lib.hid (fun (v : Int) => (setsIs_any (h.grown ((below_al1 w (.cells #[.int .u8 2] 5)).drew)) v (.slice (some ⟨w.heap.size, 0, none⟩) 1 1) [2] ((RowU.fresh w [2] #[.int .u8 2] rfl 1 rfl _ rfl).below (Below.refl _ _).drew) (by decide)).mono (fun e w' q => (show e = .returned (.bool (finM m v)) ∧ Below w.heap.size w w' from ⟨by rw [← fin_kd]; exact q.1, ((below_al1 w (.cells #[.int .u8 2] 5)).drew).trans (q.2.mono (by simp))⟩)))
  obtain ⟨b, o, ea, hb, hcp, hcl⟩ := hc.at hr
  have d0 := hc.d0
  have z4 := World.block_lt_of_cell? w _ h4
  have zH := hc.lt
  subst ea
  have hI : (r : Int) < (la.length : Int) := by omega
  have hI0 : (0 : Int) ≤ (r : Int) := by omega
  generalize atL la r = y at *
  have ISy := Lib.hid (IS.out y)
  have HSS : Hid (∀ W', Below w.heap.size w W' → W'.cell? ⟨B4, 0, none⟩ = some (.pointer (some ⟨SB, 0, none⟩)) ∧ W'.cell? ⟨H, 0, none⟩ = some (.slice (some ⟨b, o, none⟩) la.length c1) ∧ W'.cell? ⟨b, o + r, none⟩ = some (.int .i64 y)) := Lib.hid fun W' g => ⟨(g.cell (p := ⟨B4, 0, none⟩) z4).trans h4, (g.cell (p := ⟨H, 0, none⟩) zH).trans d0, (g.cell (p := ⟨b, o + r, none⟩) hb).trans hcl⟩
  have hB0 : Below w.heap.size w w := Below.refl _ _
  clear h hc h4 z4 zH hb d0 hcl IS
  go_enter Tryz.func80, Tryz.ntmps80
  go_upto_region 1 with fail
  refine wp_region_any (by kernel_rfl) ?_
  change wpAny _ _ _ _ _ _ _ (World.drew _)
  refine wpAny_of_heldS (S := (fun W' => W'.cell? ⟨B4, 0, none⟩ = some (.pointer (some ⟨SB, 0, none⟩)) ∧ W'.cell? ⟨H, 0, none⟩ = some (.slice (some ⟨b, o, none⟩) la.length c1) ∧ W'.cell? ⟨b, o + r, none⟩ = some (.int .i64 y))) ?_ (fun hHeld => ?_)
  · (try dsimp only) <;> (first | exact HSS.out _ hB0.drew | exact HSS.out _ (hB0.drew.alloc (Nat.le_refl _) _) | exact HSS.out _ (hB0.alloc (Nat.le_refl _) _).drew | exact HSS.out _ (by assumption))
  refine wpAnyH_take (i := 0) (oi := { dst := some 5, op := Go.Op.load 46 (Go.Operand.tmp 1), type := 46, pos := "sets.go:194", after := #[], guard := none }) (v := ?_) rfl (by kernel_rfl) (by kernel_rfl) (by kernel_rfl) (fun _ _ _ h => h) (Or.inl ⟨by rfl, ?_⟩) (by assumption) ?_
  rotate_left
  (intro w hSw; (try dsimp only at hSw); go_simp <;> with_reducible rfl)
  try simp only [Act.put, List.setIfInBounds_toArray, List.set_cons_zero, List.set_cons_succ]
  refine wpAnyH_take (i := 1) (oi := { dst := some 6, op := Go.Op.fieldAddr 52 (Go.Operand.tmp 2) 0, type := 0, pos := "sets.go:194", after := #[], guard := none }) (v := ?_) rfl (by kernel_rfl) (by kernel_rfl) (by kernel_rfl) (fun _ _ _ h => h) (Or.inl ⟨by rfl, ?_⟩) (by assumption) ?_
  rotate_left
  (intro w hSw; (try dsimp only at hSw); go_simp <;> with_reducible rfl)
  try simp only [Act.put, List.setIfInBounds_toArray, List.set_cons_zero, List.set_cons_succ]
  refine wpAnyH_take (i := 2) (oi := { dst := some 7, op := Go.Op.load 29 (Go.Operand.tmp 6), type := 29, pos := "sets.go:194", after := #[{ on := 1, ground := Go.Ground.data }], guard := none }) (v := ?_) rfl (by kernel_rfl) (by kernel_rfl) (by kernel_rfl) (fun _ _ _ h => h) (Or.inl ⟨by rfl, ?_⟩) (by assumption) ?_
  rotate_left
  (intro w hSw; (try dsimp only at hSw); go_simp <;> with_reducible rfl)
  try simp only [Act.put, List.setIfInBounds_toArray, List.set_cons_zero, List.set_cons_succ]
  refine wpAnyH_take (i := 3) (oi := { dst := some 8, op := Go.Op.move (Go.Operand.tmp 0), type := 3, pos := "sets.go:194", after := #[], guard := none }) (v := ?_) rfl (by kernel_rfl) (by kernel_rfl) (by kernel_rfl) (fun _ _ _ h => h) (Or.inl ⟨by rfl, ?_⟩) (by assumption) ?_
  rotate_left
  (intro w hSw; (try dsimp only at hSw); go_simp <;> with_reducible rfl)
  try simp only [Act.put, List.setIfInBounds_toArray, List.set_cons_zero, List.set_cons_succ]
  refine wpAnyH_take (i := 4) (oi := { dst := some 9, op := Go.Op.indexAddr 29 (Go.Operand.tmp 7) (Go.Operand.tmp 8), type := 0, pos := "sets.go:194", after := #[{ on := 2, ground := Go.Ground.data }, { on := 3, ground := Go.Ground.data }], guard := none }) (v := ?_) rfl (by kernel_rfl) (by kernel_rfl) (by kernel_rfl) (fun _ _ _ h => h) (Or.inl ⟨by rfl, ?_⟩) (by assumption) ?_
  rotate_left
  (intro w hSw; (try dsimp only at hSw); go_simp <;> with_reducible rfl)
  try simp only [Act.put, List.setIfInBounds_toArray, List.set_cons_zero, List.set_cons_succ]
  refine wpAnyH_take (i := 5) (oi := { dst := some 10, op := Go.Op.load 3 (Go.Operand.tmp 9), type := 3, pos := "sets.go:194", after := #[{ on := 4, ground := Go.Ground.data }], guard := none }) (v := ?_) rfl (by kernel_rfl) (by kernel_rfl) (by kernel_rfl) (fun _ _ _ h => h) (Or.inl ⟨by rfl, ?_⟩) (by assumption) ?_
  rotate_left
  (intro w hSw; (try dsimp only at hSw); go_simp <;> with_reducible rfl)
  try simp only [Act.put, List.setIfInBounds_toArray, List.set_cons_zero, List.set_cons_succ]
  refine wpAnyH_ready (rs := [6]) (by kernel_rfl) (by simp) ?_
  refine AllReadyH.cons (o := { dst := some 11, op := Go.Op.buildSlice 107 1 #[(0, Go.Operand.const (Go.Value.int Go.IntKind.u8 2))], type := 107, pos := "sets.go:194", after := #[], guard := none }) rfl (fun K hK => ?_) ?_
  (go_simp)
  refine hK.out _ _ ?_ (fun hH1 => ?_)
  · (try dsimp only) <;> (first | exact HSS.out _ hB0.drew | exact HSS.out _ (hB0.drew.alloc (Nat.le_refl _) _) | exact HSS.out _ (hB0.alloc (Nat.le_refl _) _).drew | exact HSS.out _ (by assumption))
  clear hK K hHeld
  try simp only [Act.put, List.setIfInBounds_toArray, List.set_cons_zero, List.set_cons_succ]
  refine wpAnyH_ready (rs := [7]) (by kernel_rfl) (by simp) ?_
  refine AllReadyH.cons (o := { dst := some 12, op := Go.Op.call { callee := Go.Callee.value (Go.Operand.func 62), args := #[Go.Operand.tmp 5, Go.Operand.tmp 10, Go.Operand.tmp 11], argTypes := #[46, 3, 107] }, type := 4, pos := "sets.go:194", after := #[{ on := 0, ground := Go.Ground.data }, { on := 5, ground := Go.Ground.data }, { on := 6, ground := Go.Ground.data }], guard := none }) rfl (fun K hK => ?_) ?_
  (go_simp; (with_reducible refine (ISy.out).mono ?_); rintro e w9 ⟨rfl, hB9⟩; go_wp2_with fail)
  refine hK.out _ _ ?_ (fun hH2 => ?_)
  · (try dsimp only) <;> (first | exact HSS.out _ hB0.drew | exact HSS.out _ (hB0.drew.alloc (Nat.le_refl _) _) | exact HSS.out _ (hB0.alloc (Nat.le_refl _) _).drew | exact HSS.out _ (by assumption))
  clear hK K hH1
  try simp only [Act.put, List.setIfInBounds_toArray, List.set_cons_zero, List.set_cons_succ]
  refine wpAnyH_take (i := 8) (oi := { dst := some 13, op := Go.Op.unOp Go.UnOp.not 4 (Go.Operand.tmp 12), type := 4, pos := "sets.go:194", after := #[{ on := 7, ground := Go.Ground.data }], guard := none }) (v := ?_) rfl (by kernel_rfl) (by kernel_rfl) (by kernel_rfl) (fun _ _ _ h => h) (Or.inl ⟨by rfl, ?_⟩) (by assumption) ?_
  rotate_left
  (intro w hSw; (try dsimp only at hSw); go_simp <;> with_reducible rfl)
  try simp only [Act.put, List.setIfInBounds_toArray, List.set_cons_zero, List.set_cons_succ]
  refine wpAnyH_take (i := 9) (oi := { dst := some 4, op := Go.Op.assign (Go.Operand.tmp 13), type := 4, pos := "sets.go:194", after := #[{ on := 8, ground := Go.Ground.data }, { on := 7, ground := Go.Ground.chain }, { on := 0, ground := Go.Ground.phase }, { on := 1, ground := Go.Ground.phase }, { on := 2, ground := Go.Ground.phase }, { on := 3, ground := Go.Ground.phase }, { on := 4, ground := Go.Ground.phase }, { on := 5, ground := Go.Ground.phase }, { on := 6, ground := Go.Ground.phase }, { on := 7, ground := Go.Ground.phase }, { on := 8, ground := Go.Ground.phase }], guard := none }) (v := ?_) rfl (by kernel_rfl) (by kernel_rfl) (by kernel_rfl) (fun _ _ _ h => h) (Or.inl ⟨by rfl, ?_⟩) (by assumption) ?_
  rotate_left
  (intro w hSw; (try dsimp only at hSw); go_simp <;> with_reducible rfl)
  try simp only [Act.put, List.setIfInBounds_toArray, List.set_cons_zero, List.set_cons_succ]
  refine wpAnyH_done (by kernel_rfl) ?_ _
  rotate_left
  exact AllReadyH.nil
  exact AllReadyH.nil
  all_goals
    go_wp2_with fail
    go_ret
    exact ⟨rfl, hB9⟩
set_option maxRecDepth 100000 in
set_option maxHeartbeats 4000000 in
theorem complete_any {B : Nat} {m : MdlD} {SB : Nat} {w : World} (h : SetAt B m SB w) (h0 : riM m = (0, 0, 0)) (hm1 : m.regs.length ≤ 1000) (hm2 : m.vers.length ≤ 1000) (la ll : List Int) (a1 a2 : Option Addr) (c1 c2 : Nat) (h1 : RowIn w (.slice a1 la.length c1) la) (h2 : RowIn w (.slice a2 ll.length c2) ll) (b1 : la.length ≤ 140737488355328) (b2 : ll.length ≤ 140737488355328) (v : Int) :
    Calls Tryz.prog 30 #[.pointer (some ⟨SB, 0, none⟩), .agg #[.slice a1 la.length c1, .slice a2 ll.length c2], .int .i64 v] w fun e w' => e = .returned (.bool (compl m la ll v)) ∧ Below w.heap.size w w' := by
  have HB1 : Hid (Below w.heap.size w ((w.alloc (.cells #[.pointer (some ⟨SB, 0, none⟩)] 46)).alloc (.cells #[.slice a1 la.length c1, .slice a2 ll.length c2] 52))) := Lib.hid (below_al2 w _ _)
  have HC0 : Hid (Cb la ll a1 a2 c1 c2 (w.heap.size + 1) ((w.alloc (.cells #[.pointer (some ⟨SB, 0, none⟩)] 46)).alloc (.cells #[.slice a1 la.length c1, .slice a2 ll.length c2] 52))) := Lib.hid (by
    have := Cb.made (h1.below (below_al1 w (.cells #[.pointer (some ⟨SB, 0, none⟩)] 46))) (h2.below (below_al1 w (.cells #[.pointer (some ⟨SB, 0, none⟩)] 46)))
    rwa [World.size_alloc] at this)
  have t0 : ((w.alloc (.cells #[.pointer (some ⟨SB, 0, none⟩)] 46)).alloc (.cells #[.slice a1 la.length c1, .slice a2 ll.length c2] 52)).cell? ⟨w.heap.size, 0, none⟩ = some (.pointer (some ⟨SB, 0, none⟩)) := by
    exact ((below_al1 (w.alloc (.cells #[.pointer (some ⟨SB, 0, none⟩)] 46)) (.cells #[.slice a1 la.length c1, .slice a2 ll.length c2] 52)).cell (p := ⟨w.heap.size, 0, none⟩) (by simp)).trans (by simp)
  have hz1 : ((w.alloc (.cells #[.pointer (some ⟨SB, 0, none⟩)] 46)).alloc (.cells #[.slice a1 la.length c1, .slice a2 ll.length c2] 52)).heap.size = w.heap.size + 1 + 1 := by simp
  have HAw := Lib.hid (fun wx (g : Below w.heap.size w wx) => h.grown g)
  have HN := Lib.hid (fun hh => compl_no (m := m) (la := la) (ll := ll) (v := v) hh)
  have HY := Lib.hid (fun q1 q2 q3 b hb => compl_yes (m := m) (la := la) (ll := ll) (v := v) q1 q2 q3 (b := b) hb)
  have FT := Lib.hid (fun wx (hs : SetAt B m SB wx) (hc : Cb la ll a1 a2 c1 c2 (w.heap.size + 1) wx) => setsFits_any hs h0 la ll a1 a2 c1 c2 hc.r1 hc.r2 b1 b2 (by omega))
  have IS := Lib.hid (fun wx (hs : SetAt B m SB wx) => (setsIs_any (hs.grown (below_al1 wx (.cells #[.int .u8 1] 5))) v (.slice (some ⟨wx.heap.size, 0, none⟩) 1 1) [1] (RowU.fresh wx [1] _ rfl 1 rfl _ rfl) (by decide)).mono (fun e w' q => (show e = .returned (.bool (stA m v)) ∧ Below wx.heap.size wx w' from ⟨by rw [← sta_kd]; exact q.1, below_bx1 q.2⟩)))
  have HF := Lib.hid (fun hf : fit2 m la ll = true => (fit_of h0 hf).1)
  have AC := Lib.hid (fun wx (hs : SetAt B m SB wx) (hc : Cb la ll a1 a2 c1 c2 (w.heap.size + 1) wx) (k r : Nat) hk hr hrl => active20_any hs hm2 la ll a1 a2 c1 c2 hc.r1 hc.r2 k r hk hr hrl)
  have H0 := Lib.hid h0
  generalize compl m la ll v = X at *
  obtain ⟨fb, hfb⟩ : ∃ fb, fit2 m la ll = fb := ⟨_, rfl⟩
  obtain ⟨sb, hsb⟩ : ∃ sb, stA m v = sb := ⟨_, rfl⟩
  rw [hfb] at HN HY FT HF
  rw [hsb] at HN HY IS
  have HSb := Lib.hid hsb
  clear h h1 h2 b1 b2 h0 hfb hsb
  go_enter Tryz.func30, Tryz.ntmps30
  go_upto_region 1 with fail
  generalize (w.alloc (.cells #[.pointer (some ⟨SB, 0, none⟩)] 46)).alloc (.cells #[.slice a1 la.length c1, .slice a2 ll.length c2] 52) = W1 at *
  have HT : Hid (∀ wx, Below W1.heap.size W1 wx → wx.cell? ⟨w.heap.size, 0, none⟩ = some (.pointer (some ⟨SB, 0, none⟩))) := Lib.hid fun wx g => (g.cell (p := ⟨w.heap.size, 0, none⟩) (by simp only; omega)).trans t0
  have d0 := HC0.out.d0
  have d1 := HC0.out.d1
  have FTx := Lib.hid (FT.out W1 (HAw.out W1 HB1.out) HC0.out)
  cases fb
  · have HX := Lib.hid (HN.out (.inl rfl))
    clear HN HY
    go_wp2_with fail
    (with_reducible refine (FTx.out).mono ?_)
    rintro e w2 ⟨rfl, g2⟩
    go_wp2_with fail
    go_ret
    exact ⟨by rw [HX.out]; first | done | rfl, HB1.out.trans (g2.mono HB1.out.size)⟩
  have F := HF.out rfl
  have HFt := Lib.hid F
  clear HF F
  go_wp2_with fail
  (with_reducible refine (FTx.out).mono ?_)
  rintro e w2 ⟨rfl, g2⟩
  have HG2 := Lib.hid g2
  have HB2 : Hid (Below w.heap.size w w2) := Lib.hid (HB1.out.trans (g2.mono HB1.out.size))
  have HC2 := Lib.hid (HC0.out.below g2)
  clear t0 d0 d1 FTx FT g2 HC0
  have t0 := HT.out w2 HG2.out
  have ISx := Lib.hid (IS.out w2 (HAw.out w2 HB2.out))
  clear IS
  cases sb
  · have HX := Lib.hid (HN.out (.inr (.inl rfl)))
    clear HN HY
    go_wp2_with fail
    (with_reducible refine (ISx.out).mono ?_)
    rintro e w3 ⟨rfl, g3⟩
    go_wp2_with fail
    go_ret
    exact ⟨by rw [HX.out]; first | done | rfl, HB2.out.trans (g3.mono HB2.out.size)⟩
  obtain ⟨k, hk, rfl, r, hr, er1, er2, er3, er4, er5⟩ := stands_in H0.out (sta_stands HSb.out)
  have hrl : r < la.length := by rw [HFt.out.hl]; exact hr
  have HIs : Hid (∀ y, (atL la r == (k : Int)) = y → isA m la k = y) := Lib.hid fun y hy => by
    unfold isA
    rw [sta_stands HSb.out, er1, hy]; rfl
  go_wp2_with fail
  (with_reducible refine (ISx.out).mono ?_)
  rintro e w3 ⟨rfl, g3⟩
  have HG3 := Lib.hid (below_ch HG2.out g3)
  have HB3 : Hid (Below w.heap.size w w3) := Lib.hid (HB2.out.trans (g3.mono HB2.out.size))
  have HC3 := Lib.hid (HC2.out.below g3)
  have ACx := Lib.hid (AC.out w3 (HAw.out w3 HB3.out) HC3.out k r hk er2 hrl)
  obtain ⟨y, hy⟩ : ∃ y, (atL la r == (k : Int)) = y := ⟨_, rfl⟩
  rw [hy] at ACx
  have HIy := Lib.hid (HIs.out y hy)
  clear t0 g3 HC2 HB2 HG2 ISx AC HIs hy er1 er2 er3 er4 er5
  have t0 := HT.out w3 HG3.out
  have d0 := HC3.out.d0
  have d1 := HC3.out.d1
  cases y
  · have HX := Lib.hid (HN.out (.inr (.inr HIy.out)))
    clear HN HY
    go_wp2_with fail
    (with_reducible refine (ACx.out).mono ?_)
    rintro e w4 ⟨rfl, g4⟩
    go_wp2_with fail
    go_ret
    exact ⟨by rw [HX.out]; first | done | rfl, HB3.out.trans (g4.mono HB3.out.size)⟩
  have HYx := Lib.hid (HY.out (by trivial) (by trivial) HIy.out)
  clear HN HY HIy
  go_wp2_with fail
  (with_reducible refine (ACx.out).mono ?_)
  rintro e w4 ⟨rfl, g4⟩
  have HG4 := Lib.hid (below_ch HG3.out g4)
  have HB4 : Hid (Below w.heap.size w w4) := Lib.hid (HB3.out.trans (g4.mono HB3.out.size))
  have HC4 := Lib.hid (HC3.out.below g4)
  clear t0 d0 d1 g4 HC3 HB3 HG3 ACx
  have t0 := HT.out w4 HG4.out
  obtain ⟨IB, kv, hi, s0, s1, s2, hku, hzS⟩ := HAw.out w4 HB4.out
  have HRg := Lib.hid (regions_any hi (k : Int) (WalkArith.wf_i64 ⟨by omega, by omega⟩) (by omega))
  have hOl : (ownM m (k : Int)).length ≤ 1000 := by have := sel_len (isOwn (k : Int)) m.regs; have e : (ownM m (k : Int)).length ≤ m.regs.length := this; omega
  have HCt := Lib.hid (fun wx (g : Below w4.heap.size w4 wx) (rv : Value) (hr : RowIn wx rv (ownM m (k : Int))) => hasCo_any (fun q => !finM m (atL la q)) (ownM m (k : Int)) rv w.heap.size (w.heap.size + 1) wx hr (by omega) (fun wy gy x hx => by
    obtain ⟨j, hj, rfl, _⟩ := own_at hx
    exact complete1_any (HAw.out wy (HB4.out.trans ((g.trans (gy.mono g.size)).mono HB4.out.size))) (HC4.out.below (below_ch g gy)) (HT.out wy (below_ch (below_ch HG4.out g) gy)) j (by rw [HFt.out.hl]; exact hj)))
  clear hi hku s1 s2
  go_wp2_with fail
  (with_reducible refine (HRg.out).mono ?_)
  rintro e w5 ⟨rv, rfl, o5, g5⟩
  obtain ⟨ra, rc, rfl⟩ := ownsRow_slice o5
  have HCt5 := Lib.hid (HCt.out w5 g5 _ (RowIn.own o5))
  have HYv := Lib.hid (HYx.out _ rfl)
  have HB5 : Hid (Below w.heap.size w w5) := Lib.hid (HB4.out.trans (g5.mono HB4.out.size))
  clear o5 g5 HRg HCt HYx
  generalize (ownM m (k : Int)).any (fun q => !finM m (atL la q)) = bz at *
  go_wp2_with fail
  (with_reducible refine (HCt5.out).mono ?_)
  rintro e w6 ⟨rfl, g6⟩
  go_wp2_with fail
  go_ret
  exact ⟨by rw [HYv.out]; first | done | rfl, HB5.out.trans (g6.mono HB5.out.size)⟩
end Go.Proofs

/- Walks: sets that are not there. -/
namespace Go.Proofs
open Go.RowKit Go.Lx Go.Md Go.Shelf Go.BigFrame Go.Rgi
set_option linter.unusedVariables false
section
variable (a1 a2 : Option Addr) (n1 n2 c1 c2 : Nat) (w : World)
theorem nofits_any : Calls Tryz.prog 17 #[.pointer none, .agg #[.slice a1 n1 c1, .slice a2 n2 c2]] w fun e w' => e = .returned (.bool false) ∧ Below w.heap.size w w' := by
  go_enter Tryz.func17, Tryz.ntmps17
  go_wp2_with fail
  go_ret
  exact ⟨rfl, below_al1 w _⟩
theorem nomay_any (v : Int) : Calls Tryz.prog 66 #[.pointer none, .agg #[.slice a1 n1 c1, .slice a2 n2 c2], .int .i64 v] w fun e w' => e = .returned (.int .i64 1) ∧ Below w.heap.size w w' := by
  go_enter Tryz.func66, Tryz.ntmps66
  go_wp2_with fail
  go_ret
  exact ⟨rfl, below_al1 w _⟩
theorem nohome_any (lv : Value) : Calls Tryz.prog 27 #[.pointer none, lv] w fun e w' => e = .returned (.int .i64 (-1)) ∧ Below w.heap.size w w' := by
  go_enter Tryz.func27, Tryz.ntmps27
  go_wp2_with fail
  go_ret
  exact ⟨rfl, Below.refl _ _⟩
theorem noexits_any (r : Int) : Calls Tryz.prog 18 #[.pointer none, .agg #[.slice a1 n1 c1, .slice a2 n2 c2], .int .i64 r] w fun e w' => e = .returned (.slice none 0 0) ∧ Below w.heap.size w w' := by
  have HF := Lib.hid (fun wx => nofits_any a1 a2 n1 n2 c1 c2 wx)
  have HB := Lib.hid (below_al1 w (.cells #[.slice a1 n1 c1, .slice a2 n2 c2] 52))
  go_enter Tryz.func18, Tryz.ntmps18
  go_wp2_with fail
  (with_reducible refine (HF.out _).mono ?_)
  rintro e w2 ⟨rfl, g2⟩
  go_wp2_with fail
  go_ret
  exact ⟨rfl, below_ch HB.out g2⟩
theorem noentries_any (r e : Int) : Calls Tryz.prog 24 #[.pointer none, .int .i64 r, .int .i64 e] w fun e w' => e = .returned (.slice none 0 0) ∧ Below w.heap.size w w' := by
  have HB := Lib.hid (below_al2 w (.cells #[.pointer none] 46) (.cells #[.int .i64 r] 3))
  obtain ⟨t4, t5, _, tz⟩ := two_allocs_c w (.pointer none) (.int .i64 r) 46 3
  go_enter Tryz.func24, Tryz.ntmps24
  go_upto_region 1 with fail
  generalize (w.alloc (.cells #[.pointer none] 46)).alloc (.cells #[.int .i64 r] 3) = W1 at *
  go_quiet (fail)
  go_wp2_with fail
  go_ret
  exact ⟨rfl, below_drewN HB.out _⟩
theorem noactive_any : Calls Tryz.prog 29 #[.pointer none, .agg #[.slice a1 n1 c1, .slice a2 n2 c2]] w fun e w' => e = .returned (.slice none 0 0) ∧ Below w.heap.size w w' := by
  have HF := Lib.hid (fun wx => nofits_any a1 a2 n1 n2 c1 c2 wx)
  have HB := Lib.hid (below_al1 w (.cells #[.slice a1 n1 c1, .slice a2 n2 c2] 52))
  go_enter Tryz.func29, Tryz.ntmps29
  go_wp2_with fail
  (with_reducible refine (HF.out _).mono ?_)
  rintro e w2 ⟨rfl, g2⟩
  go_wp2_with fail
  go_ret
  exact ⟨rfl, below_ch HB.out g2⟩
theorem nocomplete_any (v : Int) : Calls Tryz.prog 30 #[.pointer none, .agg #[.slice a1 n1 c1, .slice a2 n2 c2], .int .i64 v] w fun e w' => e = .returned (.bool false) ∧ Below w.heap.size w w' := by
  have HF := Lib.hid (fun wx => nofits_any a1 a2 n1 n2 c1 c2 wx)
  have HB := Lib.hid (below_al2 w (.cells #[.pointer none] 46) (.cells #[.slice a1 n1 c1, .slice a2 n2 c2] 52))
  have t0 : ((w.alloc (.cells #[.pointer none] 46)).alloc (.cells #[.slice a1 n1 c1, .slice a2 n2 c2] 52)).cell? ⟨w.heap.size, 0, none⟩ = some (.pointer none) := ((below_al1 (w.alloc (.cells #[.pointer none] 46)) (.cells #[.slice a1 n1 c1, .slice a2 n2 c2] 52)).cell (p := ⟨w.heap.size, 0, none⟩) (by simp)).trans (by simp)
  go_enter Tryz.func30, Tryz.ntmps30
  go_wp2_with fail
  (with_reducible refine (HF.out _).mono ?_)
  rintro e w2 ⟨rfl, g2⟩
  go_wp2_with fail
  go_ret
  exact ⟨rfl, below_ch HB.out g2⟩
theorem noblank_any : Calls Tryz.prog 31 #[.pointer none] w fun e w' => e = .returned (.agg #[.slice none 0 0, .slice none 0 0]) ∧ Below w.heap.size w w' := by
  have HB := Lib.hid (below_al1 w (.cells #[.slice none 0 0, .slice none 0 0] 52))
  have e1 := World.alloc_heap_new w (.cells #[.slice none 0 0, .slice none 0 0] 52)
  have q0 := cell_blk e1 0
  have q1 := cell_blk e1 1
  have q2 := frz_b e1 0
  have q3 := frz_b e1 1
  simp only [List.getElem?_toArray, List.getElem?_cons_zero, List.getElem?_cons_succ] at q0 q1
  have hz : (w.alloc (.cells #[.slice none 0 0, .slice none 0 0] 52)).heap.size = w.heap.size + 1 := by simp
  clear e1
  go_enter Tryz.func31, Tryz.ntmps31
  go_upto_region 1 with fail
  generalize w.alloc (.cells #[.slice none 0 0, .slice none 0 0] 52) = W1 at *
  go_wp2_with fail
  refine bodyPost_ret (v := .agg #[.slice none 0 0, .slice none 0 0]) (by simp [results, Tryz.results31, go_sem, q0, q1]) rfl ⟨rfl, (HB.out.setCell (p := ⟨w.heap.size, 0, none⟩) (Nat.le_refl _) _).setCell (p := ⟨w.heap.size, 1, none⟩) (Nat.le_refl _) _⟩
set_option maxRecDepth 100000 in
theorem noenter_any (v : Int) : Calls Tryz.prog 25 #[.pointer none, .agg #[.slice a1 n1 c1, .slice a2 n2 c2], .int .i64 v] w fun e w' => e = .returned (.tuple #[.agg #[.slice none 0 0, .slice none 0 0], .int .i64 1]) ∧ Below w.heap.size w w' := by
  have HF := Lib.hid (fun wx => nomay_any a1 a2 n1 n2 c1 c2 wx v)
  have HB := Lib.hid (below_al2 w (.cells #[.slice a1 n1 c1, .slice a2 n2 c2] 52) (.cells #[.slice none 0 0, .slice none 0 0] 52))
  have e1 := World.alloc_heap_new (w.alloc (.cells #[.slice a1 n1 c1, .slice a2 n2 c2] 52)) (.cells #[.slice none 0 0, .slice none 0 0] 52)
  rw [World.size_alloc] at e1
  have HK : Hid (∀ wx, Below ((w.alloc (.cells #[.slice a1 n1 c1, .slice a2 n2 c2] 52)).alloc (.cells #[.slice none 0 0, .slice none 0 0] 52)).heap.size ((w.alloc (.cells #[.slice a1 n1 c1, .slice a2 n2 c2] 52)).alloc (.cells #[.slice none 0 0, .slice none 0 0] 52)) wx → wx.cell? ⟨w.heap.size + 1, 0, none⟩ = some (.slice none 0 0) ∧ wx.cell? ⟨w.heap.size + 1, 1, none⟩ = some (.slice none 0 0) ∧ wx.frozen? ⟨w.heap.size + 1, 0, none⟩ = false ∧ wx.frozen? ⟨w.heap.size + 1, 1, none⟩ = false) := Lib.hid fun wx g => by
    have f1 := (g.block (w.heap.size + 1) (by simp)).trans e1
    exact ⟨cell_blk f1 0, cell_blk f1 1, frz_b f1 0, frz_b f1 1⟩
  have d0 : ((w.alloc (.cells #[.slice a1 n1 c1, .slice a2 n2 c2] 52)).alloc (.cells #[.slice none 0 0, .slice none 0 0] 52)).cell? ⟨w.heap.size, 0, none⟩ = some (.slice a1 n1 c1) := ((below_al1 (w.alloc (.cells #[.slice a1 n1 c1, .slice a2 n2 c2] 52)) (.cells #[.slice none 0 0, .slice none 0 0] 52)).cell (p := ⟨w.heap.size, 0, none⟩) (by simp)).trans (by simp)
  have d1 : ((w.alloc (.cells #[.slice a1 n1 c1, .slice a2 n2 c2] 52)).alloc (.cells #[.slice none 0 0, .slice none 0 0] 52)).cell? ⟨w.heap.size, 1, none⟩ = some (.slice a2 n2 c2) := ((below_al1 (w.alloc (.cells #[.slice a1 n1 c1, .slice a2 n2 c2] 52)) (.cells #[.slice none 0 0, .slice none 0 0] 52)).cell (p := ⟨w.heap.size, 1, none⟩) (by simp)).trans (by simp)
  clear e1
  go_enter Tryz.func25, Tryz.ntmps25
  go_upto_region 1 with fail
  generalize (w.alloc (.cells #[.slice a1 n1 c1, .slice a2 n2 c2] 52)).alloc (.cells #[.slice none 0 0, .slice none 0 0] 52) = W1 at *
  go_wp2_with fail
  (with_reducible refine (HF.out _).mono ?_)
  rintro e w2 ⟨rfl, g2⟩
  have HB2 := Lib.hid (HB.out.trans (g2.mono HB.out.size))
  obtain ⟨t0, t1, t2, t3⟩ := HK.out w2 g2
  clear d0 d1 g2
  go_wp2_with fail
  refine bodyPost_ret (v := .tuple #[.agg #[.slice none 0 0, .slice none 0 0], .int .i64 1]) (by simp [results, Tryz.results25, go_sem, t0, t1]) rfl ⟨rfl, (HB2.out.setCell (p := ⟨w.heap.size + 1, 0, none⟩) (by simp) _).setCell (p := ⟨w.heap.size + 1, 1, none⟩) (by simp) _⟩
set_option maxRecDepth 100000 in
theorem noleave_any (v : Int) : Calls Tryz.prog 19 #[.pointer none, .agg #[.slice a1 n1 c1, .slice a2 n2 c2], .int .i64 v] w fun e w' => e = .returned (.tuple #[.agg #[.slice none 0 0, .slice none 0 0], .int .i64 1]) ∧ Below w.heap.size w w' := by
  have HF := Lib.hid (fun wx => nomay_any a1 a2 n1 n2 c1 c2 wx v)
  have HB := Lib.hid (below_al2 w (.cells #[.slice a1 n1 c1, .slice a2 n2 c2] 52) (.cells #[.slice none 0 0, .slice none 0 0] 52))
  have e1 := World.alloc_heap_new (w.alloc (.cells #[.slice a1 n1 c1, .slice a2 n2 c2] 52)) (.cells #[.slice none 0 0, .slice none 0 0] 52)
  rw [World.size_alloc] at e1
  have HK : Hid (∀ wx, Below ((w.alloc (.cells #[.slice a1 n1 c1, .slice a2 n2 c2] 52)).alloc (.cells #[.slice none 0 0, .slice none 0 0] 52)).heap.size ((w.alloc (.cells #[.slice a1 n1 c1, .slice a2 n2 c2] 52)).alloc (.cells #[.slice none 0 0, .slice none 0 0] 52)) wx → wx.cell? ⟨w.heap.size + 1, 0, none⟩ = some (.slice none 0 0) ∧ wx.cell? ⟨w.heap.size + 1, 1, none⟩ = some (.slice none 0 0) ∧ wx.frozen? ⟨w.heap.size + 1, 0, none⟩ = false ∧ wx.frozen? ⟨w.heap.size + 1, 1, none⟩ = false) := Lib.hid fun wx g => by
    have f1 := (g.block (w.heap.size + 1) (by simp)).trans e1
    exact ⟨cell_blk f1 0, cell_blk f1 1, frz_b f1 0, frz_b f1 1⟩
  have d0 : ((w.alloc (.cells #[.slice a1 n1 c1, .slice a2 n2 c2] 52)).alloc (.cells #[.slice none 0 0, .slice none 0 0] 52)).cell? ⟨w.heap.size, 0, none⟩ = some (.slice a1 n1 c1) := ((below_al1 (w.alloc (.cells #[.slice a1 n1 c1, .slice a2 n2 c2] 52)) (.cells #[.slice none 0 0, .slice none 0 0] 52)).cell (p := ⟨w.heap.size, 0, none⟩) (by simp)).trans (by simp)
  have d1 : ((w.alloc (.cells #[.slice a1 n1 c1, .slice a2 n2 c2] 52)).alloc (.cells #[.slice none 0 0, .slice none 0 0] 52)).cell? ⟨w.heap.size, 1, none⟩ = some (.slice a2 n2 c2) := ((below_al1 (w.alloc (.cells #[.slice a1 n1 c1, .slice a2 n2 c2] 52)) (.cells #[.slice none 0 0, .slice none 0 0] 52)).cell (p := ⟨w.heap.size, 1, none⟩) (by simp)).trans (by simp)
  clear e1
  go_enter Tryz.func19, Tryz.ntmps19
  go_upto_region 1 with fail
  generalize (w.alloc (.cells #[.slice a1 n1 c1, .slice a2 n2 c2] 52)).alloc (.cells #[.slice none 0 0, .slice none 0 0] 52) = W1 at *
  go_wp2_with fail
  (with_reducible refine (HF.out _).mono ?_)
  rintro e w2 ⟨rfl, g2⟩
  have HB2 := Lib.hid (HB.out.trans (g2.mono HB.out.size))
  obtain ⟨t0, t1, t2, t3⟩ := HK.out w2 g2
  clear d0 d1 g2
  go_wp2_with fail
  refine bodyPost_ret (v := .tuple #[.agg #[.slice none 0 0, .slice none 0 0], .int .i64 1]) (by simp [results, Tryz.results19, go_sem, t0, t1]) rfl ⟨rfl, (HB2.out.setCell (p := ⟨w.heap.size + 1, 0, none⟩) (by simp) _).setCell (p := ⟨w.heap.size + 1, 1, none⟩) (by simp) _⟩
end
end Go.Proofs
