/- A range over a function whose iterator keeps blocks of its own between the rounds (and ranges over a function itself). No program is in sight. -/
import Derived.Test.YtodbdacdnoeheaaDoorCGen
namespace Go.Rfu
open Go Go.RowKit
variable {P : Program}
set_option linter.unusedVariables false

/-- What the book-keeping from n0 on may turn. -/
structure Turn0 (n0 : Nat) (W W' : World) : Prop where
  os : W'.os = W.os
  tape : W'.tape = W.tape
  output : W'.output = W.output
  size : W.heap.size ≤ W'.heap.size
  old : ∀ b, b < n0 → W'.heap[b]? = W.heap[b]?
  data : ∀ (b : Nat) (o : Obj), W.heap[b]? = some o → isBook o = false → W'.heap[b]? = some o
theorem Turn0.refl (n0 : Nat) (W : World) : Turn0 n0 W W := ⟨rfl, rfl, rfl, Nat.le_refl _, fun _ _ => rfl, fun _ _ h _ => h⟩
theorem Turn0.trans {n0 : Nat} {A B C : World} (h : Turn0 n0 A B) (k : Turn0 n0 B C) : Turn0 n0 A C :=
  ⟨k.os.trans h.os, k.tape.trans h.tape, k.output.trans h.output, Nat.le_trans h.size k.size, fun b hb => (k.old b hb).trans (h.old b hb), fun b o ho hk => k.data b o (h.data b o ho hk) hk⟩
theorem Turn0.mono {n0 n1 : Nat} {A B : World} (h : Turn0 n1 A B) (hn : n0 ≤ n1) : Turn0 n0 A B := ⟨h.os, h.tape, h.output, h.size, fun b hb => h.old b (Nat.lt_of_lt_of_le hb hn), h.data⟩
theorem Turn0.of_below {n0 : Nat} {W W' : World} (h : Below W.heap.size W W') (hn : n0 ≤ W.heap.size) : Turn0 n0 W W' :=
  ⟨h.os, h.tape, h.output, h.size, fun b hb => h.block b (Nat.lt_of_lt_of_le hb hn), fun b o ho _ => (h.block b (Array.getElem?_eq_some_iff.1 ho).1).trans ho⟩
theorem Turn0.alloc {n0 : Nat} (W : World) (o : Obj) (h : n0 ≤ W.heap.size) : Turn0 n0 W (W.alloc o) := Turn0.of_below ((Below.refl _ W).alloc (Nat.le_refl _) o) h
theorem Turn0.put {n0 : Nat} {W : World} {l : Nat} {o o' : Obj} (hl : n0 ≤ l) (h : W.heap[l]? = some o) (ho : isBook o = true) : Turn0 n0 W (W.putObj l o') :=
  ⟨rfl, rfl, rfl, by simp, fun b hb => World.putObj_heap_other (by omega), fun b o2 hb h2 => (World.putObj_heap_other (fun e => by subst e; rw [h] at hb; injection hb with hb; subst hb; rw [ho] at h2; cases h2)).trans hb⟩
theorem Turn0.drew {n0 : Nat} (W : World) : Turn0 n0 W W.drew := ⟨rfl, rfl, rfl, Nat.le_refl _, fun _ _ => rfl, fun _ _ h _ => h⟩
theorem Turn0.below {n0 B : Nat} {w W W' : World} (t : Turn0 n0 W W') (h : Below B w W) (hB : B ≤ n0) : Below B w W' :=
  ⟨t.os.trans h.os, t.tape.trans h.tape, t.output.trans h.output, Nat.le_trans h.size t.size, fun b hb => (t.old b (Nat.lt_of_lt_of_le hb hB)).trans (h.block b hb)⟩
/-- The iterator's blocks: none but what it held, and what is new. -/
def Grow (S S' : Nat → Prop) (A B : World) : Prop := ∀ b, S' b → S b ∨ (A.heap.size ≤ b ∧ b < B.heap.size)
theorem Grow.same (S : Nat → Prop) (A B : World) : Grow S S A B := fun _ h => .inl h
/-- The contract of an iterator that hands over some numbers: whatever the rounds do, so long as they leave its blocks. -/
def SeqB (P : Program) (gf : Nat) (lb : Array Value) (xs : List Int) (U : World → Prop) : Prop :=
  ∀ (l : Nat) (J : Nat → (Nat → Prop) → World → Prop) (Jx : World → Prop) (W : World),
    (∀ k S A, J k S A → U A ∧ W.heap.size ≤ A.heap.size) →
    (∀ k S A S' B, J k S A → Turn0 W.heap.size A B → Grow S S' A B → J k S' B) →
    (∀ A B, Jx A → Turn0 W.heap.size A B → Jx B) →
    (∀ (k : Nat) (S : Nat → Prop) (A : World) (hk : k < xs.length), J k S A → (∀ b, S b → b < A.heap.size) → YieldAt Fence.wide 7 P l #[.int .i64 xs[k]] A fun e B =>
      (∀ b, S b → B.heap[b]? = A.heap[b]?) ∧ ((e = .returned (.bool true) ∧ J (k + 1) S B) ∨ (e = .returned (.bool false) ∧ Jx B))) →
    J 0 (fun _ => False) W →
    CallsIn Fence.wide 8 P gf (#[.func (.yield l) #[] #[]] ++ lb) W fun e B => (∃ v, e = .returned v) ∧ ((∃ S, J xs.length S B) ∨ Jx B)
/-- How a round's body may be left. -/
def roundB (S : Nat → Prop) (I' : (Nat → Prop) → World → Prop) (Ix : World → Prop) (W : World) : Exit → Act → World → Prop
  | .normal, _, W' => (∀ b, S b → W'.heap[b]? = W.heap[b]?) ∧ I' S W'
  | .ret, _, W' => (∀ b, S b → W'.heap[b]? = W.heap[b]?) ∧ Ix W'
  | _, _, _ => False
/-- THE STATEMENT. -/
theorem wp_rangeB {g : Operand} {ps : Array Tmp} {assign body : Code} {Q : Exit → Act → World → Prop} {a : Act} {w : World} {gf : Nat} {lb : Array Value} (hg : a.eval g = .func (.func gf) #[] lb) (eg : ∀ args w, (callFunc gf args).run P w = .ok (.enter gf args) w) (hps : ps.size = 1)
    (xs : List Int) (U : World → Prop) (hseq : SeqB P gf lb xs U)
    (I : Nat → (Nat → Prop) → World → Prop) (Ix : World → Prop) (hU : ∀ k S W, I k S W → U W)
    (hI : ∀ k S W S' W', I k S W → Turn0 w.heap.size W W' → Grow S S' W W' → I k S' W') (hIx : ∀ W W', Ix W → Turn0 w.heap.size W W' → Ix W') (h0 : I 0 (fun _ => False) w) (a₁ : Int → Act)
    (hassign : ∀ (l : Nat) (x : Int) (W : World) (K : Act → World → Prop), K (a₁ x) W → assign.wpIn (Fence.wide.inRound l) 7 P (Exit.then K (fun _ _ _ => False)) { tmps := (ps.zip #[.int .i64 x]).foldl (fun t (p, v) => t.setIfInBounds p v) a.tmps, defers := [] } W)
    (hbody : ∀ (l k : Nat) (S : Nat → Prop) (W : World) (hk : k < xs.length), (∀ b, S b → b < W.heap.size) → I k S W → body.wpIn (Fence.wide.inRound l) 7 P (roundB S (I (k + 1)) Ix W) (a₁ xs[k]) W)
    (hdone : ∀ (D : Nat) (S : Nat → Prop) (W : World), w.heap.size ≤ D → S D → (∀ b, S b → w.heap.size ≤ b) → I xs.length S W → W.heap[D]? = some (.deferred (some [])) → Q .normal { a with defers := { target := .collected D, args := #[] } :: a.defers } W)
    (hstop : ∀ (D : Nat) (W : World), w.heap.size ≤ D → Ix W → W.heap[D]? = some (.deferred (some [])) → Q .ret { a with defers := { target := .collected D, args := #[] } :: a.defers } W) :
    (Code.rangeFunc g ps assign body).wp P Q a w := by
  refine (wpIn_wide (n := 9)).1 (wpIn_rangeFunc fun fn hfn => ?_)
  obtain ⟨rec, hrec⟩ : ∃ rec : LoopState → Option Code → Loop, rec = fun st pe => { state := st, pending := pe, fn, tmps := a.tmps, params := ps, assign, body, defers := w.heap.size } := ⟨_, rfl⟩
  obtain ⟨W1, hW1⟩ : ∃ W1, (w.alloc (.deferred (some []))).alloc (.loop (rec .ready none)) = W1 := ⟨_, rfl⟩
  have t1 : Turn0 w.heap.size w (w.alloc (.deferred (some []))) := Turn0.alloc w _ (Nat.le_refl _)
  have t2 : Turn0 w.heap.size (w.alloc (.deferred (some []))) W1 := by rw [← hW1]; exact Turn0.alloc _ _ (by simp)
  have hz1 : W1.heap.size = w.heap.size + 2 := by rw [← hW1]; simp
  have hL1 : W1.heap[w.heap.size + 1]? = some (.loop (rec .ready none)) := by
    rw [← hW1]; have := World.alloc_heap_new (w.alloc (.deferred (some []))) (.loop (rec .ready none)); rwa [World.size_alloc] at this
  have hK1 : W1.heap[w.heap.size]? = some (.deferred (some [])) := by
    rw [← hW1]; exact (Below.heap_alloc _ _ _ (by simp)).trans (World.alloc_heap_new w _)
  have hI0 : I 0 (fun b => b = w.heap.size + 1 ∨ b = w.heap.size) W1 := hI _ _ _ _ _ h0 (t1.trans t2) fun b hb => .inr (by rcases hb with rfl | rfl <;> omega)
  refine ⟨w.heap.size + 1, [{ target := .collected w.heap.size, args := #[] }], W1, { target := .fn (.func gf) lb, args := #[.func (.yield (w.heap.size + 1)) #[] #[]] }, W1, gf,
    #[.func (.yield (w.heap.size + 1)) #[] #[]] ++ lb, W1, ?_, ?_, ?_, ?_, fun _ => by decide, ?_⟩
  · rw [← hW1, hrec]; exact run_enterLoop_outer _ _ _ _ _
  · simp only [resolve, hg]; simp [go_sem]
  · intro f' _; trivial
  · simp [invoke, go_sem, eg]
  · refine (hseq (w.heap.size + 1)
      (fun k S W => I k (fun b => S b ∨ b = w.heap.size + 1 ∨ b = w.heap.size) W ∧ W1.heap.size ≤ W.heap.size ∧ (∀ b, S b → W1.heap.size ≤ b) ∧ W.heap[w.heap.size + 1]? = some (.loop (rec .ready none)) ∧ W.heap[w.heap.size]? = some (.deferred (some [])))
      (fun W => Ix W ∧ W.heap[w.heap.size + 1]? = some (.loop (rec .done (some .ret))) ∧ W.heap[w.heap.size]? = some (.deferred (some []))) W1 (fun k S A h => ⟨hU _ _ _ h.1, h.2.1⟩) ?_ ?_ ?_ ⟨hI _ _ _ _ _ hI0 (Turn0.refl _ _) (fun b hb => .inl (hb.resolve_left id)), Nat.le_refl _, fun _ h => h.elim, hL1, hK1⟩).mono ?_
    · rintro k S A S' B ⟨hi, hz, hs, hl, hk⟩ t g
      refine ⟨hI _ _ _ _ _ hi (t.mono (by omega)) (fun b hb => ?_), Nat.le_trans hz t.size, (fun b hb => (g b hb).elim (hs b) (fun h => by omega)), (t.old _ (by omega)).trans hl, (t.old _ (by omega)).trans hk⟩
      rcases hb with hb | hb
      · rcases g b hb with h | h
        · exact .inl (.inl h)
        · exact .inr h
      · exact .inl (.inr hb)
    · rintro A B ⟨hi, hl, hk⟩ t
      exact ⟨hIx _ _ hi (t.mono (by omega)), (t.old _ (by omega)).trans hl, (t.old _ (by omega)).trans hk⟩
    · rintro k S A hkn ⟨hi, hz, hs, hl, hk⟩ hS
      have hy := run_yield (P := P) (args := #[.int .i64 xs[k]]) hl (by rw [hrec]; exact hps.symm)
      rw [hrec] at hy
      refine ⟨fn, _, assign, body, hy, roundIn_of_wpIn hfn (hassign _ xs[k] A _ ?_)⟩
      clear hy
      have hlt : w.heap.size + 1 < A.heap.size := (Array.getElem?_eq_some_iff.1 hl).1
      refine ⟨_, run_beginRound hl (by rw [hrec]), ?_⟩
      obtain ⟨W2, hW2⟩ : ∃ W2, W2 = A.putObj (w.heap.size + 1) (.loop { rec .ready none with state := .busy }) := ⟨_, rfl⟩
      rw [← hW2]
      have hl2 : W2.heap[w.heap.size + 1]? = some (.loop { rec .ready none with state := .busy }) := by rw [hW2]; exact World.putObj_heap_same hlt
      have hk2 : W2.heap[w.heap.size]? = some (.deferred (some [])) := by rw [hW2]; exact (World.putObj_heap_other (by omega)).trans hk
      have hi2 : I k (fun b => S b ∨ b = w.heap.size + 1 ∨ b = w.heap.size) W2 := by rw [hW2]; exact hI _ _ _ _ _ hi (Turn0.put (by omega) hl rfl) (Grow.same _ _ _)
      have hz2 : W2.heap.size = A.heap.size := by rw [hW2]; simp
      have hne : ∀ b, S b → b ≠ w.heap.size + 1 → W2.heap[b]? = A.heap[b]? := fun b _ hn => by rw [hW2]; exact World.putObj_heap_other hn
      refine wpIn_mono (hbody _ k _ W2 hkn (fun b hb => ?_) hi2) ?_
      · rw [hz2]
        rcases hb with hb | rfl | rfl
        · exact hS b hb
        · exact hlt
        · omega
      rintro e a3 W3 hp
      cases e with
      | normal =>
        obtain ⟨hkb, hi3⟩ := hp
        have hl3 := (hkb _ (.inr (.inl rfl))).trans hl2
        have hk3 := (hkb _ (.inr (.inr rfl))).trans hk2
        have hr := run_endRound (P := P) none hl3
        rw [hrec] at hr hl3
        have hz3 := (Array.getElem?_eq_some_iff.1 hl3).1
        refine ⟨_, _, hr, fun b hb => ?_, .inl ⟨rfl, hI _ _ _ _ _ hi3 (Turn0.put (by omega) hl3 rfl) (Grow.same _ _ _), by simp; omega, hs, ?_, (World.putObj_heap_other (by omega)).trans hk3⟩⟩
        · have hb2 : b ≠ w.heap.size + 1 := by have := hs b hb; omega
          exact (World.putObj_heap_other hb2).trans ((hkb b (.inl hb)).trans (hne b hb hb2))
        · rw [hrec]; exact World.putObj_heap_same hz3
      | ret =>
        obtain ⟨hkb, hi3⟩ := hp
        have hl3 := (hkb _ (.inr (.inl rfl))).trans hl2
        have hk3 := (hkb _ (.inr (.inr rfl))).trans hk2
        have hr := run_endRound (P := P) (some .ret) hl3
        rw [hrec] at hr hl3
        have hz3 := (Array.getElem?_eq_some_iff.1 hl3).1
        refine ⟨_, _, hr, fun b hb => ?_, .inr ⟨rfl, hIx _ _ hi3 (Turn0.put (by omega) hl3 rfl), ?_, (World.putObj_heap_other (by omega)).trans hk3⟩⟩
        · have hb2 : b ≠ w.heap.size + 1 := by have := hs b hb; omega
          exact (World.putObj_heap_other hb2).trans ((hkb b (.inl hb)).trans (hne b hb hb2))
        · rw [hrec]; exact World.putObj_heap_same hz3
      | exit id => exact hp.elim
      | goto t => exact hp.elim
      | panic ch => exact hp.elim
      | outgrown => exact hp.elim
    · rintro e W2 ⟨⟨v, rfl⟩, (⟨S, hi, hz, hs, hl, hk⟩ | ⟨hi, hl, hk⟩)⟩
      · have hr := run_endLoop (P := P) hl (by rw [hrec]; simp)
        rw [hrec] at hr
        exact ⟨none, _, hr, hdone _ _ _ (Nat.le_refl _) (.inr (.inr rfl)) (fun b hb => by rcases hb with hb | rfl | rfl <;> first | omega | (have := hs b hb; omega)) (hI _ _ _ _ _ hi (Turn0.put (by omega) hl rfl) (Grow.same _ _ _)) ((World.putObj_heap_other (by omega)).trans hk)⟩
      · have hr := run_endLoop (P := P) hl (by rw [hrec]; simp)
        rw [hrec] at hr
        exact ⟨some .ret, _, hr, wpIn_ret (hstop _ _ (Nat.le_refl _) (hIx _ _ hi (Turn0.put (by omega) hl rfl)) ((World.putObj_heap_other (by omega)).trans hk))⟩
/-- The same, where the round's number goes on into one variable. -/
theorem wp_rangeB_to {g : Operand} {p q : Tmp} {assign body : Code} {Q : Exit → Act → World → Prop} {a : Act} {w : World} {gf : Nat} {lb : Array Value} (hg : a.eval g = .func (.func gf) #[] lb) (eg : ∀ args w, (callFunc gf args).run P w = .ok (.enter gf args) w)
    (xs : List Int) (U : World → Prop) (hseq : SeqB P gf lb xs U)
    (I : Nat → (Nat → Prop) → World → Prop) (Ix : World → Prop) (hU : ∀ k S W, I k S W → U W)
    (hI : ∀ k S W S' W', I k S W → Turn0 w.heap.size W W' → Grow S S' W W' → I k S' W') (hIx : ∀ W W', Ix W → Turn0 w.heap.size W W' → Ix W') (h0 : I 0 (fun _ => False) w)
    (hassign : ∀ (l : Nat) (x : Int) (W : World) (K : Act → World → Prop), K { tmps := (a.tmps.setIfInBounds p (.int .i64 x)).setIfInBounds q (.int .i64 x), defers := [] } W → assign.wpIn (Fence.wide.inRound l) 7 P (Exit.then K (fun _ _ _ => False)) { tmps := a.tmps.setIfInBounds p (.int .i64 x), defers := [] } W)
    (hbody : ∀ (l k : Nat) (S : Nat → Prop) (W : World) (hk : k < xs.length), (∀ b, S b → b < W.heap.size) → I k S W → body.wpIn (Fence.wide.inRound l) 7 P (roundB S (I (k + 1)) Ix W) { tmps := (a.tmps.setIfInBounds p (.int .i64 xs[k])).setIfInBounds q (.int .i64 xs[k]), defers := [] } W)
    (hdone : ∀ (D : Nat) (S : Nat → Prop) (W : World), w.heap.size ≤ D → S D → (∀ b, S b → w.heap.size ≤ b) → I xs.length S W → W.heap[D]? = some (.deferred (some [])) → Q .normal { a with defers := { target := .collected D, args := #[] } :: a.defers } W)
    (hstop : ∀ (D : Nat) (W : World), w.heap.size ≤ D → Ix W → W.heap[D]? = some (.deferred (some [])) → Q .ret { a with defers := { target := .collected D, args := #[] } :: a.defers } W) :
    (Code.rangeFunc g #[p] assign body).wp P Q a w :=
  wp_rangeB hg eg rfl xs U hseq I Ix hU hI hIx h0 (fun x => { tmps := (a.tmps.setIfInBounds p (.int .i64 x)).setIfInBounds q (.int .i64 x), defers := [] }) (fun l x W K h => by simpa using hassign l x W K h) hbody hdone hstop
end Go.Rfu
