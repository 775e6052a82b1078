/- 'works' of the model's laws: the statement with three copies, by an invariant. No walk yet. -/
import Derived.Test.YtckflfkfjpjkjaaDoorCGen
import Derived.Test.YtckflfkfjpjkjaaDoorCMdSm
import Derived.Test.YtckflfkfjpjkjaaDoorCMdRf
namespace Go.Proofs
open Go.RowKit Go.Lx Go.Md
set_option linter.unusedVariables false

theorem Mod.kept7 {Q : Nat → BP} {w w' : World} {m : MdlD} {p : Ph} (h : Mod Q w m p) (hk : ∀ j, j < 7 → Kept (Q j) w w') : Mod Q w' m p :=
  ⟨h.vars.kept (VarE.mono (R := Q 0)) (hk 0 (by decide)) (hk 0 (by decide)), h.evs.kept (hk 1 (by decide)), h.regs.kept (RegE.mono (R := Q 2)) (hk 2 (by decide)) (hk 2 (by decide)), h.vers.kept VerE.mono (hk 3 (by decide)) (hk 5 (by decide)), h.trns.kept TrnE.mono (hk 4 (by decide)) (hk 6 (by decide))⟩
/-- A copy that lies between bounds. -/
structure CpyW (N : Nat) (w : World) (p : Ph) (q : Nat → Nat) : Prop where
  mod : Mod (Lay q) w smallM p
  mono : ∀ j, q j ≤ q (j + 1)
  lo : N ≤ q 0
  hi : q 7 ≤ w.heap.size
def Out (B : Nat) (q : Nat → Nat) : Prop := B < q 0 ∨ q 7 ≤ B
def BoxS (w : World) (B : Nat) (p : Ph) : Prop := Box w B (.string smallM.nm) (.slice p.a1 smallM.vars.length p.c1) (.slice p.a2 smallM.evs.length p.c2) (.slice p.a3 smallM.regs.length p.c3) (.slice p.a4 smallM.vers.length p.c4) (.slice p.a5 smallM.trns.length p.c5)
def BoxE (w : World) (B : Nat) : Prop := ∃ v0 v1 v2 v3 v4 v5, Box w B v0 v1 v2 v3 v4 v5
structure BoxN (N : Nat) (w : World) (u : Value) (B : Nat) : Prop where
  ptr : u = .pointer (some ⟨B, 0, none⟩)
  lo : N ≤ B
  hi : B < w.heap.size
  has : BoxE w B
theorem q_le {q : Nat → Nat} (h : ∀ j, q j ≤ q (j + 1)) {i j : Nat} (hij : i ≤ j) : q i ≤ q j := by
  induction j with
  | zero =>
    have : i = 0 := by omega
    rw [this]; exact Nat.le_refl _
  | succ j ih =>
    by_cases e : i = j + 1
    · rw [e]; exact Nat.le_refl _
    · exact Nat.le_trans (ih (by omega)) (h j)
theorem CpyW.below {N : Nat} {w w' : World} {p : Ph} {q : Nat → Nat} (h : CpyW N w p q) (hb : Below w.heap.size w w') : CpyW N w' p q := ⟨h.mod.below hb, h.mono, h.lo, Nat.le_trans h.hi hb.size⟩
theorem CpyW.far {N : Nat} {w w' : World} {p : Ph} {q : Nat → Nat} {B : Nat} (h : CpyW N w p q) (hs : w.heap.size ≤ w'.heap.size) (hk : ∀ b, b ≠ B → b < w.heap.size → w'.heap[b]? = w.heap[b]?) (hb : Out B q) : CpyW N w' p q := by
  refine ⟨h.mod.kept7 fun j hj => ⟨hs, fun b h1 hQ => hk b (fun e => ?_) h1⟩, h.mono, h.lo, Nat.le_trans h.hi hs⟩
  have l1 := hQ.1
  have l2 := hQ.2.1
  have l3 := q_le h.mono (Nat.zero_le j)
  have l4 := q_le h.mono (show j + 1 ≤ 7 by omega)
  rcases hb with hb | hb <;> omega
theorem BoxN.below {N : Nat} {w w' : World} {u : Value} {B : Nat} (h : BoxN N w u B) (hb : Below w.heap.size w w') : BoxN N w' u B := by
  obtain ⟨v0, v1, v2, v3, v4, v5, hx⟩ := h.has
  exact ⟨h.ptr, h.lo, Nat.lt_of_lt_of_le h.hi hb.size, ⟨v0, v1, v2, v3, v4, v5, hx.below hb h.hi⟩⟩
theorem BoxE.any {w w' : World} {B : Nat} (h : BoxE w B) (hb : w'.heap[B]? = w.heap[B]?) : BoxE w' B := by
  obtain ⟨v0, v1, v2, v3, v4, v5, hx⟩ := h
  exact ⟨v0, v1, v2, v3, v4, v5, hx.any hb⟩
theorem BoxN.far {N : Nat} {w w' : World} {u : Value} {B B' : Nat} (h : BoxN N w u B) (hs : w.heap.size ≤ w'.heap.size) (hk : ∀ b, b ≠ B' → b < w.heap.size → w'.heap[b]? = w.heap[b]?) (hb : B ≠ B') : BoxN N w' u B :=
  ⟨h.ptr, h.lo, Nat.lt_of_lt_of_le h.hi hs, h.has.any (hk B hb h.hi)⟩
/-- The invariant. -/
structure J3 (W : World) (M : Value) (pa pb pc : Ph) (qa qb qc : Nat → Nat) (B5 B6 B7 : Nat) (l0 l1 l2 l3 l4 l5 l6 l7 l8 l9 l10 l11 : Bool) (u24 u25 u26 u27 u28 u29 u5 u6 u7 : Value) (w : World) : Prop where
  bel : Below W.heap.size W w
  v24 : l0 = true → u24 = M
  v26 : l2 = true → u26 = M
  v28 : l4 = true → u28 = M
  ca : l1 = true → u25 = mdV smallM pa ∧ CpyW W.heap.size w pa qa
  cb : l3 = true → u27 = mdV smallM pb ∧ CpyW W.heap.size w pb qb
  cc : l5 = true → u29 = mdV smallM pc ∧ CpyW W.heap.size w pc qc
  ab : l1 = true → l3 = true → qa 7 ≤ qb 0
  ac : l1 = true → l5 = true → qa 7 ≤ qc 0
  bc : l3 = true → l5 = true → qb 7 ≤ qc 0
  x5 : l6 = true → BoxN W.heap.size w u5 B5
  x6 : l7 = true → BoxN W.heap.size w u6 B6
  x7 : l8 = true → BoxN W.heap.size w u7 B7
  d5a : l6 = true → l1 = true → Out B5 qa
  d5b : l6 = true → l3 = true → Out B5 qb
  d5c : l6 = true → l5 = true → Out B5 qc
  d6a : l7 = true → l1 = true → Out B6 qa
  d6b : l7 = true → l3 = true → Out B6 qb
  d6c : l7 = true → l5 = true → Out B6 qc
  d7a : l8 = true → l1 = true → Out B7 qa
  d7b : l8 = true → l3 = true → Out B7 qb
  d7c : l8 = true → l5 = true → Out B7 qc
  n56 : l6 = true → l7 = true → B5 ≠ B6
  n57 : l6 = true → l8 = true → B5 ≠ B7
  n67 : l7 = true → l8 = true → B6 ≠ B7
  s5 : l9 = true → BoxS w B5 pa
  s6 : l10 = true → BoxS w B6 pb
  s7 : l11 = true → BoxS w B7 pc
  t3 : l3 = true → l1 = true
  t5 : l5 = true → l3 = true
  k5 : l9 = true → l6 = true ∧ l1 = true
  k6 : l10 = true → l7 = true ∧ l3 = true
  k7 : l11 = true → l8 = true ∧ l5 = true
theorem J3.read0 {W : World} {M : Value} {pa pb pc : Ph} {qa qb qc : Nat → Nat} {B5 B6 B7 : Nat} {l0 l1 l2 l3 l4 l5 l6 l7 l8 l9 l10 l11 : Bool} {u24 u25 u26 u27 u28 u29 u5 u6 u7 : Value} {w : World} (h : J3 W M pa pb pc qa qb qc B5 B6 B7 l0 l1 l2 l3 l4 l5 l6 l7 l8 l9 l10 l11 u24 u25 u26 u27 u28 u29 u5 u6 u7 w) : J3 W M pa pb pc qa qb qc B5 B6 B7 true l1 l2 l3 l4 l5 l6 l7 l8 l9 l10 l11 M u25 u26 u27 u28 u29 u5 u6 u7 w :=
  ⟨h.bel, (fun _ => rfl), h.v26, h.v28, h.ca, h.cb, h.cc, h.ab, h.ac, h.bc, h.x5, h.x6, h.x7, h.d5a, h.d5b, h.d5c, h.d6a, h.d6b, h.d6c, h.d7a, h.d7b, h.d7c, h.n56, h.n57, h.n67, h.s5, h.s6, h.s7, h.t3, h.t5, h.k5, h.k6, h.k7⟩
theorem J3.read2 {W : World} {M : Value} {pa pb pc : Ph} {qa qb qc : Nat → Nat} {B5 B6 B7 : Nat} {l0 l1 l2 l3 l4 l5 l6 l7 l8 l9 l10 l11 : Bool} {u24 u25 u26 u27 u28 u29 u5 u6 u7 : Value} {w : World} (h : J3 W M pa pb pc qa qb qc B5 B6 B7 l0 l1 l2 l3 l4 l5 l6 l7 l8 l9 l10 l11 u24 u25 u26 u27 u28 u29 u5 u6 u7 w) : J3 W M pa pb pc qa qb qc B5 B6 B7 l0 l1 true l3 l4 l5 l6 l7 l8 l9 l10 l11 u24 u25 M u27 u28 u29 u5 u6 u7 w :=
  ⟨h.bel, h.v24, (fun _ => rfl), h.v28, h.ca, h.cb, h.cc, h.ab, h.ac, h.bc, h.x5, h.x6, h.x7, h.d5a, h.d5b, h.d5c, h.d6a, h.d6b, h.d6c, h.d7a, h.d7b, h.d7c, h.n56, h.n57, h.n67, h.s5, h.s6, h.s7, h.t3, h.t5, h.k5, h.k6, h.k7⟩
theorem J3.read4 {W : World} {M : Value} {pa pb pc : Ph} {qa qb qc : Nat → Nat} {B5 B6 B7 : Nat} {l0 l1 l2 l3 l4 l5 l6 l7 l8 l9 l10 l11 : Bool} {u24 u25 u26 u27 u28 u29 u5 u6 u7 : Value} {w : World} (h : J3 W M pa pb pc qa qb qc B5 B6 B7 l0 l1 l2 l3 l4 l5 l6 l7 l8 l9 l10 l11 u24 u25 u26 u27 u28 u29 u5 u6 u7 w) : J3 W M pa pb pc qa qb qc B5 B6 B7 l0 l1 l2 l3 true l5 l6 l7 l8 l9 l10 l11 u24 u25 u26 u27 M u29 u5 u6 u7 w :=
  ⟨h.bel, h.v24, h.v26, (fun _ => rfl), h.ca, h.cb, h.cc, h.ab, h.ac, h.bc, h.x5, h.x6, h.x7, h.d5a, h.d5b, h.d5c, h.d6a, h.d6b, h.d6c, h.d7a, h.d7b, h.d7c, h.n56, h.n57, h.n67, h.s5, h.s6, h.s7, h.t3, h.t5, h.k5, h.k6, h.k7⟩
theorem J3.call1 {W : World} {M : Value} {pa pb pc : Ph} {qa qb qc : Nat → Nat} {B5 B6 B7 : Nat} {l0 l1 l2 l3 l4 l5 l6 l7 l8 l9 l10 l11 : Bool} {u24 u25 u26 u27 u28 u29 u5 u6 u7 : Value} {w : World} (h : J3 W M pa pb pc qa qb qc B5 B6 B7 l0 l1 l2 l3 l4 l5 l6 l7 l8 l9 l10 l11 u24 u25 u26 u27 u28 u29 u5 u6 u7 w) (n1 : l1 = false) {w1 : World} {p : Ph} {q : Nat → Nat} (g : Below w.heap.size w w1) (hm : Mod (Lay q) w1 smallM p) (h0 : w.heap.size ≤ q 0) (hq : ∀ j, q j ≤ q (j + 1)) (h7 : q 7 ≤ w1.heap.size) : J3 W M p pb pc q qb qc B5 B6 B7 l0 true l2 l3 l4 l5 l6 l7 l8 l9 l10 l11 u24 (mdV smallM p) u26 u27 u28 u29 u5 u6 u7 w1 := by
  have n3 : l3 = false := by
    cases h3 : l3 with
    | false => rfl
    | true => have := h.t3 h3; rw [n1] at this; cases this
  have n5 : l5 = false := by
    cases h5 : l5 with
    | false => rfl
    | true => have := h.t5 h5; rw [n3] at this; cases this
  exact ⟨(h.bel.trans (g.mono h.bel.size)), h.v24, h.v26, h.v28, (fun _ => ⟨rfl, hm, hq, Nat.le_trans h.bel.size h0, h7⟩), (fun k => ⟨(h.cb k).1, (h.cb k).2.below g⟩), (fun k => ⟨(h.cc k).1, (h.cc k).2.below g⟩), (fun _ k => by rw [n3] at k; cases k), (fun _ k => by rw [n5] at k; cases k), h.bc, (fun k => (h.x5 k).below g), (fun k => (h.x6 k).below g), (fun k => (h.x7 k).below g), (fun k _ => .inl (Nat.lt_of_lt_of_le (h.x5 k).hi h0)), h.d5b, h.d5c, (fun k _ => .inl (Nat.lt_of_lt_of_le (h.x6 k).hi h0)), h.d6b, h.d6c, (fun k _ => .inl (Nat.lt_of_lt_of_le (h.x7 k).hi h0)), h.d7b, h.d7c, h.n56, h.n57, h.n67, (fun k => by have := (h.k5 k).2; rw [n1] at this; cases this), (fun k => Box.below (h.s6 k) g (h.x6 (h.k6 k).1).hi), (fun k => Box.below (h.s7 k) g (h.x7 (h.k7 k).1).hi), (fun _ => rfl), h.t5, (fun k => ⟨(h.k5 k).1, rfl⟩), h.k6, h.k7⟩
theorem J3.call3 {W : World} {M : Value} {pa pb pc : Ph} {qa qb qc : Nat → Nat} {B5 B6 B7 : Nat} {l0 l1 l2 l3 l4 l5 l6 l7 l8 l9 l10 l11 : Bool} {u24 u25 u26 u27 u28 u29 u5 u6 u7 : Value} {w : World} (h : J3 W M pa pb pc qa qb qc B5 B6 B7 l0 l1 l2 l3 l4 l5 l6 l7 l8 l9 l10 l11 u24 u25 u26 u27 u28 u29 u5 u6 u7 w) (n1 : l3 = false) (c1 : l1 = true) {w1 : World} {p : Ph} {q : Nat → Nat} (g : Below w.heap.size w w1) (hm : Mod (Lay q) w1 smallM p) (h0 : w.heap.size ≤ q 0) (hq : ∀ j, q j ≤ q (j + 1)) (h7 : q 7 ≤ w1.heap.size) : J3 W M pa p pc qa q qc B5 B6 B7 l0 l1 l2 true l4 l5 l6 l7 l8 l9 l10 l11 u24 u25 u26 (mdV smallM p) u28 u29 u5 u6 u7 w1 := by
  have n5 : l5 = false := by
    cases h5 : l5 with
    | false => rfl
    | true => have := h.t5 h5; rw [n1] at this; cases this
  exact ⟨(h.bel.trans (g.mono h.bel.size)), h.v24, h.v26, h.v28, (fun k => ⟨(h.ca k).1, (h.ca k).2.below g⟩), (fun _ => ⟨rfl, hm, hq, Nat.le_trans h.bel.size h0, h7⟩), (fun k => ⟨(h.cc k).1, (h.cc k).2.below g⟩), (fun k _ => Nat.le_trans (h.ca k).2.hi h0), h.ac, (fun _ k => by rw [n5] at k; cases k), (fun k => (h.x5 k).below g), (fun k => (h.x6 k).below g), (fun k => (h.x7 k).below g), h.d5a, (fun k _ => .inl (Nat.lt_of_lt_of_le (h.x5 k).hi h0)), h.d5c, h.d6a, (fun k _ => .inl (Nat.lt_of_lt_of_le (h.x6 k).hi h0)), h.d6c, h.d7a, (fun k _ => .inl (Nat.lt_of_lt_of_le (h.x7 k).hi h0)), h.d7c, h.n56, h.n57, h.n67, (fun k => Box.below (h.s5 k) g (h.x5 (h.k5 k).1).hi), (fun k => by have := (h.k6 k).2; rw [n1] at this; cases this), (fun k => Box.below (h.s7 k) g (h.x7 (h.k7 k).1).hi), (fun _ => c1), (fun _ => rfl), h.k5, (fun k => ⟨(h.k6 k).1, rfl⟩), h.k7⟩
theorem J3.call5 {W : World} {M : Value} {pa pb pc : Ph} {qa qb qc : Nat → Nat} {B5 B6 B7 : Nat} {l0 l1 l2 l3 l4 l5 l6 l7 l8 l9 l10 l11 : Bool} {u24 u25 u26 u27 u28 u29 u5 u6 u7 : Value} {w : World} (h : J3 W M pa pb pc qa qb qc B5 B6 B7 l0 l1 l2 l3 l4 l5 l6 l7 l8 l9 l10 l11 u24 u25 u26 u27 u28 u29 u5 u6 u7 w) (n1 : l5 = false) (c3 : l3 = true) {w1 : World} {p : Ph} {q : Nat → Nat} (g : Below w.heap.size w w1) (hm : Mod (Lay q) w1 smallM p) (h0 : w.heap.size ≤ q 0) (hq : ∀ j, q j ≤ q (j + 1)) (h7 : q 7 ≤ w1.heap.size) : J3 W M pa pb p qa qb q B5 B6 B7 l0 l1 l2 l3 l4 true l6 l7 l8 l9 l10 l11 u24 u25 u26 u27 u28 (mdV smallM p) u5 u6 u7 w1 := by
  exact ⟨(h.bel.trans (g.mono h.bel.size)), h.v24, h.v26, h.v28, (fun k => ⟨(h.ca k).1, (h.ca k).2.below g⟩), (fun k => ⟨(h.cb k).1, (h.cb k).2.below g⟩), (fun _ => ⟨rfl, hm, hq, Nat.le_trans h.bel.size h0, h7⟩), h.ab, (fun k _ => Nat.le_trans (h.ca k).2.hi h0), (fun k _ => Nat.le_trans (h.cb k).2.hi h0), (fun k => (h.x5 k).below g), (fun k => (h.x6 k).below g), (fun k => (h.x7 k).below g), h.d5a, h.d5b, (fun k _ => .inl (Nat.lt_of_lt_of_le (h.x5 k).hi h0)), h.d6a, h.d6b, (fun k _ => .inl (Nat.lt_of_lt_of_le (h.x6 k).hi h0)), h.d7a, h.d7b, (fun k _ => .inl (Nat.lt_of_lt_of_le (h.x7 k).hi h0)), h.n56, h.n57, h.n67, (fun k => Box.below (h.s5 k) g (h.x5 (h.k5 k).1).hi), (fun k => Box.below (h.s6 k) g (h.x6 (h.k6 k).1).hi), (fun k => by have := (h.k7 k).2; rw [n1] at this; cases this), h.t3, (fun _ => c3), h.k5, h.k6, (fun k => ⟨(h.k7 k).1, rfl⟩)⟩
theorem boxN_new (N : Nat) (w : World) (hN : N ≤ w.heap.size) : BoxN N (w.alloc (.cells #[.string ⟨#[]⟩, .slice none 0 0, .slice none 0 0, .slice none 0 0, .slice none 0 0, .slice none 0 0] 28)) (.pointer (some ⟨w.heap.size, 0, none⟩)) w.heap.size := by
  refine ⟨rfl, hN, by simp, ⟨.string ⟨#[]⟩, .slice none 0 0, .slice none 0 0, .slice none 0 0, .slice none 0 0, .slice none 0 0, ?_⟩⟩
  have h := alloc1_at w (.cells #[.string ⟨#[]⟩, .slice none 0 0, .slice none 0 0, .slice none 0 0, .slice none 0 0, .slice none 0 0] 28)
  generalize w.alloc (.cells #[.string ⟨#[]⟩, .slice none 0 0, .slice none 0 0, .slice none 0 0, .slice none 0 0, .slice none 0 0] 28) = W at h ⊢
  exact ⟨cell_blk h _, cell_blk h _, cell_blk h _, cell_blk h _, cell_blk h _, cell_blk h _, by unfold World.frozen?; simp [h], by unfold World.frozen?; simp [h], by unfold World.frozen?; simp [h], by unfold World.frozen?; simp [h], by unfold World.frozen?; simp [h], by unfold World.frozen?; simp [h]⟩
theorem J3.alloc6 {W : World} {M : Value} {pa pb pc : Ph} {qa qb qc : Nat → Nat} {B5 B6 B7 : Nat} {l0 l1 l2 l3 l4 l5 l6 l7 l8 l9 l10 l11 : Bool} {u24 u25 u26 u27 u28 u29 u5 u6 u7 : Value} {w : World} (h : J3 W M pa pb pc qa qb qc B5 B6 B7 l0 l1 l2 l3 l4 l5 l6 l7 l8 l9 l10 l11 u24 u25 u26 u27 u28 u29 u5 u6 u7 w) (n1 : l6 = false) : J3 W M pa pb pc qa qb qc w.heap.size B6 B7 l0 l1 l2 l3 l4 l5 true l7 l8 l9 l10 l11 u24 u25 u26 u27 u28 u29 (.pointer (some ⟨w.heap.size, 0, none⟩)) u6 u7 (w.alloc (.cells #[.string ⟨#[]⟩, .slice none 0 0, .slice none 0 0, .slice none 0 0, .slice none 0 0, .slice none 0 0] 28)) := by
  have g : Below w.heap.size w (w.alloc (.cells #[.string ⟨#[]⟩, .slice none 0 0, .slice none 0 0, .slice none 0 0, .slice none 0 0, .slice none 0 0] 28)) := below_al1 w _
  exact ⟨(h.bel.trans (g.mono h.bel.size)), h.v24, h.v26, h.v28, (fun k => ⟨(h.ca k).1, (h.ca k).2.below g⟩), (fun k => ⟨(h.cb k).1, (h.cb k).2.below g⟩), (fun k => ⟨(h.cc k).1, (h.cc k).2.below g⟩), h.ab, h.ac, h.bc, (fun _ => boxN_new _ _ h.bel.size), (fun k => (h.x6 k).below g), (fun k => (h.x7 k).below g), (fun _ k => .inr (h.ca k).2.hi), (fun _ k => .inr (h.cb k).2.hi), (fun _ k => .inr (h.cc k).2.hi), h.d6a, h.d6b, h.d6c, h.d7a, h.d7b, h.d7c, (fun _ k => (Nat.ne_of_lt (h.x6 k).hi).symm), (fun _ k => (Nat.ne_of_lt (h.x7 k).hi).symm), h.n67, (fun k => by have := (h.k5 k).1; rw [n1] at this; cases this), (fun k => Box.below (h.s6 k) g (h.x6 (h.k6 k).1).hi), (fun k => Box.below (h.s7 k) g (h.x7 (h.k7 k).1).hi), h.t3, h.t5, (fun k => ⟨rfl, (h.k5 k).2⟩), h.k6, h.k7⟩
theorem J3.alloc7 {W : World} {M : Value} {pa pb pc : Ph} {qa qb qc : Nat → Nat} {B5 B6 B7 : Nat} {l0 l1 l2 l3 l4 l5 l6 l7 l8 l9 l10 l11 : Bool} {u24 u25 u26 u27 u28 u29 u5 u6 u7 : Value} {w : World} (h : J3 W M pa pb pc qa qb qc B5 B6 B7 l0 l1 l2 l3 l4 l5 l6 l7 l8 l9 l10 l11 u24 u25 u26 u27 u28 u29 u5 u6 u7 w) (n1 : l7 = false) : J3 W M pa pb pc qa qb qc B5 w.heap.size B7 l0 l1 l2 l3 l4 l5 l6 true l8 l9 l10 l11 u24 u25 u26 u27 u28 u29 u5 (.pointer (some ⟨w.heap.size, 0, none⟩)) u7 (w.alloc (.cells #[.string ⟨#[]⟩, .slice none 0 0, .slice none 0 0, .slice none 0 0, .slice none 0 0, .slice none 0 0] 28)) := by
  have g : Below w.heap.size w (w.alloc (.cells #[.string ⟨#[]⟩, .slice none 0 0, .slice none 0 0, .slice none 0 0, .slice none 0 0, .slice none 0 0] 28)) := below_al1 w _
  exact ⟨(h.bel.trans (g.mono h.bel.size)), h.v24, h.v26, h.v28, (fun k => ⟨(h.ca k).1, (h.ca k).2.below g⟩), (fun k => ⟨(h.cb k).1, (h.cb k).2.below g⟩), (fun k => ⟨(h.cc k).1, (h.cc k).2.below g⟩), h.ab, h.ac, h.bc, (fun k => (h.x5 k).below g), (fun _ => boxN_new _ _ h.bel.size), (fun k => (h.x7 k).below g), h.d5a, h.d5b, h.d5c, (fun _ k => .inr (h.ca k).2.hi), (fun _ k => .inr (h.cb k).2.hi), (fun _ k => .inr (h.cc k).2.hi), h.d7a, h.d7b, h.d7c, (fun k _ => Nat.ne_of_lt (h.x5 k).hi), h.n57, (fun _ k => (Nat.ne_of_lt (h.x7 k).hi).symm), (fun k => Box.below (h.s5 k) g (h.x5 (h.k5 k).1).hi), (fun k => by have := (h.k6 k).1; rw [n1] at this; cases this), (fun k => Box.below (h.s7 k) g (h.x7 (h.k7 k).1).hi), h.t3, h.t5, h.k5, (fun k => ⟨rfl, (h.k6 k).2⟩), h.k7⟩
theorem J3.alloc8 {W : World} {M : Value} {pa pb pc : Ph} {qa qb qc : Nat → Nat} {B5 B6 B7 : Nat} {l0 l1 l2 l3 l4 l5 l6 l7 l8 l9 l10 l11 : Bool} {u24 u25 u26 u27 u28 u29 u5 u6 u7 : Value} {w : World} (h : J3 W M pa pb pc qa qb qc B5 B6 B7 l0 l1 l2 l3 l4 l5 l6 l7 l8 l9 l10 l11 u24 u25 u26 u27 u28 u29 u5 u6 u7 w) (n1 : l8 = false) : J3 W M pa pb pc qa qb qc B5 B6 w.heap.size l0 l1 l2 l3 l4 l5 l6 l7 true l9 l10 l11 u24 u25 u26 u27 u28 u29 u5 u6 (.pointer (some ⟨w.heap.size, 0, none⟩)) (w.alloc (.cells #[.string ⟨#[]⟩, .slice none 0 0, .slice none 0 0, .slice none 0 0, .slice none 0 0, .slice none 0 0] 28)) := by
  have g : Below w.heap.size w (w.alloc (.cells #[.string ⟨#[]⟩, .slice none 0 0, .slice none 0 0, .slice none 0 0, .slice none 0 0, .slice none 0 0] 28)) := below_al1 w _
  exact ⟨(h.bel.trans (g.mono h.bel.size)), h.v24, h.v26, h.v28, (fun k => ⟨(h.ca k).1, (h.ca k).2.below g⟩), (fun k => ⟨(h.cb k).1, (h.cb k).2.below g⟩), (fun k => ⟨(h.cc k).1, (h.cc k).2.below g⟩), h.ab, h.ac, h.bc, (fun k => (h.x5 k).below g), (fun k => (h.x6 k).below g), (fun _ => boxN_new _ _ h.bel.size), h.d5a, h.d5b, h.d5c, h.d6a, h.d6b, h.d6c, (fun _ k => .inr (h.ca k).2.hi), (fun _ k => .inr (h.cb k).2.hi), (fun _ k => .inr (h.cc k).2.hi), h.n56, (fun k _ => Nat.ne_of_lt (h.x5 k).hi), (fun k _ => Nat.ne_of_lt (h.x6 k).hi), (fun k => Box.below (h.s5 k) g (h.x5 (h.k5 k).1).hi), (fun k => Box.below (h.s6 k) g (h.x6 (h.k6 k).1).hi), (fun k => by have := (h.k7 k).1; rw [n1] at this; cases this), h.t3, h.t5, h.k5, h.k6, (fun k => ⟨rfl, (h.k7 k).2⟩)⟩
theorem J3.store9 {W : World} {M : Value} {pa pb pc : Ph} {qa qb qc : Nat → Nat} {B5 B6 B7 : Nat} {l0 l1 l2 l3 l4 l5 l6 l7 l8 l9 l10 l11 : Bool} {u24 u25 u26 u27 u28 u29 u5 u6 u7 : Value} {w : World} (h : J3 W M pa pb pc qa qb qc B5 B6 B7 l0 l1 l2 l3 l4 l5 l6 l7 l8 l9 l10 l11 u24 u25 u26 u27 u28 u29 u5 u6 u7 w) (hb : l6 = true) (hc : l1 = true) {w1 : World} (he : w1.os = w.os ∧ w1.tape = w.tape ∧ w1.output = w.output) (hs : w.heap.size ≤ w1.heap.size) (hk : ∀ b, b ≠ B5 → b < w.heap.size → w1.heap[b]? = w.heap[b]?) (hx : BoxS w1 B5 pa) : J3 W M pa pb pc qa qb qc B5 B6 B7 l0 l1 l2 l3 l4 l5 l6 l7 l8 true l10 l11 u24 u25 u26 u27 u28 u29 u5 u6 u7 w1 :=
  ⟨(⟨he.1.trans h.bel.os, he.2.1.trans h.bel.tape, he.2.2.trans h.bel.output, Nat.le_trans h.bel.size hs, fun j hj => (hk j (fun e => by have := (h.x5 hb).lo; omega) (Nat.lt_of_lt_of_le hj h.bel.size)).trans (h.bel.block j hj)⟩), h.v24, h.v26, h.v28, (fun k => ⟨(h.ca k).1, (h.ca k).2.far hs hk (h.d5a hb k)⟩), (fun k => ⟨(h.cb k).1, (h.cb k).2.far hs hk (h.d5b hb k)⟩), (fun k => ⟨(h.cc k).1, (h.cc k).2.far hs hk (h.d5c hb k)⟩), h.ab, h.ac, h.bc, (fun _ => ⟨(h.x5 hb).ptr, (h.x5 hb).lo, Nat.lt_of_lt_of_le (h.x5 hb).hi hs, ⟨_, _, _, _, _, _, hx⟩⟩), (fun k => (h.x6 k).far hs hk ((h.n56 hb k).symm)), (fun k => (h.x7 k).far hs hk ((h.n57 hb k).symm)), h.d5a, h.d5b, h.d5c, h.d6a, h.d6b, h.d6c, h.d7a, h.d7b, h.d7c, h.n56, h.n57, h.n67, (fun _ => hx), (fun k => Box.any (h.s6 k) (hk _ ((h.n56 hb (h.k6 k).1).symm) (h.x6 (h.k6 k).1).hi)), (fun k => Box.any (h.s7 k) (hk _ ((h.n57 hb (h.k7 k).1).symm) (h.x7 (h.k7 k).1).hi)), h.t3, h.t5, (fun _ => ⟨hb, hc⟩), h.k6, h.k7⟩
theorem J3.store10 {W : World} {M : Value} {pa pb pc : Ph} {qa qb qc : Nat → Nat} {B5 B6 B7 : Nat} {l0 l1 l2 l3 l4 l5 l6 l7 l8 l9 l10 l11 : Bool} {u24 u25 u26 u27 u28 u29 u5 u6 u7 : Value} {w : World} (h : J3 W M pa pb pc qa qb qc B5 B6 B7 l0 l1 l2 l3 l4 l5 l6 l7 l8 l9 l10 l11 u24 u25 u26 u27 u28 u29 u5 u6 u7 w) (hb : l7 = true) (hc : l3 = true) {w1 : World} (he : w1.os = w.os ∧ w1.tape = w.tape ∧ w1.output = w.output) (hs : w.heap.size ≤ w1.heap.size) (hk : ∀ b, b ≠ B6 → b < w.heap.size → w1.heap[b]? = w.heap[b]?) (hx : BoxS w1 B6 pb) : J3 W M pa pb pc qa qb qc B5 B6 B7 l0 l1 l2 l3 l4 l5 l6 l7 l8 l9 true l11 u24 u25 u26 u27 u28 u29 u5 u6 u7 w1 :=
  ⟨(⟨he.1.trans h.bel.os, he.2.1.trans h.bel.tape, he.2.2.trans h.bel.output, Nat.le_trans h.bel.size hs, fun j hj => (hk j (fun e => by have := (h.x6 hb).lo; omega) (Nat.lt_of_lt_of_le hj h.bel.size)).trans (h.bel.block j hj)⟩), h.v24, h.v26, h.v28, (fun k => ⟨(h.ca k).1, (h.ca k).2.far hs hk (h.d6a hb k)⟩), (fun k => ⟨(h.cb k).1, (h.cb k).2.far hs hk (h.d6b hb k)⟩), (fun k => ⟨(h.cc k).1, (h.cc k).2.far hs hk (h.d6c hb k)⟩), h.ab, h.ac, h.bc, (fun k => (h.x5 k).far hs hk (h.n56 k hb)), (fun _ => ⟨(h.x6 hb).ptr, (h.x6 hb).lo, Nat.lt_of_lt_of_le (h.x6 hb).hi hs, ⟨_, _, _, _, _, _, hx⟩⟩), (fun k => (h.x7 k).far hs hk ((h.n67 hb k).symm)), h.d5a, h.d5b, h.d5c, h.d6a, h.d6b, h.d6c, h.d7a, h.d7b, h.d7c, h.n56, h.n57, h.n67, (fun k => Box.any (h.s5 k) (hk _ (h.n56 (h.k5 k).1 hb) (h.x5 (h.k5 k).1).hi)), (fun _ => hx), (fun k => Box.any (h.s7 k) (hk _ ((h.n67 hb (h.k7 k).1).symm) (h.x7 (h.k7 k).1).hi)), h.t3, h.t5, h.k5, (fun _ => ⟨hb, hc⟩), h.k7⟩
theorem J3.store11 {W : World} {M : Value} {pa pb pc : Ph} {qa qb qc : Nat → Nat} {B5 B6 B7 : Nat} {l0 l1 l2 l3 l4 l5 l6 l7 l8 l9 l10 l11 : Bool} {u24 u25 u26 u27 u28 u29 u5 u6 u7 : Value} {w : World} (h : J3 W M pa pb pc qa qb qc B5 B6 B7 l0 l1 l2 l3 l4 l5 l6 l7 l8 l9 l10 l11 u24 u25 u26 u27 u28 u29 u5 u6 u7 w) (hb : l8 = true) (hc : l5 = true) {w1 : World} (he : w1.os = w.os ∧ w1.tape = w.tape ∧ w1.output = w.output) (hs : w.heap.size ≤ w1.heap.size) (hk : ∀ b, b ≠ B7 → b < w.heap.size → w1.heap[b]? = w.heap[b]?) (hx : BoxS w1 B7 pc) : J3 W M pa pb pc qa qb qc B5 B6 B7 l0 l1 l2 l3 l4 l5 l6 l7 l8 l9 l10 true u24 u25 u26 u27 u28 u29 u5 u6 u7 w1 :=
  ⟨(⟨he.1.trans h.bel.os, he.2.1.trans h.bel.tape, he.2.2.trans h.bel.output, Nat.le_trans h.bel.size hs, fun j hj => (hk j (fun e => by have := (h.x7 hb).lo; omega) (Nat.lt_of_lt_of_le hj h.bel.size)).trans (h.bel.block j hj)⟩), h.v24, h.v26, h.v28, (fun k => ⟨(h.ca k).1, (h.ca k).2.far hs hk (h.d7a hb k)⟩), (fun k => ⟨(h.cb k).1, (h.cb k).2.far hs hk (h.d7b hb k)⟩), (fun k => ⟨(h.cc k).1, (h.cc k).2.far hs hk (h.d7c hb k)⟩), h.ab, h.ac, h.bc, (fun k => (h.x5 k).far hs hk (h.n57 k hb)), (fun k => (h.x6 k).far hs hk (h.n67 k hb)), (fun _ => ⟨(h.x7 hb).ptr, (h.x7 hb).lo, Nat.lt_of_lt_of_le (h.x7 hb).hi hs, ⟨_, _, _, _, _, _, hx⟩⟩), h.d5a, h.d5b, h.d5c, h.d6a, h.d6b, h.d6c, h.d7a, h.d7b, h.d7c, h.n56, h.n57, h.n67, (fun k => Box.any (h.s5 k) (hk _ (h.n57 (h.k5 k).1 hb) (h.x5 (h.k5 k).1).hi)), (fun k => Box.any (h.s6 k) (hk _ (h.n67 (h.k6 k).1 hb) (h.x6 (h.k6 k).1).hi)), (fun _ => hx), h.t3, h.t5, h.k5, h.k6, (fun _ => ⟨hb, hc⟩)⟩
theorem Box.set0 {w : World} {H : Nat} {v0 v1 v2 v3 v4 v5 : Value} (h : Box w H v0 v1 v2 v3 v4 v5) (u : Value) : Box (w.setCell ⟨H, 0, none⟩ u) H u v1 v2 v3 v4 v5 :=
  ⟨World.cell?_setCell_same _ _ _ h.c0, cell_set_ne h.c1 (by decide), cell_set_ne h.c2 (by decide), cell_set_ne h.c3 (by decide), cell_set_ne h.c4 (by decide), cell_set_ne h.c5 (by decide), by simpa using h.f0, by simpa using h.f1, by simpa using h.f2, by simpa using h.f3, by simpa using h.f4, by simpa using h.f5⟩
def set6 (w : World) (B : Nat) (u0 u1 u2 u3 u4 u5 : Value) : World := (((((w.setCell ⟨B, 0, none⟩ u0).setCell ⟨B, 1, none⟩ u1).setCell ⟨B, 2, none⟩ u2).setCell ⟨B, 3, none⟩ u3).setCell ⟨B, 4, none⟩ u4).setCell ⟨B, 5, none⟩ u5
theorem set6_box {w : World} {B : Nat} {v0 v1 v2 v3 v4 v5 : Value} (h : Box w B v0 v1 v2 v3 v4 v5) (u0 u1 u2 u3 u4 u5 : Value) : Box (set6 w B u0 u1 u2 u3 u4 u5) B u0 u1 u2 u3 u4 u5 := (((((h.set0 u0).set1 u1).set2 u2).set3 u3).set4 u4).set5 u5
theorem set6_far (w : World) (B : Nat) (u0 u1 u2 u3 u4 u5 : Value) : ∀ b, b ≠ B → b < w.heap.size → (set6 w B u0 u1 u2 u3 u4 u5).heap[b]? = w.heap[b]? := fun b hb _ => by
  unfold set6
  rw [Below.heap_setCell _ _ _ _ hb, Below.heap_setCell _ _ _ _ hb, Below.heap_setCell _ _ _ _ hb, Below.heap_setCell _ _ _ _ hb, Below.heap_setCell _ _ _ _ hb, Below.heap_setCell _ _ _ _ hb]
theorem setCell_meta (w : World) (a : Addr) (u : Value) : (w.setCell a u).os = w.os ∧ (w.setCell a u).tape = w.tape ∧ (w.setCell a u).output = w.output := ⟨(Below.setCell (B := 0) (Below.refl 0 w) (Nat.zero_le _) u).os, (Below.setCell (B := 0) (Below.refl 0 w) (Nat.zero_le _) u).tape, (Below.setCell (B := 0) (Below.refl 0 w) (Nat.zero_le _) u).output⟩
theorem set6_meta (w : World) (B : Nat) (u0 u1 u2 u3 u4 u5 : Value) : (set6 w B u0 u1 u2 u3 u4 u5).os = w.os ∧ (set6 w B u0 u1 u2 u3 u4 u5).tape = w.tape ∧ (set6 w B u0 u1 u2 u3 u4 u5).output = w.output := by
  have h : Below 0 w (set6 w B u0 u1 u2 u3 u4 u5) := ((((((Below.refl 0 w).setCell (Nat.zero_le _) _).setCell (Nat.zero_le _) _).setCell (Nat.zero_le _) _).setCell (Nat.zero_le _) _).setCell (Nat.zero_le _) _).setCell (Nat.zero_le _) _
  exact ⟨h.os, h.tape, h.output⟩
theorem set6_size (w : World) (B : Nat) (u0 u1 u2 u3 u4 u5 : Value) : w.heap.size ≤ (set6 w B u0 u1 u2 u3 u4 u5).heap.size := by unfold set6; simp
/-- The small model with one thing another one, each. -/
def smallA : MdlD := { smallM with regs := [⟨⟨#[]⟩, 1⟩] }
def smallB : MdlD := { smallM with vers := [⟨⟨#[]⟩, 3, 0, -1, ⟨#[]⟩, ⟨#[]⟩, [], ⟨#[]⟩⟩, ⟨⟨#[115]⟩, 1, 3, -1, ⟨#[]⟩, ⟨#[]⟩, [], ⟨#[]⟩⟩] }
def smallC : MdlD := { smallM with trns := [⟨⟨#[]⟩, 0, 1, [], 0, ⟨#[]⟩, ⟨#[]⟩, 4⟩] }
theorem lay_kept {q : Nat → Nat} {B : Nat} {W w' : World} (hq : ∀ j, q j ≤ q (j + 1)) (hs : W.heap.size ≤ w'.heap.size) (hk : ∀ b, q 0 ≤ b → b < q 7 → b ≠ B → w'.heap[b]? = W.heap[b]?) (j : Nat) (hj : j < 7) (hB : B < q j ∨ q (j + 1) ≤ B) : Kept (Lay q j) W w' := by
  refine ⟨hs, fun b _ hQ => hk b (Nat.le_trans (q_le hq (Nat.zero_le j)) hQ.1) (Nat.lt_of_lt_of_le hQ.2.1 (q_le hq (by omega))) ?_⟩
  have h1 := hQ.1
  have h2 := hQ.2.1
  omega
theorem modA {N : Nat} {W w' : World} {p : Ph} {q : Nat → Nat} {B o : Nat} (h : CpyW N W p q) (ha : p.a3 = some ⟨B, o, none⟩) (h1 : q 2 ≤ B) (h2 : B < q 3) (hs : W.heap.size ≤ w'.heap.size) (hk : ∀ b, q 0 ≤ b → b < q 7 → b ≠ B → w'.heap[b]? = W.heap[b]?)
    (hc : w'.cell? ⟨B, o, none⟩ = W.cell? ⟨B, o, none⟩) (hn : w'.cell? ⟨B, o + 1, none⟩ = some (.int .i64 1)) : Mod anyM w' smallA p := by
  have m := h.mono
  have m12 := q_le m (show 1 ≤ 2 by decide)
  have K := lay_kept m hs hk
  have e0 := K 0 (by decide) (.inr (Nat.le_trans (q_le m (by decide)) h1))
  refine ⟨(h.mod.vars.kept (VarE.mono (R := Lay q 0)) e0 e0).weaken (fun _ _ _ => trivial) fun _ _ _ h => h, (h.mod.evs.kept (K 1 (by decide) (.inr h1))).weaken fun _ _ _ => trivial, ?_,
    (h.mod.vers.kept VerE.mono (K 3 (by decide) (.inl h2)) (K 5 (by decide) (.inl (Nat.lt_of_lt_of_le h2 (q_le m (by decide)))))).weaken (fun _ _ _ => trivial) fun _ _ _ h => h.weaken fun _ _ _ => trivial,
    (h.mod.trns.kept TrnE.mono (K 4 (by decide) (.inl (Nat.lt_of_lt_of_le h2 (q_le m (by decide))))) (K 6 (by decide) (.inl (Nat.lt_of_lt_of_le h2 (q_le m (by decide)))))).weaken (fun _ _ _ => trivial) fun _ _ _ h => h.weaken fun _ _ _ => trivial⟩
  have hcap := h.mod.regs.cap (by decide)
  rcases h.mod.regs.two with ⟨h0, _⟩ | ⟨_, b, off, hb, hz, hQ, hE⟩
  · exact absurd h0 (by decide)
  · rw [ha] at hb
    injection hb with hb
    injection hb with e1 e2
    subst e1 e2
    refine .inr ⟨B, o, p.c3, by rw [ha], hcap, Nat.lt_of_lt_of_le hz hs, trivial, fun i hi => ?_⟩
    obtain rfl : i = 0 := by have : i < 1 := hi; omega
    have h0 := (hE 0 (by decide)).1
    simp only [Nat.zero_mul, Nat.add_zero] at h0
    refine ⟨?_, ?_⟩
    · simp only [Nat.zero_mul, Nat.add_zero]; exact hc.trans h0
    · simp only [Nat.zero_mul, Nat.add_zero]; exact hn
theorem modB {N : Nat} {W w' : World} {p : Ph} {q : Nat → Nat} {B o : Nat} (h : CpyW N W p q) (ha : p.a4 = some ⟨B, o, none⟩) (h1 : q 3 ≤ B) (h2 : B < q 4) (hs : W.heap.size ≤ w'.heap.size) (hk : ∀ b, q 0 ≤ b → b < q 7 → b ≠ B → w'.heap[b]? = W.heap[b]?)
    (hc : ∀ j, j ≠ o + 8 + 2 → w'.cell? ⟨B, j, none⟩ = W.cell? ⟨B, j, none⟩) (hn : w'.cell? ⟨B, o + 8 + 2, none⟩ = some (.int .i64 3)) : Mod anyM w' smallB p := by
  have m := h.mono
  have K := lay_kept m hs hk
  have e0 := K 0 (by decide) (.inr (Nat.le_trans (q_le m (by decide)) h1))
  have e2 := K 2 (by decide) (.inr h1)
  have e5 := K 5 (by decide) (.inl (Nat.lt_of_lt_of_le h2 (q_le m (by decide))))
  refine ⟨(h.mod.vars.kept (VarE.mono (R := Lay q 0)) e0 e0).weaken (fun _ _ _ => trivial) fun _ _ _ h => h, (h.mod.evs.kept (K 1 (by decide) (.inr (Nat.le_trans (q_le m (by decide)) h1)))).weaken fun _ _ _ => trivial, (h.mod.regs.kept (RegE.mono (R := Lay q 2)) e2 e2).weaken (fun _ _ _ => trivial) fun _ _ _ h => h, ?_,
    (h.mod.trns.kept TrnE.mono (K 4 (by decide) (.inl h2)) (K 6 (by decide) (.inl (Nat.lt_of_lt_of_le h2 (q_le m (by decide)))))).weaken (fun _ _ _ => trivial) fun _ _ _ h => h.weaken fun _ _ _ => trivial⟩
  have hcap := h.mod.vers.cap (by decide)
  rcases h.mod.vers.two with ⟨h0, _⟩ | ⟨_, b, off, hb, hz, hQ, hE⟩
  · exact absurd h0 (by decide)
  · rw [ha] at hb
    injection hb with hb
    injection hb with e1 e2'
    subst e1 e2'
    refine .inr ⟨B, o, p.c4, by rw [ha], hcap, Nat.lt_of_lt_of_le hz hs, trivial, fun i hi => ?_⟩
    have hi2 : i = 0 ∨ i = 1 := by have : i < 2 := hi; omega
    rcases hi2 with rfl | rfl
    · obtain ⟨dv, hd, r0, r1, r2, r3, r4, r5, r6, r7⟩ := hE 0 (by decide)
      exact ⟨dv, (hd.kept e5).weaken fun _ _ _ => trivial, (hc _ (by omega)).trans r0, (hc _ (by omega)).trans r1, (hc _ (by omega)).trans r2, (hc _ (by omega)).trans r3, (hc _ (by omega)).trans r4, (hc _ (by omega)).trans r5, (hc _ (by omega)).trans r6, (hc _ (by omega)).trans r7⟩
    · obtain ⟨dv, hd, r0, r1, r2, r3, r4, r5, r6, r7⟩ := hE 1 (by decide)
      exact ⟨dv, (hd.kept e5).weaken fun _ _ _ => trivial, (hc _ (by omega)).trans r0, (hc _ (by omega)).trans r1, by rw [Nat.one_mul]; exact hn, (hc _ (by omega)).trans r3, (hc _ (by omega)).trans r4, (hc _ (by omega)).trans r5, (hc _ (by omega)).trans r6, (hc _ (by omega)).trans r7⟩
theorem modC {N : Nat} {W w' : World} {p : Ph} {q : Nat → Nat} {B o : Nat} (h : CpyW N W p q) (ha : p.a5 = some ⟨B, o, none⟩) (h1 : q 4 ≤ B) (h2 : B < q 5) (hs : W.heap.size ≤ w'.heap.size) (hk : ∀ b, q 0 ≤ b → b < q 7 → b ≠ B → w'.heap[b]? = W.heap[b]?)
    (hc : ∀ j, j ≠ o + 7 → w'.cell? ⟨B, j, none⟩ = W.cell? ⟨B, j, none⟩) (hn : w'.cell? ⟨B, o + 7, none⟩ = some (.int .u8 4)) : Mod anyM w' smallC p := by
  have m := h.mono
  have K := lay_kept m hs hk
  have e0 := K 0 (by decide) (.inr (Nat.le_trans (q_le m (by decide)) h1))
  have e2 := K 2 (by decide) (.inr (Nat.le_trans (q_le m (by decide)) h1))
  have e6 := K 6 (by decide) (.inl (Nat.lt_of_lt_of_le h2 (q_le m (by decide))))
  refine ⟨(h.mod.vars.kept (VarE.mono (R := Lay q 0)) e0 e0).weaken (fun _ _ _ => trivial) fun _ _ _ h => h, (h.mod.evs.kept (K 1 (by decide) (.inr (Nat.le_trans (q_le m (by decide)) h1)))).weaken fun _ _ _ => trivial, (h.mod.regs.kept (RegE.mono (R := Lay q 2)) e2 e2).weaken (fun _ _ _ => trivial) fun _ _ _ h => h,
    (h.mod.vers.kept VerE.mono (K 3 (by decide) (.inr h1)) (K 5 (by decide) (.inl h2))).weaken (fun _ _ _ => trivial) fun _ _ _ h => h.weaken fun _ _ _ => trivial, ?_⟩
  have hcap := h.mod.trns.cap (by decide)
  rcases h.mod.trns.two with ⟨h0, _⟩ | ⟨_, b, off, hb, hz, hQ, hE⟩
  · exact absurd h0 (by decide)
  · rw [ha] at hb
    injection hb with hb
    injection hb with e1 e2'
    subst e1 e2'
    refine .inr ⟨B, o, p.c5, by rw [ha], hcap, Nat.lt_of_lt_of_le hz hs, trivial, fun i hi => ?_⟩
    obtain rfl : i = 0 := by have : i < 1 := hi; omega
    obtain ⟨dv, hd, r0, r1, r2, r3, r4, r5, r6, r7⟩ := hE 0 (by decide)
    exact ⟨dv, (hd.kept e6).weaken fun _ _ _ => trivial, (hc _ (by omega)).trans r0, (hc _ (by omega)).trans r1, (hc _ (by omega)).trans r2, (hc _ (by omega)).trans r3, (hc _ (by omega)).trans r4, (hc _ (by omega)).trans r5, (hc _ (by omega)).trans r6, by rw [Nat.zero_mul, Nat.add_zero]; exact hn⟩
end Go.Proofs
