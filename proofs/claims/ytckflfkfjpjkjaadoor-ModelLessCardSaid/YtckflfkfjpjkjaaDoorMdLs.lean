/- 'ModelLess': what holds while three variables are laid; rows of transitions. No walk yet. -/
import Derived.Test.YtckflfkfjpjkjaaDoorMdWk
namespace Go.Proofs
open Go.RowKit Go.Lx Go.Md
set_option linter.unusedVariables false
/-- A model's box, whole. -/
def BoxM (m : MdlD) (p : Ph) (w : World) (B : Nat) : Prop := Box w B (.string m.nm) (.slice p.a1 m.vars.length p.c1) (.slice p.a2 m.evs.length p.c2) (.slice p.a3 m.regs.length p.c3) (.slice p.a4 m.vers.length p.c4) (.slice p.a5 m.trns.length p.c5)
structure J7 (W : World) (m : MdlD) (p : Ph) (B0 B1 B2 : Nat) (l0 l1 l2 l3 l4 l5 l6 l7 l8 : Bool) (u0 u1 u2 u3 u4 u5 : Value) (w : World) : Prop where
  bel : Below W.heap.size W w
  v0 : l0 = true → u0 = mdV m p
  v1 : l1 = true → u1 = mdV m p
  v2 : l2 = true → u2 = mdV m p
  x0 : l3 = true → BoxN W.heap.size w u3 B0
  x1 : l4 = true → BoxN W.heap.size w u4 B1
  x2 : l5 = true → BoxN W.heap.size w u5 B2
  n01 : l3 = true → l4 = true → B0 ≠ B1
  n02 : l3 = true → l5 = true → B0 ≠ B2
  n12 : l4 = true → l5 = true → B1 ≠ B2
  s0 : l6 = true → BoxM m p w B0
  s1 : l7 = true → BoxM m p w B1
  s2 : l8 = true → BoxM m p w B2
  k0 : l6 = true → l3 = true
  k1 : l7 = true → l4 = true
  k2 : l8 = true → l5 = true
theorem J7.read0 {W : World} {m : MdlD} {p : Ph} {B0 B1 B2 : Nat} {l0 l1 l2 l3 l4 l5 l6 l7 l8 : Bool} {u0 u1 u2 u3 u4 u5 : Value} {w : World} (h : J7 W m p B0 B1 B2 l0 l1 l2 l3 l4 l5 l6 l7 l8 u0 u1 u2 u3 u4 u5 w) : J7 W m p B0 B1 B2 true l1 l2 l3 l4 l5 l6 l7 l8 (mdV m p) u1 u2 u3 u4 u5 w :=
  ⟨h.bel, (fun _ => rfl), h.v1, h.v2, h.x0, h.x1, h.x2, h.n01, h.n02, h.n12, h.s0, h.s1, h.s2, h.k0, h.k1, h.k2⟩
theorem J7.read1 {W : World} {m : MdlD} {p : Ph} {B0 B1 B2 : Nat} {l0 l1 l2 l3 l4 l5 l6 l7 l8 : Bool} {u0 u1 u2 u3 u4 u5 : Value} {w : World} (h : J7 W m p B0 B1 B2 l0 l1 l2 l3 l4 l5 l6 l7 l8 u0 u1 u2 u3 u4 u5 w) : J7 W m p B0 B1 B2 l0 true l2 l3 l4 l5 l6 l7 l8 u0 (mdV m p) u2 u3 u4 u5 w :=
  ⟨h.bel, h.v0, (fun _ => rfl), h.v2, h.x0, h.x1, h.x2, h.n01, h.n02, h.n12, h.s0, h.s1, h.s2, h.k0, h.k1, h.k2⟩
theorem J7.read2 {W : World} {m : MdlD} {p : Ph} {B0 B1 B2 : Nat} {l0 l1 l2 l3 l4 l5 l6 l7 l8 : Bool} {u0 u1 u2 u3 u4 u5 : Value} {w : World} (h : J7 W m p B0 B1 B2 l0 l1 l2 l3 l4 l5 l6 l7 l8 u0 u1 u2 u3 u4 u5 w) : J7 W m p B0 B1 B2 l0 l1 true l3 l4 l5 l6 l7 l8 u0 u1 (mdV m p) u3 u4 u5 w :=
  ⟨h.bel, h.v0, h.v1, (fun _ => rfl), h.x0, h.x1, h.x2, h.n01, h.n02, h.n12, h.s0, h.s1, h.s2, h.k0, h.k1, h.k2⟩
theorem J7.alloc0 {W : World} {m : MdlD} {p : Ph} {B0 B1 B2 : Nat} {l0 l1 l2 l3 l4 l5 l6 l7 l8 : Bool} {u0 u1 u2 u3 u4 u5 : Value} {w : World} (h : J7 W m p B0 B1 B2 l0 l1 l2 l3 l4 l5 l6 l7 l8 u0 u1 u2 u3 u4 u5 w) (hl : l3 = false) : J7 W m p w.heap.size B1 B2 l0 l1 l2 true l4 l5 l6 l7 l8 u0 u1 u2 (.pointer (some ⟨w.heap.size, 0, none⟩)) u4 u5 (w.alloc (.cells #[.string ⟨#[]⟩, .slice none 0 0, .slice none 0 0, .slice none 0 0, .slice none 0 0, .slice none 0 0] 28)) :=
  ⟨(h.bel.trans ((below_al1 w _).mono h.bel.size)), h.v0, h.v1, h.v2, (fun _ => ⟨rfl, h.bel.size, by simp, ⟨.string ⟨#[]⟩, .slice none 0 0, .slice none 0 0, .slice none 0 0, .slice none 0 0, .slice none 0 0, by constructor <;> simp⟩⟩), (fun k => (h.x1 k).below (below_al1 w _)), (fun k => (h.x2 k).below (below_al1 w _)), (fun _ k => (Nat.ne_of_lt (h.x1 k).hi).symm), (fun _ k => (Nat.ne_of_lt (h.x2 k).hi).symm), h.n12, (fun k => absurd (h.k0 k) (by rw [hl]; decide)), (fun k => Box.below (h.s1 k) (below_al1 w _) (h.x1 (h.k1 k)).hi), (fun k => Box.below (h.s2 k) (below_al1 w _) (h.x2 (h.k2 k)).hi), (fun _ => rfl), h.k1, h.k2⟩
theorem J7.alloc1 {W : World} {m : MdlD} {p : Ph} {B0 B1 B2 : Nat} {l0 l1 l2 l3 l4 l5 l6 l7 l8 : Bool} {u0 u1 u2 u3 u4 u5 : Value} {w : World} (h : J7 W m p B0 B1 B2 l0 l1 l2 l3 l4 l5 l6 l7 l8 u0 u1 u2 u3 u4 u5 w) (hl : l4 = false) : J7 W m p B0 w.heap.size B2 l0 l1 l2 l3 true l5 l6 l7 l8 u0 u1 u2 u3 (.pointer (some ⟨w.heap.size, 0, none⟩)) u5 (w.alloc (.cells #[.string ⟨#[]⟩, .slice none 0 0, .slice none 0 0, .slice none 0 0, .slice none 0 0, .slice none 0 0] 28)) :=
  ⟨(h.bel.trans ((below_al1 w _).mono h.bel.size)), h.v0, h.v1, h.v2, (fun k => (h.x0 k).below (below_al1 w _)), (fun _ => ⟨rfl, h.bel.size, by simp, ⟨.string ⟨#[]⟩, .slice none 0 0, .slice none 0 0, .slice none 0 0, .slice none 0 0, .slice none 0 0, by constructor <;> simp⟩⟩), (fun k => (h.x2 k).below (below_al1 w _)), (fun k _ => Nat.ne_of_lt (h.x0 k).hi), h.n02, (fun _ k => (Nat.ne_of_lt (h.x2 k).hi).symm), (fun k => Box.below (h.s0 k) (below_al1 w _) (h.x0 (h.k0 k)).hi), (fun k => absurd (h.k1 k) (by rw [hl]; decide)), (fun k => Box.below (h.s2 k) (below_al1 w _) (h.x2 (h.k2 k)).hi), h.k0, (fun _ => rfl), h.k2⟩
theorem J7.alloc2 {W : World} {m : MdlD} {p : Ph} {B0 B1 B2 : Nat} {l0 l1 l2 l3 l4 l5 l6 l7 l8 : Bool} {u0 u1 u2 u3 u4 u5 : Value} {w : World} (h : J7 W m p B0 B1 B2 l0 l1 l2 l3 l4 l5 l6 l7 l8 u0 u1 u2 u3 u4 u5 w) (hl : l5 = false) : J7 W m p B0 B1 w.heap.size l0 l1 l2 l3 l4 true l6 l7 l8 u0 u1 u2 u3 u4 (.pointer (some ⟨w.heap.size, 0, none⟩)) (w.alloc (.cells #[.string ⟨#[]⟩, .slice none 0 0, .slice none 0 0, .slice none 0 0, .slice none 0 0, .slice none 0 0] 28)) :=
  ⟨(h.bel.trans ((below_al1 w _).mono h.bel.size)), h.v0, h.v1, h.v2, (fun k => (h.x0 k).below (below_al1 w _)), (fun k => (h.x1 k).below (below_al1 w _)), (fun _ => ⟨rfl, h.bel.size, by simp, ⟨.string ⟨#[]⟩, .slice none 0 0, .slice none 0 0, .slice none 0 0, .slice none 0 0, .slice none 0 0, by constructor <;> simp⟩⟩), h.n01, (fun k _ => Nat.ne_of_lt (h.x0 k).hi), (fun k _ => Nat.ne_of_lt (h.x1 k).hi), (fun k => Box.below (h.s0 k) (below_al1 w _) (h.x0 (h.k0 k)).hi), (fun k => Box.below (h.s1 k) (below_al1 w _) (h.x1 (h.k1 k)).hi), (fun k => absurd (h.k2 k) (by rw [hl]; decide)), h.k0, h.k1, (fun _ => rfl)⟩
theorem J7.store0 {W : World} {m : MdlD} {p : Ph} {B0 B1 B2 : Nat} {l0 l1 l2 l3 l4 l5 l6 l7 l8 : Bool} {u0 u1 u2 u3 u4 u5 : Value} {w : World} (h : J7 W m p B0 B1 B2 l0 l1 l2 l3 l4 l5 l6 l7 l8 u0 u1 u2 u3 u4 u5 w) (hb : l3 = true) {w1 : World} (he : w1.os = w.os ∧ w1.tape = w.tape ∧ w1.output = w.output) (hs : w.heap.size ≤ w1.heap.size) (hk : ∀ b, b ≠ B0 → b < w.heap.size → w1.heap[b]? = w.heap[b]?) (hx : BoxM m p w1 B0) : J7 W m p B0 B1 B2 l0 l1 l2 l3 l4 l5 true l7 l8 u0 u1 u2 u3 u4 u5 w1 :=
  ⟨⟨he.1.trans h.bel.os, he.2.1.trans h.bel.tape, he.2.2.trans h.bel.output, Nat.le_trans h.bel.size hs, fun j hj => (hk j (fun e => by have := (h.x0 hb).lo; omega) (Nat.lt_of_lt_of_le hj h.bel.size)).trans (h.bel.block j hj)⟩, h.v0, h.v1, h.v2, (fun _ => ⟨(h.x0 hb).ptr, (h.x0 hb).lo, Nat.lt_of_lt_of_le (h.x0 hb).hi hs, ⟨_, _, _, _, _, _, hx⟩⟩), (fun k => (h.x1 k).far hs hk ((h.n01 hb k).symm)), (fun k => (h.x2 k).far hs hk ((h.n02 hb k).symm)), h.n01, h.n02, h.n12, (fun _ => hx), (fun k => Box.any (h.s1 k) (hk _ ((h.n01 hb (h.k1 k)).symm) (h.x1 (h.k1 k)).hi)), (fun k => Box.any (h.s2 k) (hk _ ((h.n02 hb (h.k2 k)).symm) (h.x2 (h.k2 k)).hi)), (fun _ => hb), h.k1, h.k2⟩
theorem J7.store1 {W : World} {m : MdlD} {p : Ph} {B0 B1 B2 : Nat} {l0 l1 l2 l3 l4 l5 l6 l7 l8 : Bool} {u0 u1 u2 u3 u4 u5 : Value} {w : World} (h : J7 W m p B0 B1 B2 l0 l1 l2 l3 l4 l5 l6 l7 l8 u0 u1 u2 u3 u4 u5 w) (hb : l4 = true) {w1 : World} (he : w1.os = w.os ∧ w1.tape = w.tape ∧ w1.output = w.output) (hs : w.heap.size ≤ w1.heap.size) (hk : ∀ b, b ≠ B1 → b < w.heap.size → w1.heap[b]? = w.heap[b]?) (hx : BoxM m p w1 B1) : J7 W m p B0 B1 B2 l0 l1 l2 l3 l4 l5 l6 true l8 u0 u1 u2 u3 u4 u5 w1 :=
  ⟨⟨he.1.trans h.bel.os, he.2.1.trans h.bel.tape, he.2.2.trans h.bel.output, Nat.le_trans h.bel.size hs, fun j hj => (hk j (fun e => by have := (h.x1 hb).lo; omega) (Nat.lt_of_lt_of_le hj h.bel.size)).trans (h.bel.block j hj)⟩, h.v0, h.v1, h.v2, (fun k => (h.x0 k).far hs hk ((h.n01 k hb))), (fun _ => ⟨(h.x1 hb).ptr, (h.x1 hb).lo, Nat.lt_of_lt_of_le (h.x1 hb).hi hs, ⟨_, _, _, _, _, _, hx⟩⟩), (fun k => (h.x2 k).far hs hk ((h.n12 hb k).symm)), h.n01, h.n02, h.n12, (fun k => Box.any (h.s0 k) (hk _ ((h.n01 (h.k0 k) hb)) (h.x0 (h.k0 k)).hi)), (fun _ => hx), (fun k => Box.any (h.s2 k) (hk _ ((h.n12 hb (h.k2 k)).symm) (h.x2 (h.k2 k)).hi)), h.k0, (fun _ => hb), h.k2⟩
theorem J7.store2 {W : World} {m : MdlD} {p : Ph} {B0 B1 B2 : Nat} {l0 l1 l2 l3 l4 l5 l6 l7 l8 : Bool} {u0 u1 u2 u3 u4 u5 : Value} {w : World} (h : J7 W m p B0 B1 B2 l0 l1 l2 l3 l4 l5 l6 l7 l8 u0 u1 u2 u3 u4 u5 w) (hb : l5 = true) {w1 : World} (he : w1.os = w.os ∧ w1.tape = w.tape ∧ w1.output = w.output) (hs : w.heap.size ≤ w1.heap.size) (hk : ∀ b, b ≠ B2 → b < w.heap.size → w1.heap[b]? = w.heap[b]?) (hx : BoxM m p w1 B2) : J7 W m p B0 B1 B2 l0 l1 l2 l3 l4 l5 l6 l7 true u0 u1 u2 u3 u4 u5 w1 :=
  ⟨⟨he.1.trans h.bel.os, he.2.1.trans h.bel.tape, he.2.2.trans h.bel.output, Nat.le_trans h.bel.size hs, fun j hj => (hk j (fun e => by have := (h.x2 hb).lo; omega) (Nat.lt_of_lt_of_le hj h.bel.size)).trans (h.bel.block j hj)⟩, h.v0, h.v1, h.v2, (fun k => (h.x0 k).far hs hk ((h.n02 k hb))), (fun k => (h.x1 k).far hs hk ((h.n12 k hb))), (fun _ => ⟨(h.x2 hb).ptr, (h.x2 hb).lo, Nat.lt_of_lt_of_le (h.x2 hb).hi hs, ⟨_, _, _, _, _, _, hx⟩⟩), h.n01, h.n02, h.n12, (fun k => Box.any (h.s0 k) (hk _ ((h.n02 (h.k0 k) hb)) (h.x0 (h.k0 k)).hi)), (fun k => Box.any (h.s1 k) (hk _ ((h.n12 (h.k1 k) hb)) (h.x1 (h.k1 k)).hi)), (fun _ => hx), h.k0, h.k1, (fun _ => hb)⟩
/-- What the statement leaves. -/
structure R7 (W : World) (m : MdlD) (p : Ph) (A B C : Nat) (w : World) : Prop where
  bel : Below W.heap.size W w
  a : BoxM m p w A
  b : BoxM m p w B
  c : BoxM m p w C
  la : W.heap.size ≤ A
  lb : W.heap.size ≤ B
  lc : W.heap.size ≤ C
  ab : A ≠ B
  ac : A ≠ C
  bc : B ≠ C
def R7S (W : World) (m : MdlD) (p : Ph) (s3 s4 s5 : Value) (w : World) : Prop := ∃ A B C, R7 W m p A B C w ∧ s3 = .pointer (some ⟨A, 0, none⟩) ∧ s4 = .pointer (some ⟨B, 0, none⟩) ∧ s5 = .pointer (some ⟨C, 0, none⟩)
/-! ### rows -/
theorem cellsAt_app (w : World) (b off n k : Nat) : cellsAt w b off (n + k) = cellsAt w b off n ++ cellsAt w b (off + n) k := by
  unfold cellsAt
  rw [List.range_add, List.map_append, List.map_map]
  congr 1
  apply List.map_congr_left
  intro j _
  simp [Nat.add_assoc]
theorem cellsAt_flat (w : World) (b off sz : Nat) : ∀ n, ((List.range n).map fun i => cellsAt w b (off + i * sz) sz).flatten = cellsAt w b off (n * sz)
  | 0 => by simp [cellsAt]
  | n + 1 => by
    rw [List.range_succ, List.map_append, List.flatten_append, cellsAt_flat w b off sz n, Nat.add_mul, Nat.one_mul, cellsAt_app]
    simp
theorem cells8 {w : World} {b o : Nat} {v0 v1 v2 v3 v4 v5 v6 v7 : Value} (h0 : w.cell? ⟨b, o, none⟩ = some v0) (h1 : w.cell? ⟨b, o + 1, none⟩ = some v1) (h2 : w.cell? ⟨b, o + 2, none⟩ = some v2) (h3 : w.cell? ⟨b, o + 3, none⟩ = some v3) (h4 : w.cell? ⟨b, o + 4, none⟩ = some v4) (h5 : w.cell? ⟨b, o + 5, none⟩ = some v5) (h6 : w.cell? ⟨b, o + 6, none⟩ = some v6) (h7 : w.cell? ⟨b, o + 7, none⟩ = some v7) :
    cellsAt w b o 8 = [v0, v1, v2, v3, v4, v5, v6, v7] := by
  simp [cellsAt, List.range_succ, h0, h1, h2, h3, h4, h5, h6, h7]
theorem TrnE.cells {R : BP} {w : World} {b o : Nat} {x : TrnD} (h : TrnE R w b o x) : TrnX R w (cellsAt w b o 8) x := by
  obtain ⟨dv, hd, h0, h1, h2, h3, h4, h5, h6, h7⟩ := h
  exact ⟨dv, hd, cells8 h0 h1 h2 h3 h4 h5 h6 h7⟩
/-- A row appended to nothing. -/
theorem rows_of {R : BP} {w w' : World} {T base b off : Nat} {v : Value} {l : List TrnD} (h : ∀ i (h : i < l.length), TrnE R w b (off + i * 8) l[i]) (hk : Kept R w w') (ho : w'.ownsRow base T 8 v l.length (cellsAt w b off (l.length * 8))) : Rows (TrnX R) T 8 base v l w' := by
  refine ⟨(List.range l.length).map fun i => cellsAt w b (off + i * 8) 8, by simp, by rw [cellsAt_flat]; exact ho, fun i h1 h2 => ?_⟩
  have e : ((List.range l.length).map fun i => cellsAt w b (off + i * 8) 8)[i] = cellsAt w b (off + i * 8) 8 := by simp
  rw [e]
  obtain ⟨dv, hd, e2⟩ := (h i h2).cells
  exact ⟨cellsAt_len _ _ _ _, dv, hd.kept hk, e2⟩
theorem TrnX.kept {R : BP} {w w' : World} {cs : List Value} {x : TrnD} (h : TrnX R w cs x) (hk : Kept R w w') : TrnX R w' cs x := by
  obtain ⟨dv, hd, e⟩ := h
  exact ⟨dv, hd.kept hk, e⟩
/-- A model with other transitions, where they lie. -/
theorem Mod.trns_at {Q : Nat → BP} {w : World} {m : MdlD} {p : Ph} (h : Mod Q w m p) {l : List TrnD} {a : Option Addr} {c : Nat} {Q4 R : BP} (hl : Sl Q4 8 (TrnE R) w (.slice a l.length c) l) : Mod anyM w { m with trns := l } { p with a5 := a, c5 := c } :=
  have h := h.any
  ⟨h.vars, h.evs, h.regs, h.vers, hl.weaken (fun _ _ _ => trivial) fun _ _ _ h => h.weaken fun _ _ _ => trivial⟩
theorem MdlOk.trns_at {m : MdlD} (h : MdlOk m) {l : List TrnD} (hl : l.length ≤ 140737488355328) (hm : ∀ x ∈ l, x ∈ m.trns) : MdlOk { m with trns := l } :=
  ⟨h.nm, h.vars, h.varn, h.evs, h.evn, h.regs, h.regn, h.rego, h.vers, h.verx, hl, fun x hx => h.trnx x (hm x hx)⟩
/-- The three variables' boxes, but for the last field. -/
structure Lx (W : World) (m : MdlD) (p : Ph) (A B C : Nat) (va vb vc : Value) (wx : World) : Prop where
  bel : Below W.heap.size W wx
  a : Box wx A (.string m.nm) (.slice p.a1 m.vars.length p.c1) (.slice p.a2 m.evs.length p.c2) (.slice p.a3 m.regs.length p.c3) (.slice p.a4 m.vers.length p.c4) va
  b : Box wx B (.string m.nm) (.slice p.a1 m.vars.length p.c1) (.slice p.a2 m.evs.length p.c2) (.slice p.a3 m.regs.length p.c3) (.slice p.a4 m.vers.length p.c4) vb
  c : Box wx C (.string m.nm) (.slice p.a1 m.vars.length p.c1) (.slice p.a2 m.evs.length p.c2) (.slice p.a3 m.regs.length p.c3) (.slice p.a4 m.vers.length p.c4) vc
  la : W.heap.size ≤ A
  lb : W.heap.size ≤ B
  lc : W.heap.size ≤ C
  ab : A ≠ B
  ac : A ≠ C
  bc : B ≠ C
theorem R7.lx {W : World} {m : MdlD} {p : Ph} {A B C : Nat} {w : World} (h : R7 W m p A B C w) : Lx W m p A B C (.slice p.a5 m.trns.length p.c5) (.slice p.a5 m.trns.length p.c5) (.slice p.a5 m.trns.length p.c5) w :=
  ⟨h.bel, h.a, h.b, h.c, h.la, h.lb, h.lc, h.ab, h.ac, h.bc⟩
theorem Lx.grown {W : World} {m : MdlD} {p : Ph} {A B C : Nat} {va vb vc : Value} {wx wy : World} (h : Lx W m p A B C va vb vc wx) {N : Nat} (g : Below N wx wy) (hA : A < N) (hB : B < N) (hC : C < N) : Lx W m p A B C va vb vc wy :=
  ⟨h.bel.trans (g.mono (by have := h.la; omega)), h.a.below g hA, h.b.below g hB, h.c.below g hC, h.la, h.lb, h.lc, h.ab, h.ac, h.bc⟩
theorem Lx.setA {W : World} {m : MdlD} {p : Ph} {A B C : Nat} {va vb vc : Value} {wx : World} (h : Lx W m p A B C va vb vc wx) (u : Value) : Lx W m p A B C u vb vc (wx.setCell ⟨A, 5, none⟩ u) :=
  ⟨h.bel.setCell h.la _, h.a.set5 u, h.b.far u h.ab, h.c.far u h.ac, h.la, h.lb, h.lc, h.ab, h.ac, h.bc⟩
theorem Lx.setB {W : World} {m : MdlD} {p : Ph} {A B C : Nat} {va vb vc : Value} {wx : World} (h : Lx W m p A B C va vb vc wx) (u : Value) : Lx W m p A B C va u vc (wx.setCell ⟨B, 5, none⟩ u) :=
  ⟨h.bel.setCell h.lb _, h.a.far u h.ab.symm, h.b.set5 u, h.c.far u h.bc, h.la, h.lb, h.lc, h.ab, h.ac, h.bc⟩
theorem Lx.setC {W : World} {m : MdlD} {p : Ph} {A B C : Nat} {va vb vc : Value} {wx : World} (h : Lx W m p A B C va vb vc wx) (u : Value) : Lx W m p A B C va vb u (wx.setCell ⟨C, 5, none⟩ u) :=
  ⟨h.bel.setCell h.lc _, h.a.far u h.ac.symm, h.b.far u h.bc.symm, h.c.set5 u, h.la, h.lb, h.lc, h.ab, h.ac, h.bc⟩
theorem kept_old {H : Nat} {w w' : World} (h : Below H w w') : Kept (OldB H) w w' := ⟨h.size, fun b _ hb => h.block b hb⟩
/-- A row of transitions stays. -/
theorem Rows.stay {H T base : Nat} {v : Value} {l : List TrnD} {w w' : World} (h : Rows (TrnX (OldB H)) T 8 base v l w) (hk : Below H w w') (hb : ∀ g, v.ownBlock = some g → w'.heap[g]? = w.heap[g]?) : Rows (TrnX (OldB H)) T 8 base v l w' :=
  h.kept hb fun _ _ _ hx => hx.kept (kept_old hk)
theorem Rows.sl {H T base : Nat} {a : Option Addr} {n c : Nat} {l : List TrnD} {w : World} (h : Rows (TrnX (OldB H)) T 8 base (.slice a n c) l w) : n = l.length ∧ Sl anyB 8 (TrnE anyB) w (.slice a l.length c) l := by
  obtain ⟨a', c', e, hs⟩ := h.done (by decide) fun cs x b o _ h hc => h.elem hc
  injection e with e1 e2 e3
  subst e1 e2 e3
  exact ⟨rfl, hs.weaken (fun _ _ _ => trivial) fun _ _ _ h => h.weaken fun _ _ _ => trivial⟩
theorem Lx.blk {W : World} {m : MdlD} {p : Ph} {A B C : Nat} {va vb vc : Value} {wx : World} (h : Lx W m p A B C va vb vc wx) : A < wx.heap.size ∧ B < wx.heap.size ∧ C < wx.heap.size := ⟨h.a.sl, h.b.sl, h.c.sl⟩
/-- Behind the appending of an element to a row: all but the row's block is as it was. -/
theorem below_app {w w' : World} {o : Obj} {v : Value} {base N : Nat} (hg : (w.drew.alloc o).grownBy w' v.ownBlock) (hv : ∀ g, v.ownBlock = some g → base ≤ g) (hN : N ≤ base) (hz : N ≤ w.heap.size) : Below N w w' :=
  (((Below.refl N w).drew).alloc hz o).grown hg (by simp; omega) fun k hk => Nat.le_trans hN (hv k hk)
theorem app_far {w w' : World} {o : Obj} {v : Value} {B k : Nat} {u : Value} (hg : (w.drew.alloc o).grownBy w' v.ownBlock) (hB : B < w.heap.size) (hv : some B ≠ v.ownBlock) (hc : w.cell? ⟨B, k, none⟩ = some u) (hf : w.frozen? ⟨B, k, none⟩ = false) :
    w'.cell? ⟨B, k, none⟩ = some u ∧ w'.frozen? ⟨B, k, none⟩ = false := by
  refine ⟨(hg.cell_far ⟨B, k, none⟩ (by simp; omega) hv).trans ?_, (hg.frozen_far ⟨B, k, none⟩ (by simp; omega) hv).trans ?_⟩
  · exact ((below_al1 w.drew o).cell (p := ⟨B, k, none⟩) (by simpa using hB)).trans hc
  · exact ((below_al1 w.drew o).frozen (p := ⟨B, k, none⟩) (by simpa using hB)).trans hf
/-- One more transition in a row of the call's own, stored into a variable's box. -/
theorem rows_push {H T base : Nat} {l : List TrnD} {x : TrnD} {css : List (List Value)} {w w1 : World} {o : Obj} {v : Value} {gg cap B k : Nat} {cs : List Value} (hcl : css.length = l.length) (hX : ∀ i (h1 : i < css.length) (h2 : i < l.length), css[i].length = 8 ∧ TrnX (OldB H) w css[i] l[i])
    (hv : ∀ g, v.ownBlock = some g → base ≤ g) (hH : H ≤ base) (hz : H ≤ w.heap.size) (hg : (w.drew.alloc o).grownBy w1 v.ownBlock) (ho : w1.ownsRow base T 8 (.slice (some ⟨gg, 0, none⟩) (l.length + 1) cap) (l.length + 1) (css.flatten ++ cs)) (hc : cs.length = 8) (hx : TrnX (OldB H) w cs x) (hB : B < base) (hBH : H ≤ B) (u : Value) :
    Rows (TrnX (OldB H)) T 8 base (.slice (some ⟨gg, 0, none⟩) (l.length + 1) cap) (l ++ [x]) (w1.setCell ⟨B, k, none⟩ u) := by
  have hb := below_app hg hv hH hz
  have hr : Rows (TrnX (OldB H)) T 8 base (.slice (some ⟨gg, 0, none⟩) (l.length + 1) cap) (l ++ [x]) w1 :=
    Rows.push css hcl (fun i h1 h2 => ⟨(hX i h1 h2).1, (hX i h1 h2).2.kept (kept_old hb)⟩) ho hc (hx.kept (kept_old hb))
  refine hr.stay ((Below.refl H w1).setCell (p := ⟨B, k, none⟩) hBH u) fun g hgg => ?_
  have : base ≤ g := (ho.lt g hgg).1
  exact Below.heap_setCell _ _ _ _ (by simp only; omega)
/-- Behind the second statement. -/
def C11 (W : World) (m : MdlD) (p : Ph) (H A B C T base : Nat) (va vc : Value) (wx : World) : Prop :=
  ∃ (k : Nat) (h : k < m.trns.length) (g c : Nat), Lx W m p A B C va (.slice (some ⟨g, 0, none⟩) (m.trns.length + 1) c) vc wx ∧ Rows (TrnX (OldB H)) T 8 base (.slice (some ⟨g, 0, none⟩) (m.trns.length + 1) c) (m.trns ++ [m.trns[k]]) wx
theorem c11_of {W : World} {m : MdlD} {p : Ph} {H A B C T base : Nat} {va vb vc v : Value} {w w1 : World} {o : Obj} {css : List (List Value)} {gg cap k : Nat} {cs : List Value} (hk : k < m.trns.length) (hL : Lx W m p A B C va vb vc w) (hA : A < base) (hB : B < base) (hC : C < base) (hHW : H ≤ W.heap.size) (hbz : base ≤ w.heap.size)
    (hcl : css.length = m.trns.length) (hX : ∀ i (h1 : i < css.length) (h2 : i < m.trns.length), css[i].length = 8 ∧ TrnX (OldB H) w css[i] m.trns[i]) (hv : ∀ g, v.ownBlock = some g → base ≤ g) (hg : (w.drew.alloc o).grownBy w1 v.ownBlock)
    (ho : w1.ownsRow base T 8 (.slice (some ⟨gg, 0, none⟩) (m.trns.length + 1) cap) (m.trns.length + 1) (css.flatten ++ cs)) (hc : cs.length = 8) (hx : TrnX (OldB H) w cs m.trns[k]) : C11 W m p H A B C T base va vc (w1.setCell ⟨B, 5, none⟩ (.slice (some ⟨gg, 0, none⟩) (m.trns.length + 1) cap)) := by
  have l1 := hL.la
  have l2 := hL.lb
  refine ⟨k, hk, gg, cap, (hL.grown (below_app hg hv (Nat.le_refl _) hbz) hA hB hC).setB _, rows_push hcl hX hv (by omega) (by omega) hg ho hc hx hB (by omega) _⟩
/-- The loop that turns the row about. -/
structure C16 (W : World) (m : MdlD) (p : Ph) (H A B C T b1 b2 : Nat) (va vb vc : Value) (lb : List TrnD) (k : Nat) (wx : World) : Prop where
  lx : Lx W m p A B C va vb vc wx
  rb : Rows (TrnX (OldB H)) T 8 b1 vb lb wx
  rc : Rows (TrnX (OldB H)) T 8 b2 vc (m.trns.drop k).reverse wx
  bz : b2 ≤ wx.heap.size
  vb : ∀ g, vb.ownBlock = some g → g < b2
theorem c16_of {W : World} {m : MdlD} {p : Ph} {H A B C T b1 b2 : Nat} {va vb vc : Value} {lb : List TrnD} {w w1 : World} {o : Obj} {css : List (List Value)} {gg cap k : Nat} {cs : List Value} (hk : k < m.trns.length) (h : C16 W m p H A B C T b1 b2 va vb vc lb (k + 1) w) (hA : A < b1) (hB : B < b1) (hC : C < b1) (h12 : b1 ≤ b2) (hHW : H ≤ W.heap.size)
    (hcl : css.length = (m.trns.drop (k + 1)).reverse.length) (hX : ∀ i (h1 : i < css.length) (h2 : i < (m.trns.drop (k + 1)).reverse.length), css[i].length = 8 ∧ TrnX (OldB H) w css[i] (m.trns.drop (k + 1)).reverse[i]) (hv : ∀ g, vc.ownBlock = some g → b2 ≤ g) (hg : (w.drew.alloc o).grownBy w1 vc.ownBlock)
    (ho : w1.ownsRow b2 T 8 (.slice (some ⟨gg, 0, none⟩) (m.trns.length - (k + 1) + 1) cap) (m.trns.length - (k + 1) + 1) (css.flatten ++ cs)) (hc : cs.length = 8) (hx : TrnX (OldB H) w cs m.trns[k]) :
    C16 W m p H A B C T b1 b2 va vb (.slice (some ⟨gg, 0, none⟩) (m.trns.length - (k + 1) + 1) cap) lb k (w1.setCell ⟨C, 5, none⟩ (.slice (some ⟨gg, 0, none⟩) (m.trns.length - (k + 1) + 1) cap)) := by
  have l1 := h.lx.la
  have l2 := h.lx.lc
  have hl : (m.trns.drop (k + 1)).reverse.length = m.trns.length - (k + 1) := by simp
  have hb2 := below_app hg hv (Nat.le_refl _) h.bz
  have hr : (m.trns.drop k).reverse = (m.trns.drop (k + 1)).reverse ++ [m.trns[k]] := by
    rw [List.drop_eq_getElem_cons hk, List.reverse_cons]
  refine ⟨(h.lx.grown hb2 (by omega) (by omega) (by omega)).setC _, ?_, ?_, by have := hb2.size; have := h.bz; simp only [World.size_setCell]; omega, h.vb⟩
  · refine h.rb.stay (((hb2.mono (by omega)).setCell (p := ⟨C, 5, none⟩) (by simp only; omega) _)) fun g hgb => ?_
    have hlt := h.vb g hgb
    have hge : b1 ≤ g := by
      obtain ⟨_, _, ho2, _⟩ := h.rb
      exact (ho2.lt g hgb).1
    rw [Below.heap_setCell _ _ _ _ (by simp only; omega)]
    exact hb2.block g hlt
  · rw [hr, ← hl]
    exact rows_push hcl hX hv (by omega) (by have := h.bz; omega) hg (by rw [hl]; exact ho) hc hx (by omega) (by omega) _
end Go.Proofs
