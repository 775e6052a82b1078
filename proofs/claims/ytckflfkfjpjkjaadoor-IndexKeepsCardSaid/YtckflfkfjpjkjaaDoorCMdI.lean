/- Walks: 'slices.Clone': the same elements, in memory of its own. -/
import Derived.Test.YtckflfkfjpjkjaaDoorCMdA
import Derived.Deep.AppendLies
import Derived.OwnWalk
namespace Go.Proofs
open Go.RowKit Go.Lx Go.Md Go.Shelf
set_option linter.unusedVariables false

/-- New blocks, none of them frozen. -/
def NewB (lo hi : Nat) : BP := fun b o => lo ≤ b ∧ b < hi ∧ ∃ cur T, o = some (.cells cur T (0, 0))
theorem Lay_new {q : Nat → Nat} {j : Nat} : Lay q j = NewB (q j) (q (j + 1)) := rfl
/-- An element is told by so many cells, and may lie elsewhere. -/
structure Moves {α : Type} (sz : Nat) (E : World → Nat → Nat → α → Prop) (K : World → World → Prop) : Prop where
  cell : ∀ (w : World) (b o : Nat) (x : α), E w b o x → ∀ j, j < sz → ∃ u, w.cell? ⟨b, o + j, none⟩ = some u ∧ u.oneCell' = true
  move : ∀ (w w' : World) (b o b' o' : Nat) (x : α), E w b o x → K w w' → (∀ j, j < sz → w'.cell? ⟨b', o' + j, none⟩ = w.cell? ⟨b, o + j, none⟩) → E w' b' o' x
/-- The cells of a row. -/
def cellsAt (w : World) (b off n : Nat) : List Value := (List.range n).map fun j => (w.cell? ⟨b, off + j, none⟩).getD (.bool false)
theorem cellsAt_len (w : World) (b off n : Nat) : (cellsAt w b off n).length = n := by simp [cellsAt]
theorem cellsAt_get {w : World} {b off n j : Nat} (h : j < n) : (cellsAt w b off n)[j]? = some ((w.cell? ⟨b, off + j, none⟩).getD (.bool false)) := by
  simp [cellsAt, h]
theorem sl_cells {α : Type} {sz : Nat} {E : World → Nat → Nat → α → Prop} {K : World → World → Prop} (hE : Moves sz E K) {w : World} {b off : Nat} {l : List α} (h : ∀ i (h : i < l.length), E w b (off + i * sz) l[i]) :
    ∀ j, j < l.length * sz → ∃ u, w.cell? ⟨b, off + j, none⟩ = some u ∧ u.oneCell' = true := by
  intro j hj
  have hsz : 0 < sz := by
    rcases Nat.eq_zero_or_pos sz with h0 | h0
    · subst h0; simp at hj
    · exact h0
  have hi : j / sz < l.length := (Nat.div_lt_iff_lt_mul hsz).2 hj
  obtain ⟨u, h1, h2⟩ := hE.cell _ _ _ _ (h (j / sz) hi) (j % sz) (Nat.mod_lt _ hsz)
  have : off + j / sz * sz + j % sz = off + j := by have := Nat.div_add_mod j sz; rw [Nat.mul_comm] at this; omega
  rw [this] at h1
  exact ⟨u, h1, h2⟩
theorem cellsAt_cell {w : World} {b off n : Nat} (h : ∀ j, j < n → ∃ u, w.cell? ⟨b, off + j, none⟩ = some u ∧ u.oneCell' = true) :
    (∀ j u, (cellsAt w b off n)[j]? = some u → w.cell? (Addr.add ⟨b, off, none⟩ j) = some u) ∧ ∀ u ∈ cellsAt w b off n, u.oneCell' = true := by
  constructor
  · intro j u hj
    by_cases hlt : j < n
    · obtain ⟨x, hx, _⟩ := h j hlt
      rw [cellsAt_get hlt, hx] at hj
      simp only [Option.getD_some, Option.some.injEq] at hj
      rw [Addr.add_lit, ← hj]; exact hx
    · rw [List.getElem?_eq_none (by rw [cellsAt_len]; omega)] at hj; cases hj
  · intro u hu
    unfold cellsAt at hu
    obtain ⟨j, hj, rfl⟩ := List.mem_map.1 hu
    obtain ⟨x, hx, h1⟩ := h j (List.mem_range.1 hj)
    rw [hx]; exact h1
/-- A row of the call's own: its cells. -/
theorem owns_cells {w : World} {base T sz n : Nat} {v : Value} {xs : List Value} (h : w.ownsRow base T sz v n xs) (hn : 0 < n * sz) :
    ∃ g cap, v = .slice (some ⟨g, 0, none⟩) n cap ∧ n ≤ cap ∧ base ≤ g ∧ g < w.heap.size ∧ (∃ cur, w.heap[g]? = some (.cells cur T (0, 0))) ∧ ∀ j, j < n * sz → w.cell? ⟨g, j, none⟩ = xs[j]? := by
  obtain ⟨hl, ⟨rfl, rfl⟩ | ⟨g, cap, cur, rfl, hb, hg, hc, _, hs, hx⟩⟩ := h
  · simp at hn
  · refine ⟨g, cap, rfl, hc, hb, (Array.getElem?_eq_some_iff.1 hg).1, ⟨cur, hg⟩, fun j hj => ?_⟩
    unfold World.cell?
    simp only [hg]
    rw [← hx, List.getElem?_take_of_lt hj]
    simp
theorem own_sl {α : Type} {sz : Nat} {E : World → Nat → Nat → α → Prop} {K : World → World → Prop} (hE : Moves sz E K) (hz : 0 < sz) {w w' : World} {b off base T : Nat} {v' : Value} {l : List α} (h : ∀ i (h : i < l.length), E w b (off + i * sz) l[i])
    (hK : K w w') (ho : w'.ownsRow base T sz v' l.length (cellsAt w b off (l.length * sz))) : ∃ a c, v' = .slice a l.length c ∧ Sl (NewB base w'.heap.size) sz E w' (.slice a l.length c) l := by
  cases l with
  | nil =>
    obtain ⟨_, ⟨rfl, _⟩ | ⟨g, cap, cur, rfl, _⟩⟩ := ho
    · exact ⟨_, _, rfl, .inl ⟨_, _, rfl, rfl⟩⟩
    · exact ⟨_, _, rfl, .inl ⟨_, _, rfl, rfl⟩⟩
  | cons x t =>
    obtain ⟨g, cap, rfl, hcap, hb, hg, ⟨cur, hcur⟩, hc⟩ := owns_cells ho (Nat.mul_pos (by simp) hz)
    refine ⟨_, _, rfl, .inr ⟨g, 0, cap, rfl, hcap, hg, ⟨hb, hg, cur, T, hcur⟩, fun i hi => ?_⟩⟩
    refine hE.move _ _ _ _ _ _ _ (h i hi) hK fun j hj => ?_
    have hlt : i * sz + j < (x :: t).length * sz := by
      have : (i + 1) * sz ≤ (x :: t).length * sz := Nat.mul_le_mul_right _ hi
      rw [Nat.add_mul] at this; omega
    rw [show 0 + i * sz + j = i * sz + j by omega, hc _ hlt, cellsAt_get hlt]
    obtain ⟨u, hu, _⟩ := sl_cells hE h _ hlt
    rw [hu, Option.getD_some, show off + i * sz + j = off + (i * sz + j) by omega, hu]
theorem VarE.moves : Moves 2 VarE fun _ _ => True where
  cell := fun w b o x h j hj => by
    have : j = 0 ∨ j = 1 := by omega
    rcases this with rfl | rfl
    · exact ⟨_, h.1, rfl⟩
    · exact ⟨_, h.2, rfl⟩
  move := fun w w' b o b' o' x h _ hc => ⟨(hc 0 (by omega)).trans h.1, (hc 1 (by omega)).trans h.2⟩
theorem RegE.moves : Moves 2 RegE fun _ _ => True where
  cell := fun w b o x h j hj => by
    have : j = 0 ∨ j = 1 := by omega
    rcases this with rfl | rfl
    · exact ⟨_, h.1, rfl⟩
    · exact ⟨_, h.2, rfl⟩
  move := fun w w' b o b' o' x h _ hc => ⟨(hc 0 (by omega)).trans h.1, (hc 1 (by omega)).trans h.2⟩
theorem VerE.moves {R : BP} : Moves 8 (VerE R) (Kept R) where
  cell := fun w b o x h j hj => by
    obtain ⟨dv, hd, h0, h1, h2, h3, h4, h5, h6, h7⟩ := h
    obtain ⟨a, c, rfl⟩ := hd.len
    have : j = 0 ∨ j = 1 ∨ j = 2 ∨ j = 3 ∨ j = 4 ∨ j = 5 ∨ j = 6 ∨ j = 7 := by omega
    rcases this with rfl | rfl | rfl | rfl | rfl | rfl | rfl | rfl
    · exact ⟨_, h0, rfl⟩
    · exact ⟨_, h1, rfl⟩
    · exact ⟨_, h2, rfl⟩
    · exact ⟨_, h3, rfl⟩
    · exact ⟨_, h4, rfl⟩
    · exact ⟨_, h5, rfl⟩
    · exact ⟨_, h6, rfl⟩
    · exact ⟨_, h7, rfl⟩
  move := fun w w' b o b' o' x h hk hc => by
    obtain ⟨dv, hd, h0, h1, h2, h3, h4, h5, h6, h7⟩ := h
    exact ⟨dv, hd.kept hk, (hc 0 (by omega)).trans h0, (hc 1 (by omega)).trans h1, (hc 2 (by omega)).trans h2, (hc 3 (by omega)).trans h3, (hc 4 (by omega)).trans h4, (hc 5 (by omega)).trans h5, (hc 6 (by omega)).trans h6, (hc 7 (by omega)).trans h7⟩
theorem TrnE.moves {R : BP} : Moves 8 (TrnE R) (Kept R) where
  cell := fun w b o x h j hj => by
    obtain ⟨dv, hd, h0, h1, h2, h3, h4, h5, h6, h7⟩ := h
    obtain ⟨a, c, rfl⟩ := hd.len
    have : j = 0 ∨ j = 1 ∨ j = 2 ∨ j = 3 ∨ j = 4 ∨ j = 5 ∨ j = 6 ∨ j = 7 := by omega
    rcases this with rfl | rfl | rfl | rfl | rfl | rfl | rfl | rfl
    · exact ⟨_, h0, rfl⟩
    · exact ⟨_, h1, rfl⟩
    · exact ⟨_, h2, rfl⟩
    · exact ⟨_, h3, rfl⟩
    · exact ⟨_, h4, rfl⟩
    · exact ⟨_, h5, rfl⟩
    · exact ⟨_, h6, rfl⟩
    · exact ⟨_, h7, rfl⟩
  move := fun w w' b o b' o' x h hk hc => by
    obtain ⟨dv, hd, h0, h1, h2, h3, h4, h5, h6, h7⟩ := h
    exact ⟨dv, hd.kept hk, (hc 0 (by omega)).trans h0, (hc 1 (by omega)).trans h1, (hc 2 (by omega)).trans h2, (hc 3 (by omega)).trans h3, (hc 4 (by omega)).trans h4, (hc 5 (by omega)).trans h5, (hc 6 (by omega)).trans h6, (hc 7 (by omega)).trans h7⟩
/-- Texts, numbers as elements of one cell. -/
def TxtE (w : World) (b o : Nat) (x : ByteArray) : Prop := w.cell? ⟨b, o, none⟩ = some (.string x)
def NumE (w : World) (b o : Nat) (x : Int) : Prop := w.cell? ⟨b, o, none⟩ = some (.int .i64 x)
theorem SlS.sl {Q : BP} {w : World} {v : Value} {l : List ByteArray} : SlS Q w v l ↔ Sl Q 1 TxtE w v l := by
  unfold SlS Sl TxtE; simp only [Nat.mul_one]
theorem SlI.sl {Q : BP} {w : World} {v : Value} {l : List Int} : SlI Q w v l ↔ Sl Q 1 NumE w v l := by
  unfold SlI Sl NumE; simp only [Nat.mul_one]
theorem TxtE.moves : Moves 1 TxtE fun _ _ => True where
  cell := fun w b o x h j hj => by
    obtain rfl : j = 0 := by omega
    exact ⟨_, h, rfl⟩
  move := fun w w' b o b' o' x h _ hc => (hc 0 (by omega)).trans h
theorem NumE.moves : Moves 1 NumE fun _ _ => True where
  cell := fun w b o x h j hj => by
    obtain rfl : j = 0 := by omega
    exact ⟨_, h, rfl⟩
  move := fun w w' b o b' o' x h _ hc => (hc 0 (by omega)).trans h

theorem info_Var : (Tryd.prog.info? 82).map (fun i => (i.zero, i.size, i.bytes)) = some (some (.agg #[.string ⟨#[]⟩, .int .i64 0]), 2, 24) := by kernel_rfl
theorem info_Reg : (Tryd.prog.info? 75).map (fun i => (i.zero, i.size, i.bytes)) = some (some (.agg #[.string ⟨#[]⟩, .int .i64 0]), 2, 24) := by kernel_rfl
theorem info_Ver : (Tryd.prog.info? 65).map (fun i => (i.zero, i.size, i.bytes)) = some (some (.agg #[.string ⟨#[]⟩, .int .u8 0, .int .i64 0, .int .i64 0, .string ⟨#[]⟩, .string ⟨#[]⟩, .slice none 0 0, .string ⟨#[]⟩]), 8, 112) := by kernel_rfl
theorem info_Trn : (Tryd.prog.info? 46).map (fun i => (i.zero, i.size, i.bytes)) = some (some (.agg #[.string ⟨#[]⟩, .int .i64 0, .int .i64 0, .slice none 0 0, .int .i64 0, .string ⟨#[]⟩, .string ⟨#[]⟩, .int .u8 0]), 8, 104) := by kernel_rfl
theorem info_Txt : (Tryd.prog.info? 9).map (fun i => (i.zero, i.size, i.bytes)) = some (some (.string ⟨#[]⟩), 1, 16) := by kernel_rfl
theorem info_Num : (Tryd.prog.info? 3).map (fun i => (i.zero, i.size, i.bytes)) = some (some (.int .i64 0), 1, 8) := by kernel_rfl
/-- What a clone is. -/
def CloneP {α : Type} (sz : Nat) (E : World → Nat → Nat → α → Prop) (l : List α) (w : World) (e : Ending) (w' : World) : Prop :=
  ∃ a c, e = .returned (.slice a l.length c) ∧ Sl (NewB w.heap.size w'.heap.size) sz E w' (.slice a l.length c) l ∧ Below w.heap.size w w'
/-- 'slices.Clone': the same cells, in memory of its own. -/
theorem cloneVar_some (ad : Addr) (n c : Nat) (news : List Value) (w : World) (hl : news.length = n * 2) (hn : n ≤ 100000) (hc : ∀ j u, news[j]? = some u → w.cell? (ad.add j) = some u) (h1 : ∀ u ∈ news, u.oneCell' = true) :
    Calls Tryd.prog 58 #[.slice (some ad) n c] w fun e w' => ∃ v', e = .returned v' ∧ w'.ownsRow w.heap.size 82 2 v' n news ∧ Below w.heap.size w w' := by
  obtain ⟨i0, hi, hz0, hz1, hz2⟩ := info_parts info_Var
  have A : Aside (∀ j u, news[j]? = some u → w.cell? (ad.add j) = some u) := hc
  clear hc
  have q22 : ∀ (w : World) (a : Option Addr) (n c n' c' : Nat), (binOp .eql 22 (.slice a n c) (.slice none n' c')).run Tryd.prog w = .ok (.bool a.isNone) w := fun w a n c n' c' => Lib.run_eql_slice_nil w _ _ a n c n' c' Tryd.underlying22
  go_enter Tryd.func58, Tryd.ntmps58
  go_wp2_with (at_builtin; refine wpList_append_own _ rfl _ _ 22 rfl w.heap.size 82 i0 _ 2 24 Tryd.underlying22 hi hz0 hz1 hz2 rfl (by decide) _ _ _ rfl (World.ownsRow_made w #[] 0 (Nat.le_refl _) (Nat.zero_le _) (by simp)) ad n c news rfl ?qc1 ?qc2 ?qc3 ?qc4 ?qc5 ?qc6 ?_)
  case qc1 => exact hl
  case qc2 =>
    intro j u hj
    exact Lib.cell?_alloc_some _ (A.out j u hj)
  case qc3 => exact h1
  case qc4 => unfold maxLen; omega
  case qc5 => omega
  case qc6 => simp
  intro v' w1 hown hgrow hnil
  go_wp2_with fail
  go_ret
  refine ⟨v', rfl, by simpa using hown, ?_⟩
  exact ((Below.refl _ w).alloc (Nat.le_refl _) _).grown hgrow (by simp) (by intro k hk; simp [Value.ownBlock] at hk; omega)
theorem cloneVar_nil (n c : Nat) (w : World) : Calls Tryd.prog 58 #[.slice none n c] w fun e w' => e = .returned (.slice none 0 0) ∧ w = w' := by
  have q22 : ∀ (w : World) (a : Option Addr) (n c n' c' : Nat), (binOp .eql 22 (.slice a n c) (.slice none n' c')).run Tryd.prog w = .ok (.bool a.isNone) w := fun w a n c n' c' => Lib.run_eql_slice_nil w _ _ a n c n' c' Tryd.underlying22
  go_enter Tryd.func58, Tryd.ntmps58
  go_wp2_with fail
  go_ret
  exact ⟨rfl, rfl⟩
theorem cloneVar {Q R : BP} (a : Option Addr) (c : Nat) (l : List VarD) (w : World) (hl : l.length ≤ 100000) (h : Sl Q 2 VarE w (.slice a l.length c) l) :
    Calls Tryd.prog 58 #[.slice a l.length c] w (CloneP 2 VarE l w) := by
  rcases h.two with ⟨h0, rfl⟩ | ⟨_, b, off, rfl, hb, hq, hx⟩
  · cases a with
    | none =>
      refine (cloneVar_nil _ c w).mono ?_
      rintro e w' ⟨rfl, rfl⟩
      exact ⟨_, _, rfl, .inl ⟨_, _, rfl, rfl⟩, Below.refl _ _⟩
    | some ad =>
      refine (cloneVar_some ad 0 c [] w rfl (by omega) (fun j u hj => by simp at hj) (fun u hu => by cases hu)).mono ?_
      rintro e w' ⟨v', rfl, ho, hg⟩
      obtain ⟨_, ⟨rfl, _⟩ | ⟨g, cap, cur, rfl, _⟩⟩ := ho
      · exact ⟨_, _, rfl, .inl ⟨_, _, rfl, rfl⟩, hg⟩
      · exact ⟨_, _, rfl, .inl ⟨_, _, rfl, rfl⟩, hg⟩
  · obtain ⟨k1, k2⟩ := cellsAt_cell (sl_cells (VarE.moves) hx)
    refine (cloneVar_some ⟨b, off, none⟩ l.length c (cellsAt w b off (l.length * 2)) w (cellsAt_len _ _ _ _) hl k1 k2).mono ?_
    rintro e w' ⟨v', rfl, ho, hg⟩
    obtain ⟨a', c', rfl, hs⟩ := own_sl (T := 82) (VarE.moves) (by decide) hx (by first | trivial | exact Kept.of_below hg) ho
    exact ⟨a', c', rfl, hs, hg⟩
/-- 'slices.Clone': the same cells, in memory of its own. -/
theorem cloneReg_some (ad : Addr) (n c : Nat) (news : List Value) (w : World) (hl : news.length = n * 2) (hn : n ≤ 100000) (hc : ∀ j u, news[j]? = some u → w.cell? (ad.add j) = some u) (h1 : ∀ u ∈ news, u.oneCell' = true) :
    Calls Tryd.prog 60 #[.slice (some ad) n c] w fun e w' => ∃ v', e = .returned v' ∧ w'.ownsRow w.heap.size 75 2 v' n news ∧ Below w.heap.size w w' := by
  obtain ⟨i0, hi, hz0, hz1, hz2⟩ := info_parts info_Reg
  have A : Aside (∀ j u, news[j]? = some u → w.cell? (ad.add j) = some u) := hc
  clear hc
  have q22 : ∀ (w : World) (a : Option Addr) (n c n' c' : Nat), (binOp .eql 24 (.slice a n c) (.slice none n' c')).run Tryd.prog w = .ok (.bool a.isNone) w := fun w a n c n' c' => Lib.run_eql_slice_nil w _ _ a n c n' c' Tryd.underlying24
  go_enter Tryd.func60, Tryd.ntmps60
  go_wp2_with (at_builtin; refine wpList_append_own _ rfl _ _ 24 rfl w.heap.size 75 i0 _ 2 24 Tryd.underlying24 hi hz0 hz1 hz2 rfl (by decide) _ _ _ rfl (World.ownsRow_made w #[] 0 (Nat.le_refl _) (Nat.zero_le _) (by simp)) ad n c news rfl ?qc1 ?qc2 ?qc3 ?qc4 ?qc5 ?qc6 ?_)
  case qc1 => exact hl
  case qc2 =>
    intro j u hj
    exact Lib.cell?_alloc_some _ (A.out j u hj)
  case qc3 => exact h1
  case qc4 => unfold maxLen; omega
  case qc5 => omega
  case qc6 => simp
  intro v' w1 hown hgrow hnil
  go_wp2_with fail
  go_ret
  refine ⟨v', rfl, by simpa using hown, ?_⟩
  exact ((Below.refl _ w).alloc (Nat.le_refl _) _).grown hgrow (by simp) (by intro k hk; simp [Value.ownBlock] at hk; omega)
theorem cloneReg_nil (n c : Nat) (w : World) : Calls Tryd.prog 60 #[.slice none n c] w fun e w' => e = .returned (.slice none 0 0) ∧ w = w' := by
  have q22 : ∀ (w : World) (a : Option Addr) (n c n' c' : Nat), (binOp .eql 24 (.slice a n c) (.slice none n' c')).run Tryd.prog w = .ok (.bool a.isNone) w := fun w a n c n' c' => Lib.run_eql_slice_nil w _ _ a n c n' c' Tryd.underlying24
  go_enter Tryd.func60, Tryd.ntmps60
  go_wp2_with fail
  go_ret
  exact ⟨rfl, rfl⟩
theorem cloneReg {Q R : BP} (a : Option Addr) (c : Nat) (l : List RegD) (w : World) (hl : l.length ≤ 100000) (h : Sl Q 2 RegE w (.slice a l.length c) l) :
    Calls Tryd.prog 60 #[.slice a l.length c] w (CloneP 2 RegE l w) := by
  rcases h.two with ⟨h0, rfl⟩ | ⟨_, b, off, rfl, hb, hq, hx⟩
  · cases a with
    | none =>
      refine (cloneReg_nil _ c w).mono ?_
      rintro e w' ⟨rfl, rfl⟩
      exact ⟨_, _, rfl, .inl ⟨_, _, rfl, rfl⟩, Below.refl _ _⟩
    | some ad =>
      refine (cloneReg_some ad 0 c [] w rfl (by omega) (fun j u hj => by simp at hj) (fun u hu => by cases hu)).mono ?_
      rintro e w' ⟨v', rfl, ho, hg⟩
      obtain ⟨_, ⟨rfl, _⟩ | ⟨g, cap, cur, rfl, _⟩⟩ := ho
      · exact ⟨_, _, rfl, .inl ⟨_, _, rfl, rfl⟩, hg⟩
      · exact ⟨_, _, rfl, .inl ⟨_, _, rfl, rfl⟩, hg⟩
  · obtain ⟨k1, k2⟩ := cellsAt_cell (sl_cells (RegE.moves) hx)
    refine (cloneReg_some ⟨b, off, none⟩ l.length c (cellsAt w b off (l.length * 2)) w (cellsAt_len _ _ _ _) hl k1 k2).mono ?_
    rintro e w' ⟨v', rfl, ho, hg⟩
    obtain ⟨a', c', rfl, hs⟩ := own_sl (T := 75) (RegE.moves) (by decide) hx (by first | trivial | exact Kept.of_below hg) ho
    exact ⟨a', c', rfl, hs, hg⟩
/-- 'slices.Clone': the same cells, in memory of its own. -/
theorem cloneVer_some (ad : Addr) (n c : Nat) (news : List Value) (w : World) (hl : news.length = n * 8) (hn : n ≤ 100000) (hc : ∀ j u, news[j]? = some u → w.cell? (ad.add j) = some u) (h1 : ∀ u ∈ news, u.oneCell' = true) :
    Calls Tryd.prog 61 #[.slice (some ad) n c] w fun e w' => ∃ v', e = .returned v' ∧ w'.ownsRow w.heap.size 65 8 v' n news ∧ Below w.heap.size w w' := by
  obtain ⟨i0, hi, hz0, hz1, hz2⟩ := info_parts info_Ver
  have A : Aside (∀ j u, news[j]? = some u → w.cell? (ad.add j) = some u) := hc
  clear hc
  have q22 : ∀ (w : World) (a : Option Addr) (n c n' c' : Nat), (binOp .eql 25 (.slice a n c) (.slice none n' c')).run Tryd.prog w = .ok (.bool a.isNone) w := fun w a n c n' c' => Lib.run_eql_slice_nil w _ _ a n c n' c' Tryd.underlying25
  go_enter Tryd.func61, Tryd.ntmps61
  go_wp2_with (at_builtin; refine wpList_append_own _ rfl _ _ 25 rfl w.heap.size 65 i0 _ 8 112 Tryd.underlying25 hi hz0 hz1 hz2 rfl (by decide) _ _ _ rfl (World.ownsRow_made w #[] 0 (Nat.le_refl _) (Nat.zero_le _) (by simp)) ad n c news rfl ?qc1 ?qc2 ?qc3 ?qc4 ?qc5 ?qc6 ?_)
  case qc1 => exact hl
  case qc2 =>
    intro j u hj
    exact Lib.cell?_alloc_some _ (A.out j u hj)
  case qc3 => exact h1
  case qc4 => unfold maxLen; omega
  case qc5 => omega
  case qc6 => simp
  intro v' w1 hown hgrow hnil
  go_wp2_with fail
  go_ret
  refine ⟨v', rfl, by simpa using hown, ?_⟩
  exact ((Below.refl _ w).alloc (Nat.le_refl _) _).grown hgrow (by simp) (by intro k hk; simp [Value.ownBlock] at hk; omega)
theorem cloneVer_nil (n c : Nat) (w : World) : Calls Tryd.prog 61 #[.slice none n c] w fun e w' => e = .returned (.slice none 0 0) ∧ w = w' := by
  have q22 : ∀ (w : World) (a : Option Addr) (n c n' c' : Nat), (binOp .eql 25 (.slice a n c) (.slice none n' c')).run Tryd.prog w = .ok (.bool a.isNone) w := fun w a n c n' c' => Lib.run_eql_slice_nil w _ _ a n c n' c' Tryd.underlying25
  go_enter Tryd.func61, Tryd.ntmps61
  go_wp2_with fail
  go_ret
  exact ⟨rfl, rfl⟩
theorem cloneVer {Q R : BP} (a : Option Addr) (c : Nat) (l : List VerD) (w : World) (hl : l.length ≤ 100000) (h : Sl Q 8 (VerE R) w (.slice a l.length c) l) :
    Calls Tryd.prog 61 #[.slice a l.length c] w (CloneP 8 (VerE R) l w) := by
  rcases h.two with ⟨h0, rfl⟩ | ⟨_, b, off, rfl, hb, hq, hx⟩
  · cases a with
    | none =>
      refine (cloneVer_nil _ c w).mono ?_
      rintro e w' ⟨rfl, rfl⟩
      exact ⟨_, _, rfl, .inl ⟨_, _, rfl, rfl⟩, Below.refl _ _⟩
    | some ad =>
      refine (cloneVer_some ad 0 c [] w rfl (by omega) (fun j u hj => by simp at hj) (fun u hu => by cases hu)).mono ?_
      rintro e w' ⟨v', rfl, ho, hg⟩
      obtain ⟨_, ⟨rfl, _⟩ | ⟨g, cap, cur, rfl, _⟩⟩ := ho
      · exact ⟨_, _, rfl, .inl ⟨_, _, rfl, rfl⟩, hg⟩
      · exact ⟨_, _, rfl, .inl ⟨_, _, rfl, rfl⟩, hg⟩
  · obtain ⟨k1, k2⟩ := cellsAt_cell (sl_cells (VerE.moves) hx)
    refine (cloneVer_some ⟨b, off, none⟩ l.length c (cellsAt w b off (l.length * 8)) w (cellsAt_len _ _ _ _) hl k1 k2).mono ?_
    rintro e w' ⟨v', rfl, ho, hg⟩
    obtain ⟨a', c', rfl, hs⟩ := own_sl (T := 65) (VerE.moves) (by decide) hx (by first | trivial | exact Kept.of_below hg) ho
    exact ⟨a', c', rfl, hs, hg⟩
/-- 'slices.Clone': the same cells, in memory of its own. -/
theorem cloneTrn_some (ad : Addr) (n c : Nat) (news : List Value) (w : World) (hl : news.length = n * 8) (hn : n ≤ 100000) (hc : ∀ j u, news[j]? = some u → w.cell? (ad.add j) = some u) (h1 : ∀ u ∈ news, u.oneCell' = true) :
    Calls Tryd.prog 62 #[.slice (some ad) n c] w fun e w' => ∃ v', e = .returned v' ∧ w'.ownsRow w.heap.size 46 8 v' n news ∧ Below w.heap.size w w' := by
  obtain ⟨i0, hi, hz0, hz1, hz2⟩ := info_parts info_Trn
  have A : Aside (∀ j u, news[j]? = some u → w.cell? (ad.add j) = some u) := hc
  clear hc
  have q22 : ∀ (w : World) (a : Option Addr) (n c n' c' : Nat), (binOp .eql 26 (.slice a n c) (.slice none n' c')).run Tryd.prog w = .ok (.bool a.isNone) w := fun w a n c n' c' => Lib.run_eql_slice_nil w _ _ a n c n' c' Tryd.underlying26
  go_enter Tryd.func62, Tryd.ntmps62
  go_wp2_with (at_builtin; refine wpList_append_own _ rfl _ _ 26 rfl w.heap.size 46 i0 _ 8 104 Tryd.underlying26 hi hz0 hz1 hz2 rfl (by decide) _ _ _ rfl (World.ownsRow_made w #[] 0 (Nat.le_refl _) (Nat.zero_le _) (by simp)) ad n c news rfl ?qc1 ?qc2 ?qc3 ?qc4 ?qc5 ?qc6 ?_)
  case qc1 => exact hl
  case qc2 =>
    intro j u hj
    exact Lib.cell?_alloc_some _ (A.out j u hj)
  case qc3 => exact h1
  case qc4 => unfold maxLen; omega
  case qc5 => omega
  case qc6 => simp
  intro v' w1 hown hgrow hnil
  go_wp2_with fail
  go_ret
  refine ⟨v', rfl, by simpa using hown, ?_⟩
  exact ((Below.refl _ w).alloc (Nat.le_refl _) _).grown hgrow (by simp) (by intro k hk; simp [Value.ownBlock] at hk; omega)
theorem cloneTrn_nil (n c : Nat) (w : World) : Calls Tryd.prog 62 #[.slice none n c] w fun e w' => e = .returned (.slice none 0 0) ∧ w = w' := by
  have q22 : ∀ (w : World) (a : Option Addr) (n c n' c' : Nat), (binOp .eql 26 (.slice a n c) (.slice none n' c')).run Tryd.prog w = .ok (.bool a.isNone) w := fun w a n c n' c' => Lib.run_eql_slice_nil w _ _ a n c n' c' Tryd.underlying26
  go_enter Tryd.func62, Tryd.ntmps62
  go_wp2_with fail
  go_ret
  exact ⟨rfl, rfl⟩
theorem cloneTrn {Q R : BP} (a : Option Addr) (c : Nat) (l : List TrnD) (w : World) (hl : l.length ≤ 100000) (h : Sl Q 8 (TrnE R) w (.slice a l.length c) l) :
    Calls Tryd.prog 62 #[.slice a l.length c] w (CloneP 8 (TrnE R) l w) := by
  rcases h.two with ⟨h0, rfl⟩ | ⟨_, b, off, rfl, hb, hq, hx⟩
  · cases a with
    | none =>
      refine (cloneTrn_nil _ c w).mono ?_
      rintro e w' ⟨rfl, rfl⟩
      exact ⟨_, _, rfl, .inl ⟨_, _, rfl, rfl⟩, Below.refl _ _⟩
    | some ad =>
      refine (cloneTrn_some ad 0 c [] w rfl (by omega) (fun j u hj => by simp at hj) (fun u hu => by cases hu)).mono ?_
      rintro e w' ⟨v', rfl, ho, hg⟩
      obtain ⟨_, ⟨rfl, _⟩ | ⟨g, cap, cur, rfl, _⟩⟩ := ho
      · exact ⟨_, _, rfl, .inl ⟨_, _, rfl, rfl⟩, hg⟩
      · exact ⟨_, _, rfl, .inl ⟨_, _, rfl, rfl⟩, hg⟩
  · obtain ⟨k1, k2⟩ := cellsAt_cell (sl_cells (TrnE.moves) hx)
    refine (cloneTrn_some ⟨b, off, none⟩ l.length c (cellsAt w b off (l.length * 8)) w (cellsAt_len _ _ _ _) hl k1 k2).mono ?_
    rintro e w' ⟨v', rfl, ho, hg⟩
    obtain ⟨a', c', rfl, hs⟩ := own_sl (T := 46) (TrnE.moves) (by decide) hx (by first | trivial | exact Kept.of_below hg) ho
    exact ⟨a', c', rfl, hs, hg⟩
/-- 'slices.Clone': the same cells, in memory of its own. -/
theorem cloneTxt_some (ad : Addr) (n c : Nat) (news : List Value) (w : World) (hl : news.length = n * 1) (hn : n ≤ 100000) (hc : ∀ j u, news[j]? = some u → w.cell? (ad.add j) = some u) (h1 : ∀ u ∈ news, u.oneCell' = true) :
    Calls Tryd.prog 59 #[.slice (some ad) n c] w fun e w' => ∃ v', e = .returned v' ∧ w'.ownsRow w.heap.size 9 1 v' n news ∧ Below w.heap.size w w' := by
  obtain ⟨i0, hi, hz0, hz1, hz2⟩ := info_parts info_Txt
  have A : Aside (∀ j u, news[j]? = some u → w.cell? (ad.add j) = some u) := hc
  clear hc
  have q22 : ∀ (w : World) (a : Option Addr) (n c n' c' : Nat), (binOp .eql 23 (.slice a n c) (.slice none n' c')).run Tryd.prog w = .ok (.bool a.isNone) w := fun w a n c n' c' => Lib.run_eql_slice_nil w _ _ a n c n' c' Tryd.underlying23
  go_enter Tryd.func59, Tryd.ntmps59
  go_wp2_with (at_builtin; refine wpList_append_own _ rfl _ _ 23 rfl w.heap.size 9 i0 _ 1 16 Tryd.underlying23 hi hz0 hz1 hz2 rfl (by decide) _ _ _ rfl (World.ownsRow_made w #[] 0 (Nat.le_refl _) (Nat.zero_le _) (by simp)) ad n c news rfl ?qc1 ?qc2 ?qc3 ?qc4 ?qc5 ?qc6 ?_)
  case qc1 => exact hl
  case qc2 =>
    intro j u hj
    exact Lib.cell?_alloc_some _ (A.out j u hj)
  case qc3 => exact h1
  case qc4 => unfold maxLen; omega
  case qc5 => omega
  case qc6 => simp
  intro v' w1 hown hgrow hnil
  go_wp2_with fail
  go_ret
  refine ⟨v', rfl, by simpa using hown, ?_⟩
  exact ((Below.refl _ w).alloc (Nat.le_refl _) _).grown hgrow (by simp) (by intro k hk; simp [Value.ownBlock] at hk; omega)
theorem cloneTxt_nil (n c : Nat) (w : World) : Calls Tryd.prog 59 #[.slice none n c] w fun e w' => e = .returned (.slice none 0 0) ∧ w = w' := by
  have q22 : ∀ (w : World) (a : Option Addr) (n c n' c' : Nat), (binOp .eql 23 (.slice a n c) (.slice none n' c')).run Tryd.prog w = .ok (.bool a.isNone) w := fun w a n c n' c' => Lib.run_eql_slice_nil w _ _ a n c n' c' Tryd.underlying23
  go_enter Tryd.func59, Tryd.ntmps59
  go_wp2_with fail
  go_ret
  exact ⟨rfl, rfl⟩
theorem cloneTxt {Q R : BP} (a : Option Addr) (c : Nat) (l : List ByteArray) (w : World) (hl : l.length ≤ 100000) (h : Sl Q 1 TxtE w (.slice a l.length c) l) :
    Calls Tryd.prog 59 #[.slice a l.length c] w (CloneP 1 TxtE l w) := by
  rcases h.two with ⟨h0, rfl⟩ | ⟨_, b, off, rfl, hb, hq, hx⟩
  · cases a with
    | none =>
      refine (cloneTxt_nil _ c w).mono ?_
      rintro e w' ⟨rfl, rfl⟩
      exact ⟨_, _, rfl, .inl ⟨_, _, rfl, rfl⟩, Below.refl _ _⟩
    | some ad =>
      refine (cloneTxt_some ad 0 c [] w rfl (by omega) (fun j u hj => by simp at hj) (fun u hu => by cases hu)).mono ?_
      rintro e w' ⟨v', rfl, ho, hg⟩
      obtain ⟨_, ⟨rfl, _⟩ | ⟨g, cap, cur, rfl, _⟩⟩ := ho
      · exact ⟨_, _, rfl, .inl ⟨_, _, rfl, rfl⟩, hg⟩
      · exact ⟨_, _, rfl, .inl ⟨_, _, rfl, rfl⟩, hg⟩
  · obtain ⟨k1, k2⟩ := cellsAt_cell (sl_cells (TxtE.moves) hx)
    refine (cloneTxt_some ⟨b, off, none⟩ l.length c (cellsAt w b off (l.length * 1)) w (cellsAt_len _ _ _ _) hl k1 k2).mono ?_
    rintro e w' ⟨v', rfl, ho, hg⟩
    obtain ⟨a', c', rfl, hs⟩ := own_sl (T := 9) (TxtE.moves) (by decide) hx (by first | trivial | exact Kept.of_below hg) ho
    exact ⟨a', c', rfl, hs, hg⟩
/-- 'slices.Clone': the same cells, in memory of its own. -/
theorem cloneNum_some (ad : Addr) (n c : Nat) (news : List Value) (w : World) (hl : news.length = n * 1) (hn : n ≤ 100000) (hc : ∀ j u, news[j]? = some u → w.cell? (ad.add j) = some u) (h1 : ∀ u ∈ news, u.oneCell' = true) :
    Calls Tryd.prog 79 #[.slice (some ad) n c] w fun e w' => ∃ v', e = .returned v' ∧ w'.ownsRow w.heap.size 3 1 v' n news ∧ Below w.heap.size w w' := by
  obtain ⟨i0, hi, hz0, hz1, hz2⟩ := info_parts info_Num
  have A : Aside (∀ j u, news[j]? = some u → w.cell? (ad.add j) = some u) := hc
  clear hc
  have q22 : ∀ (w : World) (a : Option Addr) (n c n' c' : Nat), (binOp .eql 49 (.slice a n c) (.slice none n' c')).run Tryd.prog w = .ok (.bool a.isNone) w := fun w a n c n' c' => Lib.run_eql_slice_nil w _ _ a n c n' c' Tryd.underlying49
  go_enter Tryd.func79, Tryd.ntmps79
  go_wp2_with (at_builtin; refine wpList_append_own _ rfl _ _ 49 rfl w.heap.size 3 i0 _ 1 8 Tryd.underlying49 hi hz0 hz1 hz2 rfl (by decide) _ _ _ rfl (World.ownsRow_made w #[] 0 (Nat.le_refl _) (Nat.zero_le _) (by simp)) ad n c news rfl ?qc1 ?qc2 ?qc3 ?qc4 ?qc5 ?qc6 ?_)
  case qc1 => exact hl
  case qc2 =>
    intro j u hj
    exact Lib.cell?_alloc_some _ (A.out j u hj)
  case qc3 => exact h1
  case qc4 => unfold maxLen; omega
  case qc5 => omega
  case qc6 => simp
  intro v' w1 hown hgrow hnil
  go_wp2_with fail
  go_ret
  refine ⟨v', rfl, by simpa using hown, ?_⟩
  exact ((Below.refl _ w).alloc (Nat.le_refl _) _).grown hgrow (by simp) (by intro k hk; simp [Value.ownBlock] at hk; omega)
theorem cloneNum_nil (n c : Nat) (w : World) : Calls Tryd.prog 79 #[.slice none n c] w fun e w' => e = .returned (.slice none 0 0) ∧ w = w' := by
  have q22 : ∀ (w : World) (a : Option Addr) (n c n' c' : Nat), (binOp .eql 49 (.slice a n c) (.slice none n' c')).run Tryd.prog w = .ok (.bool a.isNone) w := fun w a n c n' c' => Lib.run_eql_slice_nil w _ _ a n c n' c' Tryd.underlying49
  go_enter Tryd.func79, Tryd.ntmps79
  go_wp2_with fail
  go_ret
  exact ⟨rfl, rfl⟩
theorem cloneNum {Q R : BP} (a : Option Addr) (c : Nat) (l : List Int) (w : World) (hl : l.length ≤ 100000) (h : Sl Q 1 NumE w (.slice a l.length c) l) :
    Calls Tryd.prog 79 #[.slice a l.length c] w (CloneP 1 NumE l w) := by
  rcases h.two with ⟨h0, rfl⟩ | ⟨_, b, off, rfl, hb, hq, hx⟩
  · cases a with
    | none =>
      refine (cloneNum_nil _ c w).mono ?_
      rintro e w' ⟨rfl, rfl⟩
      exact ⟨_, _, rfl, .inl ⟨_, _, rfl, rfl⟩, Below.refl _ _⟩
    | some ad =>
      refine (cloneNum_some ad 0 c [] w rfl (by omega) (fun j u hj => by simp at hj) (fun u hu => by cases hu)).mono ?_
      rintro e w' ⟨v', rfl, ho, hg⟩
      obtain ⟨_, ⟨rfl, _⟩ | ⟨g, cap, cur, rfl, _⟩⟩ := ho
      · exact ⟨_, _, rfl, .inl ⟨_, _, rfl, rfl⟩, hg⟩
      · exact ⟨_, _, rfl, .inl ⟨_, _, rfl, rfl⟩, hg⟩
  · obtain ⟨k1, k2⟩ := cellsAt_cell (sl_cells (NumE.moves) hx)
    refine (cloneNum_some ⟨b, off, none⟩ l.length c (cellsAt w b off (l.length * 1)) w (cellsAt_len _ _ _ _) hl k1 k2).mono ?_
    rintro e w' ⟨v', rfl, ho, hg⟩
    obtain ⟨a', c', rfl, hs⟩ := own_sl (T := 3) (NumE.moves) (by decide) hx (by first | trivial | exact Kept.of_below hg) ho
    exact ⟨a', c', rfl, hs, hg⟩
end Go.Proofs
