/- Walks: a row out of the iterator 'left'; 'Exits'. -/
import Derived.Test.YtodbdacdnoeheaaDoorCSeL
import Derived.Test.YtodbdacdnoeheaaDoorCSeA
import Derived.OwnWalkIn
namespace Go.Proofs
open Go.RowKit Go.Lx Go.Md Go.Shelf Go.Rfu
set_option linter.unusedVariables false
attribute [local go_sem] Oper.semAt_some
theorem wpListIn_append_row {F : Fence} {n : Nat} {P : Program} (w : World) {ops : Array Oper} {rest : List Oper} {o : Oper} {a : Act} {Q : Exit → Act → World → Prop} (hgd : o.guard = none) (s x : Operand) (t : TypeId)
    (ho : o.op = .call { callee := .builtin .append, args := #[s, x], argTypes := #[t, t] }) (e : TypeId) (N : Nat) (i : TypeInfo) (z : Value) (ht : P.underlying t = some (.slice e)) (hi : P.info? e = some i) (hz : i.zero = some z) (hsize : i.size = 1) (hby : i.bytes = 8) (hzs : z.cells.size = 1)
    (v : Value) (l : List Int) (hs : a.eval s = v) (hown : w.ownsRow N e 1 v l.length (nums l)) (xv : Value) (r : List Int) (hx : a.eval x = xv) (hr : RowIn w xv r) (h63 : l.length + r.length ≤ 1000000) (hN : N ≤ w.heap.size)
    (h : ∀ v' w', w'.ownsRow N e 1 v' (l ++ r).length (nums (l ++ r)) → w.grownBy w' v.ownBlock → Nxt v v' w.heap.size → wpListIn F n P ops Q rest (a.put o.dst v') w') : wpListIn F n P ops Q (o :: rest) a w := by
  refine wpListIn_plain hgd fun K hK' => ?_
  obtain ⟨v', w', h1, h2, h3, h4⟩ := run_append_row (P := P) w t o.type e N i z ht hi hz hsize hby hzs v l hown xv r hr h63 hN
  unfold Oper.wpIn
  refine ⟨?_, ?_⟩
  · simp [Oper.about, ho, resolve, Target.leads, Sem.run_pure]
  · rw [Oper.semAt_plain F _ _ (by rw [ho]; intro c hc'; cases hc')]
    simp [execOp, ho, resolve, invoke, builtin, hs, hx, h1, Result.andThen]
    exact hK' _ _ (h v' w' h2 h3 h4)
/-- A row on its way, apart from what the iterator holds. -/
structure CoSt (xs : List Int) (w : World) (k : Nat) (S : Nat → Prop) (W : World) : Prop where
  bel : Below w.heap.size w W
  sz : w.heap.size + 1 ≤ W.heap.size
  fr : W.frozen? ⟨w.heap.size, 0, none⟩ = false
  row : ∃ v', W.cell? ⟨w.heap.size, 0, none⟩ = some v' ∧ W.ownsRow (w.heap.size + 1) 3 1 v' (xs.take k).length (nums (xs.take k)) ∧ ∀ g, v'.ownBlock = some g → ¬ S g
  lo : ∀ b, S b → w.heap.size < b
theorem CoSt.turn {xs : List Int} {w : World} {k : Nat} {S S' : Nat → Prop} {W W' : World} (h : CoSt xs w k S W) (t : Turn0 (w.heap.size + 1) W W') (g : Grow S S' W W') : CoSt xs w k S' W' := by
  obtain ⟨v', h1, h2, h3⟩ := h.row
  have hz := h.sz
  refine ⟨t.below h.bel (by omega), Nat.le_trans h.sz t.size, (World.frozen?_of_block (w := W) (t.old _ (by simp only; omega))).trans h.fr, ⟨v', (cellK (t.old w.heap.size (by omega))).trans h1, ⟨h2.1, ?_⟩, fun b hb hS => ?_⟩, fun b hb => (g b hb).elim (h.lo b) (fun h => by omega)⟩
  · rcases h2.2 with hn | ⟨g', cap, cur, e, hb, hg, r⟩
    · exact .inl hn
    · exact .inr ⟨g', cap, cur, e, hb, t.data g' _ hg rfl, r⟩
  · rcases g b hS with h | h
    · exact h3 b hb h
    · have := (h2.lt b hb).2; omega
theorem CoSt.push {xs : List Int} {w : World} {k : Nat} {S : Nat → Prop} {W w2 : World} {v' v2 : Value} {o : Obj} (hS : ∀ b, S b → b < W.heap.size) (h : CoSt xs w k S W) (hk : k < xs.length) (h1 : W.cell? ⟨w.heap.size, 0, none⟩ = some v') (h2 : W.ownsRow (w.heap.size + 1) 3 1 v' (xs.take k).length (nums (xs.take k))) (h3 : ∀ g, v'.ownBlock = some g → ¬ S g)
    (hown : w2.ownsRow (w.heap.size + 1) 3 1 v2 (xs.take k ++ [xs[k]]).length (nums (xs.take k ++ [xs[k]]))) (hg : (W.alloc o).grownBy w2 v'.ownBlock) (hn : Nxt v' v2 (W.alloc o).heap.size) :
    w2.cell? ⟨w.heap.size, 0, none⟩ = some v' ∧ w2.frozen? ⟨w.heap.size, 0, none⟩ = false ∧ (∀ b, S b → (w2.setCell ⟨w.heap.size, 0, none⟩ v2).heap[b]? = W.heap[b]?) ∧ CoSt xs w (k + 1) S (w2.setCell ⟨w.heap.size, 0, none⟩ v2) := by
  have hz := h.sz
  have hlt := fun q hq => h2.lt q hq
  have hbk : ∀ b, b < W.heap.size → v'.ownBlock ≠ some b → w2.heap[b]? = W.heap[b]? := fun b hb hn => (hg.block b (by simp; omega) (fun e => hn e.symm)).trans (Below.heap_alloc W o b hb)
  have hnH : ∀ b, b ≤ w.heap.size → v'.ownBlock ≠ some b := fun b hb e => by have := (hlt b e).1; omega
  have hcH : w2.cell? ⟨w.heap.size, 0, none⟩ = some v' := (cellK (hbk _ (by omega) (hnH _ (Nat.le_refl _)))).trans h1
  have hfH : w2.frozen? ⟨w.heap.size, 0, none⟩ = false := (World.frozen?_of_block (w := W) (hbk w.heap.size (by omega) (hnH _ (Nat.le_refl _)))).trans h.fr
  have hsz2 : W.heap.size ≤ w2.heap.size := by have := hg.size; simp at this; omega
  have hB : Below w.heap.size w w2 := h.bel.trans (((Below.refl w.heap.size W).alloc (by omega) o).grown hg (by simp; omega) (fun q hq => by have := (hlt q hq).1; omega))
  have hset : ∀ b, b ≠ w.heap.size → (w2.setCell ⟨w.heap.size, 0, none⟩ v2).heap[b]? = w2.heap[b]? := fun b hb => Below.heap_setCell _ _ _ _ hb
  refine ⟨hcH, hfH, fun b hb => ?_, ⟨hB.setCell (p := ⟨w.heap.size, 0, none⟩) (Nat.le_refl _) _, by simp; omega, by rw [World.frozen?_setCell]; exact hfH, ⟨v2, World.cell?_setCell_same _ _ _ hcH, ?_, fun b hb hSb => ?_⟩, h.lo⟩⟩
  · exact (hset b (by have := h.lo b hb; omega)).trans (hbk b (hS b hb) (fun e => h3 b e hb))
  · rw [List.take_succ_eq_append_getElem hk]
    exact ownsRow_setCell_below (a := ⟨w.heap.size, 0, none⟩) hown (by simp only; omega) _
  · rcases hn with hn | hn
    · exact h3 b (by rw [← hn]; exact hb) hSb
    · have := hn b hb; have := hS b hSb; simp at *; omega
set_option maxRecDepth 100000 in
set_option maxHeartbeats 2000000 in
/-- 'AppendSeq' over the iterator, from nothing. -/
theorem append_left {xs : List Int} {U : World → Prop} {Bc Br Bs : Nat} (hseq : SeqB Tryd.prog 44 #[.pointer (some ⟨Bc, 0, none⟩), .pointer (some ⟨Br, 0, none⟩), .pointer (some ⟨Bs, 0, none⟩)] xs U) (w : World) (hU : ∀ W, Below w.heap.size w W → U W) (hl : xs.length ≤ 100000) :
    Calls Tryd.prog 43 #[.slice none 0 0, .func (.func 44) #[] #[.pointer (some ⟨Bc, 0, none⟩), .pointer (some ⟨Br, 0, none⟩), .pointer (some ⟨Bs, 0, none⟩)]] w (RowP xs w) := by
  obtain ⟨iI, hiI, zI0, zI1, zI2⟩ := info_parts info_Num
  have HSeq := Lib.hid hseq
  have HU := Lib.hid hU
  clear hseq hU
  refine calls_of_marks Tryd.func43 rfl ?_
  simp only [Tryd.ntmps43, List.size_toArray, List.length_cons, List.length_nil, Nat.reduceAdd, Nat.reduceSub, Array.replicate_succ, Array.replicate_zero, List.push_toArray, List.append_toArray, List.nil_append, List.cons_append]
  go_wp2_with fail
  have HSt : Hid (CoSt xs w 0 (fun _ => False) (w.alloc (.cells #[.slice none 0 0] 29))) := Lib.hid ⟨below_al1 w _, by simp, by simp, ⟨_, by simp, World.ownsRow_nil _ _ _ _, fun _ _ h => h⟩, fun _ h => h.elim⟩
  have hz1 : (w.alloc (.cells #[.slice none 0 0] 29)).heap.size = w.heap.size + 1 := by simp
  generalize w.alloc (.cells #[.slice none 0 0] 29) = w1 at *
  refine wp_rangeB_to (q := 5) (gf := 44) (lb := #[.pointer (some ⟨Bc, 0, none⟩), .pointer (some ⟨Br, 0, none⟩), .pointer (some ⟨Bs, 0, none⟩)]) rfl (fun _ _ => ?eg) xs U HSeq.out (CoSt xs w) (fun _ => False)
    (fun k S W h => HU.out W h.bel) (fun k S W S' W' h t g => h.turn (t.mono (by omega)) g) (fun _ _ h _ => h) HSt.out ?hassign ?hbody ?hdone (fun _ _ _ h _ => h.elim)
  case eg => first | rfl | simp [go_sem]
  case hassign =>
    intro l x W K hK
    simp only [List.setIfInBounds_toArray, List.set_cons_succ, List.set_cons_zero] at hK ⊢
    gi_wp2
    exact hK
  case hbody =>
    intro l k S W hk hS hst
    obtain ⟨v', hc, hrow, hnS⟩ := hst.row
    have hsz := hst.sz
    have HP := Lib.hid (fun (o : Obj) (w2 : World) (v2 : Value) (hown : w2.ownsRow (w.heap.size + 1) 3 1 v2 (xs.take k ++ [xs[k]]).length (nums (xs.take k ++ [xs[k]]))) (hg : (W.alloc o).grownBy w2 v'.ownBlock) (hn : Nxt v' v2 (W.alloc o).heap.size) => CoSt.push hS hst hk hc hrow hnS hown hg hn)
    have HR := Lib.hid hrow
    have hlk : (xs.take k).length ≤ 100000 := by rw [List.length_take]; omega
    generalize xs[k] = x at *
    clear hst hrow hnS hS
    simp only [List.setIfInBounds_toArray, List.set_cons_succ, List.set_cons_zero]
    gi_wp2_with (gi_at_builtin; refine wpListIn_append_row _ rfl _ _ 29 rfl 3 (w.heap.size + 1) iI (.int .i64 0) Tryd.underlying29 hiI zI0 zI1 zI2 rfl v' (xs.take k) rfl (HR.out.alloc _) _ [x] rfl (row1 _ _ _) (by simp only [List.length_cons, List.length_nil]; omega) (by simp; omega) ?_; intro v2 w2 hown2 hgrow2 hnxt2; obtain ⟨a2, cc2, rfl⟩ := ownsRow_slice hown2; obtain ⟨hc2, hf2, hk2, hs2⟩ := HP.out _ _ _ hown2 hgrow2 hnxt2; clear hown2 hgrow2 hnxt2; generalize (xs.take k ++ [x]).length = n2 at *)
    exact ⟨hk2, hs2⟩
  case hdone =>
    intro D S W hDl hSD _ hst hK
    try dsimp only at hst
    obtain ⟨v', hc, hrow, _⟩ := hst.row
    have HM : Hid (Marked w1.heap.size [D] W) := marked_one hK hDl
    have HB := Lib.hid hst.bel
    have HO := Lib.hid hrow
    clear hst hrow hK
    go_wp2_with fail
    refine post_ret (ds := [D]) HM.out (v := v') (by simp [results, Tryd.results43, go_sem]) ⟨v', rfl, ?_, ?_⟩
    · have := ownsRow_shut HO.out HM.out
      rw [List.take_length] at this
      exact this.mono (by omega)
    · exact HB.out.trans ((shut_below HM.out.lo).mono (by omega))
theorem collect_left {xs : List Int} {U : World → Prop} {Bc Br Bs : Nat} (hseq : SeqB Tryd.prog 44 #[.pointer (some ⟨Bc, 0, none⟩), .pointer (some ⟨Br, 0, none⟩), .pointer (some ⟨Bs, 0, none⟩)] xs U) (w : World) (hU : ∀ W, Below w.heap.size w W → U W) (hl : xs.length ≤ 100000) :
    Calls Tryd.prog 28 #[.func (.func 44) #[] #[.pointer (some ⟨Bc, 0, none⟩), .pointer (some ⟨Br, 0, none⟩), .pointer (some ⟨Bs, 0, none⟩)]] w (RowP xs w) := by
  have HC := Lib.hid (append_left hseq w hU hl)
  clear hseq hU
  go_enter Tryd.func28, Tryd.ntmps28
  go_wp2_with ((with_reducible refine (HC.out).mono ?_); rintro e w' ⟨v', rfl, ho, hb⟩)
  go_ret
  exact ⟨v', rfl, ho, hb⟩
end Go.Proofs
