/- A region that draws its order, by an invariant: one step an operation, whatever the orders. No program is in sight. -/
import Derived.Orders
import Derived.RegionTactic
namespace Go.Rgi
open Go

theorem ready_mem {md : Region.Mode} {ops : Array Oper} {l : Array Bool} {i : Nat} (h : i ∈ Region.ready md ops l) :
    l.getD i true = false ∧ ∃ o, ops[i]? = some o ∧ ∀ e ∈ o.after, Region.binds md e = true → l.getD e.on false = true := by
  unfold Region.ready at h
  rw [List.mem_filter] at h
  obtain ⟨h1, h2⟩ := h
  rw [Bool.and_eq_true] at h2
  refine ⟨by simpa using h2.1, ?_⟩
  have h3 := h2.2
  cases ho : ops[i]? with
  | none => rw [ho] at h3; simp at h3
  | some o =>
    rw [ho] at h3
    simp only [Option.map_some, Option.getD_some, Array.all_eq_true', Bool.or_eq_true, Bool.not_eq_true'] at h3
    refine ⟨o, rfl, fun e he hb => ?_⟩
    rcases h3 e he with h | h
    · rw [hb] at h; cases h
    · exact h
theorem mem_ready {md : Region.Mode} {ops : Array Oper} {l : Array Bool} {i : Nat} {o : Oper} (ho : ops[i]? = some o) (hl : l.getD i true = false) (he : ∀ e ∈ o.after, Region.binds md e = true → l.getD e.on false = true) : i ∈ Region.ready md ops l := by
  unfold Region.ready
  rw [List.mem_filter]
  refine ⟨List.mem_range.2 (Array.getElem?_eq_some_iff.1 ho).1, ?_⟩
  rw [hl, ho]
  simp only [Bool.not_false, Bool.true_and, Option.map_some, Option.getD_some, Array.all_eq_true', Bool.or_eq_true, Bool.not_eq_true']
  intro e h
  cases hb : Region.binds md e with
  | false => exact .inl rfl
  | true => exact .inr (he e h hb)
/-- Each edge that binds leads back. -/
def backB (md : Region.Mode) (ops : Array Oper) : Bool := (List.range ops.size).all fun i => match ops[i]? with | some o => o.after.all fun e => !Region.binds md e || decide (e.on < i) | none => true
theorem back_of {md : Region.Mode} {ops : Array Oper} (hb : backB md ops = true) {i : Nat} {o : Oper} (ho : ops[i]? = some o) : ∀ e ∈ o.after, Region.binds md e = true → e.on < i := by
  unfold backB at hb
  rw [List.all_eq_true] at hb
  have := hb i (List.mem_range.2 (Array.getElem?_eq_some_iff.1 ho).1)
  rw [ho] at this
  simp only [Array.all_eq_true', Bool.or_eq_true, Bool.not_eq_true', decide_eq_true_iff] at this
  intro e he hbd
  rcases this e he with h | h
  · rw [hbd] at h; cases h
  · exact h
theorem getD_flip {l : Array Bool} {i : Nat} (hi : i < l.size) : l.getD i true = l.getD i false := by simp [Array.getD, hi]
theorem all_listed {md : Region.Mode} {ops : Array Oper} {l : Array Bool} (hb : backB md ops = true) (hs : l.size = ops.size) (h : Region.ready md ops l = []) : ∀ i, i < ops.size → l.getD i false = true := by
  intro i
  induction i using Nat.strongRecOn with
  | _ i ih =>
    intro hi
    cases hl : l.getD i false with
    | true => rfl
    | false =>
      have ho : ops[i]? = some ops[i] := Array.getElem?_eq_getElem hi
      have : i ∈ Region.ready md ops l := mem_ready ho (by rw [getD_flip (by omega)]; exact hl) fun e he hbd => by
        have hlt := back_of hb ho e he hbd
        exact ih e.on hlt (by omega)
      rw [h] at this
      cases this
theorem set_size {l : Array Bool} {i : Nat} : (l.setIfInBounds i true).size = l.size := by simp
theorem count_set {l : Array Bool} {i : Nat} (hi : i < l.size) (hl : l.getD i true = false) : (l.setIfInBounds i true).toList.count false + 1 = l.toList.count false := by
  have hi' : i < l.toList.length := by simpa using hi
  have hv : l.toList[i] = false := by simpa [Array.getD, hi] using hl
  rw [Array.toList_setIfInBounds, List.count_set hi', hv]
  show l.toList.count false - (if (false == false) = true then 1 else 0) + (if (true == false) = true then 1 else 0) + 1 = _
  rw [if_pos (show (false == false) = true from rfl), if_neg (show ¬ (true == false) = true by decide)]
  have : 0 < l.toList.count false := List.count_pos_iff.2 (by rw [← hv]; exact List.getElem_mem hi')
  omega
theorem ready_nil {md : Region.Mode} {ops : Array Oper} {l : Array Bool} (hs : l.size = ops.size) (h : l.toList.count false = 0) : Region.ready md ops l = [] := by
  cases hr : Region.ready md ops l with
  | nil => rfl
  | cons i t =>
    have hm : i ∈ Region.ready md ops l := by rw [hr]; exact List.mem_cons_self
    obtain ⟨hl, o, ho, _⟩ := ready_mem hm
    have hi : i < l.size := by rw [hs]; exact (Array.getElem?_eq_some_iff.1 ho).1
    have hv : l.toList[i]'(by simpa using hi) = false := by simpa [Array.getD, hi] using hl
    have : 0 < l.toList.count false := List.count_pos_iff.2 (by rw [← hv]; exact List.getElem_mem _)
    omega
theorem wpAny_inv {P : Program} {ops : Array Oper} {Q : Exit → Act → World → Prop} {md : Region.Mode} (I : Array Bool → Act → World → Prop) (hb : backB md ops = true)
    (hstep : ∀ l a w, l.size = ops.size → I l a w → ∀ i o, ops[i]? = some o → l.getD i true = false → (∀ e ∈ o.after, Region.binds md e = true → l.getD e.on false = true) → wpOp P ops Q i (I (l.setIfInBounds i true)) a w)
    (hend : ∀ l a w, I l a w → (∀ i, i < ops.size → l.getD i false = true) → Q .normal a w) :
    ∀ fuel l a w, l.size = ops.size → l.toList.count false ≤ fuel → I l a w → wpAny P md ops Q fuel l a w
  | 0, l, a, w, hs, hc, hI => by
    have hr : Region.ready md ops l = [] := ready_nil hs (by omega)
    exact ⟨hr, hend l a w hI (all_listed hb hs hr)⟩
  | f + 1, l, a, w, hs, hc, hI => by
    refine ⟨fun hr => hend l a w hI (all_listed hb hs hr), fun i hi => ?_⟩
    obtain ⟨hl, o, ho, he⟩ := ready_mem hi
    refine wpOp_mono (fun a' w' h => ?_) (hstep l a w hs hI i o ho hl he)
    have hi' : i < l.size := by rw [hs]; exact (Array.getElem?_eq_some_iff.1 ho).1
    refine wpAny_inv I hb hstep hend f _ a' w' (set_size.trans hs) ?_ h
    have := count_set hi' hl
    omega
/-- THE RULE. -/
theorem wp_region_inv {P : Program} {id : Nat} {ops : Array Oper} {Q : Exit → Act → World → Prop} {a : Act} {w : World} (hm : P.follows .mixedOrders = true) (I : Array Bool → Act → World → Prop) (hb : backB .any ops = true)
    (h0 : I (Array.replicate ops.size false) a w.drew)
    (hstep : ∀ l a w, l.size = ops.size → I l a w → ∀ i o, ops[i]? = some o → l.getD i true = false → (∀ e ∈ o.after, Region.binds .any e = true → l.getD e.on false = true) → wpOp P ops Q i (I (l.setIfInBounds i true)) a w)
    (hend : ∀ l a w, I l a w → (∀ i, i < ops.size → l.getD i false = true) → Q .normal a w) : (Code.region id ops true).wp P Q a w :=
  wp_region_any hm (wpAny_inv I hb hstep hend ops.size _ a w.drew (by simp) (by simp) h0)
/-- One operation, its continuation a letter. -/
theorem step_of {P : Program} {ops : Array Oper} {Q : Exit → Act → World → Prop} {i : Nat} {o : Oper} {a : Act} {w : World} {K : Act → World → Prop} (ho : ops[i]? = some o)
    (h : ∀ K' : Act → World → Prop, (∀ a w, K a w → K' a w) → if Region.wanted o (yielded ops a.tmps) = true then Oper.wp P o a w K' Q else K' (a.put o.dst undef) w) : wpOp P ops Q i K a w :=
  wpOp_step ho h
theorem getD_set {l : Array Bool} {i k : Nat} (hi : i < l.size) : (l.setIfInBounds i true).getD k false = if i = k then true else l.getD k false := by
  by_cases h : i = k
  · subst h; simp [Array.getD, hi]
  · rw [if_neg h]
    simp only [Array.getD, Array.size_setIfInBounds]
    by_cases hk : k < l.size
    · simp [hk, h]
    · simp [hk]
end Go.Rgi
