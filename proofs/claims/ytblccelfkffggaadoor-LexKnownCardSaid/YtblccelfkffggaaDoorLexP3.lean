/- Plain facts: tokens of texts put together, of what is shown; where tokens lie. No program is in sight. -/
import Derived.Test.YtblccelfkffggaaDoorLexP2
import Derived.Lib.Join
namespace Go.Lx
open Go.RowKit

/-- Tokens of a text at a place, blanks ahead. -/
def TT (p : Nat) (l : List UInt8) : Option Nat × List Tok := toksAt (p + blk false l) (l.drop (blk false l))
theorem toks_TT (l : List UInt8) : toks l = TT 0 l := by unfold toks TT; rw [Nat.zero_add]
theorem TT_blank {p : Nat} {l : List UInt8} (h : blk false l = l.length) : TT p l = (none, []) := by
  unfold TT; rw [List.drop_eq_nil_of_le (by omega), toksAt_nil]
theorem TT_bad {p : Nat} {l : List UInt8} (hl : blk false l < l.length) (h : (first (l.drop (blk false l))).1 = 0 ∨ 64 < (first (l.drop (blk false l))).1) : TT p l = (some (p + blk false l), []) := by
  unfold TT
  exact toksAt_bad (fun e => by have := congrArg List.length e; rw [List.length_drop, List.length_nil] at this; omega) h
theorem TT_good {p : Nat} {l : List UInt8} (h : ¬ ((first (l.drop (blk false l))).1 = 0 ∨ 64 < (first (l.drop (blk false l))).1)) :
    TT p l = ((TT (p + blk false l + (first (l.drop (blk false l))).1) (l.drop (blk false l + (first (l.drop (blk false l))).1))).1,
      ((first (l.drop (blk false l))).2, (l.drop (blk false l)).take (first (l.drop (blk false l))).1, p + blk false l) :: (TT (p + blk false l + (first (l.drop (blk false l))).1) (l.drop (blk false l + (first (l.drop (blk false l))).1))).2) := by
  conv => lhs; unfold TT
  rw [toksAt_good h]
  unfold TT
  simp only [List.drop_drop, Nat.add_assoc]

/-- A byte that ends every token. -/
def Sep (c : UInt8) : Prop := isLD c = false ∧ c ≠ 45 ∧ c ≠ 61 ∧ c ≠ 62
theorem sep_10 : Sep 10 := by unfold Sep; decide
theorem sep_32 : Sep 32 := by unfold Sep; decide
theorem run_app {p : UInt8 → Bool} {c : UInt8} (h : p c = false) (b : List UInt8) : ∀ l, run p (l ++ c :: b) = run p l
  | [] => by rw [List.nil_append, run_no h]; rfl
  | a :: t => by
    rw [List.cons_append]
    cases ha : p a with
    | true => rw [run_yes ha, run_yes ha, run_app h b t]
    | false => rw [run_no ha, run_no ha]
theorem rem_app {c : UInt8} (h : Sep c) (b : List UInt8) (a : UInt8) (t : List UInt8) : rem (a :: t ++ c :: b) = rem (a :: t) := by
  cases t with
  | nil => rw [List.cons_append, List.nil_append, rem_two, rem_one]; have := h.2.1; simp [this]
  | cons d u => rw [List.cons_append, List.cons_append, rem_two, rem_two]
theorem no_two {a c : UInt8} (h : Sep c) : signL.contains [a, c] = false := by
  rw [Bool.eq_false_iff]; intro hh
  rw [List.contains_iff_mem] at hh
  simp [signL] at hh
  rcases hh with hh | hh | hh | hh
  · exact h.2.2.1 hh.2
  · exact h.2.2.2 hh.2
  · exact h.2.2.1 hh.2
  · exact h.2.2.1 hh.2
theorem sgn_app {c : UInt8} (h : Sep c) (b : List UInt8) (a : UInt8) (t : List UInt8) : sgn (a :: t ++ c :: b) = sgn (a :: t) := by
  cases t with
  | nil => rw [List.cons_append, List.nil_append, sgn_two, no_two h, sgn_one]; rfl
  | cons d u => rw [List.cons_append, List.cons_append, sgn_two, sgn_two]
theorem first_app {c : UInt8} (h : Sep c) (b : List UInt8) {l : List UInt8} (hl : l ≠ []) : first (l ++ c :: b) = first l := by
  cases l with
  | nil => exact absurd rfl hl
  | cons a t =>
    have hD : isDig c = false := by have := h.1; unfold isLD at this; rw [Bool.or_eq_false_iff] at this; exact this.2
    have e1 := rem_app h b a t
    have e2 := run_app hD b (a :: t)
    have e3 := run_app h.1 b (a :: t)
    have e4 := sgn_app h b a t
    have e5 : (a :: t ++ c :: b).take (run isLD (a :: t)) = (a :: t).take (run isLD (a :: t)) := List.take_append_of_le_length (run_le _ _)
    rw [List.cons_append] at e1 e2 e3 e4 e5 ⊢
    simp only [first, e1, e2, e3, e4, e5]

theorem blk_app (b : List UInt8) : ∀ (s : Bool) (l : List UInt8), blk s (l ++ 10 :: b) = if blk s l = l.length then l.length + 1 + blk false b else blk s l
  | true, [] => by simp [blk]
  | false, [] => by simp [blk, isBl]
  | true, c :: t => by
    have h1 := blk_app b true t; have h2 := blk_app b false t
    have l1 := blk_le true t; have l2 := blk_le false t
    simp only [List.cons_append, blk, List.length_cons]
    split
    · rw [h2]; split <;> split <;> omega
    · rw [h1]; split <;> split <;> omega
  | false, c :: t => by
    have h1 := blk_app b true t; have h2 := blk_app b false t
    have l1 := blk_le true t; have l2 := blk_le false t
    have hh : (t ++ 10 :: b).head? = some 45 ↔ t.head? = some 45 := by
      cases t with
      | nil => simp
      | cons d u => simp
    simp only [List.cons_append, blk, List.length_cons, hh]
    split
    · rw [h2]; split <;> split <;> omega
    · split
      · rw [h1]; split <;> split <;> omega
      · split <;> omega

/-- Of two texts with a byte 10 between. -/
theorem TT_app (b : List UInt8) : ∀ (n p : Nat) (l : List UInt8), l.length ≤ n →
    (∀ q, (TT p l).1 = some q → (TT p (l ++ 10 :: b)).1 = some q) ∧
    ((TT p l).1 = none → TT p (l ++ 10 :: b) = ((TT (p + l.length + 1) b).1, (TT p l).2 ++ (TT (p + l.length + 1) b).2)) := by
  intro n
  induction n with
  | zero =>
    intro p l hl
    have : l = [] := List.length_eq_zero_iff.1 (by omega)
    subst this
    have h0 : TT p [] = (none, []) := TT_blank (by simp [blk])
    rw [h0]
    refine ⟨fun q h => by simp at h, fun _ => ?_⟩
    unfold TT
    rw [blk_app]
    simp [blk]
    rw [Nat.add_comm 1 (blk false b), List.drop_succ_cons, show p + (blk false b + 1) = p + 1 + blk false b by omega]
  | succ n ih =>
    intro p l hl
    have hle := blk_le false l
    by_cases hk : blk false l = l.length
    · rw [TT_blank hk]
      refine ⟨fun q h => by simp at h, fun _ => ?_⟩
      conv => lhs; unfold TT
      rw [blk_app, if_pos hk]
      have e : (l ++ 10 :: b).drop (l.length + 1 + blk false b) = b.drop (blk false b) := by
        rw [← List.drop_drop, ← List.drop_drop, List.drop_left]; rfl
      rw [e]
      unfold TT
      simp only [List.nil_append]
      rw [show p + (l.length + 1 + blk false b) = p + l.length + 1 + blk false b by omega]
    · have hlt : blk false l < l.length := by omega
      have hb2 : blk false (l ++ 10 :: b) = blk false l := by rw [blk_app, if_neg hk]
      have hd : (l ++ 10 :: b).drop (blk false l) = l.drop (blk false l) ++ 10 :: b := List.drop_append_of_le_length (by omega)
      have hne : l.drop (blk false l) ≠ [] := fun e => by have := congrArg List.length e; rw [List.length_drop, List.length_nil] at this; omega
      have hf : first ((l ++ 10 :: b).drop (blk false (l ++ 10 :: b))) = first (l.drop (blk false l)) := by rw [hb2, hd, first_app sep_10 b hne]
      by_cases hbad : (first (l.drop (blk false l))).1 = 0 ∨ 64 < (first (l.drop (blk false l))).1
      · have e1 : TT p l = _ := TT_bad hlt hbad
        have e2 : TT p (l ++ 10 :: b) = _ := TT_bad (by rw [hb2, List.length_append]; omega) (by rw [hf]; exact hbad)
        rw [e1, e2, hb2]
        exact ⟨fun q h => h, fun h => by simp at h⟩
      · have e1 : TT p l = _ := TT_good hbad
        have e2 : TT p (l ++ 10 :: b) = _ := TT_good (by rw [hf]; exact hbad)
        have hfl := first_le (l.drop (blk false l))
        rw [hf, hb2, hd] at e2
        have hd2 : (l ++ 10 :: b).drop (blk false l + (first (l.drop (blk false l))).1) = l.drop (blk false l + (first (l.drop (blk false l))).1) ++ 10 :: b := by
          rw [List.length_drop] at hfl
          exact List.drop_append_of_le_length (by omega)
        rw [hd2, List.take_append_of_le_length hfl] at e2
        have := ih (p + blk false l + (first (l.drop (blk false l))).1) (l.drop (blk false l + (first (l.drop (blk false l))).1)) (by rw [List.length_drop]; omega)
        obtain ⟨i1, i2⟩ := this
        rw [e1, e2]
        refine ⟨fun q h => i1 q h, fun h => ?_⟩
        have i2 := i2 h
        rw [List.length_drop] at hfl
        have hp : p + blk false l + (first (l.drop (blk false l))).1 + (l.drop (blk false l + (first (l.drop (blk false l))).1)).length + 1 = p + l.length + 1 := by
          rw [List.length_drop]; omega
        rw [i2, hp]
        simp
theorem TT_shift (d : Nat) : ∀ (n p : Nat) (l : List UInt8), l.length ≤ n → TT (p + d) l = ((TT p l).1.map (· + d), (TT p l).2.map fun t => (t.1, t.2.1, t.2.2 + d)) := by
  intro n
  induction n with
  | zero =>
    intro p l hl
    have : l = [] := List.length_eq_zero_iff.1 (by omega)
    subst this
    rw [TT_blank (by simp [blk]), TT_blank (by simp [blk])]; rfl
  | succ n ih =>
    intro p l hl
    have hle := blk_le false l
    by_cases hk : blk false l = l.length
    · rw [TT_blank hk, TT_blank hk]; rfl
    · have hlt : blk false l < l.length := by omega
      by_cases hbad : (first (l.drop (blk false l))).1 = 0 ∨ 64 < (first (l.drop (blk false l))).1
      · rw [TT_bad hlt hbad, TT_bad hlt hbad]
        simp only [Option.map_some, List.map_nil, Prod.mk.injEq, Option.some.injEq, and_true]; omega
      · have e1 : TT p l = _ := TT_good hbad
        have e2 : TT (p + d) l = _ := TT_good hbad
        have := ih (p + blk false l + (first (l.drop (blk false l))).1) (l.drop (blk false l + (first (l.drop (blk false l))).1)) (by rw [List.length_drop]; omega)
        rw [show p + blk false l + (first (l.drop (blk false l))).1 + d = p + d + blk false l + (first (l.drop (blk false l))).1 by omega] at this
        rw [e2, e1, this]
        simp; omega

theorem blk_take : ∀ (s : Bool) (l : List UInt8), blk s (l.take (blk s l)) = blk s l
  | true, [] => by simp [blk]
  | false, [] => by simp [blk]
  | true, c :: t => by
    have h1 := blk_take true t; have h2 := blk_take false t
    by_cases hc : c.toNat = 10
    · simp only [blk, if_pos hc]; rw [Nat.add_comm, List.take_succ_cons]; simp only [blk, if_pos hc, h2]; omega
    · simp only [blk, if_neg hc]; rw [Nat.add_comm, List.take_succ_cons]; simp only [blk, if_neg hc, h1]; omega
  | false, c :: t => by
    have h1 := blk_take true t; have h2 := blk_take false t
    by_cases hb : isBl c = true
    · simp only [blk, if_pos hb]; rw [Nat.add_comm, List.take_succ_cons]; simp only [blk, if_pos hb, h2]; omega
    · by_cases hr : c.toNat = 45 ∧ t.head? = some 45
      · have hh : (t.take (blk true t)).head? = some 45 := by
          obtain ⟨_, hr⟩ := hr
          cases t with
          | nil => simp at hr
          | cons d u =>
            simp at hr
            subst hr
            have : blk true (45 :: u) = blk true u + 1 := by simp [blk]; omega
            rw [this, List.take_succ_cons]; rfl
        simp only [blk, if_neg hb, if_pos hr]; rw [Nat.add_comm, List.take_succ_cons]; simp only [blk, if_neg hb, if_pos (And.intro hr.1 hh), h1]; omega
      · simp only [blk, if_neg hb, if_neg hr, List.take_zero]
theorem blk_take_toks (l : List UInt8) (p : Nat) : TT p (l.take (blk false l)) = (none, []) := by
  apply TT_blank
  rw [blk_take, List.length_take]
  have := blk_le false l
  omega

/-- None is longer than it is. -/
theorem whole_next {c : UInt8} {t : List UInt8} (hr : rem (c :: t) = false) (h0 : (first (c :: t)).1 ≠ 0) (hlt : (first (c :: t)).1 < (c :: t).length) : whole ((c :: t).take ((first (c :: t)).1 + 1)) = 0 := by
  cases hd : isDig c with
  | true =>
    have hf : first (c :: t) = (run isDig (c :: t), 1) := by simp only [first, hr, hd, if_true]; rfl
    rw [hf] at hlt ⊢
    simp only at hlt ⊢
    rw [List.take_succ_cons, whole_dig hd, ← List.take_succ_cons, if_neg]
    intro hh
    have := (all_take (p := isDig) (c :: t) _ (by omega)).1 hh
    omega
  | false =>
    cases hl : isLet c with
    | true =>
      have hf : (first (c :: t)).1 = run isLD (c :: t) := by simp only [first, hr, hd, hl, if_true]; simp; split <;> rfl
      rw [hf] at hlt ⊢
      rw [List.take_succ_cons, whole_let hl, ← List.take_succ_cons, if_neg]
      intro hh
      have := (all_take (p := isLD) (c :: t) _ (by omega)).1 hh
      omega
    | false =>
      have hLD : isLD c = false := by unfold isLD; rw [hl, hd]; rfl
      have hf : (first (c :: t)).1 = sgn (c :: t) := by simp only [first, hr, hd, hl]; simp; split <;> simp_all
      rw [hf] at h0 hlt ⊢
      match t with
      | [] =>
        rw [sgn_one] at h0 hlt
        split at hlt
        · simp at hlt
        · rename_i hn; rw [if_neg hn] at h0; exact absurd rfl h0
      | d :: u =>
        rw [sgn_two] at h0 hlt ⊢
        by_cases h2 : signL.contains [c, d] = true
        · rw [if_pos h2] at hlt ⊢
          match u with
          | [] => simp at hlt
          | e :: v =>
            simp only [List.take_succ_cons, List.take_zero]
            rw [whole_other hLD, not_sign3]; rfl
        · rw [if_neg h2] at h0 hlt ⊢
          by_cases h1 : signL.contains [c] = true
          · rw [if_pos h1]
            simp only [List.take_succ_cons, List.take_zero]
            rw [whole_other hLD, if_neg h2]
          · rw [if_neg h1] at h0; exact absurd rfl h0

/-- A token by itself: a text that is one. -/
theorem isT_first {l : List UInt8} {k : Nat} (h : isT l = k) (hk : k ≠ 0) : first l = (l.length, k) ∧ l.length ≤ 64 := by
  unfold isT at h
  split at h
  · rename_i hh; exact ⟨Prod.ext hh.1 h, hh.2⟩
  · exact absurd h.symm hk
theorem first_blk {l : List UInt8} (h : (first l).1 ≠ 0) : blk false l = 0 ∧ l ≠ [] := by
  cases l with
  | nil => exact absurd rfl h
  | cons c t =>
    refine ⟨?_, by simp⟩
    cases hr : rem (c :: t) with
    | true => exact absurd (by simp [first, hr]) h
    | false =>
      cases hb : isBl c with
      | false => exact blk_none hb hr
      | true =>
        have hd : isDig c = false := by rw [Bool.eq_false_iff]; intro hh; rw [isDig_iff] at hh; rw [isBl_iff] at hb; omega
        have hl : isLet c = false := by rw [Bool.eq_false_iff]; intro hh; rw [isLet_iff] at hh; rw [isBl_iff] at hb; omega
        have hs : sgn (c :: t) = 0 := by
          have h1 : signL.contains [c] = false := by
            rw [isBl_iff] at hb
            have : c = 9 ∨ c = 10 ∨ c = 13 ∨ c = 32 := by
              rcases hb with hb | hb | hb | hb
              · exact .inl (UInt8.toNat_inj.1 hb)
              · exact .inr (.inl (UInt8.toNat_inj.1 hb))
              · exact .inr (.inr (.inl (UInt8.toNat_inj.1 hb)))
              · exact .inr (.inr (.inr (UInt8.toNat_inj.1 hb)))
            rcases this with rfl | rfl | rfl | rfl <;> decide
          cases t with
          | nil => rw [sgn_one, h1]; rfl
          | cons d u =>
            have h2 : signL.contains [c, d] = false := by
              rw [Bool.eq_false_iff]; intro hh
              rw [List.contains_iff_mem] at hh
              simp [signL] at hh
              rw [isBl_iff] at hb
              rcases hh with hh | hh | hh | hh <;> (rw [hh.1] at hb; simp at hb)
            rw [sgn_two, h1, h2]; rfl
        exact absurd (by simp [first, hr, hd, hl, hs]) h
/-- The first token of a text is a token by itself. -/
theorem first_isT {l : List UInt8} (h0 : (first l).1 ≠ 0) (h64 : (first l).1 ≤ 64) : isT (l.take (first l).1) = (first l).2 := by
  cases l with
  | nil => exact absurd rfl h0
  | cons c t =>
    have hr : rem (c :: t) = false := by
      cases hr : rem (c :: t) with
      | false => rfl
      | true => exact absurd (by simp [first, hr]) h0
    have hl := first_le (c :: t)
    rw [isT_whole, List.length_take, if_neg (by omega)]
    obtain ⟨e1, e2⟩ := lng_first hr
    rw [e1] at e2
    exact e2 h0
/-- All tokens of a text are tokens by themselves. -/
theorem TT_isT : ∀ (n p : Nat) (l : List UInt8), l.length ≤ n → ∀ t ∈ (TT p l).2, isT t.2.1 = t.1 ∧ t.1 ≠ 0 ∧ t.1 < 256 ∧ t.2.1.length ≤ 64 := by
  intro n
  induction n with
  | zero =>
    intro p l hl
    have : l = [] := List.length_eq_zero_iff.1 (by omega)
    subst this
    rw [TT_blank (by simp [blk])]; intro t ht; cases ht
  | succ n ih =>
    intro p l hl
    have hle := blk_le false l
    by_cases hk : blk false l = l.length
    · rw [TT_blank hk]; intro t ht; cases ht
    · have hlt : blk false l < l.length := by omega
      by_cases hbad : (first (l.drop (blk false l))).1 = 0 ∨ 64 < (first (l.drop (blk false l))).1
      · rw [TT_bad hlt hbad]; intro t ht; cases ht
      · have e1 : TT p l = _ := TT_good hbad
        rw [e1]
        intro t ht
        rcases List.mem_cons.1 ht with rfl | ht
        · have hfk := first_kind (l.drop (blk false l))
          have h0 : (first (l.drop (blk false l))).1 ≠ 0 := fun h => hbad (.inl h)
          refine ⟨first_isT h0 (by omega), fun h => h0 (hfk.2.2 h), by simp only; omega, ?_⟩
          rw [List.length_take]; omega
        · exact ih _ _ (by rw [List.length_drop]; omega) t ht

/-- Tokens that are shown are read again. -/
theorem TT_join : ∀ (L : List Tok) (p : Nat), (∀ t ∈ L, isT t.2.1 = t.1 ∧ t.1 ≠ 0) →
    (TT p (Lib.join (L.map (·.2.1)) [32])).1 = none ∧ (TT p (Lib.join (L.map (·.2.1)) [32])).2.map (fun t => (t.1, t.2.1)) = L.map (fun t => (t.1, t.2.1))
  | [], p, _ => by
    have : Lib.join (([] : List Tok).map (·.2.1)) [32] = [] := by simp [Lib.join, List.intercalate]
    rw [this, TT_blank (by simp [blk])]; exact ⟨rfl, rfl⟩
  | [t], p, h => by
    obtain ⟨h1, h2⟩ := h t (List.mem_cons_self ..)
    obtain ⟨hf, h64⟩ := isT_first h1 h2
    have e : Lib.join ([t].map (·.2.1)) [32] = t.2.1 := by simp [Lib.join, List.intercalate]
    have hne : (first t.2.1).1 ≠ 0 := fun hh => h2 (by have := (first_kind t.2.1).2.1 hh; rw [hf] at this; exact this)
    obtain ⟨hb, _⟩ := first_blk hne
    rw [e]
    have hf1 : (first t.2.1).1 = t.2.1.length := by rw [hf]
    have hg : TT p t.2.1 = _ := TT_good (by rw [hb, List.drop_zero]; omega)
    rw [hb, List.drop_zero, hf] at hg
    simp only [Nat.zero_add, Nat.add_zero] at hg
    rw [List.drop_eq_nil_of_le (Nat.le_refl _), TT_blank (p := p + t.2.1.length) (l := []) rfl, List.take_of_length_le (Nat.le_refl _)] at hg
    rw [hg]; exact ⟨rfl, rfl⟩
  | t :: u :: L, p, h => by
    obtain ⟨h1, h2⟩ := h t (List.mem_cons_self ..)
    obtain ⟨hf, h64⟩ := isT_first h1 h2
    have hne : (first t.2.1).1 ≠ 0 := fun hh => h2 (by have := (first_kind t.2.1).2.1 hh; rw [hf] at this; exact this)
    obtain ⟨hb, hnil⟩ := first_blk hne
    have e : Lib.join ((t :: u :: L).map (·.2.1)) [32] = t.2.1 ++ 32 :: Lib.join ((u :: L).map (·.2.1)) [32] := by simp [Lib.join, List.intercalate]
    have ih := TT_join (u :: L) (p + t.2.1.length + 1) (fun x hx => h x (List.mem_cons_of_mem _ hx))
    rw [e]
    generalize Lib.join ((u :: L).map (·.2.1)) [32] = J at *
    have hfa := first_app sep_32 J hnil
    have hba : blk false (t.2.1 ++ 32 :: J) = 0 := (first_blk (by rw [hfa]; exact hne)).1
    have hf1 : (first t.2.1).1 = t.2.1.length := by rw [hf]
    have hg : TT p (t.2.1 ++ 32 :: J) = _ := TT_good (by rw [hba, List.drop_zero, hfa]; omega)
    rw [hba, List.drop_zero, hfa, hf] at hg
    simp only [Nat.zero_add, Nat.add_zero] at hg
    rw [List.drop_left, List.take_left] at hg
    have hs : TT (p + t.2.1.length) (32 :: J) = TT (p + t.2.1.length + 1) J := by
      unfold TT
      rw [blk_bl (by decide), Nat.add_comm 1, List.drop_succ_cons]
      rw [show p + t.2.1.length + (blk false J + 1) = p + t.2.1.length + 1 + blk false J by omega]
    rw [hs] at hg
    rw [hg]
    refine ⟨ih.1, ?_⟩
    simp only [List.map_cons] at ih ⊢
    rw [ih.2]
end Go.Lx
