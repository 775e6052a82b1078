/- Plain facts on names: what the document's answers are, and that they are one with the program's. No program is in sight. -/
import Derived.Test.YtnlpdempnmpbcaaP
namespace Go.Nm
theorem takeWhile_len_take (p : UInt8 → Bool) : ∀ (l : List UInt8) (j : Nat), ((l.take j).takeWhile p).length = min j (l.takeWhile p).length
  | [], j => by simp
  | c :: t, 0 => by simp
  | c :: t, j + 1 => by
    rw [List.take_succ_cons, List.takeWhile_cons, List.takeWhile_cons]
    split
    · simp only [List.length_cons, takeWhile_len_take p t j]; omega
    · simp
theorem len_take (l : List UInt8) (j : Nat) : len (l.take j) = min j (len l) := by
  cases l with
  | nil => simp [len]
  | cons c t =>
    cases j with
    | zero => simp [len]
    | succ j =>
      rw [List.take_succ_cons]
      simp only [len]
      split
      · rw [takeWhile_len_take]; omega
      · simp
theorem takeWhile_all (p : UInt8 → Bool) : ∀ l : List UInt8, (l.takeWhile p).length = l.length ↔ l.all p = true
  | [] => by simp
  | c :: t => by
    rw [List.takeWhile_cons, List.all_cons]
    have := (List.takeWhile_sublist (l := t) p).length_le
    cases h : p c with
    | false => simp
    | true => simpa using takeWhile_all p t
theorem pl_iff {l : List UInt8} : pl l = true ↔ ∃ c t, l = c :: t ∧ isLetter c = true ∧ t.all may = true := by
  cases l with
  | nil => simp [pl]
  | cons c t =>
    have := (List.takeWhile_sublist (l := t) may).length_le
    have h := takeWhile_all may t
    have e : pl (c :: t) = true ↔ len (c :: t) = t.length + 1 := by simp [pl]
    rw [e]
    simp only [len, List.cons.injEq]
    constructor
    · intro h2
      by_cases hl : isLetter c = true
      · rw [if_pos hl] at h2; exact ⟨c, t, ⟨rfl, rfl⟩, hl, h.1 (by omega)⟩
      · rw [if_neg hl] at h2; omega
    · rintro ⟨c', t', ⟨rfl, rfl⟩, hl, ha⟩
      rw [if_pos hl]; have := h.2 ha; omega
theorem pl_all {l : List UInt8} (h : pl l = true) : l.all may = true := by
  obtain ⟨c, t, rfl, hc, ht⟩ := pl_iff.1 h
  simp [isLetter_may hc, ht]
theorem pl_pos {l : List UInt8} (h : pl l = true) : 0 < l.length := by
  obtain ⟨c, t, rfl, hc, ht⟩ := pl_iff.1 h
  simp
theorem may_colon : may 58 = false := by decide
theorem pl_no {l : List UInt8} (h : pl l = true) (k : Nat) : l[k]? ≠ some 58 := by
  intro hk
  have := List.all_eq_true.1 (pl_all h) 58 (List.mem_of_getElem? hk)
  rw [may_colon] at this; cases this
theorem pl_take (l : List UInt8) (j : Nat) (hj : j ≤ l.length) : pl (l.take j) = true ↔ 0 < j ∧ j ≤ len l := by
  simp only [pl, len_take, List.length_take, Bool.and_eq_true, decide_eq_true_eq]
  omega

/-- The document's plain names. -/
def rpl (l : List UInt8) : Bool := decide (0 < l.length) && decide (l.length ≤ 64) && (match l with | [] => false | c :: _ => isLetter c) && l.all may
theorem rpl_eq (l : List UInt8) : rpl l = (decide (l.length ≤ 64) && pl l) := by
  rw [Bool.eq_iff_iff]
  simp only [rpl, Bool.and_eq_true, decide_eq_true_eq, pl_iff]
  constructor
  · rintro ⟨⟨⟨h1, h2⟩, h3⟩, h4⟩
    cases l with
    | nil => simp at h1
    | cons c t => exact ⟨h2, c, t, rfl, h3, by simp at h4; simpa using h4.2⟩
  · rintro ⟨h, c, t, rfl, hc, ht⟩
    exact ⟨⟨⟨by simp, h⟩, hc⟩, by simp [isLetter_may hc, ht]⟩
/-- A place at which the document splits. -/
def cand (l : List UInt8) (i : Nat) : Bool := l[i]? == some 58 && rpl (l.take i) && rpl (l.drop (i + 1))
/-- What the document's Split answers. -/
def RSp (l p q : List UInt8) (ok : Bool) : Prop :=
  (ok = true ∧ ((rpl l = true ∧ p = [] ∧ q = l) ∨ (rpl l = false ∧ ∃ o, o < l.length ∧ cand l o = true ∧ p = l.take o ∧ q = l.drop (o + 1) ∧ l.length ≤ 64))) ∨
  (ok = false ∧ p = [] ∧ q = [] ∧ rpl l = false ∧ (64 < l.length ∨ ∀ j, j < l.length → cand l j = false))

theorem spl_of_RSp {l p q : List UInt8} {ok : Bool} (h : RSp l p q ok) : spl l = (p, q, ok) := by
  unfold spl
  by_cases h64 : 64 < l.length
  · rw [if_pos h64]
    rcases h with ⟨rfl, h | h⟩ | ⟨rfl, rfl, rfl, _⟩
    · rw [rpl_eq, decide_eq_false (by omega)] at h; simp at h
    · obtain ⟨_, o, _, _, _, _, h⟩ := h; omega
    · rfl
  · rw [if_neg h64]
    have hr : rpl l = pl l := by rw [rpl_eq, decide_eq_true (by omega), Bool.true_and]
    by_cases hn : Lib.indexByte l 58 = -1
    · rw [if_pos hn]
      have hno := Lib.indexByte_none hn
      rcases h with ⟨rfl, ⟨h, rfl, rfl⟩ | ⟨_, o, _, hc, _⟩⟩ | ⟨rfl, rfl, rfl, h, _⟩
      · rw [hr] at h; rw [if_pos h]
      · simp only [cand, Bool.and_eq_true, beq_iff_eq] at hc; exact absurd hc.1.1 (hno o)
      · rw [hr] at h; rw [h]; rfl
    · rw [if_neg hn]
      obtain ⟨o, ho⟩ : ∃ o : Nat, Lib.indexByte l 58 = o := ⟨(Lib.indexByte l 58).toNat, by have := Lib.indexByte_ge l 58; omega⟩
      obtain ⟨h1, h2⟩ := Lib.indexByte_some ho
      rw [ho, Int.toNat_natCast]
      have hlt : o < l.length := (List.getElem?_eq_some_iff.1 h1).1
      have hnp : pl l = false := by
        cases hp : pl l with
        | false => rfl
        | true => exact absurd h1 (pl_no hp o)
      have hc : cand l o = (pl (l.take o) && pl (l.drop (o + 1))) := by
        simp only [cand, h1, rpl_eq, List.length_take, List.length_drop, beq_self_eq_true, Bool.true_and]
        rw [decide_eq_true (by omega), decide_eq_true (by omega), Bool.true_and, Bool.true_and]
      rcases h with ⟨rfl, ⟨h, _⟩ | ⟨_, i, hi, hci, rfl, rfl, _⟩⟩ | ⟨rfl, rfl, rfl, _, h | h⟩
      · rw [hr, hnp] at h; cases h
      · have e : i = o := by
          have hci' := hci
          simp only [cand, Bool.and_eq_true, beq_iff_eq, rpl_eq] at hci'
          rcases Nat.lt_trichotomy i o with hl | hl | hl
          · exact absurd hci'.1.1 (h2 i hl)
          · exact hl
          · exfalso
            refine pl_no hci'.1.2.2 o ?_
            rw [List.getElem?_take, if_pos hl]; exact h1
        subst e
        rw [hc] at hci; rw [if_pos hci]
      · exact absurd h h64
      · have := h o hlt; rw [hc] at this; rw [this]; rfl

/-- The parts, where a colon stands. -/
theorem spl_at {l : List UInt8} {o : Nat} (h64 : l.length ≤ 64) (h1 : l[o]? = some 58) (h2 : ∀ k, k < o → l[k]? ≠ some 58) :
    spl l = if pl (l.take o) && pl (l.drop (o + 1)) then (l.take o, l.drop (o + 1), true) else ([], [], false) := by
  have hn : Lib.indexByte l 58 ≠ -1 := fun hn => Lib.indexByte_none hn o h1
  obtain ⟨i, hi⟩ : ∃ i : Nat, Lib.indexByte l 58 = i := ⟨(Lib.indexByte l 58).toNat, by have := Lib.indexByte_ge l 58; omega⟩
  obtain ⟨g1, g2⟩ := Lib.indexByte_some hi
  have e : i = o := by
    rcases Nat.lt_trichotomy i o with hl | hl | hl
    · exact absurd g1 (h2 i hl)
    · exact hl
    · exact absurd h1 (g2 o hl)
  subst e
  unfold spl
  rw [if_neg (by omega), if_neg hn, hi, Int.toNat_natCast]
theorem spl_none {l : List UInt8} (h64 : l.length ≤ 64) (h : ∀ k : Nat, l[k]? ≠ some 58) : spl l = if pl l then ([], l, true) else ([], [], false) := by
  unfold spl
  rw [if_neg (by omega), if_pos]
  apply Classical.byContradiction
  intro hn
  obtain ⟨i, hi⟩ : ∃ i : Nat, Lib.indexByte l 58 = i := ⟨(Lib.indexByte l 58).toNat, by have := Lib.indexByte_ge l 58; omega⟩
  exact h i (Lib.indexByte_some hi).1
theorem colon_or (l : List UInt8) : (∀ k : Nat, l[k]? ≠ some 58) ∨ ∃ o : Nat, l[o]? = some 58 ∧ ∀ k, k < o → l[k]? ≠ some 58 := by
  by_cases hn : Lib.indexByte l 58 = -1
  · exact .inl (Lib.indexByte_none hn)
  · obtain ⟨i, hi⟩ : ∃ i : Nat, Lib.indexByte l 58 = i := ⟨(Lib.indexByte l 58).toNat, by have := Lib.indexByte_ge l 58; omega⟩
    exact .inr ⟨i, Lib.indexByte_some hi⟩

/-- Is it a name? -/
def okk (l : List UInt8) : Bool := (spl l).2.2
theorem len_no (l : List UInt8) : ∀ k, k < len l → l[k]? ≠ some 58 := by
  intro k hk hc
  have hl := len_le l
  have hp := (pl_take l (len l) hl).2 ⟨by omega, by omega⟩
  refine pl_no hp k ?_
  rw [List.getElem?_take, if_pos hk]; exact hc
theorem len_stop {l : List UInt8} {o : Nat} (h : l[o]? = some 58) : len l ≤ o := by
  rcases Nat.lt_or_ge o (len l) with hl | hl
  · exact absurd h (len_no l o hl)
  · exact hl
theorem okk_take (l : List UInt8) (j : Nat) (hj : j ≤ l.length) (h64 : l.length ≤ 64) :
    okk (l.take j) = true ↔ (0 < j ∧ j ≤ len l) ∨ (0 < len l ∧ l[len l]? = some 58 ∧ len l + 1 < j ∧ j ≤ len l + 1 + len (l.drop (len l + 1))) := by
  have hz : (l.take j).length ≤ 64 := by rw [List.length_take]; omega
  rcases colon_or (l.take j) with hc | ⟨o, h1, h2⟩
  · have e : okk (l.take j) = pl (l.take j) := by
      unfold okk; rw [spl_none hz hc]; cases pl (l.take j) <;> rfl
    rw [e, pl_take l j hj]
    constructor
    · exact .inl
    · rintro (h | ⟨_, hh, h3, _⟩)
      · exact h
      · exfalso; refine hc (len l) ?_; rw [List.getElem?_take, if_pos (by omega)]; exact hh
  · have ho : o < j := by
      have := (List.getElem?_eq_some_iff.1 h1).1
      rw [List.length_take] at this; omega
    have hlo : l[o]? = some 58 := by rw [List.getElem?_take, if_pos ho] at h1; exact h1
    have hle := len_stop hlo
    have e : okk (l.take j) = (pl (l.take o) && pl ((l.drop (o + 1)).take (j - (o + 1)))) := by
      unfold okk; rw [spl_at hz h1 h2, List.take_take, Nat.min_eq_left (by omega), List.drop_take]
      cases (pl (l.take o) && pl ((l.drop (o + 1)).take (j - (o + 1)))) <;> rfl
    rw [e, Bool.and_eq_true, pl_take l o (by omega), pl_take _ _ (by rw [List.length_drop]; omega)]
    constructor
    · rintro ⟨⟨h3, h4⟩, h5, h6⟩
      have : o = len l := by omega
      subst this
      exact .inr ⟨h3, hlo, by omega, by omega⟩
    · rintro (⟨h3, h4⟩ | ⟨h3, h4, h5, h6⟩)
      · omega
      · have : o = len l := by
          rcases Nat.lt_or_ge (len l) o with hl | hl
          · exfalso; refine h2 _ hl ?_; rw [List.getElem?_take, if_pos (by omega)]; exact h4
          · omega
        subst this
        exact ⟨⟨h3, by omega⟩, by omega, by omega⟩

/-- How long the longest name is (of at most 64 bytes). -/
def beg (l : List UInt8) : Nat :=
  if len l = 0 ∨ l.length ≤ len l ∨ l[len l]? ≠ some 58 then len l
  else if 0 < len (l.drop (len l + 1)) then len l + 1 + len (l.drop (len l + 1)) else len l
theorem beg_spec (l : List UInt8) (h64 : l.length ≤ 64) : beg l ≤ l.length ∧ (0 < beg l → okk (l.take (beg l)) = true) ∧ ∀ j, beg l < j → j ≤ l.length → okk (l.take j) = false := by
  have hl := len_le l
  have hl2 := len_le (l.drop (len l + 1))
  rw [List.length_drop] at hl2
  have key : beg l ≤ l.length := by unfold beg; split <;> (try split) <;> omega
  refine ⟨key, fun h => ?_, fun j h hj => ?_⟩
  · rw [okk_take l _ key h64]
    unfold beg at h key ⊢
    by_cases h1 : len l = 0 ∨ l.length ≤ len l ∨ l[len l]? ≠ some 58
    · rw [if_pos h1] at h key ⊢; exact .inl ⟨h, by omega⟩
    · rw [if_neg h1] at h key ⊢
      have h1' : len l ≠ 0 ∧ ¬ l.length ≤ len l ∧ l[len l]? = some 58 := by
        refine ⟨fun e => h1 (.inl e), fun e => h1 (.inr (.inl e)), Classical.byContradiction fun e => h1 (.inr (.inr e))⟩
      by_cases h2 : 0 < len (l.drop (len l + 1))
      · rw [if_pos h2] at h key ⊢; exact .inr ⟨by omega, h1'.2.2, by omega, by omega⟩
      · rw [if_neg h2] at h key ⊢; exact .inl ⟨by omega, by omega⟩
  · cases ho : okk (l.take j) with
    | false => rfl
    | true =>
      exfalso
      rw [okk_take l j hj h64] at ho
      unfold beg at h
      rcases ho with ⟨h1, h2⟩ | ⟨h1, h2, h3, h4⟩
      · split at h
        · omega
        · split at h <;> omega
      · rw [if_neg (by rintro (e | e | e); · omega
                       · rw [List.getElem?_eq_none e] at h2; cases h2
                       · exact e h2)] at h
        rw [if_pos (by omega)] at h; omega
theorem beg_unique {l : List UInt8} {n : Nat} (h64 : l.length ≤ 64) (h1 : n ≤ l.length) (h2 : 0 < n → okk (l.take n) = true) (h3 : ∀ j, n < j → j ≤ l.length → okk (l.take j) = false) : n = beg l := by
  obtain ⟨g1, g2, g3⟩ := beg_spec l h64
  rcases Nat.lt_trichotomy n (beg l) with h | h | h
  · have := h3 _ h g1; rw [g2 (by omega)] at this; cases this
  · exact h
  · have := g3 _ h h1; rw [h2 (by omega)] at this; cases this

/-- No place below k splits. -/
def NoCand (l : List UInt8) (k : Nat) : Prop := ∀ j, j < k → cand l j = false
theorem NoCand.zero (l : List UInt8) : NoCand l 0 := fun j h => absurd h (Nat.not_lt_zero j)
theorem NoCand.step {l : List UInt8} {k : Nat} (h : NoCand l k) (hc : cand l k = false) : NoCand l (k + 1) := fun j hj => by
  rcases Nat.lt_or_ge j k with h1 | h1
  · exact h j h1
  · obtain rfl : j = k := by omega
    exact hc
theorem cand_eq {s : ByteArray} {k : Nat} (h : k < s.size) : cand s.data.toList k = (((s[k].toNat : Int) == 58) && rpl (s.extract 0 k).data.toList && rpl (s.extract (k + 1) s.size).data.toList) := by
  have e : s.data.toList[k]? = some s[k] := by rw [List.getElem?_eq_getElem (by rw [size_eq]; exact h)]; rfl
  unfold cand
  rw [e, ext_take, ext_drop]
  congr 2
  rw [Bool.eq_iff_iff]
  simp only [beq_iff_eq, Option.some.injEq]
  constructor
  · rintro h; rw [h]; rfl
  · intro h; apply UInt8.toNat_inj.1; show s[k].toNat = 58; omega

theorem beg_early {v : ByteArray} {T : List UInt8} {m : Nat} (hT : v.data.toList = T) (hm : m = len v.data.toList) (h : m = 0 ∨ v.size ≤ m ∨ ∃ h : m < v.size, v[m].toNat ≠ 58) : m = beg T := by
  subst hT
  unfold beg
  rw [← hm, if_pos]
  rcases h with h | h | ⟨h, h2⟩
  · exact .inl h
  · exact .inr (.inl (by rw [size_eq]; exact h))
  · refine .inr (.inr fun e => h2 ?_)
    rw [List.getElem?_eq_getElem (by rw [size_eq]; exact h)] at e
    injection e with e
    have e' : v[m] = 58 := e
    rw [e']; rfl
theorem beg_late {v : ByteArray} {T : List UInt8} {m k : Nat} (hT : v.data.toList = T) (hm : m = len v.data.toList) (h0 : m ≠ 0) (h1 : m < v.size) (h2 : v[m].toNat = 58)
    (hk : k = len (v.extract (m + 1) v.size).data.toList) : beg T = if 0 < k then m + 1 + k else m := by
  subst hT
  rw [ext_drop] at hk
  unfold beg
  rw [← hm, ← hk, if_neg]
  rintro (h | h | h)
  · exact h0 h
  · rw [size_eq] at h; omega
  · refine h ?_
    rw [List.getElem?_eq_getElem (by rw [size_eq]; exact h1)]
    congr 1
    apply UInt8.toNat_inj.1; exact h2

/-- A name's parts, and what they are. -/
theorem spl_true {l p q : List UInt8} (h : spl l = (p, q, true)) : l.length ≤ 64 ∧ ((p = [] ∧ q = l ∧ pl l = true) ∨ (pl p = true ∧ pl q = true ∧ l = p ++ 58 :: q)) := by
  by_cases h64 : 64 < l.length
  · unfold spl at h; rw [if_pos h64] at h; cases h
  · refine ⟨by omega, ?_⟩
    rcases colon_or l with hc | ⟨o, h1, h2⟩
    · rw [spl_none (by omega) hc] at h
      cases hp : pl l with
      | false => rw [hp] at h; cases h
      | true =>
        rw [hp] at h
        simp only [if_true, Prod.mk.injEq, and_true] at h
        exact .inl ⟨h.1.symm, h.2.symm, rfl⟩
    · rw [spl_at (by omega) h1 h2] at h
      cases hp : (pl (l.take o) && pl (l.drop (o + 1))) with
      | false => rw [hp] at h; cases h
      | true =>
        rw [hp] at h
        simp only [if_true, Prod.mk.injEq, and_true] at h
        rw [Bool.and_eq_true] at hp
        rw [← h.1, ← h.2]
        refine .inr ⟨hp.1, hp.2, ?_⟩
        have ho : o < l.length := (List.getElem?_eq_some_iff.1 h1).1
        have e : l[o] = 58 := (List.getElem?_eq_some_iff.1 h1).2
        rw [← e, ← List.drop_eq_getElem_cons ho, List.take_append_drop]
theorem spl_false {l p q : List UInt8} (h : spl l = (p, q, false)) : p = [] ∧ q = [] := by
  unfold spl at h
  split at h
  · simp only [Prod.mk.injEq, and_true] at h; exact ⟨h.1.symm, h.2.symm⟩
  · split at h
    · split at h
      · simp at h
      · simp only [Prod.mk.injEq, and_true] at h; exact ⟨h.1.symm, h.2.symm⟩
    · split at h
      · simp at h
      · simp only [Prod.mk.injEq, and_true] at h; exact ⟨h.1.symm, h.2.symm⟩
theorem okk_spl {l : List UInt8} (h : okk l = true) : ∃ p q, spl l = (p, q, true) := by
  unfold okk at h
  exact ⟨(spl l).1, (spl l).2.1, by rw [← h]⟩
theorem okk_bytes {l : List UInt8} (h : okk l = true) : ∀ x ∈ l, may x = true ∨ x = 58 := by
  obtain ⟨p, q, hs⟩ := okk_spl h
  intro x hx
  rcases (spl_true hs).2 with ⟨_, _, h1⟩ | ⟨h1, h2, rfl⟩
  · exact .inl (List.all_eq_true.1 (pl_all h1) x hx)
  · rw [List.mem_append, List.mem_cons] at hx
    rcases hx with h | h | h
    · exact .inl (List.all_eq_true.1 (pl_all h1) x h)
    · exact .inr h
    · exact .inl (List.all_eq_true.1 (pl_all h2) x h)
theorem beg_back {l t : List UInt8} {c : UInt8} (h : okk l = true) (h64 : l.length ≤ 64) (hc : may c = false) (hd : c ≠ 58) : beg ((l ++ c :: t).take 64) = l.length := by
  symm
  refine beg_unique (by rw [List.length_take]; omega) (by rw [List.length_take, List.length_append]; omega) (fun _ => ?_) (fun j hj hl => ?_)
  · rw [List.take_take, Nat.min_eq_left h64, List.take_append_of_le_length (Nat.le_refl _), List.take_of_length_le (Nat.le_refl _)]; exact h
  · cases ho : okk (((l ++ c :: t).take 64).take j) with
    | false => rfl
    | true =>
      exfalso
      rw [List.length_take] at hl
      have hm : c ∈ ((l ++ c :: t).take 64).take j := by
        rw [List.take_take]
        refine List.mem_of_getElem? (i := l.length) ?_
        rw [List.getElem?_take, if_pos (by omega), List.getElem?_append_right (Nat.le_refl _), Nat.sub_self]; rfl
      rcases okk_bytes ho c hm with h1 | h1
      · rw [hc] at h1; cases h1
      · exact hd h1
theorem beg_self {l : List UInt8} (h : okk l = true) (h64 : l.length ≤ 64) : beg (l.take 64) = l.length := by
  rw [List.take_of_length_le h64]
  symm
  refine beg_unique h64 (Nat.le_refl _) (fun _ => ?_) (fun j hj hl => by omega)
  rw [List.take_of_length_le (Nat.le_refl _)]; exact h
/-- Two plain names with a colon between. -/
theorem spl_join {l t : List UInt8} (hl : pl l = true) (ht : pl t = true) :
    spl (l ++ 58 :: t) = if l.length + 1 + t.length ≤ 64 then (l, t, true) else ([], [], false) := by
  have hlen : (l ++ 58 :: t).length = l.length + 1 + t.length := by rw [List.length_append, List.length_cons]; omega
  by_cases h : l.length + 1 + t.length ≤ 64
  · rw [if_pos h, spl_at (o := l.length) (by rw [hlen]; exact h) (by rw [List.getElem?_append_right (Nat.le_refl _), Nat.sub_self]; rfl) (fun k hk => by
      rw [List.getElem?_append_left hk]; exact pl_no hl k)]
    have e1 : (l ++ 58 :: t).take l.length = l := by rw [List.take_append_of_le_length (Nat.le_refl _), List.take_of_length_le (Nat.le_refl _)]
    have e2 : (l ++ 58 :: t).drop (l.length + 1) = t := by
      rw [List.drop_append, List.drop_eq_nil_of_le (by omega), show l.length + 1 - l.length = 1 by omega]; rfl
    rw [e1, e2, hl, ht]; rfl
  · rw [if_neg h]; unfold spl; rw [if_pos (by rw [hlen]; omega)]
end Go.Nm
