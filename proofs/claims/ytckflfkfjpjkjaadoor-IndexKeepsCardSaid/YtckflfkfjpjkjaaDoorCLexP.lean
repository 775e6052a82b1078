/- Plain facts on tokens: what is a blank, the token at a text's beginning, all tokens. No program is in sight. -/
import Derived.WalkKit
import Derived.Lib.Hide
import Derived.Lib.Strings
import Derived.Lib.Bytealg
import Derived.Lib.IndexMore
namespace Go.Lx
open Go.RowKit

def isDig (c : UInt8) : Bool := decide (48 ≤ c.toNat) && decide (c.toNat ≤ 57)
def isLet (c : UInt8) : Bool := (decide (65 ≤ c.toNat) && decide (c.toNat ≤ 90)) || (decide (97 ≤ c.toNat) && decide (c.toNat ≤ 122)) || decide (c.toNat = 95)
def isLD (c : UInt8) : Bool := isLet c || isDig c
def isBl (c : UInt8) : Bool := decide (c.toNat = 9) || decide (c.toNat = 10) || decide (c.toNat = 13) || decide (c.toNat = 32)
def isTx (c : UInt8) : Bool := !decide (c.toNat = 10)
theorem isDig_iff {c : UInt8} : isDig c = true ↔ 48 ≤ c.toNat ∧ c.toNat ≤ 57 := by simp [isDig]
theorem isLet_iff {c : UInt8} : isLet c = true ↔ (65 ≤ c.toNat ∧ c.toNat ≤ 90) ∨ (97 ≤ c.toNat ∧ c.toNat ≤ 122) ∨ c.toNat = 95 := by simp [isLet, or_assoc]
theorem isBl_iff {c : UInt8} : isBl c = true ↔ c.toNat = 9 ∨ c.toNat = 10 ∨ c.toNat = 13 ∨ c.toNat = 32 := by simp [isBl, or_assoc]

theorem bits_all : ∀ n : Fin 256, (97 ≤ bits BinOp.or IntKind.u8 ((n.val : Nat) : Int) 32 ∧ bits BinOp.or IntKind.u8 ((n.val : Nat) : Int) 32 ≤ 122) ↔ ((65 ≤ n.val ∧ n.val ≤ 90) ∨ (97 ≤ n.val ∧ n.val ≤ 122)) := by
  decide +kernel
theorem bits_or (c : UInt8) : (97 ≤ bits BinOp.or IntKind.u8 (c.toNat : Int) 32 ∧ bits BinOp.or IntKind.u8 (c.toNat : Int) 32 ≤ 122) ↔ ((65 ≤ c.toNat ∧ c.toNat ≤ 90) ∨ (97 ≤ c.toNat ∧ c.toNat ≤ 122)) :=
  bits_all ⟨c.toNat, c.toNat_lt⟩

theorem size_eq (s : ByteArray) : s.data.toList.length = s.size := Array.length_toList
theorem toList_eq' (s : ByteArray) : s.toList = s.data.toList := ByteArray.toList_eq ..
theorem ba_ext {p q : ByteArray} (h : p.data.toList = q.data.toList) : p = q := ByteArray.ext (Array.ext' h)
theorem ext_end (s : ByteArray) (k : Nat) : (s.extract k s.size).data.toList = s.data.toList.drop k := by
  rw [Lib.extract_data, List.take_of_length_le]; rw [List.length_drop, size_eq]; exact Nat.le_refl _
theorem ext_mid (s : ByteArray) (k n : Nat) : (s.extract k (k + n)).data.toList = (s.data.toList.drop k).take n := by
  rw [Lib.extract_data]; congr 1; omega
theorem ext_beg (s : ByteArray) (n : Nat) : (s.extract 0 n).data.toList = s.data.toList.take n := by
  rw [Lib.extract_data, List.drop_zero]; rfl
theorem app_data (a b : ByteArray) : (a ++ b).data.toList = a.data.toList ++ b.data.toList := by
  rw [ByteArray.data_append, Array.toList_append]
theorem get_drop {s : ByteArray} {k : Nat} (h : k < s.size) : s.data.toList.drop k = s[k] :: s.data.toList.drop (k + 1) :=
  List.drop_eq_getElem_cons (l := s.data.toList) (i := k) (by rw [size_eq]; exact h)

/-- How many bytes at a text's beginning are such. -/
def run (p : UInt8 → Bool) (l : List UInt8) : Nat := (l.takeWhile p).length
theorem run_nil (p : UInt8 → Bool) : run p [] = 0 := rfl
theorem run_yes {p : UInt8 → Bool} {c : UInt8} {t : List UInt8} (h : p c = true) : run p (c :: t) = run p t + 1 := by
  unfold run; rw [List.takeWhile_cons, if_pos h]; rfl
theorem run_no {p : UInt8 → Bool} {c : UInt8} {t : List UInt8} (h : p c = false) : run p (c :: t) = 0 := by
  unfold run; rw [List.takeWhile_cons, if_neg (by simp [h])]; rfl
theorem run_le (p : UInt8 → Bool) : ∀ l, run p l ≤ l.length
  | [] => Nat.le_refl _
  | c :: t => by
    cases h : p c with
    | true => rw [run_yes h]; have := run_le p t; simp; omega
    | false => rw [run_no h]; exact Nat.zero_le _

/-- How many bytes of blanks stand at a text's beginning; in a remark, or not. -/
def blk : Bool → List UInt8 → Nat
  | _, [] => 0
  | true, c :: t => if c.toNat = 10 then 1 + blk false t else 1 + blk true t
  | false, c :: t => if isBl c then 1 + blk false t else if c.toNat = 45 ∧ t.head? = some 45 then 1 + blk true t else 0
/-- Does a remark begin here? -/
def rem (l : List UInt8) : Bool := [45, 45].isPrefixOf l
theorem rem_nil : rem [] = false := rfl
theorem rem_one (c : UInt8) : rem [c] = false := by simp [rem, List.isPrefixOf]
theorem rem_two (c d : UInt8) (t : List UInt8) : rem (c :: d :: t) = (c == 45 && d == 45) := by
  simp [rem, List.isPrefixOf, Bool.beq_comm]
theorem u45 (c : UInt8) : c.toNat = 45 ↔ c = 45 := by
  constructor
  · intro h; exact UInt8.toNat_inj.1 h
  · rintro rfl; rfl
theorem rem_iff {l : List UInt8} : rem l = true ↔ ∃ t, l = 45 :: 45 :: t := by
  cases l with
  | nil => simp [rem_nil]
  | cons c t =>
    cases t with
    | nil => simp [rem_one]
    | cons d t => rw [rem_two]; simp
theorem blk_rem {l : List UInt8} (h : rem l = true) : blk false l = blk true l := by
  obtain ⟨t, rfl⟩ := rem_iff.1 h
  simp [blk, isBl]
theorem blk_bl {c : UInt8} {t : List UInt8} (h : isBl c = true) : blk false (c :: t) = 1 + blk false t := by
  simp only [blk, h, if_true]
theorem blk_none {c : UInt8} {t : List UInt8} (h : isBl c = false) (hr : rem (c :: t) = false) : blk false (c :: t) = 0 := by
  have : ¬ (c.toNat = 45 ∧ t.head? = some 45) := by
    rintro ⟨h1, h2⟩
    cases t with
    | nil => simp at h2
    | cons d t => simp at h2; rw [rem_two, (u45 c).1 h1, h2] at hr; simp at hr
  simp only [blk, h, if_neg this]; simp
theorem blk_tx {c : UInt8} {t : List UInt8} (h : isTx c = true) : blk true (c :: t) = 1 + blk true t := by
  have : ¬ c.toNat = 10 := by simpa [isTx] using h
  simp only [blk, if_neg this]
theorem blk_nl {c : UInt8} {t : List UInt8} (h : isTx c = false) : blk true (c :: t) = blk false (c :: t) := by
  have h10 : c.toNat = 10 := by simpa [isTx] using h
  have : isBl c = true := by rw [isBl_iff]; omega
  simp only [blk, if_pos h10, this, if_true]
theorem blk_le : ∀ (b : Bool) (l : List UInt8), blk b l ≤ l.length
  | _, [] => by simp [blk]
  | true, c :: t => by
    have h1 := blk_le true t; have h2 := blk_le false t
    simp only [blk, List.length_cons]; split <;> omega
  | false, c :: t => by
    have h1 := blk_le true t; have h2 := blk_le false t
    simp only [blk, List.length_cons]; split
    · omega
    · split <;> omega
/-- The blanks at a text's beginning, taken by runs. -/
theorem blk_run : ∀ l : List UInt8, blk false l = run isBl l + blk false (l.drop (run isBl l))
  | [] => rfl
  | c :: t => by
    cases h : isBl c with
    | true => rw [blk_bl h, run_yes h, List.drop_succ_cons]; have := blk_run t; omega
    | false => rw [run_no h]; simp
theorem blk_runT : ∀ l : List UInt8, blk true l = run isTx l + blk false (l.drop (run isTx l))
  | [] => rfl
  | c :: t => by
    cases h : isTx c with
    | true => rw [blk_tx h, run_yes h, List.drop_succ_cons]; have := blk_runT t; omega
    | false => rw [run_no h, blk_nl h]; simp
theorem run_tx_pos {l : List UInt8} (h : rem l = true) : 0 < run isTx l := by
  obtain ⟨t, rfl⟩ := rem_iff.1 h
  rw [run_yes (by decide)]; omega
theorem blk_zero {l : List UInt8} (h : run isBl l = 0) (hr : rem l = false) : blk false l = 0 := by
  cases l with
  | nil => rfl
  | cons c t =>
    cases hb : isBl c with
    | true => rw [run_yes hb] at h; omega
    | false => exact blk_none hb hr
/-- Behind the blanks there is none. -/
theorem blk_idem : ∀ (b : Bool) (l : List UInt8), blk false (l.drop (blk b l)) = 0
  | _, [] => by simp [blk]
  | true, c :: t => by
    have h1 := blk_idem true t; have h2 := blk_idem false t
    simp only [blk]; split
    · rw [Nat.add_comm, List.drop_succ_cons]; exact h2
    · rw [Nat.add_comm, List.drop_succ_cons]; exact h1
  | false, c :: t => by
    have h1 := blk_idem true t; have h2 := blk_idem false t
    simp only [blk]; split
    · rw [Nat.add_comm, List.drop_succ_cons]; exact h2
    · split
      · rw [Nat.add_comm, List.drop_succ_cons]; exact h1
      · rename_i ha hb; rw [List.drop_zero]; simp only [blk, if_neg ha, if_neg hb]
theorem blk_pos_of {c : UInt8} {t : List UInt8} (h : blk false (c :: t) = 0) : isBl c = false ∧ rem (c :: t) = false := by
  constructor
  · cases hb : isBl c with
    | false => rfl
    | true => rw [blk_bl hb] at h; omega
  · cases hr : rem (c :: t) with
    | false => rfl
    | true =>
      obtain ⟨u, hu⟩ := rem_iff.1 hr
      rw [hu] at h
      simp [blk, isBl] at h

/-- The words, and the signs. -/
def wordL : List (List UInt8) := [[97, 110, 100], [100, 105, 118], [101, 108, 115, 101], [101, 109, 105, 116], [101, 110, 100, 105, 102], [102, 97, 108, 115, 101], [105, 102], [105, 109, 112, 108, 105, 101, 115], [109, 111, 100], [110, 111, 116], [111, 114], [116, 104, 101, 110], [116, 114, 117, 101], [120, 111, 114]]
def signL : List (List UInt8) := [[58, 61], [60, 62], [60, 61], [62, 61], [60], [62], [61], [43], [45], [42], [40], [41], [44], [59]]
/-- The words' text. -/
def wordB : List UInt8 := [32, 97, 110, 100, 32, 100, 105, 118, 32, 101, 108, 115, 101, 32, 101, 109, 105, 116, 32, 101, 110, 100, 105, 102, 32, 102, 97, 108, 115, 101, 32, 105, 102, 32, 105, 109, 112, 108, 105, 101, 115, 32, 109, 111, 100, 32, 110, 111, 116, 32, 111, 114, 32, 116, 104, 101, 110, 32, 116, 114, 117, 101, 32, 120, 111, 114, 32]
theorem word_at : ∀ i : Fin 68, (wordB.drop i.val).head? = some 32 → ((wordB.drop i.val).drop 1).takeWhile (fun c => !(c == 32)) = [] ∨ ((wordB.drop i.val).drop 1).takeWhile (fun c => !(c == 32)) ∈ wordL := by decide +kernel
theorem word_in : ∀ w ∈ wordL, Lib.contains wordB (32 :: w ++ [32]) = true := by decide +kernel
theorem takeWhile_app {w t : List UInt8} (h : ∀ c ∈ w, c ≠ 32) : (w ++ 32 :: t).takeWhile (fun c => !(c == 32)) = w := by
  induction w with
  | nil => simp
  | cons a w ih =>
    have ha := h a (List.mem_cons_self ..)
    rw [List.cons_append, List.takeWhile_cons, if_pos (by simp [ha]), ih (fun c hc => h c (List.mem_cons_of_mem _ hc))]
theorem words_eq {w : List UInt8} (h : ∀ c ∈ w, c ≠ 32) (hne : w ≠ []) : Lib.contains wordB (32 :: w ++ [32]) = wordL.contains w := by
  rw [Bool.eq_iff_iff, List.contains_iff_mem]
  constructor
  · intro hc
    unfold Lib.contains at hc
    simp only [decide_eq_true_eq] at hc
    rcases Lib.index_spec wordB (32 :: w ++ [32]) with ⟨h1, _⟩ | ⟨i, h1, h2, h3, _⟩
    · omega
    · have hp : (32 :: w ++ [32]) <+: wordB.drop i := List.isPrefixOf_iff_prefix.1 h3
      obtain ⟨t, ht⟩ := hp
      have hl := congrArg List.length ht
      have hwl : wordB.length = 67 := rfl
      rw [List.length_drop, List.length_append, List.length_append, List.length_cons] at hl
      simp only [List.length_cons, List.length_nil] at hl
      have hw := word_at ⟨i, by omega⟩
      simp only at hw
      rw [← ht] at hw
      have e : List.drop 1 (32 :: w ++ [32] ++ t) = w ++ 32 :: t := by simp
      rw [e, takeWhile_app h] at hw
      rcases hw (by simp) with h4 | h4
      · exact absurd h4 hne
      · exact h4
  · intro hm
    exact word_in w hm
/-- The sign with which a text begins: its bytes; 0: none. -/
def sgn (l : List UInt8) : Nat := match signL.find? (fun t => t.isPrefixOf l) with | some t => t.length | none => 0
/-- The token at a text's beginning. -/
def first (l : List UInt8) : Nat × Nat :=
  match l with
  | [] => (0, 0)
  | c :: t =>
    if rem (c :: t) then (0, 0)
    else if isDig c then (run isDig (c :: t), 1)
    else if isLet c then (if wordL.contains ((c :: t).take (run isLD (c :: t))) then (run isLD (c :: t), 3) else (run isLD (c :: t), 2))
    else if sgn (c :: t) = 0 then (0, 0) else (sgn (c :: t), 4)
theorem sgn_le (l : List UInt8) : sgn l ≤ l.length := by
  unfold sgn
  cases h : signL.find? (fun t => t.isPrefixOf l) with
  | none => simp
  | some t =>
    have := List.find?_some h
    exact (List.isPrefixOf_iff_prefix.1 this).length_le
theorem first_le (l : List UInt8) : (first l).1 ≤ l.length := by
  unfold first
  split
  · simp
  · rename_i c t
    have h1 := run_le isDig (c :: t); have h2 := run_le isLD (c :: t); have h3 := sgn_le (c :: t)
    split
    · simp
    · split
      · exact h1
      · split
        · split <;> exact h2
        · split
          · simp
          · exact h3
theorem first_kind (l : List UInt8) : (first l).2 ≤ 4 ∧ ((first l).1 = 0 ↔ (first l).2 = 0) := by
  unfold first
  split
  · simp
  · rename_i c t
    split
    · simp
    · split
      · rename_i h; simp [run_yes h]
      · split
        · rename_i h; have : isLD c = true := by simp [isLD, h]
          split <;> simp [run_yes this]
        · split <;> simp; assumption
/-- Which kind of token a text is. -/
def isT (l : List UInt8) : Nat := if (first l).1 = l.length ∧ l.length ≤ 64 then (first l).2 else 0

/-- A token: its kind, its text, its place. -/
abbrev Tok := Nat × List UInt8 × Nat
/-- The tokens of a text at a place (no blank ahead), or the place where there is none. -/
def tokF : Nat → Nat → List UInt8 → Option Nat × List Tok
  | 0, _, _ => (none, [])
  | k + 1, at_, l =>
    if l = [] then (none, [])
    else if (first l).1 = 0 ∨ 64 < (first l).1 then (some at_, [])
    else
      let n := (first l).1
      let b := blk false (l.drop n)
      let r := tokF k (at_ + n + b) (l.drop (n + b))
      (r.1, ((first l).2, l.take n, at_) :: r.2)
theorem tokF_nil (k at_ : Nat) : tokF k at_ [] = (none, []) := by cases k <;> simp [tokF]
theorem tokF_more : ∀ (k j at_ : Nat) (l : List UInt8), l.length ≤ k → l.length ≤ j → tokF k at_ l = tokF j at_ l := by
  intro k
  induction k with
  | zero =>
    intro j at_ l h1 _
    have : l = [] := List.length_eq_zero_iff.1 (by omega)
    subst this; rw [tokF_nil, tokF_nil]
  | succ k ih =>
    intro j at_ l h1 h2
    cases j with
    | zero =>
      have : l = [] := List.length_eq_zero_iff.1 (by omega)
      subst this; rw [tokF_nil, tokF_nil]
    | succ j =>
      by_cases hl : l = []
      · subst hl; rw [tokF_nil, tokF_nil]
      · simp only [tokF, if_neg hl]
        by_cases hn : (first l).1 = 0 ∨ 64 < (first l).1
        · rw [if_pos hn, if_pos hn]
        · rw [if_neg hn, if_neg hn]
          have := ih j (at_ + (first l).1 + blk false (l.drop (first l).1)) (l.drop ((first l).1 + blk false (l.drop (first l).1))) (by rw [List.length_drop]; omega) (by rw [List.length_drop]; omega)
          rw [this]
/-- Of a text behind blanks, at a place. -/
def toksAt (at_ : Nat) (l : List UInt8) : Option Nat × List Tok := tokF l.length at_ l
theorem toksAt_nil (at_ : Nat) : toksAt at_ [] = (none, []) := rfl
theorem toksAt_bad {at_ : Nat} {l : List UInt8} (hl : l ≠ []) (h : (first l).1 = 0 ∨ 64 < (first l).1) : toksAt at_ l = (some at_, []) := by
  unfold toksAt
  cases hk : l.length with
  | zero => exact absurd (List.length_eq_zero_iff.1 hk) hl
  | succ k => simp only [tokF, if_neg hl, if_pos h]
theorem toksAt_good {at_ : Nat} {l : List UInt8} (h : ¬ ((first l).1 = 0 ∨ 64 < (first l).1)) :
    toksAt at_ l = ((toksAt (at_ + (first l).1 + blk false (l.drop (first l).1)) (l.drop ((first l).1 + blk false (l.drop (first l).1)))).1,
      ((first l).2, l.take (first l).1, at_) :: (toksAt (at_ + (first l).1 + blk false (l.drop (first l).1)) (l.drop ((first l).1 + blk false (l.drop (first l).1)))).2) := by
  have hl : l ≠ [] := by rintro rfl; exact h (.inl rfl)
  unfold toksAt
  cases hk : l.length with
  | zero => exact absurd (List.length_eq_zero_iff.1 hk) hl
  | succ k =>
    simp only [tokF, if_neg hl, if_neg h]
    rw [tokF_more k (l.drop ((first l).1 + blk false (l.drop (first l).1))).length _ _ (by rw [List.length_drop]; omega) (Nat.le_refl _)]
/-- All tokens of a text. -/
def toks (l : List UInt8) : Option Nat × List Tok := toksAt (blk false l) (l.drop (blk false l))
end Go.Lx
