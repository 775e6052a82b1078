/- Plain facts on characters and their bytes. No program is in sight. -/
import Derived.WalkKit
import Derived.Lib.DecodeN
import Derived.Lib.Hide
import Derived.Lib.Strings
namespace Go.Ut
open Go.RowKit Go.Lib

/-- Is a number a character? -/
def IsC (c : Int) : Prop := c = 9 ∨ c = 10 ∨ c = 13 ∨ (32 ≤ c ∧ c ≤ 55295) ∨ (57344 ≤ c ∧ c ≤ 65533) ∨ (65536 ≤ c ∧ c ≤ 1114111)
instance (c : Int) : Decidable (IsC c) := by unfold IsC; infer_instance
def isC (c : Int) : Bool := decide (IsC c)

/-- A number's bytes. -/
def encL (c : Nat) : List UInt8 :=
  if c < 128 then [UInt8.ofNat c]
  else if c < 2048 then [UInt8.ofNat (192 + c / 64), UInt8.ofNat (128 + c % 64)]
  else if c < 65536 then [UInt8.ofNat (224 + c / 4096), UInt8.ofNat (128 + c / 64 % 64), UInt8.ofNat (128 + c % 64)]
  else [UInt8.ofNat (240 + c / 262144), UInt8.ofNat (128 + c / 4096 % 64), UInt8.ofNat (128 + c / 64 % 64), UInt8.ofNat (128 + c % 64)]
theorem encode_eq (c : Int) (h : IsC c) : Utf8.encode c = ⟨(encL c.toNat).toArray⟩ := by
  have hv : Utf8.valid c = true := by
    unfold IsC at h
    simp only [Utf8.valid, Bool.or_eq_true, Bool.and_eq_true, decide_eq_true_eq]
    omega
  unfold Utf8.encode encL
  simp only [hv, if_true]
  split
  · rfl
  · split
    · rfl
    · split <;> rfl
theorem encL_pos (c : Nat) : 0 < (encL c).length := by
  unfold encL; split
  · simp
  · split
    · simp
    · split <;> simp
theorem encL_le (c : Nat) : (encL c).length ≤ 4 := by
  unfold encL; split
  · simp
  · split
    · simp
    · split <;> simp

/-- What stands at a text's beginning, as Go reads it. -/
def decL (l : List UInt8) : Nat × Nat := decodeN l.length (l.getD 0 0).toNat (l.getD 1 0).toNat (l.getD 2 0).toNat (l.getD 3 0).toNat
theorem get!_eq (s : ByteArray) (p k : Nat) : s.get! (p + k) = (s.data.toList.drop p).getD k 0 := by
  rw [List.getD_eq_getElem?_getD, List.getElem?_drop, Array.getElem?_toList]
  show s.data[p + k]! = _
  rw [getElem!_def]
  cases s.data[p + k]? <;> rfl
theorem size_eq (s : ByteArray) : s.data.toList.length = s.size := Array.length_toList
theorem decode_eq (s : ByteArray) (p : Nat) : Utf8.decode s p = decL (s.data.toList.drop p) := by
  rw [decode_at]
  unfold decL
  rw [List.length_drop, size_eq, ← get!_eq s p 0, ← get!_eq s p 1, ← get!_eq s p 2, ← get!_eq s p 3]
  rfl
theorem ofNat_toNat {n : Nat} (h : n < 256) : (UInt8.ofNat n).toNat = n := by
  simp; omega
set_option maxHeartbeats 1600000 in
/-- A character's bytes are read as the character. -/
theorem decL_enc (c : Nat) (h : IsC c) (t : List UInt8) : decL (encL c ++ t) = (c, (encL c).length) := by
  have hc : c ≤ 1114111 ∧ ¬ (55296 ≤ c ∧ c < 57344) := by unfold IsC at h; omega
  unfold encL
  by_cases h1 : c < 128
  · rw [if_pos h1]
    simp only [decL, List.cons_append, List.nil_append, List.length_cons, List.getD_cons_zero, List.length_nil]
    rw [ofNat_toNat (by omega)]
    unfold decodeN
    rw [if_pos h1]
  · rw [if_neg h1]
    by_cases h2 : c < 2048
    · rw [if_pos h2]
      simp only [decL, List.cons_append, List.nil_append, List.length_cons, List.getD_cons_zero, List.getD_cons_succ, List.length_nil]
      rw [ofNat_toNat (n := 192 + c / 64) (by omega), ofNat_toNat (n := 128 + c % 64) (by omega)]
      unfold decodeN
      rw [if_neg (by omega), if_pos (by omega), if_pos (by omega)]
      apply Prod.ext <;> simp only <;> omega
    · rw [if_neg h2]
      by_cases h3 : c < 65536
      · rw [if_pos h3]
        simp only [decL, List.cons_append, List.nil_append, List.length_cons, List.getD_cons_zero, List.getD_cons_succ, List.length_nil]
        rw [ofNat_toNat (n := 224 + c / 4096) (by omega), ofNat_toNat (n := 128 + c / 64 % 64) (by omega), ofNat_toNat (n := 128 + c % 64) (by omega)]
        unfold decodeN
        rw [if_neg (by omega), if_neg (by omega), if_pos (by omega), if_pos (by omega)]
        apply Prod.ext <;> simp only <;> omega
      · rw [if_neg h3]
        simp only [decL, List.cons_append, List.nil_append, List.length_cons, List.getD_cons_zero, List.getD_cons_succ, List.length_nil]
        rw [ofNat_toNat (n := 240 + c / 262144) (by omega), ofNat_toNat (n := 128 + c / 4096 % 64) (by omega), ofNat_toNat (n := 128 + c / 64 % 64) (by omega), ofNat_toNat (n := 128 + c % 64) (by omega)]
        unfold decodeN
        rw [if_neg (by omega), if_neg (by omega), if_neg (by omega), if_pos (by omega), if_pos (by omega)]
        apply Prod.ext <;> simp only <;> omega

/-- The first character of a text, and how many bytes it has. -/
def nxt (l : List UInt8) : Option (Nat × Nat) :=
  if IsC (decL l).1 ∧ encL (decL l).1 <+: l then some ((decL l).1, (encL (decL l).1).length) else none
theorem nxt_some {l : List UInt8} {c n : Nat} : nxt l = some (c, n) ↔ IsC c ∧ encL c <+: l ∧ n = (encL c).length := by
  unfold nxt
  constructor
  · intro h
    split at h
    · rename_i hh
      simp only [Option.some.injEq, Prod.mk.injEq] at h
      obtain ⟨rfl, rfl⟩ := h
      exact ⟨hh.1, hh.2, rfl⟩
    · cases h
  · rintro ⟨h1, ⟨t, rfl⟩, rfl⟩
    rw [decL_enc c h1, if_pos ⟨h1, List.prefix_append _ _⟩]
theorem nxt_none {l : List UInt8} : nxt l = none ↔ ∀ c : Nat, IsC c → ¬ encL c <+: l := by
  constructor
  · intro h c hc hp
    rw [nxt_some.2 ⟨hc, hp, rfl⟩] at h; cases h
  · intro h
    cases hn : nxt l with
    | none => rfl
    | some p => obtain ⟨c, n⟩ := p; exact absurd (nxt_some.1 hn).2.1 (h c (nxt_some.1 hn).1)
theorem nxt_nil : nxt [] = none := nxt_none.2 fun c _ ⟨t, h⟩ => by
  have := congrArg List.length h
  have h2 := encL_pos c
  rw [List.length_append, List.length_nil] at this; omega
theorem nxt_append {l : List UInt8} {p : Nat × Nat} (h : nxt l = some p) (t : List UInt8) : nxt (l ++ t) = some p := by
  obtain ⟨c, n⟩ := p
  rw [nxt_some] at h ⊢
  exact ⟨h.1, h.2.1.trans (List.prefix_append _ _), h.2.2⟩
theorem nxt_le {l : List UInt8} {c n : Nat} (h : nxt l = some (c, n)) : 0 < n ∧ n ≤ l.length ∧ c ≤ 1114111 := by
  obtain ⟨h1, h2, rfl⟩ := nxt_some.1 h
  refine ⟨encL_pos c, h2.length_le, ?_⟩
  unfold IsC at h1; omega
theorem nxt_take {l : List UInt8} {c n : Nat} (h : nxt l = some (c, n)) : l.take n = encL c := by
  obtain ⟨h1, ⟨t, rfl⟩, rfl⟩ := nxt_some.1 h
  rw [List.take_append_of_le_length (Nat.le_refl _), List.take_of_length_le (Nat.le_refl _)]

/-- How many characters stand at a text's beginning, and how many bytes these have. -/
def walkF : Nat → List UInt8 → Nat × Nat
  | 0, _ => (0, 0)
  | m + 1, l => match nxt l with
    | none => (0, 0)
    | some (_, n) => ((walkF m (l.drop n)).1 + 1, (walkF m (l.drop n)).2 + n)
def W (l : List UInt8) : Nat × Nat := walkF l.length l
theorem walkF_more : ∀ (m k : Nat) (l : List UInt8), l.length ≤ m → l.length ≤ k → walkF m l = walkF k l := by
  intro m
  induction m with
  | zero =>
    intro k l h1 _
    have : l = [] := List.length_eq_zero_iff.1 (by omega)
    subst this
    cases k with
    | zero => rfl
    | succ k => simp [walkF, nxt_nil]
  | succ m ih =>
    intro k l h1 h2
    cases k with
    | zero =>
      have : l = [] := List.length_eq_zero_iff.1 (by omega)
      subst this
      simp [walkF, nxt_nil]
    | succ k =>
      simp only [walkF]
      cases hn : nxt l with
      | none => rfl
      | some p =>
        obtain ⟨c, n⟩ := p
        have := nxt_le hn
        simp only
        rw [ih k (l.drop n) (by rw [List.length_drop]; omega) (by rw [List.length_drop]; omega)]
theorem W_none {l : List UInt8} (h : nxt l = none) : W l = (0, 0) := by
  unfold W
  cases l with
  | nil => rfl
  | cons a t => simp only [List.length_cons, walkF, h]
theorem W_some {l : List UInt8} {c n : Nat} (h : nxt l = some (c, n)) : W l = ((W (l.drop n)).1 + 1, (W (l.drop n)).2 + n) := by
  have hn := nxt_le h
  unfold W
  cases hl : l.length with
  | zero => omega
  | succ m =>
    simp only [walkF, h]
    rw [walkF_more m (l.drop n).length (l.drop n) (by rw [List.length_drop]; omega) (Nat.le_refl _)]
theorem W_le (m : Nat) : ∀ l : List UInt8, l.length ≤ m → (W l).2 ≤ l.length ∧ (W l).1 ≤ (W l).2 := by
  induction m with
  | zero =>
    intro l h
    have : l = [] := List.length_eq_zero_iff.1 (by omega)
    subst this; simp [W_none nxt_nil]
  | succ m ih =>
    intro l h
    cases hn : nxt l with
    | none => rw [W_none hn]; exact ⟨Nat.zero_le _, Nat.le_refl _⟩
    | some p =>
      obtain ⟨c, n⟩ := p
      have h1 := nxt_le hn
      have h2 := ih (l.drop n) (by rw [List.length_drop]; omega)
      rw [List.length_drop] at h2
      rw [W_some hn]
      simp only
      omega
theorem W_append (m : Nat) : ∀ l t : List UInt8, l.length ≤ m → (W l).2 = l.length → W (l ++ t) = ((W l).1 + (W t).1, l.length + (W t).2) := by
  induction m with
  | zero =>
    intro l t h _
    have : l = [] := List.length_eq_zero_iff.1 (by omega)
    subst this; simp [W_none nxt_nil]
  | succ m ih =>
    intro l t h hw
    cases hn : nxt l with
    | none =>
      rw [W_none hn] at hw
      have : l = [] := List.length_eq_zero_iff.1 hw.symm
      subst this; simp [W_none nxt_nil]
    | some p =>
      obtain ⟨c, n⟩ := p
      have h1 := nxt_le hn
      rw [W_some hn] at hw ⊢
      rw [W_some (nxt_append hn t), List.drop_append_of_le_length h1.2.1]
      simp only at hw
      have := ih (l.drop n) t (by rw [List.length_drop]; omega) (by rw [List.length_drop]; omega)
      rw [this, List.length_drop]
      apply Prod.ext <;> simp only <;> omega
/-- Where the characters end there is none, or the text's end. -/
theorem W_end (m : Nat) : ∀ l : List UInt8, l.length ≤ m → nxt (l.drop (W l).2) = none := by
  induction m with
  | zero =>
    intro l h
    have : l = [] := List.length_eq_zero_iff.1 (by omega)
    subst this; simp [nxt_nil]
  | succ m ih =>
    intro l h
    cases hn : nxt l with
    | none => rw [W_none hn]; simpa using hn
    | some p =>
      obtain ⟨c, n⟩ := p
      have h1 := nxt_le hn
      rw [W_some hn]
      simp only
      rw [Nat.add_comm, ← List.drop_drop]
      exact ih _ (by rw [List.length_drop]; omega)

/-- What 'each' tells: at most m characters more. -/
def eachC : Nat → Nat → Nat → Nat → List UInt8 → Nat × Nat × Nat
  | 0, c, k, b, _ => (c, k, b)
  | m + 1, c, k, b, l => match nxt l with
    | none => (c, k, b)
    | some (x, n) => eachC m x (k + 1) (b + n) (l.drop n)
theorem eachC_none {m c k b : Nat} {l : List UInt8} (h : nxt l = none) : eachC m c k b l = (c, k, b) := by
  cases m with
  | zero => rfl
  | succ m => simp only [eachC, h]
theorem eachC_some {m c k b x n : Nat} {l : List UInt8} (h : nxt l = some (x, n)) : eachC (m + 1) c k b l = eachC m x (k + 1) (b + n) (l.drop n) := by
  simp only [eachC, h]
theorem eachC_walk : ∀ (m c k b : Nat) (l : List UInt8), (eachC m c k b l).2 = (k + (walkF m l).1, b + (walkF m l).2)
  | 0, _, _, _, _ => rfl
  | m + 1, c, k, b, l => by
    simp only [eachC, walkF]
    cases hn : nxt l with
    | none => rfl
    | some p =>
      obtain ⟨x, n⟩ := p
      simp only [eachC_walk m x (k + 1) (b + n) (l.drop n)]
      apply Prod.ext <;> simp only <;> omega
theorem eachC_all (l : List UInt8) : (eachC l.length 0 0 0 l).2 = W l := by
  rw [eachC_walk]; unfold W; simp

/-- What so many bytes would be. -/
def base (n : Nat) : Int := if n = 2 then 192 else if n = 3 then 224 else if n = 4 then 240 else 0
def acc (l : List UInt8) (c : Int) : Int := l.foldl (fun c b => c * 64 + (b.toNat : Int) - 128) c
def numL (l : List UInt8) (n : Nat) : Int := acc ((l.take n).drop 1) (((l.getD 0 0).toNat : Int) - base n)
set_option maxHeartbeats 1600000 in
theorem numL_enc (c : Nat) (h : IsC c) (t : List UInt8) : numL (encL c ++ t) (encL c).length = c := by
  have hc : c ≤ 1114111 := by unfold IsC at h; omega
  unfold numL
  rw [List.take_append_of_le_length (Nat.le_refl _), List.take_of_length_le (Nat.le_refl _)]
  unfold encL
  split
  · rw [List.cons_append, List.getD_cons_zero, ofNat_toNat (by omega)]; simp [acc, base]
  · split
    · rw [List.cons_append, List.getD_cons_zero]
      simp only [acc, base, List.drop_succ_cons, List.drop_zero, List.foldl_cons, List.foldl_nil, List.length_cons, List.length_nil, ofNat_toNat (n := 192 + c / 64) (by omega), ofNat_toNat (n := 128 + c % 64) (by omega)]
      simp; omega
    · split
      · rw [List.cons_append, List.getD_cons_zero]
        simp only [acc, base, List.drop_succ_cons, List.drop_zero, List.foldl_cons, List.foldl_nil, List.length_cons, List.length_nil, ofNat_toNat (n := 224 + c / 4096) (by omega), ofNat_toNat (n := 128 + c / 64 % 64) (by omega), ofNat_toNat (n := 128 + c % 64) (by omega)]
        simp; omega
      · rw [List.cons_append, List.getD_cons_zero]
        simp only [acc, base, List.drop_succ_cons, List.drop_zero, List.foldl_cons, List.foldl_nil, List.length_cons, List.length_nil, ofNat_toNat (n := 240 + c / 262144) (by omega), ofNat_toNat (n := 128 + c / 4096 % 64) (by omega), ofNat_toNat (n := 128 + c / 64 % 64) (by omega), ofNat_toNat (n := 128 + c % 64) (by omega)]
        simp; omega
/-- So many bytes are a character. -/
def wk (l : List UInt8) (n : Nat) : Prop := IsC (numL l n) ∧ encL (numL l n).toNat = l.take n
theorem wk_nxt {l : List UInt8} {n : Nat} (hn : n ≤ l.length) (h : wk l n) : nxt l = some ((numL l n).toNat, n) := by
  have h0 : 0 ≤ numL l n := by have := h.1; unfold IsC at this; omega
  have he : ((numL l n).toNat : Int) = numL l n := by omega
  refine nxt_some.2 ⟨by rw [he]; exact h.1, ?_, ?_⟩
  · rw [h.2]; exact List.take_prefix _ _
  · rw [h.2, List.length_take]; omega
theorem nxt_wk {l : List UInt8} {c n : Nat} (h : nxt l = some (c, n)) : wk l n ∧ numL l n = c := by
  obtain ⟨h1, ⟨t, rfl⟩, rfl⟩ := nxt_some.1 h
  have := numL_enc c h1 t
  refine ⟨⟨by rw [this]; exact h1, ?_⟩, this⟩
  rw [this, Int.toNat_natCast]
  exact (nxt_take h).symm
end Go.Ut
