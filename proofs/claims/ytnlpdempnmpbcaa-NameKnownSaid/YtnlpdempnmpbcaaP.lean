/- Plain facts on names: bytes, the longest plain name ahead. No program is in sight. -/
import Derived.WalkKit
import Derived.Lib.Bytealg
import Derived.Lib.IndexLaws
import Derived.Lib.Hide
namespace Go.Nm
open Go.RowKit

def isLetter (c : UInt8) : Bool := (decide (65 ≤ c.toNat) && decide (c.toNat ≤ 90)) || (decide (97 ≤ c.toNat) && decide (c.toNat ≤ 122)) || decide (c.toNat = 95)
def may (c : UInt8) : Bool := isLetter c || (decide (48 ≤ c.toNat) && decide (c.toNat ≤ 57)) || decide (c.toNat = 45) || decide (c.toNat = 46)
def cls (c : UInt8) : Int := if isLetter c then 1 else if may c then 2 else 0

theorem bits_all : ∀ n : Fin 256, (97 ≤ bits BinOp.or IntKind.u8 ((n.val : Nat) : Int) 32 ∧ bits BinOp.or IntKind.u8 ((n.val : Nat) : Int) 32 ≤ 122) ↔ ((65 ≤ n.val ∧ n.val ≤ 90) ∨ (97 ≤ n.val ∧ n.val ≤ 122)) := by
  decide +kernel
theorem bits_or (c : UInt8) : (97 ≤ bits BinOp.or IntKind.u8 (c.toNat : Int) 32 ∧ bits BinOp.or IntKind.u8 (c.toNat : Int) 32 ≤ 122) ↔ ((65 ≤ c.toNat ∧ c.toNat ≤ 90) ∨ (97 ≤ c.toNat ∧ c.toNat ≤ 122)) :=
  bits_all ⟨c.toNat, c.toNat_lt⟩

theorem cls_one {c : UInt8} : isLetter c = true ↔ (65 ≤ c.toNat ∧ c.toNat ≤ 90) ∨ (97 ≤ c.toNat ∧ c.toNat ≤ 122) ∨ c.toNat = 95 := by
  simp [isLetter, or_assoc]

theorem may_iff {c : UInt8} : may c = true ↔ (65 ≤ c.toNat ∧ c.toNat ≤ 90) ∨ (97 ≤ c.toNat ∧ c.toNat ≤ 122) ∨ c.toNat = 95 ∨ (48 ≤ c.toNat ∧ c.toNat ≤ 57) ∨ c.toNat = 45 ∨ c.toNat = 46 := by
  simp [may, isLetter, or_assoc]

def len : List UInt8 → Nat
  | [] => 0
  | c :: t => if isLetter c then 1 + (t.takeWhile may).length else 0

end Go.Nm
namespace Go.Nm
theorem len_le (l : List UInt8) : len l ≤ l.length := by
  cases l with
  | nil => simp [len]
  | cons c t =>
    simp only [len]
    have := List.takeWhile_sublist (l := t) may
    have := this.length_le
    split <;> simp <;> omega

/-- How many bytes from a place on may be in a name. -/
def run (l : List UInt8) (k : Nat) : Nat := ((l.drop k).takeWhile may).length
theorem run_stop {l : List UInt8} {k : Nat} (h : l.length ≤ k) : run l k = 0 := by
  unfold run; rw [List.drop_eq_nil_of_le h]; rfl
theorem run_yes {l : List UInt8} {k : Nat} (h : k < l.length) (hm : may l[k] = true) : run l k = run l (k + 1) + 1 := by
  unfold run; rw [List.drop_eq_getElem_cons h, List.takeWhile_cons, if_pos hm]; simp
theorem run_no {l : List UInt8} {k : Nat} (h : k < l.length) (hm : may l[k] = false) : run l k = 0 := by
  unfold run; rw [List.drop_eq_getElem_cons h, List.takeWhile_cons, if_neg (by simp [hm])]; simp
theorem len_run {l : List UInt8} (h : 0 < l.length) (hm : isLetter l[0] = true) : len l = 1 + run l 1 := by
  cases l with
  | nil => simp at h
  | cons c t => simp only [List.getElem_cons_zero] at hm; simp [len, hm, run]
theorem len_not {l : List UInt8} (h : 0 < l.length) (hm : isLetter l[0] = false) : len l = 0 := by
  cases l with
  | nil => simp at h
  | cons c t => simp only [List.getElem_cons_zero] at hm; simp [len, hm]
theorem len_nil {l : List UInt8} (h : l.length = 0) : len l = 0 := by
  rw [List.length_eq_zero_iff.1 h]; rfl

theorem isLetter_may {c : UInt8} (h : isLetter c = true) : may c = true := by
  rw [cls_one] at h; rw [may_iff]; omega
theorem cls_eq_one {c : UInt8} : (cls c == 1) = isLetter c := by
  unfold cls; cases isLetter c <;> cases may c <;> rfl
theorem cls_ne_zero {c : UInt8} : (cls c == 0) = !may c := by
  unfold cls
  cases h : isLetter c <;> cases h' : may c <;> first | rfl | (rw [isLetter_may h] at h'; cases h')

theorem size_eq (s : ByteArray) : s.data.toList.length = s.size := Array.length_toList
theorem at_eq (s : ByteArray) (k : Nat) (h : k < s.size) : s.data.toList[k]'(by rw [size_eq]; exact h) = s[k] := rfl
end Go.Nm
namespace Go.Nm
/-- A plain name, of whatever length. -/
def pl (l : List UInt8) : Bool := decide (0 < l.length) && decide (len l = l.length)
theorem pl_false {l : List UInt8} : pl l = false ↔ len l = 0 ∨ len l < l.length := by
  have := len_le l
  simp [pl]
  omega
theorem pl_true {l : List UInt8} : pl l = true ↔ 0 < len l ∧ len l = l.length := by
  have := len_le l
  simp [pl]
  omega
end Go.Nm

namespace Go.Nm
/-- A name's parts. -/
def spl (l : List UInt8) : List UInt8 × List UInt8 × Bool :=
  if 64 < l.length then ([], [], false)
  else if Lib.indexByte l 58 = -1 then (if pl l then ([], l, true) else ([], [], false))
  else if pl (l.take (Lib.indexByte l 58).toNat) && pl (l.drop ((Lib.indexByte l 58).toNat + 1)) then (l.take (Lib.indexByte l 58).toNat, l.drop ((Lib.indexByte l 58).toNat + 1), true)
  else ([], [], false)
/-- What three results are, as lists of bytes. -/
def Spl (s p q : ByteArray) (ok : Bool) : Prop := spl s.data.toList = (p.data.toList, q.data.toList, ok)
theorem ext_take (s : ByteArray) (o : Nat) : (s.extract 0 o).data.toList = s.data.toList.take o := by
  rw [Lib.extract_data]; simp
theorem ext_drop (s : ByteArray) (o : Nat) : (s.extract o s.size).data.toList = s.data.toList.drop o := by
  rw [Lib.extract_data, List.take_of_length_le]
  rw [List.length_drop, size_eq]; exact Nat.le_refl _
theorem ext_size (s : ByteArray) (a b : Nat) : (s.extract a b).size ≤ s.size := by
  rw [ByteArray.size_extract]; omega
end Go.Nm

namespace Go
open Go.RowKit
/-- A call that returned one value, of which this is known. -/
def Ret {α : Type} (enc : α → Value) (v : α → World → Prop) (e : Ending) (w' : World) : Prop := ∃ x : α, e = .returned (enc x) ∧ v x w'
theorem Ret.mk {α : Type} {enc : α → Value} {v : α → World → Prop} {x : α} {w' : World} (h : v x w') : Ret enc v (.returned (enc x)) w' := ⟨x, rfl, h⟩
theorem Ret.mkB {v : Bool → World → Prop} {x : Bool} {w' : World} (h : v x w') : Ret Value.bool v (.returned (.bool x)) w' := ⟨x, rfl, h⟩
theorem Ret.mkI {v : Nat → World → Prop} {n : Int} {x : Nat} {w' : World} (hn : n = x) (h : v x w') : Ret (fun x : Nat => Value.int .i64 x) v (.returned (.int .i64 n)) w' := ⟨x, by rw [hn], h⟩
/-- Three values. -/
def Ret3 {α β γ : Type} (a : α → Value) (b : β → Value) (c : γ → Value) (v : α → β → γ → World → Prop) (e : Ending) (w' : World) : Prop := ∃ x y z, e = .returned (.tuple #[a x, b y, c z]) ∧ v x y z w'
theorem Ret3.mk {v : ByteArray → ByteArray → Bool → World → Prop} {x y : ByteArray} {z : Bool} {w' : World} (h : v x y z w') : Ret3 Value.string Value.string Value.bool v (.returned (.tuple #[.string x, .string y, .bool z])) w' := ⟨x, y, z, rfl, h⟩
end Go
