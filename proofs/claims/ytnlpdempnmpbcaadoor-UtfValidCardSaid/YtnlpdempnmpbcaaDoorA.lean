/- Walks of utf.is, utf.Put, and of the document's Is and Put. -/
import Derived.Test.YtnlpdempnmpbcaaDoorProg
import Derived.Test.YtnlpdempnmpbcaaDoorP
import Derived.Outline
import Derived.Laws.Rows
import Derived.Laws.IdiomStrings
import Derived.Below
import Derived.Lib.OthersKept
namespace Go.Proofs
open Go.RowKit Go.Ut

/-- The table of bounds, where the variable lies. -/
def tab : Array Value := #[.int .i32 9, .int .i32 10, .int .i32 13, .int .i32 13, .int .i32 32, .int .i32 55295, .int .i32 57344, .int .i32 65533, .int .i32 65536, .int .i32 1114111]
def Tab (w : World) : Prop := ∃ t fr, w.heap[0]? = some (.cells tab t fr)
theorem Tab.size {w : World} (h : Tab w) : 0 < w.heap.size := by
  obtain ⟨t, fr, h⟩ := h
  exact (Array.getElem?_eq_some_iff.1 h).1
theorem Tab.below {w w' : World} {B : Nat} (h : Tab w) (hb : Below B w w') (hB : 0 < B) : Tab w' := by
  obtain ⟨t, fr, h⟩ := h
  exact ⟨t, fr, (hb.block 0 hB).trans h⟩

theorem isC_iff {c : Int} : isC c = true ↔ (c = 9 ∨ c = 10 ∨ c = 13 ∨ (32 ≤ c ∧ c ≤ 55295) ∨ (57344 ≤ c ∧ c ≤ 65533) ∨ (65536 ≤ c ∧ c ≤ 1114111)) := decide_eq_true_iff
theorem ret_true {c : Int} (h : IsC c) : Ending.returned (.bool true) = .returned (.bool (isC c)) := by rw [isC, decide_eq_true h]
theorem ret_false {c : Int} (h : ¬ IsC c) : Ending.returned (.bool false) = .returned (.bool (isC c)) := by rw [isC, decide_eq_false h]
theorem tab_at0 (w : World) : (Instr.index 45 (.agg tab) (.int .i64 0)).run Tryd.prog w = .ok (.agg #[.int .i32 9, .int .i32 10]) w := by kernel_rfl
theorem tab_at1 (w : World) : (Instr.index 45 (.agg tab) (.int .i64 1)).run Tryd.prog w = .ok (.agg #[.int .i32 13, .int .i32 13]) w := by kernel_rfl
theorem tab_at2 (w : World) : (Instr.index 45 (.agg tab) (.int .i64 2)).run Tryd.prog w = .ok (.agg #[.int .i32 32, .int .i32 55295]) w := by kernel_rfl
theorem tab_at3 (w : World) : (Instr.index 45 (.agg tab) (.int .i64 3)).run Tryd.prog w = .ok (.agg #[.int .i32 57344, .int .i32 65533]) w := by kernel_rfl
theorem tab_at4 (w : World) : (Instr.index 45 (.agg tab) (.int .i64 4)).run Tryd.prog w = .ok (.agg #[.int .i32 65536, .int .i32 1114111]) w := by kernel_rfl

theorem is_any (c : Int) (w : World) (hw : Tab w) :
    Calls Tryd.prog 20 #[.int .i32 c] w fun e w' => e = .returned (.bool (isC c)) ∧ Below w.heap.size w w' := by
  have hs := hw.size
  obtain ⟨tt, fr, hg⟩ := hw
  go_enter Tryd.func20, Tryd.ntmps20
  go_wp2_with (refine wpList_load_row rfl 45 _ rfl 0 rfl tt _ fr _ hg Tryd.underlying45 rfl (by kernel_rfl) ?_)
  go_loopw [6] (fun i wr => ∃ k : Nat, k ≤ 5 ∧ i = .int .i64 k ∧ Below w.heap.size w wr ∧ (0 < k → ¬ (c = 9 ∨ c = 10)) ∧ (1 < k → c ≠ 13) ∧ (2 < k → ¬ (32 ≤ c ∧ c ≤ 55295)) ∧ (3 < k → ¬ (57344 ≤ c ∧ c ≤ 65533)) ∧ (4 < k → ¬ (65536 ≤ c ∧ c ≤ 1114111))) (fun i _ => 5 - (intOf i).toNat)
  case atStart => exact ⟨0, by omega, rfl, Below.refl _ _, by omega, by omega, by omega, by omega, by omega⟩
  case round =>
    obtain ⟨k, hk, rfl, hb, h1, h2, h3, h4, h5⟩ := hrel
    have : k = 0 ∨ k = 1 ∨ k = 2 ∨ k = 3 ∨ k = 4 ∨ k = 5 := by omega
    have hsz := hb.size
    have i0 := tab_at0; have i1 := tab_at1; have i2 := tab_at2; have i3 := tab_at3; have i4 := tab_at4
    have hba := fun (o : Obj) => hb.alloc hsz o
    have HBA := Lib.hid hba
    clear hba
    rcases this with rfl | rfl | rfl | rfl | rfl | rfl
    · go_wp2_with fail
      all_goals first
        | (go_ret; exact ⟨ret_true (by unfold IsC; omega), HBA.out _⟩)
        | (go_roundw
           case rel => exact ⟨1, by omega, rfl, HBA.out _, by omega, by omega, by omega, by omega, by omega⟩
           case measure => simp [intOf])
    · go_wp2_with fail
      all_goals first
        | (go_ret; exact ⟨ret_true (by unfold IsC; omega), HBA.out _⟩)
        | (go_roundw
           case rel => exact ⟨2, by omega, rfl, HBA.out _, by omega, by omega, by omega, by omega, by omega⟩
           case measure => simp [intOf])
    · go_wp2_with fail
      all_goals first
        | (go_ret; exact ⟨ret_true (by unfold IsC; omega), HBA.out _⟩)
        | (go_roundw
           case rel => exact ⟨3, by omega, rfl, HBA.out _, by omega, by omega, by omega, by omega, by omega⟩
           case measure => simp [intOf])
    · go_wp2_with fail
      all_goals first
        | (go_ret; exact ⟨ret_true (by unfold IsC; omega), HBA.out _⟩)
        | (go_roundw
           case rel => exact ⟨4, by omega, rfl, HBA.out _, by omega, by omega, by omega, by omega, by omega⟩
           case measure => simp [intOf])
    · go_wp2_with fail
      all_goals first
        | (go_ret; exact ⟨ret_true (by unfold IsC; omega), HBA.out _⟩)
        | (go_roundw
           case rel => exact ⟨5, by omega, rfl, HBA.out _, by omega, by omega, by omega, by omega, by omega⟩
           case measure => simp [intOf])
    · go_wp2_with fail
      go_ret
      exact ⟨ret_false (by unfold IsC; omega), hb⟩

/-- What Put tells. -/
def putB (c : Int) : ByteArray := if IsC c then ⟨(encL c.toNat).toArray⟩ else ⟨#[]⟩
theorem put_any (c : Int) (w : World) (hw : Tab w) :
    Calls Tryd.prog 11 #[.int .i32 c] w fun e w' => e = .returned (.string (putB c)) ∧ Below w.heap.size w w' := by
  by_cases hc : IsC c
  · have he := Lib.hid (encode_eq c hc)
    have hI : Hid (isC c = true) := decide_eq_true hc
    have hp : Hid (putB c = ⟨(encL c.toNat).toArray⟩) := by unfold Hid putB; rw [if_pos hc]
    clear hc
    go_enter Tryd.func11, Tryd.ntmps11
    go_wp2_with fail
    refine (is_any _ _ hw).mono ?_
    rintro e w1 ⟨rfl, hb⟩
    rw [hI.out]
    go_wp2_with fail
    go_ret
    exact ⟨by rw [hp.out, he.out]; rfl, hb⟩
  · have hI : Hid (isC c = false) := decide_eq_false hc
    have hp : Hid (putB c = ⟨#[]⟩) := by unfold Hid putB; rw [if_neg hc]
    clear hc
    go_enter Tryd.func11, Tryd.ntmps11
    go_wp2_with fail
    refine (is_any _ _ hw).mono ?_
    rintro e w1 ⟨rfl, hb⟩
    rw [hI.out]
    go_wp2_with fail
    go_ret
    exact ⟨by rw [hp.out]; rfl, hb⟩

theorem ris_any (c : Int) (w : World) :
    Calls Tryd.prog 13 #[.int .i64 c] w fun e w' => e = .returned (.bool (isC c)) ∧ w = w' := by
  go_enter Tryd.func13, Tryd.ntmps13
  go_wp2_with fail
  all_goals
    go_ret
    refine ⟨congrArg (fun b => Ending.returned (.bool b)) ?_, rfl⟩
    rw [Bool.eq_iff_iff, isC_iff]
    simp
    try omega

/-- 'string([]byte{..})'. -/
theorem bytes_str (w : World) (l : List UInt8) (cells : Array Value) (h : cells = (l.map fun b => Value.int .u8 (b.toNat : Int)).toArray) (n : Nat) (hn : l.length = n) :
    (convert 37 9 (.slice (some ⟨w.heap.size, 0, none⟩) n n)).run Tryd.prog (w.alloc (.cells cells 5)) = .ok (.string ⟨l.toArray⟩) (w.alloc (.cells cells 5)) := by
  subst hn
  exact run_convert_bytes_back (P := Tryd.prog) _ 37 9 5 _ _ l Tryd.underlying37 Tryd.underlying5 Tryd.underlying9 (fun j hj => by
    have : (⟨w.heap.size, 0, none⟩ : Addr).add j = ⟨w.heap.size, j, none⟩ := by unfold Addr.add; split <;> simp_all
    rw [this, World.cell?_alloc_new, h]
    simp [hj])
theorem u8_of {a : Int} {n : Nat} (h : a = n) (hn : n < 256) : Value.int .u8 a = Value.int .u8 ((UInt8.ofNat n).toNat : Int) := by
  rw [ofNat_toNat hn, h]

set_option maxHeartbeats 800000 in
theorem rput_any (c : Int) (w : World) (hc : -2147483648 ≤ c ∧ c ≤ 2147483647) :
    Calls Tryd.prog 12 #[.int .i64 c] w fun e w' => e = .returned (.string (putB c)) ∧ Below w.heap.size w w' := by
  obtain ⟨hc1, hc2⟩ := hc
  by_cases hI : IsC c
  · have hp : Hid (putB c = ⟨(encL c.toNat).toArray⟩) := by unfold Hid putB; rw [if_pos hI]
    have hB : Hid (isC c = true) := decide_eq_true hI
    have h0 : 0 ≤ c := by unfold IsC at hI; omega
    have h9 : c ≤ 1114111 := by unfold IsC at hI; omega
    obtain ⟨n, rfl⟩ := Int.eq_ofNat_of_zero_le h0
    rw [Int.toNat_natCast] at hp
    clear hI
    by_cases h1 : n < 128
    · replace hp : Hid (putB n = ⟨#[UInt8.ofNat n]⟩) := by have := hp.out; unfold Hid; rw [this]; unfold encL; rw [if_pos h1]
      have hcv : ∀ wx : World, (convert 37 9 (.slice (some ⟨wx.heap.size, 0, none⟩) 1 1)).run Tryd.prog (wx.alloc (.cells #[.int .u8 (n : Int)] 5)) = .ok (.string (putB (n : Int))) (wx.alloc (.cells #[.int .u8 (n : Int)] 5)) := fun wx => by
        rw [hp.out]; exact bytes_str wx [UInt8.ofNat n] #[.int .u8 (n : Int)] (by rw [u8_of (a := n) (n := n) rfl (by omega)]; rfl) 1 rfl
      clear hp
      go_enter Tryd.func12, Tryd.ntmps12
      go_wp2_with fail
      refine (ris_any _ _).mono ?_
      rintro e w1 ⟨rfl, rfl⟩
      rw [hB.out]
      go_wp2_with fail
      go_ret
      exact ⟨rfl, (Below.refl _ _).alloc (Nat.le_refl _) _⟩
    by_cases h2 : n < 2048
    · replace hp : Hid (putB n = ⟨#[UInt8.ofNat (192 + n / 64), UInt8.ofNat (128 + n % 64)]⟩) := by have := hp.out; unfold Hid; rw [this]; unfold encL; rw [if_neg h1, if_pos h2]
      have hcv : ∀ wx : World, (convert 37 9 (.slice (some ⟨wx.heap.size, 0, none⟩) 2 2)).run Tryd.prog (wx.alloc (.cells #[.int .u8 (192 + (n : Int) / 64), .int .u8 (128 + (n : Int) % 64)] 5)) = .ok (.string (putB (n : Int))) (wx.alloc (.cells #[.int .u8 (192 + (n : Int) / 64), .int .u8 (128 + (n : Int) % 64)] 5)) := fun wx => by
        rw [hp.out]; exact bytes_str wx [UInt8.ofNat (192 + n / 64), UInt8.ofNat (128 + n % 64)] #[.int .u8 (192 + (n : Int) / 64), .int .u8 (128 + (n : Int) % 64)] (by rw [u8_of (a := 192 + (n : Int) / 64) (n := 192 + n / 64) (by omega) (by omega), u8_of (a := 128 + (n : Int) % 64) (n := 128 + n % 64) (by omega) (by omega)]; rfl) 2 rfl
      clear hp
      go_enter Tryd.func12, Tryd.ntmps12
      go_wp2_with fail
      refine (ris_any _ _).mono ?_
      rintro e w1 ⟨rfl, rfl⟩
      rw [hB.out]
      go_wp2_with fail
      go_ret
      exact ⟨rfl, (Below.refl _ _).alloc (Nat.le_refl _) _⟩
    by_cases h3 : n < 65536
    · replace hp : Hid (putB n = ⟨#[UInt8.ofNat (224 + n / 4096), UInt8.ofNat (128 + n / 64 % 64), UInt8.ofNat (128 + n % 64)]⟩) := by have := hp.out; unfold Hid; rw [this]; unfold encL; rw [if_neg h1, if_neg h2, if_pos h3]
      have hcv : ∀ wx : World, (convert 37 9 (.slice (some ⟨wx.heap.size, 0, none⟩) 3 3)).run Tryd.prog (wx.alloc (.cells #[.int .u8 (224 + (n : Int) / 4096), .int .u8 (128 + (n : Int) / 64 % 64), .int .u8 (128 + (n : Int) % 64)] 5)) = .ok (.string (putB (n : Int))) (wx.alloc (.cells #[.int .u8 (224 + (n : Int) / 4096), .int .u8 (128 + (n : Int) / 64 % 64), .int .u8 (128 + (n : Int) % 64)] 5)) := fun wx => by
        rw [hp.out]; exact bytes_str wx [UInt8.ofNat (224 + n / 4096), UInt8.ofNat (128 + n / 64 % 64), UInt8.ofNat (128 + n % 64)] #[.int .u8 (224 + (n : Int) / 4096), .int .u8 (128 + (n : Int) / 64 % 64), .int .u8 (128 + (n : Int) % 64)] (by rw [u8_of (a := 224 + (n : Int) / 4096) (n := 224 + n / 4096) (by omega) (by omega), u8_of (a := 128 + (n : Int) / 64 % 64) (n := 128 + n / 64 % 64) (by omega) (by omega), u8_of (a := 128 + (n : Int) % 64) (n := 128 + n % 64) (by omega) (by omega)]; rfl) 3 rfl
      clear hp
      go_enter Tryd.func12, Tryd.ntmps12
      go_wp2_with fail
      refine (ris_any _ _).mono ?_
      rintro e w1 ⟨rfl, rfl⟩
      rw [hB.out]
      go_wp2_with fail
      go_ret
      exact ⟨rfl, (Below.refl _ _).alloc (Nat.le_refl _) _⟩
    · replace hp : Hid (putB n = ⟨#[UInt8.ofNat (240 + n / 262144), UInt8.ofNat (128 + n / 4096 % 64), UInt8.ofNat (128 + n / 64 % 64), UInt8.ofNat (128 + n % 64)]⟩) := by have := hp.out; unfold Hid; rw [this]; unfold encL; rw [if_neg h1, if_neg h2, if_neg h3]
      have hcv : ∀ wx : World, (convert 37 9 (.slice (some ⟨wx.heap.size, 0, none⟩) 4 4)).run Tryd.prog (wx.alloc (.cells #[.int .u8 (240 + (n : Int) / 262144), .int .u8 (128 + (n : Int) / 4096 % 64), .int .u8 (128 + (n : Int) / 64 % 64), .int .u8 (128 + (n : Int) % 64)] 5)) = .ok (.string (putB (n : Int))) (wx.alloc (.cells #[.int .u8 (240 + (n : Int) / 262144), .int .u8 (128 + (n : Int) / 4096 % 64), .int .u8 (128 + (n : Int) / 64 % 64), .int .u8 (128 + (n : Int) % 64)] 5)) := fun wx => by
        rw [hp.out]; exact bytes_str wx [UInt8.ofNat (240 + n / 262144), UInt8.ofNat (128 + n / 4096 % 64), UInt8.ofNat (128 + n / 64 % 64), UInt8.ofNat (128 + n % 64)] #[.int .u8 (240 + (n : Int) / 262144), .int .u8 (128 + (n : Int) / 4096 % 64), .int .u8 (128 + (n : Int) / 64 % 64), .int .u8 (128 + (n : Int) % 64)] (by rw [u8_of (a := 240 + (n : Int) / 262144) (n := 240 + n / 262144) (by omega) (by omega), u8_of (a := 128 + (n : Int) / 4096 % 64) (n := 128 + n / 4096 % 64) (by omega) (by omega), u8_of (a := 128 + (n : Int) / 64 % 64) (n := 128 + n / 64 % 64) (by omega) (by omega), u8_of (a := 128 + (n : Int) % 64) (n := 128 + n % 64) (by omega) (by omega)]; rfl) 4 rfl
      clear hp
      go_enter Tryd.func12, Tryd.ntmps12
      go_wp2_with fail
      refine (ris_any _ _).mono ?_
      rintro e w1 ⟨rfl, rfl⟩
      rw [hB.out]
      go_wp2_with fail
      go_ret
      exact ⟨rfl, (Below.refl _ _).alloc (Nat.le_refl _) _⟩
  · have hB : Hid (isC c = false) := decide_eq_false hI
    have hp : Hid (putB c = ⟨#[]⟩) := by unfold Hid putB; rw [if_neg hI]
    clear hI
    go_enter Tryd.func12, Tryd.ntmps12
    go_wp2_with fail
    refine (ris_any _ _).mono ?_
    rintro e w1 ⟨rfl, rfl⟩
    rw [hB.out]
    go_wp2_with fail
    go_ret
    exact ⟨by rw [hp.out]; rfl, Below.refl _ _⟩
end Go.Proofs
