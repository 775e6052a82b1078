/- Walks: 'Few' and what it stands on. -/
import Derived.Test.YtckflfkfjpjkjaaDoorMdE
namespace Go.Proofs
open Go.RowKit Go.Lx Go.Md Go.Shelf

def cntB (n : Nat) (most : Int) : Bool := decide (n ≤ 40) || (decide (most < (n : Int)) && decide (n ≤ 600))
def szB (s : ByteArray) : Bool := decide (s.size ≤ 100) || decide (4096 < s.size)
theorem cntB_le {n : Nat} {most : Int} (h : cntB n most = true) : n ≤ 600 := by
  unfold cntB at h; simp only [Bool.or_eq_true, Bool.and_eq_true, decide_eq_true_iff] at h; omega
/-- What a model that has few parts is at most. -/
structure FewP (m : MdlD) : Prop where
  vars : m.vars.length ≤ 600
  evs : m.evs.length ≤ 600
  regs : m.regs.length ≤ 600
  vers : m.vers.length ≤ 600
  trns : m.trns.length ≤ 600
  df : ∀ x ∈ m.vers, x.df.length ≤ 40
  tr : ∀ x ∈ m.trns, x.tr.length ≤ 40

theorem count_any (n : Nat) (most : Int) (w : World) : Calls Tryd.prog 42 #[.int .i64 n, .int .i64 most] w fun e w' => e = .returned (.bool (cntB n most)) ∧ w = w' := by
  have HX : Hid (cntB n most = (decide (n ≤ 40) || (decide (most < (n : Int)) && decide (n ≤ 600)))) := by unfold Hid; rfl
  go_enter Tryd.func42, Tryd.ntmps42
  go_wp2_with fail
  all_goals
    go_ret
    refine ⟨ret_bool ?_, rfl⟩
    rw [HX.out, Bool.eq_iff_iff]
    simp
    omega
theorem size_any (s : ByteArray) (w : World) : Calls Tryd.prog 43 #[.string s] w fun e w' => e = .returned (.bool (szB s)) ∧ w = w' := by
  have HX : Hid (szB s = (decide (s.size ≤ 100) || decide (4096 < s.size))) := by unfold Hid; rfl
  go_enter Tryd.func43, Tryd.ntmps43
  go_wp2_with fail
  all_goals
    go_ret
    refine ⟨ret_bool ?_, rfl⟩
    rw [HX.out, Bool.eq_iff_iff]
    simp
    omega
/-- A yes says so. -/
def Says (b : Bool) (p : Prop) : Prop := b = true → p
def BoolSays (p : Prop) (e : Ending) : Prop := ∃ b, e = .returned (.bool b) ∧ Says b p
/-- 'sizes': what its yes says. -/
theorem sizes_any {Q : BP} (a : Option Addr) (c : Nat) (l : List ByteArray) (w : World) (h : SlS Q w (.slice a l.length c) l) (hl : l.length ≤ 140737488355328) :
    Calls Tryd.prog 45 #[.slice a l.length c] w fun e w' => BoolSays (l.length ≤ 40) e ∧ w = w' := by
  have H1 := Lib.hid h
  clear h
  go_enter Tryd.func45, Tryd.ntmps45
  go_wp2_with fail
  go_loop [3] (fun i => ∃ k : Nat, k ≤ l.length ∧ i = .int .i64 k) (fun i => l.length - (intOf i).toNat)
  case atStart => exact ⟨0, by omega, rfl⟩
  case round =>
    obtain ⟨k, hk, rfl⟩ := hrel
    by_cases hlt : k < l.length
    · have hltI : (k : Int) < (l.length : Int) := by omega
      have hi0 : (0 : Int) ≤ (k : Int) := by omega
      obtain ⟨b1, o1, ha1, hb1, hc1⟩ := H1.out.get hlt
      generalize l[k] = x at hc1
      subst ha1
      go_wp2_with fail
      refine (size_any _ _).mono ?_
      rintro e w' ⟨rfl, rfl⟩
      cases hx : szB x with
      | true =>
        go_wp2_with fail
        go_round
        case rel => exact ⟨k + 1, by omega, by go_num⟩
        case measure => simp [intOf] <;> omega
      | false =>
        go_wp2_with fail
        go_ret
        exact ⟨⟨false, rfl, fun h => by cases h⟩, rfl⟩
    · by_cases h40 : l.length ≤ 40
      · have h40I : (l.length : Int) ≤ 40 := by omega
        have H40 := Lib.hid h40
        clear h40
        go_wp2_with fail
        go_ret
        exact ⟨⟨_, rfl, fun _ => H40.out⟩, rfl⟩
      · have h40I : ¬ (l.length : Int) ≤ 40 := by omega
        go_wp2_with fail
        go_ret
        exact ⟨⟨false, rfl, fun h => by cases h⟩, rfl⟩
/-- What Deepest's yes says. -/
structure DeepP (m : MdlD) : Prop where
  vars : m.vars.length = 0
  evs : m.evs.length = 0
  regs : m.regs.length ≤ 70
  vers : m.vers.length ≤ 70
  trns : m.trns.length ≤ 600
  df : ∀ x ∈ m.vers, x.df.length ≤ 9
  tr : ∀ x ∈ m.trns, x.tr.length ≤ 9
theorem DeepP.few {m : MdlD} (h : DeepP m) : FewP m :=
  ⟨by have := h.vars; omega, by have := h.evs; omega, by have := h.regs; omega, by have := h.vers; omega, h.trns, fun x hx => by have := h.df x hx; omega, fun x hx => by have := h.tr x hx; omega⟩
end Go.Proofs
