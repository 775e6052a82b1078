/- Texts put together. -/
import Derived.Test.YtodbdacdnoeheaaGreatDoorFHiP
import Derived.Test.YtodbdacdnoeheaaGreatDoorFIxGI
import Derived.Test.YtodbdacdnoeheaaGreatDoorFGIxGI
/- Where a history leads: plain. No program is in sight. -/
namespace Go.Md
open Go.RowKit Go.Lx Go.Proofs
set_option linter.unusedVariables false

def atL (last : List Int) (r : Int) : Int := last.getD r.toNat (-1)
def mayM (m : MdlD) (v r : Int) : Bool := if hasV m v then (match m.vers[v.toNat]? with | some x => x.rg == r && (x.kd == 1 || x.kd == 2) | none => false) else v == -1
def fitRow (m : MdlD) (last : List Int) : Bool := (List.range last.length).all fun r => mayM m (last.getD r (-1)) r
def rgA (m : MdlD) (v : Int) : Int := match m.vers[v.toNat]? with | some x => x.rg | none => -1
def kdA (m : MdlD) (v : Int) : Nat := match m.vers[v.toNat]? with | some x => x.kd | none => 0
/-- What fits, told: each number of the row. -/
theorem fit_at {m : MdlD} {last : List Int} (h : fitRow m last = true) {r : Nat} (hr : r < last.length) : mayM m (last.getD r (-1)) r = true := by
  unfold fitRow at h
  exact List.all_eq_true.1 h r (List.mem_range.2 hr)
theorem ups_self {m : MdlD} {x : Nat} : (x : Int) ∈ upsM m x := by
  unfold upsM upL
  rw [if_neg (by omega)]; exact List.mem_cons_self
theorem sel_nodup {α : Type} (p : α → Bool) (l : List α) : (sel p l).Nodup := by
  unfold sel
  have key : ∀ (l : List α) (i : Nat), (selF p i l).Nodup := by
    intro l
    induction l with
    | nil => intro i; exact List.nodup_nil
    | cons x t ih =>
      intro i
      unfold selF
      split
      · refine List.nodup_cons.2 ⟨fun h => ?_, ih _⟩
        obtain ⟨k, _, e, _⟩ := (selF_mem p t (i + 1) _).1 h
        omega
      · exact ih _
  exact key l 0
theorem nodup_flatMap {α β : Type} {f : α → List β} : ∀ {l : List α}, l.Nodup → (∀ a ∈ l, (f a).Nodup) → (∀ a ∈ l, ∀ b ∈ l, a ≠ b → ∀ x, x ∈ f a → x ∉ f b) → (l.flatMap f).Nodup
  | [], _, _, _ => List.nodup_nil
  | a :: t, hn, h1, h2 => by
    rw [List.flatMap_cons]
    obtain ⟨hna, hnt⟩ := List.nodup_cons.1 hn
    refine List.nodup_append.2 ⟨h1 a List.mem_cons_self, nodup_flatMap hnt (fun b hb => h1 b (List.mem_cons_of_mem _ hb)) (fun b hb c hc => h2 b (List.mem_cons_of_mem _ hb) c (List.mem_cons_of_mem _ hc)), fun x hx y hy e => ?_⟩
    subst e
    rw [List.mem_flatMap] at hy
    obtain ⟨b, hb, hxb⟩ := hy
    exact h2 a List.mem_cons_self b (List.mem_cons_of_mem _ hb) (fun e => hna (e ▸ hb)) x hx hxb
theorem nodup_le : ∀ (n : Nat) (l : List Int), l.Nodup → (∀ x ∈ l, ∃ k : Nat, x = k ∧ k < n) → l.length ≤ n := by
  intro n
  induction n with
  | zero =>
    intro l _ h
    cases l with
    | nil => simp
    | cons x t => obtain ⟨k, _, hk⟩ := h x List.mem_cons_self; omega
  | succ n ih =>
    intro l hn h
    by_cases hm : (n : Int) ∈ l
    · have h1 := ih (l.erase n) (hn.erase _) (fun x hx => by
        obtain ⟨k, e, hk⟩ := h x (List.mem_of_mem_erase hx)
        have : x ≠ n := fun e => by subst e; exact hn.not_mem_erase hx
        exact ⟨k, e, by omega⟩)
      rw [List.length_erase_of_mem hm] at h1
      omega
    · have := ih l hn (fun x hx => by
        obtain ⟨k, e, hk⟩ := h x hx
        have : x ≠ n := fun e => hm (e ▸ hx)
        exact ⟨k, e, by omega⟩)
      omega
end Go.Md
