/- Walks: what 'Right' leans on: the closures, part one. -/
import Derived.Test.YtckflfkfjpjkjaaDoorMdT
import Derived.Deep.RegionLaw
import Derived.Deep.DeepCutAuto
namespace Go.Proofs
open Go.RowKit Go.Lx Go.Md Go.Shelf
set_option linter.unusedVariables false

/-- A model in a box. -/
structure MBox (Q : Nat → BP) (w : World) (m : MdlD) (p : Ph) (H : Nat) : Prop where
  mod : Mod Q w m p
  box : Box w H (.string m.nm) (.slice p.a1 m.vars.length p.c1) (.slice p.a2 m.evs.length p.c2) (.slice p.a3 m.regs.length p.c3) (.slice p.a4 m.vers.length p.c4) (.slice p.a5 m.trns.length p.c5)
theorem MBox.below {Q : Nat → BP} {w w' : World} {m : MdlD} {p : Ph} {H : Nat} (h : MBox Q w m p H) (hb : Below w.heap.size w w') : MBox Q w' m p H := ⟨h.mod.below hb, h.box.below hb h.box.sl⟩
theorem MBox.made {Q : Nat → BP} {w : World} {m : MdlD} {p : Ph} (h : Mod Q w m p) : MBox Q (w.alloc (.cells #[.string m.nm, .slice p.a1 m.vars.length p.c1, .slice p.a2 m.evs.length p.c2, .slice p.a3 m.regs.length p.c3, .slice p.a4 m.vers.length p.c4, .slice p.a5 m.trns.length p.c5] 28)) m p w.heap.size := ⟨h.below ((Below.refl _ w).alloc (Nat.le_refl _) _), box6 w m p⟩
def varA (x : VarD) : Value := .agg #[.string x.nm, .int .i64 x.ini]
def regA (x : RegD) : Value := .agg #[.string x.nm, .int .i64 x.own]
/-- 'lies'. -/
theorem lies_any {Q : Nat → BP} (m : MdlD) (p : Ph) (x : VerD) (a : Option Addr) (c : Nat) (w : World) (h : Mod Q w m p) (hm : MdlOk m) :
    Calls Tryd.prog 107 #[mdV m p, verA x a c] w fun e w' => e = .returned (.bool (liesM m x)) ∧ Below w.heap.size w w' := by
  have l4 := hm.vers
  have l3 := hm.regs
  have HC := Lib.hid (fun wx (hb : Below w.heap.size w wx) (v : Int) => state_any m p v wx (h.below hb) l4)
  have HL : Hid (liesM m x = if x.kd = 10 ∨ x.kd = 11 then x.rg == -1 && Md.stM m x.ofv else x.ofv == -1 && decide (0 ≤ x.rg) && decide (x.rg < m.regs.length)) := by unfold Hid; rfl
  unfold mdV at HC
  unfold mdV verA
  generalize liesM m x = R at HL ⊢
  generalize x.df.length = dn
  obtain ⟨xnm, xkd, xrg, xof, xen, xex, xdf, xsb⟩ := x
  simp only at HL ⊢
  clear h hm
  by_cases h10 : xkd = 10 ∨ xkd = 11
  · have hL2 : Hid (R = (xrg == -1 && Md.stM m xof)) := by unfold Hid; rw [HL.out, if_pos h10]
    clear HL
    generalize hst : Md.stM m xof = st at hL2
    have HS := Lib.hid hst
    clear hst
    rcases h10 with rfl | rfl
    all_goals
      go_enter Tryd.func107, Tryd.ntmps107
      go_wp2_with (go_at_call 104; refine (HC.out _ (below_al2 w _ _) _).mono ?_; rintro e w' ⟨rfl, g1⟩; rw [HS.out])
      all_goals
        go_ret
        refine ⟨ret_bool ?_, ?_⟩
        · rw [hL2.out]; simp_all
        · first | exact below_box2 g1 | exact below_al2 w _ _
  · have h10' : ((xkd : Int) == 10) = false := by simp; omega
    have h11' : ((xkd : Int) == 11) = false := by simp; omega
    have hL2 : Hid (R = (xof == -1 && decide (0 ≤ xrg) && decide (xrg < m.regs.length))) := by unfold Hid; rw [HL.out, if_neg h10]
    clear HL h10
    go_enter Tryd.func107, Tryd.ntmps107
    go_wp2_with fail
    all_goals
      go_ret
      refine ⟨ret_bool ?_, below_al2 w _ _⟩
      rw [hL2.out]; simp_all <;> omega
theorem vars11_any (y : VarD) (xn : ByteArray) (X : Nat) (w : World) (h : w.cell? ⟨X, 0, none⟩ = some (.string xn)) (hX : X < w.heap.size) :
    Calls Tryd.prog 97 #[varA y, .pointer (some ⟨X, 0, none⟩)] w fun e w' => e = .returned (.bool (eqS y.nm xn)) ∧ Below w.heap.size w w' := by
  unfold varA
  go_enter Tryd.func97, Tryd.ntmps97
  go_wp2_with fail
  go_ret
  exact ⟨rfl, (Below.refl _ _).alloc (Nat.le_refl _) _⟩
/-- The place of the first one that is such, or -1. -/
def fidx {α : Type} (f : α → Bool) (l : List α) : Int := match l.findIdx? f with | some i => (i : Int) | none => -1
theorem fidx_some {α : Type} {f : α → Bool} {l : List α} {k : Nat} (h : k < l.length) (hk : f l[k] = true) (hb : ∀ j (hj : j < k), f (l[j]'(by omega)) = false) : fidx f l = k := by
  unfold fidx
  rw [show l.findIdx? f = some k from ?_]
  rw [List.findIdx?_eq_some_iff_getElem]
  exact ⟨h, hk, fun j hj => by rw [hb j hj]; decide⟩
theorem fidx_none {α : Type} {f : α → Bool} {l : List α} (hb : ∀ j (hj : j < l.length), f l[j] = false) : fidx f l = -1 := by
  unfold fidx
  rw [show l.findIdx? f = none from ?_]
  rw [List.findIdx?_eq_none_iff]
  intro x hx
  obtain ⟨j, hj, rfl⟩ := List.getElem_of_mem hx
  exact hb j hj
theorem fidx_any {α : Type} (f : α → Bool) (l : List α) : (l.any f = true ∧ 0 ≤ fidx f l) ∨ (l.any f = false ∧ fidx f l = -1) := by
  unfold fidx
  cases hf : l.findIdx? f with
  | none =>
    rw [List.findIdx?_eq_none_iff] at hf
    exact .inr ⟨by rw [List.any_eq_false]; exact fun x hx => by rw [hf x hx]; decide, rfl⟩
  | some k =>
    rw [List.findIdx?_eq_some_iff_getElem] at hf
    obtain ⟨hk, h1, _⟩ := hf
    exact .inl ⟨List.any_eq_true.2 ⟨_, List.getElem_mem hk, h1⟩, Int.natCast_nonneg k⟩
/-- 'slices.IndexFunc' with the closure. -/
theorem idxfVar {Q : BP} (a : Option Addr) (c : Nat) (l : List VarD) (xn : ByteArray) (X : Nat) (w : World) (h : Sl Q 2 VarE w (.slice a l.length c) l) (hl : l.length ≤ 140737488355328) (hx : w.cell? ⟨X, 0, none⟩ = some (.string xn)) (hX : X < w.heap.size) :
    Calls Tryd.prog 124 #[.slice a l.length c, .func (.func 97) #[] #[.pointer (some ⟨X, 0, none⟩)]] w fun e w' => e = .returned (.int .i64 (fidx (fun y => eqS y.nm xn) l)) ∧ Below w.heap.size w w' := by
  have H1 := Lib.hid h
  clear h
  go_enter Tryd.func124, Tryd.ntmps124
  go_wp2_with fail
  go_loopw [8] (fun i wr => ∃ k : Nat, k ≤ l.length ∧ i = .int .i64 k ∧ Below w.heap.size w wr ∧ Hid (∀ j (hj : j < k) (hl : j < l.length), eqS l[j].nm xn = false)) (fun i _ => l.length - (intOf i).toNat)
  case atStart => exact ⟨0, by omega, rfl, Below.refl _ _, fun j hj => by omega⟩
  case round =>
    obtain ⟨wo, rfl⟩ : ∃ wo : World, wo = wr := ⟨_, rfl⟩
    obtain ⟨k, hk, rfl, hg, HE⟩ := hrel
    by_cases hlt : k < l.length
    · have hltI : (k : Int) < (l.length : Int) := by omega
      have hi0 : (0 : Int) ≤ (k : Int) := by omega
      obtain ⟨b1, o1, ha1, hb1, r0, r1⟩ := H1.out.get hlt
      obtain ⟨y, hy⟩ : ∃ y, y = l[k] := ⟨_, rfl⟩
      rw [← hy] at r0 r1
      have HX := Lib.hid hy
      subst ha1
      clear hy
      replace r0 := (hg.cell (p := ⟨b1, o1 + k * 2, none⟩) hb1).trans r0
      replace r1 := (hg.cell (p := ⟨b1, o1 + k * 2 + 1, none⟩) hb1).trans r1
      have hxo := (hg.cell (p := ⟨X, 0, none⟩) hX).trans hx
      have HC := Lib.hid (vars11_any y xn X wo hxo (Nat.lt_of_lt_of_le hX hg.size))
      unfold varA at HC
      cases hxy : eqS y.nm xn with
      | true =>
        rw [hxy] at HC
        have HF : Hid (fidx (fun y => eqS y.nm xn) l = k) := fidx_some hlt (by rw [← HX.out]; exact hxy) fun j hj => HE.out j hj (by omega)
        clear hxy
        go_wp2_with fail
        refine HC.out.mono ?_
        rintro e w' ⟨rfl, g1⟩
        go_wp2_with fail
        go_ret
        exact ⟨ret_int (by rw [HF.out]), hg.trans (g1.mono hg.size)⟩
      | false =>
        rw [hxy] at HC
        have HF : Hid (∀ j (hj : j < k + 1) (hl : j < l.length), eqS l[j].nm xn = false) := fun j hj hl => by
          by_cases e : j = k
          · subst e; rw [← HX.out]; exact hxy
          · exact HE.out j (by omega) hl
        clear hxy
        go_wp2_with fail
        refine HC.out.mono ?_
        rintro e w' ⟨rfl, g1⟩
        go_wp2_with fail
        go_roundw
        case rel => exact ⟨k + 1, by omega, by go_num, hg.trans (g1.mono hg.size), HF⟩
        case measure => simp [intOf] <;> omega
    · have HF : Hid (fidx (fun y => eqS y.nm xn) l = -1) := fidx_none fun j hj => HE.out j (by omega) hj
      go_wp2_with fail
      go_ret
      exact ⟨ret_int (by rw [HF.out]), hg⟩
theorem contfVar {Q : BP} (a : Option Addr) (c : Nat) (l : List VarD) (xn : ByteArray) (X : Nat) (w : World) (h : Sl Q 2 VarE w (.slice a l.length c) l) (hl : l.length ≤ 140737488355328) (hx : w.cell? ⟨X, 0, none⟩ = some (.string xn)) (hX : X < w.heap.size) :
    Calls Tryd.prog 96 #[.slice a l.length c, .func (.func 97) #[] #[.pointer (some ⟨X, 0, none⟩)]] w fun e w' => e = .returned (.bool (l.any fun y => eqS y.nm xn)) ∧ Below w.heap.size w w' := by
  have HI := Lib.hid (idxfVar a c l xn X w h hl hx hX)
  have HA := Lib.hid (fidx_any (fun y : VarD => eqS y.nm xn) l)
  clear h hx
  generalize fidx (fun y : VarD => eqS y.nm xn) l = r at HI HA
  generalize l.any (fun y : VarD => eqS y.nm xn) = R at HA ⊢
  rcases HA.out with ⟨rfl, h0⟩ | ⟨rfl, rfl⟩
  · go_enter Tryd.func96, Tryd.ntmps96
    go_wp2_with (go_at_call 124; refine HI.out.mono ?_; rintro e w' ⟨rfl, g1⟩)
    go_ret
    exact ⟨rfl, g1⟩
  · go_enter Tryd.func96, Tryd.ntmps96
    go_wp2_with (go_at_call 124; refine HI.out.mono ?_; rintro e w' ⟨rfl, g1⟩)
    go_ret
    exact ⟨rfl, g1⟩
end Go.Proofs
