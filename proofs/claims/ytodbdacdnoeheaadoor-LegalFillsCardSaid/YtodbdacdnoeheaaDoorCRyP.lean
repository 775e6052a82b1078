/- What the document says lies in what: plain. No program is in sight. -/
import Derived.Test.YtodbdacdnoeheaaDoorCHiP
namespace Go.Md
open Go.RowKit Go.Lx Go.Proofs
set_option linter.unusedVariables false

/-- A region's owner. -/
def ownA (m : MdlD) (r : Int) : Int := match m.regs[r.toNat]? with | some x => x.own | none => -1
theorem ownA_at {m : MdlD} {r : Nat} (h : r < m.regs.length) : ownA m (r : Int) = m.regs[r].own := by
  unfold ownA; rw [Int.toNat_natCast, List.getElem?_eq_getElem h]
theorem hasV_at {m : MdlD} {k : Nat} (h : k < m.vers.length) : hasV m (k : Int) = true := by simp [hasV]; omega
theorem hasR_at {m : MdlD} {k : Nat} (h : k < m.regs.length) : hasR m (k : Int) = true := by simp [hasR]; omega
theorem hasV_nat {m : MdlD} {v : Int} (h : hasV m v = true) : ∃ k : Nat, v = k ∧ k < m.vers.length := by
  unfold hasV at h
  simp only [Bool.and_eq_true, decide_eq_true_eq] at h
  exact ⟨v.toNat, by omega, by omega⟩
/-- A right model's regions: the first one is the top, each other one a state's. -/
theorem reg_right {m : MdlD} (h0 : riM m = (0, 0, 0)) {r : Nat} (hr : r < m.regs.length) : (r = 0 ∧ m.regs[r].own = -1) ∨ (r ≠ 0 ∧ ∃ s, ∃ hs : s < m.vers.length, m.regs[r].own = (s : Int) ∧ m.vers[s].kd = 1) := by
  have h4 := (riM_zero.1 h0).2.2.2.1
  unfold f4 at h4
  split at h4
  · simp only [Prod.mk.injEq] at h4; omega
  · have := ((wrL_zero (by decide)).1 h4 r hr).1
    rw [Nat.zero_add] at this
    unfold rReg at this
    split at this
    · simp only [Bool.and_eq_true, beq_iff_eq] at this; exact .inl ⟨by assumption, this.2⟩
    · simp only [Bool.and_eq_true] at this
      obtain ⟨k, hk, e, hkd⟩ := st_in this.1.2
      exact .inr ⟨by assumption, k, hk, e, hkd⟩
/-- A vertex: which state it lies in, which region. -/
theorem ver_at {m : MdlD} (h0 : riM m = (0, 0, 0)) {k : Nat} (hk : k < m.vers.length) :
    (m.vers[k].ofv < 0 ∧ ∃ r, ∃ hr : r < m.regs.length, rgM m k = (r : Int) ∧ m.vers[k].rg = r ∧ arM m k = m.regs[r].own) ∨
    (0 ≤ m.vers[k].ofv ∧ ∃ s, ∃ hs : s < m.vers.length, arM m k = (s : Int) ∧ m.vers[s].kd = 1 ∧ m.vers[s].ofv < 0 ∧ rgM m k = rgM m s ∧ m.vers[k].ofv = s) := by
  have e1 : rgM m k = if 0 ≤ m.vers[k].ofv then (match m.vers[m.vers[k].ofv.toNat]? with | some y => y.rg | none => -1) else m.vers[k].rg := by
    unfold rgM; rw [Int.toNat_natCast, List.getElem?_eq_getElem hk]; rfl
  have e2 : arM m k = if 0 ≤ m.vers[k].ofv then m.vers[k].ofv else match m.regs[m.vers[k].rg.toNat]? with | some r => r.own | none => -1 := by
    unfold arM; rw [Int.toNat_natCast, List.getElem?_eq_getElem hk]; rfl
  rcases ver_right h0 hk with ⟨h1, s, hs, h2, h3, _⟩ | ⟨h1, r, hr, h2, _⟩
  · have hsp := plain_at h0 hs ⟨by omega, by omega⟩
    refine .inr ⟨h1, s, hs, by rw [e2, if_pos h1, h2], h3, by omega, ?_, h2⟩
    rw [e1, if_pos h1, h2, Int.toNat_natCast, List.getElem?_eq_getElem hs]
    unfold rgM
    rw [Int.toNat_natCast, List.getElem?_eq_getElem hs]
    show _ = if 0 ≤ m.vers[s].ofv then _ else _
    rw [if_neg (by omega)]
  · refine .inl ⟨h1, r, hr, by rw [e1, if_neg (by omega), h2], h2, ?_⟩
    rw [e2, if_neg (by omega), h2, Int.toNat_natCast, List.getElem?_eq_getElem hr]
/-- Two on one way up, of one depth, are one. -/
theorem up_one {m : MdlD} (h0 : riM m = (0, 0, 0)) {k s t : Nat} (hk : k < m.vers.length) (h1 : (s : Int) ∈ upsM m k) (h2 : (t : Int) ∈ upsM m k) (hd : deM m s = deM m t) : s = t := by
  have a := (ups_at h0 hk h1).2.2
  have b := (ups_at h0 hk h2).2.2
  rw [hd, b] at a
  omega
/-- Rows of regions that are not there, and so on. -/
theorem kidsR_eq {m : MdlD} (h0 : riM m = (0, 0, 0)) (r : Int) : kidsR m r = kidsM m r := by
  unfold kidsR
  cases hr : hasR m r with
  | true => rfl
  | false =>
    rw [if_neg (by decide)]
    refine (List.eq_nil_iff_forall_not_mem.2 fun v hv => ?_).symm
    obtain ⟨k, hk, rfl, hp⟩ := (sel_mem _ _ _).1 hv
    unfold isKid at hp
    simp only [Bool.and_eq_true, decide_eq_true_eq, beq_iff_eq] at hp
    rcases ver_at h0 hk with ⟨_, q, hq, _, e, _⟩ | ⟨h, _⟩
    · rw [← hp.2, e, hasR_at hq] at hr; cases hr
    · omega
end Go.Md
