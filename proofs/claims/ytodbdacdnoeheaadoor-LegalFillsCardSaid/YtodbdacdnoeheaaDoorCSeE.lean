/- Walks: 'Exits'. -/
import Derived.Test.YtodbdacdnoeheaaDoorCSeX
namespace Go.Proofs
open Go.RowKit Go.Lx Go.Md Go.Shelf Go.Rfu
set_option linter.unusedVariables false
theorem fit_of {m : MdlD} {la ll : List Int} (h0 : riM m = (0, 0, 0)) (h : fit2 m la ll = true) : Fit m la ∧ Fit m ll := by
  unfold fit2 fit1 at h
  simp only [Bool.and_eq_true, beq_iff_eq] at h
  exact ⟨⟨h0, h.1.1, h.1.2⟩, ⟨h0, h.2.1, h.2.2⟩⟩
def exitsM (m : MdlD) (la ll : List Int) (r : Int) : List Int := if fit2 m la ll && hasR m r then exM m la r else []
theorem exM_len {m : MdlD} {c : List Int} (F : Fit m c) {r : Nat} (hr : r < m.regs.length) : (exM m c r).length ≤ m.vers.length :=
  nodup_le _ _ (exM_nodup F hr) fun x hx => by
    obtain ⟨k, e, hk, _⟩ := exM_act F hr hx
    exact ⟨k, e, hk⟩
theorem exits_len {m : MdlD} {la ll : List Int} (h0 : riM m = (0, 0, 0)) (r : Int) : (exitsM m la ll r).length ≤ m.vers.length := by
  unfold exitsM
  split
  · rename_i h
    rw [Bool.and_eq_true] at h
    have hr := h.2
    unfold hasR at hr
    simp only [Bool.and_eq_true, decide_eq_true_eq] at hr
    obtain ⟨k, rfl⟩ := Int.eq_ofNat_of_zero_le hr.1
    exact exM_len (fit_of h0 h.1).1 (by omega)
  · simp
set_option maxRecDepth 100000 in
set_option maxHeartbeats 2000000 in
theorem exits_any {B : Nat} {m : MdlD} {SB : Nat} {w : World} (h : SetAt B m SB w) (h0 : riM m = (0, 0, 0)) (hm1 : m.regs.length ≤ 1000) (hm2 : m.vers.length ≤ 1000) (la ll : List Int) (a1 a2 : Option Addr) (c1 c2 : Nat) (h1 : RowIn w (.slice a1 la.length c1) la) (h2 : RowIn w (.slice a2 ll.length c2) ll) (b1 : la.length ≤ 140737488355328) (b2 : ll.length ≤ 140737488355328) (r : Int) :
    Calls Tryd.prog 12 #[.pointer (some ⟨SB, 0, none⟩), .agg #[.slice a1 la.length c1, .slice a2 ll.length c2], .int .i64 r] w (RowP (exitsM m la ll r) w) := by
  have HB1 : Hid (Below w.heap.size w (w.alloc (.cells #[.slice a1 la.length c1, .slice a2 ll.length c2] 31))) := Lib.hid (below_al1 w _)
  have HC := Lib.hid (Cb.made h1 h2)
  have FT := Lib.hid (setsFits_any (h.grown HB1.out) h0 la ll a1 a2 c1 c2 HC.out.r1 HC.out.r2 b1 b2 (by omega))
  have HA := Lib.hid (h.grown HB1.out)
  unfold RowP
  have HE : Hid (∀ b, fit2 m la ll = b → exitsM m la ll r = if b && hasR m r then exM m la r else []) := Lib.hid fun b hb => by unfold exitsM; rw [hb]
  have HF := Lib.hid (fun hf : fit2 m la ll = true => (fit_of h0 hf).1)
  generalize exitsM m la ll r = X at *
  generalize fit2 m la ll = fb at *
  clear h h1 h2 b1 b2 h0
  go_enter Tryd.func12, Tryd.ntmps12
  go_upto_region 1 with fail
  generalize w.alloc (.cells #[.slice a1 la.length c1, .slice a2 ll.length c2] 31) = W1 at *
  have d0 := HC.out.d0
  have d1 := HC.out.d1
  cases fb
  · have HX : Hid (X = []) := Lib.hid (HE.out false rfl)
    clear HE
    go_wp2_with fail
    (with_reducible refine (FT.out).mono ?_)
    rintro e w2 ⟨rfl, g2⟩
    go_wp2_with fail
    go_ret
    rw [HX.out]
    exact ⟨_, rfl, World.ownsRow_nil _ _ _ _, HB1.out.trans (g2.mono HB1.out.size)⟩
  · have F := Lib.hid (HF.out rfl)
    go_wp2_with fail
    (with_reducible refine (FT.out).mono ?_)
    rintro e w2 ⟨rfl, g2⟩
    have HC2 := Lib.hid (HC.out.below g2)
    have HA2 := Lib.hid (HA.out.grown g2)
    have HB2 := Lib.hid (HB1.out.trans (g2.mono HB1.out.size))
    clear d0 d1 HC HA HB1 FT g2 HF
    have d0 := HC2.out.d0
    have d1 := HC2.out.d1
    obtain ⟨IB, kv, hi, s0, s1, s2, hku, hz⟩ := HA2.out
    clear hi hku
    by_cases hr0 : r < 0
    · have HX : Hid (X = []) := Lib.hid (by
        rw [HE.out true rfl, if_neg]
        unfold hasR
        rw [decide_eq_false (by omega)]; simp)
      go_wp2_with fail
      go_ret
      rw [HX.out]
      exact ⟨_, rfl, World.ownsRow_nil _ _ _ _, HB2.out⟩
    · by_cases hr1 : (m.regs.length : Int) ≤ r
      · have HX : Hid (X = []) := Lib.hid (by
          rw [HE.out true rfl, if_neg]
          unfold hasR
          rw [decide_eq_false (show ¬ r < m.regs.length by omega)]; simp)
        go_wp2_with fail
        go_ret
        rw [HX.out]
        exact ⟨_, rfl, World.ownsRow_nil _ _ _ _, HB2.out⟩
      · obtain ⟨k, rfl⟩ := Int.eq_ofNat_of_zero_le (show 0 ≤ r by omega)
        have hk : k < m.regs.length := by omega
        have HX : Hid (X = exM m la k) := Lib.hid (by
          rw [HE.out true rfl, if_pos]
          unfold hasR
          rw [decide_eq_true (show (0 : Int) ≤ (k : Int) by omega), decide_eq_true (show (k : Int) < m.regs.length by omega)]; rfl)
        have HLf := Lib.hid (left_any SB (.agg #[.slice a1 la.length c1, .slice a2 ll.length c2]) (k : Int) w2 _ _ rfl)
        have HM3 := lf_made (a2 := a2) (c2 := c2) (ll := ll) k HA2.out HC2.out.r1
        have hb3 : Below w2.heap.size w2 (((w2.alloc (.cells #[.pointer (some ⟨SB, 0, none⟩)] 44)).alloc (.cells #[.slice a1 la.length c1, .slice a2 ll.length c2] 31)).alloc (.cells #[.int .i64 k] 3)) := (((Below.refl _ w2).alloc (Nat.le_refl _) _).alloc (by simp) _).alloc (by simp; omega) _
        clear HE
        go_wp2_with fail
        (with_reducible refine (HLf.out).mono ?_)
        rintro e w3 ⟨rfl, hw3⟩
        rw [hw3] at HM3 hb3
        have HM := Lib.hid HM3
        have HCo := Lib.hid (collect_left (left1_seq (B := B) (SB := SB) (ll := ll) (a1 := a1) (a2 := a2) (c1 := c1) (c2 := c2) F.out hm1 hm2 66 k (w2.heap.size + 1) (w2.heap.size + 1 + 1) w2.heap.size hk (fun _ _ => by omega)) w3 (fun W g => HM.out.below g) (by have := exM_len F.out hk; unfold exM at this; omega))
        have HB3 := Lib.hid (HB2.out.trans (hb3.mono HB2.out.size))
        clear hw3 HM3 hb3 HLf HM s0 s1 s2 d0 d1
        go_wp2_with fail
        (with_reducible refine (HCo.out).mono ?_)
        rintro e w4 ⟨v4, rfl, o4, g4⟩
        go_wp2_with fail
        go_ret
        rw [HX.out]
        exact ⟨v4, rfl, o4.mono (HB3.out.size), HB3.out.trans (g4.mono HB3.out.size)⟩
end Go.Proofs
