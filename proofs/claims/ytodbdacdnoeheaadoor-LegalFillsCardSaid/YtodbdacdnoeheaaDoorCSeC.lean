/- Walks: may a vertex be entered or left; is it active. -/
import Derived.Test.YtodbdacdnoeheaaDoorCSeE
import Derived.Test.YtodbdacdnoeheaaDoorCSeB
import Derived.BigQuiet
namespace Go.Proofs
open Go.RowKit Go.Lx Go.Md Go.Shelf Go.BigFrame Go.Rgi
set_option linter.unusedVariables false
theorem st_kd (m : MdlD) (v : Int) : ofKd m [1, 2] v = stands m v := by
  unfold ofKd stands
  cases hb : hasV m v with
  | false => rfl
  | true =>
    obtain ⟨k, rfl, hk⟩ := hasV_nat hb
    rw [kdA_at hk, Int.toNat_natCast, List.getElem?_eq_getElem hk]
    unfold hasN; simp
def mayE (m : MdlD) (la ll : List Int) (v : Int) : Nat := if fit2 m la ll && stands m v then 0 else 2
set_option maxRecDepth 100000 in
set_option maxHeartbeats 2000000 in
theorem may20_any {B : Nat} {m : MdlD} {SB : Nat} {w : World} (h : SetAt B m SB w) (h0 : riM m = (0, 0, 0)) (hm2 : m.vers.length ≤ 1000) (la ll : List Int) (a1 a2 : Option Addr) (c1 c2 : Nat) (h1 : RowIn w (.slice a1 la.length c1) la) (h2 : RowIn w (.slice a2 ll.length c2) ll) (b1 : la.length ≤ 140737488355328) (b2 : ll.length ≤ 140737488355328) (v : Int) :
    Calls Tryd.prog 30 #[.pointer (some ⟨SB, 0, none⟩), .agg #[.slice a1 la.length c1, .slice a2 ll.length c2], .int .i64 v] w fun e w' => e = .returned (.int .i64 (mayE m la ll v : Int)) ∧ Below w.heap.size w w' := by
  have HB1 : Hid (Below w.heap.size w (w.alloc (.cells #[.slice a1 la.length c1, .slice a2 ll.length c2] 31))) := Lib.hid (below_al1 w _)
  have HC := Lib.hid (Cb.made h1 h2)
  have FT := Lib.hid (setsFits_any (h.grown HB1.out) h0 la ll a1 a2 c1 c2 HC.out.r1 HC.out.r2 b1 b2 (by omega))
  have IS := Lib.hid (fun wx (g : Below w.heap.size w wx) => (setsIs_any (h.grown (below_ch g (below_al1 wx (.cells #[.int .u8 1, .int .u8 2] 5)))) v (.slice (some ⟨wx.heap.size, 0, none⟩) 2 2) [1, 2] (RowU.fresh wx [1, 2] _ rfl 2 rfl _ rfl) (by decide)).mono (fun e w' q => (show e = .returned (.bool (stands m v)) ∧ Below wx.heap.size wx w' from ⟨by rw [← st_kd]; exact q.1, below_bx1 q.2⟩)))
  have HE : Hid (∀ b c, fit2 m la ll = b → stands m v = c → mayE m la ll v = if b && c then 0 else 2) := Lib.hid fun b c hb hc => by unfold mayE; rw [hb, hc]
  generalize mayE m la ll v = X at *
  generalize fit2 m la ll = fb at *
  generalize stands m v = sb at *
  clear h h1 h2 b1 b2 h0
  go_enter Tryd.func30, Tryd.ntmps30
  go_upto_region 1 with fail
  generalize w.alloc (.cells #[.slice a1 la.length c1, .slice a2 ll.length c2] 31) = W1 at *
  have d0 := HC.out.d0
  have d1 := HC.out.d1
  cases fb
  · have hX : X = 2 := HE.out false sb rfl rfl
    subst hX
    clear HE
    go_wp2_with fail
    (with_reducible refine (FT.out).mono ?_)
    rintro e w2 ⟨rfl, g2⟩
    go_wp2_with fail
    go_ret
    exact ⟨rfl, HB1.out.trans (g2.mono HB1.out.size)⟩
  · go_wp2_with fail
    (with_reducible refine (FT.out).mono ?_)
    rintro e w2 ⟨rfl, g2⟩
    have HB2 := Lib.hid (HB1.out.trans (g2.mono HB1.out.size))
    have ISx := Lib.hid (IS.out w2 HB2.out)
    clear g2 IS d0 d1
    cases sb
    · have hX : X = 2 := HE.out true false rfl rfl
      subst hX
      go_wp2_with fail
      (with_reducible refine (ISx.out).mono ?_)
      rintro e w3 ⟨rfl, g3⟩
      go_wp2_with fail
      go_ret
      exact ⟨rfl, HB2.out.trans (g3.mono HB2.out.size)⟩
    · have hX : X = 0 := HE.out true true rfl rfl
      subst hX
      go_wp2_with fail
      (with_reducible refine (ISx.out).mono ?_)
      rintro e w3 ⟨rfl, g3⟩
      go_wp2_with fail
      go_ret
      exact ⟨rfl, HB2.out.trans (g3.mono HB2.out.size)⟩
set_option maxRecDepth 100000 in
set_option maxHeartbeats 2000000 in
theorem active20_any {B : Nat} {m : MdlD} {SB : Nat} {w : World} (h : SetAt B m SB w) (hm2 : m.vers.length ≤ 1000) (la ll : List Int) (a1 a2 : Option Addr) (c1 c2 : Nat) (h1 : RowIn w (.slice a1 la.length c1) la) (h2 : RowIn w (.slice a2 ll.length c2) ll) (v r : Nat) (hv : v < m.vers.length) (hr : homeM m v = r) (hrl : r < la.length) :
    Calls Tryd.prog 33 #[.pointer (some ⟨SB, 0, none⟩), .agg #[.slice a1 la.length c1, .slice a2 ll.length c2], .int .i64 (v : Int)] w fun e w' => e = .returned (.bool (atL la r == (v : Int))) ∧ Below w.heap.size w w' := by
  have HB1 : Hid (Below w.heap.size w (w.alloc (.cells #[.slice a1 la.length c1, .slice a2 ll.length c2] 31))) := Lib.hid (below_al1 w _)
  have HC := Lib.hid (Cb.made h1 h2)
  have HA := Lib.hid (h.grown HB1.out)
  clear h h1 h2
  go_enter Tryd.func33, Tryd.ntmps33
  go_upto_region 1 with fail
  generalize w.alloc (.cells #[.slice a1 la.length c1, .slice a2 ll.length c2] 31) = W1 at *
  obtain ⟨b, o, ea, hb, hc, hcl⟩ := HC.out.at hrl
  have d0 := HC.out.d0
  have d1 := HC.out.d1
  subst ea
  obtain ⟨IB, kv, hi, s0, s1, s2, hku, hz⟩ := HA.out
  have HH := Lib.hid (fun n => home_any (hi.grown (below_drewN (Below.refl W1.heap.size W1) n)) (v : Int) (WalkArith.wf_i64 ⟨by omega, by omega⟩))
  rw [hr] at HH
  have hI : (r : Int) < (la.length : Int) := by omega
  have hI0 : (0 : Int) ≤ (r : Int) := by omega
  obtain ⟨y, hy⟩ : ∃ y, atL la (r : Int) = y := ⟨_, rfl⟩
  rw [hy] at hcl
  have HY := Lib.hid hy
  clear hi hku HA hy
  go_quiet ((go_at_call 35; refine Calls.quiet_of_same (v := .int .i64 (r : Int)) ?_; ((with_reducible refine (HH.out _).mono ?_)); rintro e w' ⟨he, hw⟩; exact ⟨he, hw.symm⟩))
  go_wp2_with fail
  go_ret
  exact ⟨by rw [HY.out]; first | done | rfl, below_drewN HB1.out _⟩
end Go.Proofs
