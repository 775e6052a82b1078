/- Walks: the law 'SetsEnter'. -/
import Derived.Test.YtodbdacdnoeheaaGreatDoorHSgTV
import Derived.Test.YtodbdacdnoeheaaGreatDoorHSgW
namespace Go.Proofs
open Go.RowKit Go.Lx Go.Md Go.Shelf Go.BigFrame Go.Rgi
set_option linter.unusedVariables false
/-- While vertices are entered, or left: the box of the configuration. -/
structure Dw (m : MdlD) (Hd n1 n2 : Nat) (la : List Int) (w8 wr : World) : Prop where
 bel : Below w8.heap.size w8 wr
 hd : w8.heap.size ≤ Hd
 db : ∃ y1 z1 y2 z2 l', Bx Hd y1 n1 z1 y2 n2 z2 wr ∧ CfgAt la l' y1 n1 z1 y2 n2 z2 wr ∧ Fit m l'
/-- What stays meanwhile. -/
structure Le (m : MdlD) (p pr : Ph) (B SB Hr : Nat) (la ll X : List Int) (a1 : Option Addr) (n1 c1 : Nat) (a2 : Option Addr) (n2 c2 Hc : Nat) (xa : Option Addr) (nx xc N : Nat) (w w4 wr : World) : Prop where
 mb : Mb m p w.heap.size w wr
 st : SetAt B m SB wr
 sb : Sb m pr Hr w4 wr
 cb : Bx Hc a1 n1 c1 a2 n2 c2 wr
 cf : CfgAt la ll a1 n1 c1 a2 n2 c2 wr
 ox : wr.ownsRow N 3 1 (.slice xa nx xc) nx (nums X)
theorem Le.below {m : MdlD} {p pr : Ph} {B SB Hr : Nat} {la ll X : List Int} {a1 : Option Addr} {n1 c1 : Nat} {a2 : Option Addr} {n2 c2 Hc : Nat} {xa : Option Addr} {nx xc N : Nat} {w w4 wr wy : World} (h : Le m p pr B SB Hr la ll X a1 n1 c1 a2 n2 c2 Hc xa nx xc N w w4 wr) (g : Below wr.heap.size wr wy) : Le m p pr B SB Hr la ll X a1 n1 c1 a2 n2 c2 Hc xa nx xc N w w4 wy :=
 ⟨h.mb.below g, h.st.grown g, h.sb.below g, h.cb.below g, h.cf.below g, own_below h.ox g⟩
theorem entX_reg {m : MdlD} (h0 : riM m = (0, 0, 0)) {r e : Int} (h : entX m r e ≠ []) : ∃ k : Nat, r = k ∧ k < m.regs.length := by
 unfold entX at h
 split at h
 · exact absurd rfl h
 · unfold entM at h
   split at h
   · rename_i hin
     exact hasR_yes (in_has h0 hin)
   · exact absurd rfl h
theorem exits_at_reg {m : MdlD} {la ll : List Int} (F : Fit m la) (F2 : Fit m ll) {k : Nat} (hk : k < m.regs.length) : exitsM m la ll (k : Int) = exM m la k := by
 unfold exitsM
 rw [fit2_of F F2, hasR_at hk]; rfl
theorem exits_none {m : MdlD} {la ll : List Int} (F : Fit m la) (F2 : Fit m ll) {k : Nat} (hk : k < m.regs.length) (h : exitsM m la ll (k : Int) = []) : atL la k < 0 := by
 rw [exits_at_reg F F2 hk] at h
 exact ex_nil h
theorem entered_succ {m : MdlD} {c : List Int} {L : List Nat} {i : Nat} (hi : i < L.length) : entered m c (L.take (i + 1)) = (entered m c (L.take i)).set (rgA m (L[i] : Int)).toNat (L[i] : Int) := by
 unfold entered
 rw [List.take_succ_eq_append_getElem hi, List.foldl_append]; rfl
/-- Behind the first entries of a row. -/
def enX (m : MdlD) (c X : List Int) (i : Nat) : List Int := (X.take i).foldl (fun (c : List Int) (p : Int) => c.set (rgA m p).toNat p) c
theorem enX_map {m : MdlD} {c : List Int} {L : List Nat} {i : Nat} : enX m c (L.map fun k : Nat => (k : Int)) i = entered m c (L.take i) := by
 unfold enX entered
 rw [← List.map_take, List.foldl_map]
/-- All that is entered, and left again. -/
structure EnX (m : MdlD) (c : List Int) (ll X : List Int) (k : Nat) : Prop where
 ok : ∀ i (hi : i < X.length), ∃ v : Nat, X[i] = v ∧ stands m v = true ∧ enterOk m (enX m c X i) v = true ∧ Fit m (enX m c X i) ∧ enX m c X (i + 1) = (enX m c X i).set (rgA m v).toNat v
 fit : Fit m (enX m c X X.length)
 out : ∀ l', Fit m l' → exitsM m (enX m c X X.length) l' k = X.reverse
 back : leftM (enX m c X X.length) X.reverse = c
theorem enX_all {m : MdlD} {c ll : List Int} {r e : Int} {k : Nat} (R : Rch m c) (F2 : Fit m ll) (hk : k < m.regs.length) (hr : r = k) (hX : entX m r e ≠ []) (hn : atL c k < 0) (ho : ownA m k < 0 ∨ isA m c (ownA m k) = true) : EnX m c ll (entX m r e) k := by
 rw [entX_eq R.fit.h0] at hX ⊢
 subst hr
 obtain ⟨L, eL, hP⟩ := ent_pth R.fit.h0 hk hX
 have E := ent_all R.fit.h0 hP R.fit R.ns hn ho
 rw [eL]
 have el : (L.map fun k : Nat => (k : Int)).length = L.length := List.length_map _
 refine ⟨fun i hi => ?_, ?_, ?_, ?_⟩
 · have hi' : i < L.length := by rw [← el]; exact hi
   obtain ⟨h1, h2, h3⟩ := E.ok i hi'
   refine ⟨L[i], by simp, h2, ?_, ?_, ?_⟩
   · rw [enX_map]; exact h1
   · rw [enX_map]; exact h3
   · rw [enX_map, enX_map]; exact entered_succ hi'
 · rw [enX_map, el, List.take_length]; exact E.fit
 · intro l' F'
   rw [enX_map, el, List.take_length, exits_at_reg E.fit F' hk]
   exact E.out 66 fun p L' _ => by omega
 · rw [enX_map, el, List.take_length, left_rev]; exact E.back
set_option maxRecDepth 100000 in
set_option maxHeartbeats 16000000 in
theorem setsEnter_any {Q : Nat → BP} (m : MdlD) (p : Ph) (l : List Int) (lv : Value) (r en : Int) (w : World) (h : Mod Q w m p) (hm : MdlOk m) (hT : Tab w) (hr : RowIn w lv l) (hl : l.length ≤ 140737488355328) :
   Calls Tryz.prog 5 #[mdV m p, lv, .int .i64 r, .int .i64 en] w fun e w' => e = .returned (.bool true) ∧ Below w.heap.size w w' := by
 obtain ⟨av, cv, rfl, _, _⟩ := hr.len
 have HB := Lib.hid (Mb.made h)
 have SM := Lib.hid (fun wx (g : Mb m p w.heap.size w wx) => small20_any m p wx g.mod hm)
 have WK := Lib.hid (fun wx (g : Below w.heap.size w wx) => works20 wx (hT.next g))
 have BT := Lib.hid (fun (hs : Sm20 m) wx (g : Mb m p w.heap.size w wx) => both20_any m p wx g.mod hm (hT.next g.bel) hs)
 have HLr := Lib.hid (fun wx (g : Below w.heap.size w wx) => hr.below g)
 have hvI := hm.vers
 obtain ⟨nl, hnl⟩ : ∃ n, l.length = n := ⟨_, rfl⟩
 rw [hnl] at hl HLr ⊢
 have HNl := Lib.hid hnl
 unfold mdV at SM BT ⊢
 clear h hm hT hr hnl
 go_enter Tryz.func5, Tryz.ntmps5
 obtain ⟨x0, x1, x2, x3, x4, x5, _⟩ := HB.out.box
 go_wp2_with fail
 (with_reducible refine (SM.out _ HB.out).mono ?_)
 rintro e w3 ⟨⟨b1, rfl, s1⟩, g3⟩
 have HB3 := Lib.hid (HB.out.below g3)
 have HSt := Lib.hid s1
 clear s1 g3 HB SM x0 x1 x2 x3 x4 x5
 cases b1
 · go_wp2_with fail
   (with_reducible refine (WK.out _ HB3.out.bel).mono ?_)
   rintro e w4 ⟨rfl, g4⟩
   go_wp2_with fail
   go_ret
   exact ⟨rfl, (HB3.out.below g4).bel⟩
 have hS := Lib.hid (HSt.out rfl)
 have BTs := Lib.hid (BT.out hS.out)
 clear HSt BT
 obtain ⟨x0, x1, x2, x3, x4, x5, _⟩ := HB3.out.box
 by_cases h60 : nl ≤ 60
 rotate_left
 · have d60 : decide ((60 : Int) < (nl : Int)) = true := by simp; omega
   go_wp2_with fail
   (with_reducible refine (WK.out _ HB3.out.bel).mono ?_)
   rintro e w4 ⟨rfl, g4⟩
   go_wp2_with fail
   go_ret
   exact ⟨rfl, (HB3.out.below g4).bel⟩
 have d60 : decide ((60 : Int) < (nl : Int)) = false := by simp; omega
 have d60' : ¬ ((60 : Int) < (nl : Int)) := by omega
 go_wp2_with fail
 (with_reducible refine (BTs.out _ HB3.out).mono ?_)
 rintro e w4 ⟨g4, pr, (⟨hr0, SB, rfl, hset, hmr⟩ | ⟨hr0, rfl⟩)⟩
 rotate_left
 · have HB4 : Hid (Below w.heap.size w (w4.alloc (.cells #[.string m.nm, .slice pr.a1 m.vars.length pr.c1, .slice pr.a2 m.evs.length pr.c2, .slice pr.a3 m.regs.length pr.c3, .slice pr.a4 m.vers.length pr.c4, .slice pr.a5 m.trns.length pr.c5, .string m.nm, .slice pr.a1 m.vars.length pr.c1, .slice pr.a2 m.evs.length pr.c2, .slice pr.a3 m.regs.length pr.c3, .slice pr.a4 m.vers.length pr.c4, .slice pr.a5 m.trns.length pr.c5] 48))) := Lib.hid (below_ch (HB3.out.bel.trans (g4.mono HB3.out.bel.size)) (below_al1 _ _))
   clear x0 x1 x2 x3 x4 x5 g4 HB3 BTs
   unfold stV
   go_wp2_with fail
   (with_reducible refine (WK.out _ HB4.out).mono ?_)
   rintro e w5 ⟨rfl, g5⟩
   go_wp2_with fail
   go_ret
   exact ⟨rfl, below_ch HB4.out g5⟩
 have HM5 : Hid (Mb m p w.heap.size w (w4.alloc (.cells #[.string m.nm, .slice pr.a1 m.vars.length pr.c1, .slice pr.a2 m.evs.length pr.c2, .slice pr.a3 m.regs.length pr.c3, .slice pr.a4 m.vers.length pr.c4, .slice pr.a5 m.trns.length pr.c5, .string m.nm, .slice pr.a1 m.vars.length pr.c1, .slice pr.a2 m.evs.length pr.c2, .slice pr.a3 m.regs.length pr.c3, .slice pr.a4 m.vers.length pr.c4, .slice pr.a5 m.trns.length pr.c5] 48))) := Lib.hid ((HB3.out.below g4).below (below_al1 _ _))
 have HS5 : Hid (SetAt w3.heap.size m SB (w4.alloc (.cells #[.string m.nm, .slice pr.a1 m.vars.length pr.c1, .slice pr.a2 m.evs.length pr.c2, .slice pr.a3 m.regs.length pr.c3, .slice pr.a4 m.vers.length pr.c4, .slice pr.a5 m.trns.length pr.c5, .string m.nm, .slice pr.a1 m.vars.length pr.c1, .slice pr.a2 m.evs.length pr.c2, .slice pr.a3 m.regs.length pr.c3, .slice pr.a4 m.vers.length pr.c4, .slice pr.a5 m.trns.length pr.c5] 48))) := Lib.hid (hset.grown (below_al1 _ _))
 have HR5 : Hid (Sb m pr w4.heap.size w4 (w4.alloc (.cells #[.string m.nm, .slice pr.a1 m.vars.length pr.c1, .slice pr.a2 m.evs.length pr.c2, .slice pr.a3 m.regs.length pr.c3, .slice pr.a4 m.vers.length pr.c4, .slice pr.a5 m.trns.length pr.c5, .string m.nm, .slice pr.a1 m.vars.length pr.c1, .slice pr.a2 m.evs.length pr.c2, .slice pr.a3 m.regs.length pr.c3, .slice pr.a4 m.vers.length pr.c4, .slice pr.a5 m.trns.length pr.c5] 48))) := Lib.hid (Sb.made hmr)
 have H0 := Lib.hid hr0
 have hm1 : m.regs.length ≤ 1000 := by have := hS.out.rg; omega
 have hm2 : m.vers.length ≤ 1000 := by have := hS.out.vr; omega
 have hzr : w.heap.size < w4.heap.size := Nat.lt_of_lt_of_le HB3.out.box.sl g4.size
 clear x0 x1 x2 x3 x4 x5 g4 HB3 BTs hset hmr hr0 d60 hS
 unfold stV
 obtain ⟨Hr, hHr⟩ : ∃ Hr, w4.heap.size = Hr := ⟨_, rfl⟩
 rw [hHr] at HR5 hzr
 go_upto_region 6 with fail
 clear hHr
 generalize w4.alloc (.cells #[.string m.nm, .slice pr.a1 m.vars.length pr.c1, .slice pr.a2 m.evs.length pr.c2, .slice pr.a3 m.regs.length pr.c3, .slice pr.a4 m.vers.length pr.c4, .slice pr.a5 m.trns.length pr.c5, .string m.nm, .slice pr.a1 m.vars.length pr.c1, .slice pr.a2 m.evs.length pr.c2, .slice pr.a3 m.regs.length pr.c3, .slice pr.a4 m.vers.length pr.c4, .slice pr.a5 m.trns.length pr.c5] 48) = W5 at *
 have SA := Lib.hid (start_any HS5.out H0.out hm1 hm2 l av cv (by rw [HNl.out]; exact HLr.out W5 HM5.out.bel) (by rw [HNl.out]; omega))
 rw [HNl.out] at SA
 go_wp2_with fail
 (with_reducible refine (SA.out).mono ?_)
 rintro e w6 ⟨a1, n1, c1, a2, n2, c2, rfl, hok, g6⟩
 obtain ⟨la, ll, hcf, hR, hF⟩ := hok.at
 have HR := Lib.hid hR
 have HF := Lib.hid hF
 have hn1 : n1 ≤ 1000 := by have := hR.fit.hl; have := hcf.e1; omega
 have hn2 : n2 ≤ 1000 := by have := hF.hl; have := hcf.e2; omega
 have HM6 : Hid (Mb m p w.heap.size w (w6.alloc (.cells #[.slice a1 n1 c1, .slice a2 n2 c2] 52))) := Lib.hid ((HM5.out.below g6).below (below_al1 _ _))
 have HS6 : Hid (SetAt w3.heap.size m SB (w6.alloc (.cells #[.slice a1 n1 c1, .slice a2 n2 c2] 52))) := Lib.hid ((HS5.out.grown g6).grown (below_al1 _ _))
 have HR6 : Hid (Sb m pr Hr w4 (w6.alloc (.cells #[.slice a1 n1 c1, .slice a2 n2 c2] 52))) := Lib.hid ((HR5.out.below g6).below (below_al1 _ _))
 have HC6 : Hid (CfgAt la ll a1 n1 c1 a2 n2 c2 (w6.alloc (.cells #[.slice a1 n1 c1, .slice a2 n2 c2] 52))) := Lib.hid (hcf.below (below_al1 _ _))
 have HX6 := Lib.hid (Bx.made w6 a1 n1 c1 a2 n2 c2 52)
 have hzc : Hr < w6.heap.size := Nat.lt_of_lt_of_le (by have := HR5.out.mb.box.sl; exact this) g6.size
 obtain ⟨Hc, hHc⟩ : ∃ Hc, w6.heap.size = Hc := ⟨_, rfl⟩
 rw [hHc] at HX6 hzc
 clear SA hok hcf hR hF g6 HM5 HS5 HR5
 go_upto_region 7 with fail
 clear hHc
 generalize w6.alloc (.cells #[.slice a1 n1 c1, .slice a2 n2 c2] 52) = W6 at *
 have ENx := Lib.hid (entries_any HS6.out H0.out r en)
 unfold RowP at ENx
 have HX0 := Lib.hid (fun h => entX_reg (m := m) H0.out (r := r) (e := en) h)
 have HXa := Lib.hid (fun (k : Nat) hk hr hX hn ho => enX_all (m := m) (c := la) (ll := ll) (r := r) (e := en) (k := k) HR.out HF.out hk hr hX hn ho)
 have HXh := Lib.hid (fun x (hx : x ∈ entX m r en) => (show inM m x r = true by rw [entX_eq H0.out] at hx; exact ent_in hx))
 have HXl : Hid ((entX m r en).length ≤ 1000) := Lib.hid (by
   have h1 := chainM_le H0.out en
   rw [entX_eq H0.out]
   unfold entM
   split
   · rw [List.length_append]
     have h2 := List.length_filter_le (fun v => inM m v r) (chainM m en)
     have h3 : (if stands m en then [en] else []).length ≤ 1 := by split <;> simp
     omega
   · simp)
 generalize entX m r en = X at *
 go_wp2_with fail
 (with_reducible refine (ENx.out).mono ?_)
 rintro e w8 ⟨vx, rfl, ox, g8⟩
 obtain ⟨xa, xc, rfl⟩ := ownsRow_slice ox
 obtain ⟨nx, hnx⟩ : ∃ nx, X.length = nx := ⟨_, rfl⟩
 have HNx := Lib.hid hnx
 have hxl : nx ≤ 1000 := by have := HXl.out; omega
 rw [hnx] at ox ⊢
 have HL8 : Hid (∀ wx, Below w8.heap.size w8 wx → Le m p pr w3.heap.size SB Hr la ll X a1 n1 c1 a2 n2 c2 Hc xa nx xc W6.heap.size w w4 wx) := Lib.hid fun wx g => Le.below ⟨HM6.out.below g8, HS6.out.grown g8, HR6.out.below g8, HX6.out.below g8, HC6.out.below g8, ox⟩ g
 have HB8 := Lib.hid (HM6.out.below g8).bel
 have hc8 : Hc < w8.heap.size := Nat.lt_of_lt_of_le HX6.out.lt g8.size
 have h88 : Below w8.heap.size w8 w8 := Below.refl _ _
 have H88 := Lib.hid h88
 clear hnx ENx HXl ox g8 HS6 HC6 HX6 HM6 HR6 d60'
 by_cases hx0 : nx = 0
 · subst hx0
   clear HX0 HXa HXh
   go_wp2_with fail
   (with_reducible refine (WK.out _ HB8.out).mono ?_)
   rintro e w9 ⟨rfl, g9⟩
   go_wp2_with fail
   go_ret
   exact ⟨rfl, below_ch HB8.out g9⟩
 have hXne : X ≠ [] := fun e => hx0 (by rw [← HNx.out, e]; rfl)
 obtain ⟨q, rfl, hq⟩ := HX0.out hXne
 have hxd : ((nx : Int) == 0) = false := by rw [beq_eq_false_iff_ne]; omega
 have hq0 : ¬ ((q : Int) < 0) := by omega
 have hqd0 : decide ((q : Int) < 0) = false := decide_eq_false hq0
 have hn1r : n1 = m.regs.length := by rw [← (HL8.out w8 H88.out).cf.e1, HR.out.fit.hl]
 have hq1 : ¬ ((n1 : Int) ≤ (q : Int)) := by omega
 have hqd1 : decide ((n1 : Int) ≤ (q : Int)) = false := decide_eq_false hq1
 have hrg : ((m.regs.length : Int) == 0) = false := by rw [beq_eq_false_iff_ne]; omega
 have hqR : (q : Int) < (m.regs.length : Int) := by omega
 have hqI0 : (0 : Int) ≤ (q : Int) := by omega
 obtain ⟨bo, oo, eo, hbo, hco⟩ := (HL8.out w8 H88.out).mb.mod.ownC hq
 have hcpo := (HL8.out w8 H88.out).mb.mod.regs.cap (by omega)
 obtain ⟨ow, how⟩ : ∃ ow, m.regs[q].own = ow := ⟨_, rfl⟩
 rw [how] at hco
 have HOw : Hid (ownA m q = ow) := Lib.hid (by rw [ownA_at hq, how])
 obtain ⟨x0, x1, x2, x3, x4, x5, _⟩ := (HL8.out w8 H88.out).mb.box
 rw [eo] at x3
 have c0 := (HL8.out w8 H88.out).cb.c0
 have hnx0 : 0 < nx := by omega
 clear hx0 HX0 how h88 hn1r
 have EX := Lib.hid (fun wx (g : Below w8.heap.size w8 wx) => exits_at (HL8.out wx g).st hm1 hm2 (HL8.out wx g).cf HR.out.fit HF.out (q : Int))
 unfold RowP at EX
 have HEn := Lib.hid (fun (h : exitsM m la ll (q : Int) = []) => exits_none HR.out.fit HF.out hq h)
 have RC := Lib.hid (fun wx (g : Below w8.heap.size w8 wx) => ref_at (HL8.out wx g).cf (by omega) (by omega))
 unfold RefAt at RC
 have IC := Lib.hid (fun wx (g : Below w8.heap.size w8 wx) (a3 : Option Addr) (c3 : Nat) (a4 : Option Addr) (c4 : Nat) (hc : CfgAt la ll a3 n1 c3 a4 n2 c4 wx) => is_at (HL8.out wx g).sb.mb.mod hc HR.out.fit (by omega) ow)
 unfold stV at IC
 have HSc : Hid (∀ W', Below w8.heap.size w8 W' → (W'.cell? ⟨Hr, 0, none⟩ = some (.string m.nm) ∧ W'.cell? ⟨Hr, 1, none⟩ = some (.slice pr.a1 m.vars.length pr.c1) ∧ W'.cell? ⟨Hr, 2, none⟩ = some (.slice pr.a2 m.evs.length pr.c2) ∧ W'.cell? ⟨Hr, 3, none⟩ = some (.slice pr.a3 m.regs.length pr.c3) ∧ W'.cell? ⟨Hr, 4, none⟩ = some (.slice pr.a4 m.vers.length pr.c4) ∧ W'.cell? ⟨Hr, 5, none⟩ = some (.slice pr.a5 m.trns.length pr.c5)) ∧ (W'.cell? ⟨Hr, 6, none⟩ = some (.string m.nm) ∧ W'.cell? ⟨Hr, 7, none⟩ = some (.slice pr.a1 m.vars.length pr.c1) ∧ W'.cell? ⟨Hr, 8, none⟩ = some (.slice pr.a2 m.evs.length pr.c2) ∧ W'.cell? ⟨Hr, 9, none⟩ = some (.slice pr.a3 m.regs.length pr.c3) ∧ W'.cell? ⟨Hr, 10, none⟩ = some (.slice pr.a4 m.vers.length pr.c4) ∧ W'.cell? ⟨Hr, 11, none⟩ = some (.slice pr.a5 m.trns.length pr.c5)) ∧ W'.cell? ⟨Hc, 0, none⟩ = some (.slice a1 n1 c1) ∧ W'.cell? ⟨Hc, 1, none⟩ = some (.slice a2 n2 c2)) := Lib.hid fun W' g => by
   have hs := (HL8.out W' g).sb
   obtain ⟨j0, j1, j2, j3, j4, j5, _⟩ := hs.mb.box
   have hy := (HL8.out W' g).cb
   exact ⟨⟨j0, j1, j2, j3, j4, j5⟩, hs.y, hy.c0, hy.c1⟩
 have hB0 := H88.out
 have hwl : (exitsM m la ll (q : Int)).length ≤ 1000 := by have := exits_len (la := la) (ll := ll) H0.out (q : Int); omega
 generalize exitsM m la ll (q : Int) = Z at *
 go_upto_region 11 with fail
 go_cut [98] (fun v98 wx => Below w8.heap.size w8 wx ∧ (v98 = .bool true ∨ (v98 = .bool false ∧ EnX m la ll X q)))
 case first =>
  by_cases hZ : Z = []
  rotate_left
  · have hZl : ((Z.length : Int) != 0) = true := by
      have : Z.length ≠ 0 := fun e => hZ (List.length_eq_zero_iff.1 e)
      simp only [bne_iff_ne, ne_eq]; omega
    clear HXa HXh HEn RC IC hZ
    refine wp_region_any (by kernel_rfl) ?_
    change wpAny _ _ _ _ _ _ _ (World.drew _)
    refine wpAny_of_heldS (S := (fun W' => (W'.cell? ⟨Hr, 0, none⟩ = some (.string m.nm) ∧ W'.cell? ⟨Hr, 1, none⟩ = some (.slice pr.a1 m.vars.length pr.c1) ∧ W'.cell? ⟨Hr, 2, none⟩ = some (.slice pr.a2 m.evs.length pr.c2) ∧ W'.cell? ⟨Hr, 3, none⟩ = some (.slice pr.a3 m.regs.length pr.c3) ∧ W'.cell? ⟨Hr, 4, none⟩ = some (.slice pr.a4 m.vers.length pr.c4) ∧ W'.cell? ⟨Hr, 5, none⟩ = some (.slice pr.a5 m.trns.length pr.c5)) ∧ (W'.cell? ⟨Hr, 6, none⟩ = some (.string m.nm) ∧ W'.cell? ⟨Hr, 7, none⟩ = some (.slice pr.a1 m.vars.length pr.c1) ∧ W'.cell? ⟨Hr, 8, none⟩ = some (.slice pr.a2 m.evs.length pr.c2) ∧ W'.cell? ⟨Hr, 9, none⟩ = some (.slice pr.a3 m.regs.length pr.c3) ∧ W'.cell? ⟨Hr, 10, none⟩ = some (.slice pr.a4 m.vers.length pr.c4) ∧ W'.cell? ⟨Hr, 11, none⟩ = some (.slice pr.a5 m.trns.length pr.c5)) ∧ W'.cell? ⟨Hc, 0, none⟩ = some (.slice a1 n1 c1) ∧ W'.cell? ⟨Hc, 1, none⟩ = some (.slice a2 n2 c2))) ?_ (fun hHeld => ?_)
    · (try dsimp only) <;> (first | exact HSc.out _ hB0.drew | exact HSc.out _ (by assumption))
    refine tkH (i := 0) (oi := ⟨some 81, .move (.tmp 9), 46, "law.go:133", #[], none⟩) (v := ?_) rfl (by kernel_rfl) (fun _ _ _ h => h) (Or.inl ⟨by rfl, ?_⟩) (by assumption) ?_
    rotate_left; (intro w hSw; (try dsimp only at hSw); go_simp <;> with_reducible rfl); try simp only [Act.put, List.setIfInBounds_toArray, List.set_cons_zero, List.set_cons_succ]
    refine tkH (i := 1) (oi := ⟨some 82, .load 52 (.tmp 13), 52, "law.go:133", #[], none⟩) (v := ?_) rfl (by kernel_rfl) (fun _ _ _ h => h) (Or.inl ⟨by rfl, ?_⟩) (by assumption) ?_
    rotate_left; (intro w hSw; (try dsimp only at hSw); go_simp <;> with_reducible rfl); try simp only [Act.put, List.setIfInBounds_toArray, List.set_cons_zero, List.set_cons_succ]
    refine tkH (i := 2) (oi := ⟨some 83, .move (.tmp 2), 3, "law.go:133", #[], none⟩) (v := ?_) rfl (by kernel_rfl) (fun _ _ _ h => h) (Or.inl ⟨by rfl, ?_⟩) (by assumption) ?_
    rotate_left; (intro w hSw; (try dsimp only at hSw); go_simp <;> with_reducible rfl); try simp only [Act.put, List.setIfInBounds_toArray, List.set_cons_zero, List.set_cons_succ]
    refine wpAnyH_ready (rs := [3]) (by kernel_rfl) (by simp) ?_
    refine AllReadyH.cons (o := ⟨some 84, .call { callee := .value (.func 18), args := #[.tmp 81, .tmp 82, .tmp 83], argTypes := #[46, 52, 3] }, 29, "law.go:133", #[⟨0, .data⟩, ⟨1, .data⟩, ⟨2, .data⟩], none⟩) rfl (fun K hK => ?_) ?_
    (go_simp; (with_reducible refine (EX.out _ hB0.drew).mono ?_); rintro e w30 ⟨v30, rfl, o30, g30⟩; have hB30 : Below w8.heap.size w8 w30 := below_ch hB0.drew g30; obtain ⟨x30, y30, rfl⟩ := ownsRow_slice o30; go_wp2_with fail)
    refine hK.out _ _ ?_ (fun hH1 => ?_)
    · (try dsimp only) <;> (first | exact HSc.out _ hB0.drew | exact HSc.out _ (by assumption))
    clear hK K hHeld
    try simp only [Act.put, List.setIfInBounds_toArray, List.set_cons_zero, List.set_cons_succ]
    refine tkH (i := 4) (oi := ⟨some 85, .call { callee := .builtin .len, args := #[.tmp 84], argTypes := #[29] }, 3, "law.go:133", #[⟨3, .data⟩], none⟩) (v := ?_) rfl (by kernel_rfl) (fun _ _ _ h => h) (Or.inl ⟨by rfl, ?_⟩) (by assumption) ?_
    rotate_left; (intro w hSw; (try dsimp only at hSw); go_simp <;> with_reducible rfl); try simp only [Act.put, List.setIfInBounds_toArray, List.set_cons_zero, List.set_cons_succ]
    refine tkH (i := 5) (oi := ⟨some 86, .binOp .neq 3 (.tmp 85) (.const (.int .i64 0)) 3, 4, "law.go:133", #[⟨4, .data⟩], none⟩) (v := ?_) rfl (by kernel_rfl) (fun _ _ _ h => h) (Or.inl ⟨by rfl, ?_⟩) (by assumption) ?_
    rotate_left; (intro w hSw; (try dsimp only at hSw); go_simp <;> with_reducible rfl); try simp only [Act.put, List.setIfInBounds_toArray, List.set_cons_zero, List.set_cons_succ]
    refine tkH (i := 6) (oi := ⟨some 87, .move (.tmp 86), 4, "law.go:133", #[⟨5, .data⟩, ⟨3, .chain⟩], none⟩) (v := ?_) rfl (by kernel_rfl) (fun _ _ _ h => h) (Or.inl ⟨by rfl, ?_⟩) (by assumption) ?_
    rotate_left; (intro w hSw; (try dsimp only at hSw); go_simp <;> with_reducible rfl); try simp only [Act.put, List.setIfInBounds_toArray, List.set_cons_zero, List.set_cons_succ]
    refine tkH (i := 7) (oi := ⟨some 88, .move (.tmp 15), 3, "law.go:133", #[⟨6, .guard⟩], some (6, false)⟩) (v := undef) rfl (by kernel_rfl) (fun _ _ _ h => h) (Or.inr ⟨by rfl, rfl⟩) (by assumption) ?_
    try simp only [Act.put, List.setIfInBounds_toArray, List.set_cons_zero, List.set_cons_succ]
    refine tkH (i := 8) (oi := ⟨some 89, .binOp .geq 3 (.tmp 88) (.const (.int .i64 0)) 3, 4, "law.go:133", #[⟨7, .data⟩, ⟨6, .guard⟩], some (6, false)⟩) (v := undef) rfl (by kernel_rfl) (fun _ _ _ h => h) (Or.inr ⟨by rfl, rfl⟩) (by assumption) ?_
    try simp only [Act.put, List.setIfInBounds_toArray, List.set_cons_zero, List.set_cons_succ]
    refine tkH (i := 9) (oi := ⟨some 90, .move (.tmp 89), 4, "law.go:133", #[⟨8, .data⟩, ⟨6, .chain⟩, ⟨6, .guard⟩], some (6, false)⟩) (v := undef) rfl (by kernel_rfl) (fun _ _ _ h => h) (Or.inr ⟨by rfl, rfl⟩) (by assumption) ?_
    try simp only [Act.put, List.setIfInBounds_toArray, List.set_cons_zero, List.set_cons_succ]
    refine tkH (i := 10) (oi := ⟨some 91, .load 48 (.tmp 10), 48, "law.go:133", #[⟨9, .guard⟩], some (9, true)⟩) (v := undef) rfl (by kernel_rfl) (fun _ _ _ h => h) (Or.inr ⟨by rfl, rfl⟩) (by assumption) ?_
    try simp only [Act.put, List.setIfInBounds_toArray, List.set_cons_zero, List.set_cons_succ]
    refine tkH (i := 11) (oi := ⟨some 92, .load 52 (.tmp 13), 52, "law.go:133", #[⟨9, .guard⟩], some (9, true)⟩) (v := undef) rfl (by kernel_rfl) (fun _ _ _ h => h) (Or.inr ⟨by rfl, rfl⟩) (by assumption) ?_
    try simp only [Act.put, List.setIfInBounds_toArray, List.set_cons_zero, List.set_cons_succ]
    refine tkH (i := 12) (oi := ⟨some 93, .call { callee := .value (.func 23), args := #[.tmp 92], argTypes := #[52] }, 62, "law.go:133", #[⟨11, .data⟩, ⟨9, .chain⟩, ⟨9, .guard⟩], some (9, true)⟩) (v := undef) rfl (by kernel_rfl) (fun _ _ _ h => h) (Or.inr ⟨by rfl, rfl⟩) (by assumption) ?_
    try simp only [Act.put, List.setIfInBounds_toArray, List.set_cons_zero, List.set_cons_succ]
    refine tkH (i := 13) (oi := ⟨some 94, .move (.tmp 15), 3, "law.go:133", #[⟨9, .guard⟩], some (9, true)⟩) (v := undef) rfl (by kernel_rfl) (fun _ _ _ h => h) (Or.inr ⟨by rfl, rfl⟩) (by assumption) ?_
    try simp only [Act.put, List.setIfInBounds_toArray, List.set_cons_zero, List.set_cons_succ]
    refine tkH (i := 14) (oi := ⟨some 95, .call { callee := .value (.func 22), args := #[.tmp 91, .tmp 93, .tmp 94], argTypes := #[48, 62, 3] }, 4, "law.go:133", #[⟨10, .data⟩, ⟨12, .data⟩, ⟨13, .data⟩, ⟨12, .chain⟩, ⟨9, .guard⟩], some (9, true)⟩) (v := undef) rfl (by kernel_rfl) (fun _ _ _ h => h) (Or.inr ⟨by rfl, rfl⟩) (by assumption) ?_
    try simp only [Act.put, List.setIfInBounds_toArray, List.set_cons_zero, List.set_cons_succ]
    refine tkH (i := 15) (oi := ⟨some 96, .unOp .not 4 (.tmp 95), 4, "law.go:133", #[⟨14, .data⟩, ⟨9, .guard⟩], some (9, true)⟩) (v := undef) rfl (by kernel_rfl) (fun _ _ _ h => h) (Or.inr ⟨by rfl, rfl⟩) (by assumption) ?_
    try simp only [Act.put, List.setIfInBounds_toArray, List.set_cons_zero, List.set_cons_succ]
    refine tkH (i := 16) (oi := ⟨some 97, .pick (.tmp 90) (.tmp 96) (.const (.bool false)), 4, "law.go:133", #[⟨9, .data⟩, ⟨15, .data⟩, ⟨6, .guard⟩], some (6, false)⟩) (v := undef) rfl (by kernel_rfl) (fun _ _ _ h => h) (Or.inr ⟨by rfl, rfl⟩) (by assumption) ?_
    try simp only [Act.put, List.setIfInBounds_toArray, List.set_cons_zero, List.set_cons_succ]
    refine tkH (i := 17) (oi := ⟨some 98, .pick (.tmp 87) (.const (.bool true)) (.tmp 97), 4, "law.go:133", #[⟨6, .data⟩, ⟨16, .data⟩], none⟩) (v := ?_) rfl (by kernel_rfl) (fun _ _ _ h => h) (Or.inl ⟨by rfl, ?_⟩) (by assumption) ?_
    rotate_left; (intro w hSw; (try dsimp only at hSw); go_simp <;> with_reducible rfl); try simp only [Act.put, List.setIfInBounds_toArray, List.set_cons_zero, List.set_cons_succ]
    refine wpAnyH_done (by kernel_rfl) ?_ _
    rotate_left
    exact AllReadyH.nil
    all_goals
      go_wp2_with fail
      go_meet
      exact ⟨hB30, .inl rfl⟩
  subst hZ
  have HAt := Lib.hid (HEn.out rfl)
  clear HEn
  by_cases hOn : 0 ≤ ow
  · have hod : decide ((0 : Int) ≤ ow) = true := decide_eq_true hOn
    obtain ⟨ia, hia⟩ : ∃ ia, isA m la ow = ia := ⟨_, rfl⟩
    rw [hia] at IC
    have HIa := Lib.hid hia
    clear hia hOn
    have HE := Lib.hid (fun h : ia = true => HXa.out q hq rfl hXne HAt.out (.inr (by rw [HOw.out, HIa.out, h])))
    clear HXa HAt HIa
    refine wp_region_any (by kernel_rfl) ?_
    change wpAny _ _ _ _ _ _ _ (World.drew _)
    refine wpAny_of_heldS (S := (fun W' => (W'.cell? ⟨Hr, 0, none⟩ = some (.string m.nm) ∧ W'.cell? ⟨Hr, 1, none⟩ = some (.slice pr.a1 m.vars.length pr.c1) ∧ W'.cell? ⟨Hr, 2, none⟩ = some (.slice pr.a2 m.evs.length pr.c2) ∧ W'.cell? ⟨Hr, 3, none⟩ = some (.slice pr.a3 m.regs.length pr.c3) ∧ W'.cell? ⟨Hr, 4, none⟩ = some (.slice pr.a4 m.vers.length pr.c4) ∧ W'.cell? ⟨Hr, 5, none⟩ = some (.slice pr.a5 m.trns.length pr.c5)) ∧ (W'.cell? ⟨Hr, 6, none⟩ = some (.string m.nm) ∧ W'.cell? ⟨Hr, 7, none⟩ = some (.slice pr.a1 m.vars.length pr.c1) ∧ W'.cell? ⟨Hr, 8, none⟩ = some (.slice pr.a2 m.evs.length pr.c2) ∧ W'.cell? ⟨Hr, 9, none⟩ = some (.slice pr.a3 m.regs.length pr.c3) ∧ W'.cell? ⟨Hr, 10, none⟩ = some (.slice pr.a4 m.vers.length pr.c4) ∧ W'.cell? ⟨Hr, 11, none⟩ = some (.slice pr.a5 m.trns.length pr.c5)) ∧ W'.cell? ⟨Hc, 0, none⟩ = some (.slice a1 n1 c1) ∧ W'.cell? ⟨Hc, 1, none⟩ = some (.slice a2 n2 c2))) ?_ (fun hHeld => ?_)
    · (try dsimp only) <;> (first | exact HSc.out _ hB0.drew | exact HSc.out _ (by assumption))
    refine tkH (i := 0) (oi := ⟨some 81, .move (.tmp 9), 46, "law.go:133", #[], none⟩) (v := ?_) rfl (by kernel_rfl) (fun _ _ _ h => h) (Or.inl ⟨by rfl, ?_⟩) (by assumption) ?_
    rotate_left; (intro w hSw; (try dsimp only at hSw); go_simp <;> with_reducible rfl); try simp only [Act.put, List.setIfInBounds_toArray, List.set_cons_zero, List.set_cons_succ]
    refine tkH (i := 1) (oi := ⟨some 82, .load 52 (.tmp 13), 52, "law.go:133", #[], none⟩) (v := ?_) rfl (by kernel_rfl) (fun _ _ _ h => h) (Or.inl ⟨by rfl, ?_⟩) (by assumption) ?_
    rotate_left; (intro w hSw; (try dsimp only at hSw); go_simp <;> with_reducible rfl); try simp only [Act.put, List.setIfInBounds_toArray, List.set_cons_zero, List.set_cons_succ]
    refine tkH (i := 2) (oi := ⟨some 83, .move (.tmp 2), 3, "law.go:133", #[], none⟩) (v := ?_) rfl (by kernel_rfl) (fun _ _ _ h => h) (Or.inl ⟨by rfl, ?_⟩) (by assumption) ?_
    rotate_left; (intro w hSw; (try dsimp only at hSw); go_simp <;> with_reducible rfl); try simp only [Act.put, List.setIfInBounds_toArray, List.set_cons_zero, List.set_cons_succ]
    refine wpAnyH_ready (rs := [3]) (by kernel_rfl) (by simp) ?_
    refine AllReadyH.cons (o := ⟨some 84, .call { callee := .value (.func 18), args := #[.tmp 81, .tmp 82, .tmp 83], argTypes := #[46, 52, 3] }, 29, "law.go:133", #[⟨0, .data⟩, ⟨1, .data⟩, ⟨2, .data⟩], none⟩) rfl (fun K hK => ?_) ?_
    (go_simp; (with_reducible refine (EX.out _ hB0.drew).mono ?_); rintro e w30 ⟨v30, rfl, o30, g30⟩; have hB30 : Below w8.heap.size w8 w30 := below_ch hB0.drew g30; obtain ⟨x30, y30, rfl⟩ := ownsRow_slice o30; go_wp2_with fail)
    refine hK.out _ _ ?_ (fun hH1 => ?_)
    · (try dsimp only) <;> (first | exact HSc.out _ hB0.drew | exact HSc.out _ (by assumption))
    clear hK K hHeld
    try simp only [Act.put, List.setIfInBounds_toArray, List.set_cons_zero, List.set_cons_succ]
    refine tkH (i := 4) (oi := ⟨some 85, .call { callee := .builtin .len, args := #[.tmp 84], argTypes := #[29] }, 3, "law.go:133", #[⟨3, .data⟩], none⟩) (v := ?_) rfl (by kernel_rfl) (fun _ _ _ h => h) (Or.inl ⟨by rfl, ?_⟩) (by assumption) ?_
    rotate_left; (intro w hSw; (try dsimp only at hSw); go_simp <;> with_reducible rfl); try simp only [Act.put, List.setIfInBounds_toArray, List.set_cons_zero, List.set_cons_succ]
    refine tkH (i := 5) (oi := ⟨some 86, .binOp .neq 3 (.tmp 85) (.const (.int .i64 0)) 3, 4, "law.go:133", #[⟨4, .data⟩], none⟩) (v := ?_) rfl (by kernel_rfl) (fun _ _ _ h => h) (Or.inl ⟨by rfl, ?_⟩) (by assumption) ?_
    rotate_left; (intro w hSw; (try dsimp only at hSw); go_simp <;> with_reducible rfl); try simp only [Act.put, List.setIfInBounds_toArray, List.set_cons_zero, List.set_cons_succ]
    refine tkH (i := 6) (oi := ⟨some 87, .move (.tmp 86), 4, "law.go:133", #[⟨5, .data⟩, ⟨3, .chain⟩], none⟩) (v := ?_) rfl (by kernel_rfl) (fun _ _ _ h => h) (Or.inl ⟨by rfl, ?_⟩) (by assumption) ?_
    rotate_left; (intro w hSw; (try dsimp only at hSw); go_simp <;> with_reducible rfl); try simp only [Act.put, List.setIfInBounds_toArray, List.set_cons_zero, List.set_cons_succ]
    refine tkH (i := 7) (oi := ⟨some 88, .move (.tmp 15), 3, "law.go:133", #[⟨6, .guard⟩], some (6, false)⟩) (v := ?_) rfl (by kernel_rfl) (fun _ _ _ h => h) (Or.inl ⟨by rfl, ?_⟩) (by assumption) ?_
    rotate_left; (intro w hSw; (try dsimp only at hSw); go_simp <;> with_reducible rfl); try simp only [Act.put, List.setIfInBounds_toArray, List.set_cons_zero, List.set_cons_succ]
    refine tkH (i := 8) (oi := ⟨some 89, .binOp .geq 3 (.tmp 88) (.const (.int .i64 0)) 3, 4, "law.go:133", #[⟨7, .data⟩, ⟨6, .guard⟩], some (6, false)⟩) (v := ?_) rfl (by kernel_rfl) (fun _ _ _ h => h) (Or.inl ⟨by rfl, ?_⟩) (by assumption) ?_
    rotate_left; (intro w hSw; (try dsimp only at hSw); go_simp <;> with_reducible rfl); try simp only [Act.put, List.setIfInBounds_toArray, List.set_cons_zero, List.set_cons_succ]
    refine tkH (i := 9) (oi := ⟨some 90, .move (.tmp 89), 4, "law.go:133", #[⟨8, .data⟩, ⟨6, .chain⟩, ⟨6, .guard⟩], some (6, false)⟩) (v := ?_) rfl (by kernel_rfl) (fun _ _ _ h => h) (Or.inl ⟨by rfl, ?_⟩) (by assumption) ?_
    rotate_left; (intro w hSw; (try dsimp only at hSw); go_simp <;> with_reducible rfl); try simp only [Act.put, List.setIfInBounds_toArray, List.set_cons_zero, List.set_cons_succ]
    refine tkH (i := 10) (oi := ⟨some 91, .load 48 (.tmp 10), 48, "law.go:133", #[⟨9, .guard⟩], some (9, true)⟩) (v := ?_) rfl (by kernel_rfl) (fun _ _ _ h => h) (Or.inl ⟨by rfl, ?_⟩) (by assumption) ?_
    rotate_left; (intro w hSw; (try dsimp only at hSw); go_simp <;> with_reducible rfl); try simp only [Act.put, List.setIfInBounds_toArray, List.set_cons_zero, List.set_cons_succ]
    refine tkH (i := 11) (oi := ⟨some 92, .load 52 (.tmp 13), 52, "law.go:133", #[⟨9, .guard⟩], some (9, true)⟩) (v := ?_) rfl (by kernel_rfl) (fun _ _ _ h => h) (Or.inl ⟨by rfl, ?_⟩) (by assumption) ?_
    rotate_left; (intro w hSw; (try dsimp only at hSw); go_simp <;> with_reducible rfl); try simp only [Act.put, List.setIfInBounds_toArray, List.set_cons_zero, List.set_cons_succ]
    refine tkH (i := 13) (oi := ⟨some 94, .move (.tmp 15), 3, "law.go:133", #[⟨9, .guard⟩], some (9, true)⟩) (v := ?_) rfl (by kernel_rfl) (fun _ _ _ h => h) (Or.inl ⟨by rfl, ?_⟩) (by assumption) ?_
    rotate_left; (intro w hSw; (try dsimp only at hSw); go_simp <;> with_reducible rfl); try simp only [Act.put, List.setIfInBounds_toArray, List.set_cons_zero, List.set_cons_succ]
    refine wpAnyH_ready (rs := [12]) (by kernel_rfl) (by simp) ?_
    refine AllReadyH.cons (o := ⟨some 93, .call { callee := .value (.func 23), args := #[.tmp 92], argTypes := #[52] }, 62, "law.go:133", #[⟨11, .data⟩, ⟨9, .chain⟩, ⟨9, .guard⟩], some (9, true)⟩) rfl (fun K hK => ?_) ?_
    (go_simp; (with_reducible refine (RC.out _ hB30).mono ?_); rintro e w31 ⟨x3, s3, x4, s4, rfl, hRc, g31⟩; have hB31 : Below w8.heap.size w8 w31 := below_ch hB30 g31; go_wp2_with fail)
    refine hK.out _ _ ?_ (fun hH2 => ?_)
    · (try dsimp only) <;> (first | exact HSc.out _ hB0.drew | exact HSc.out _ (by assumption))
    clear hK K hH1
    try simp only [Act.put, List.setIfInBounds_toArray, List.set_cons_zero, List.set_cons_succ]
    refine wpAnyH_ready (rs := [14]) (by kernel_rfl) (by simp) ?_
    refine AllReadyH.cons (o := ⟨some 95, .call { callee := .value (.func 22), args := #[.tmp 91, .tmp 93, .tmp 94], argTypes := #[48, 62, 3] }, 4, "law.go:133", #[⟨10, .data⟩, ⟨12, .data⟩, ⟨13, .data⟩, ⟨12, .chain⟩, ⟨9, .guard⟩], some (9, true)⟩) rfl (fun K hK => ?_) ?_
    (go_simp; (with_reducible refine (IC.out _ hB31 _ _ _ _ hRc).mono ?_); rintro e w32 ⟨rfl, g32⟩; have hB32 : Below w8.heap.size w8 w32 := below_ch hB31 g32; go_wp2_with fail)
    refine hK.out _ _ ?_ (fun hH3 => ?_)
    · (try dsimp only) <;> (first | exact HSc.out _ hB0.drew | exact HSc.out _ (by assumption))
    clear hK K hH2
    try simp only [Act.put, List.setIfInBounds_toArray, List.set_cons_zero, List.set_cons_succ]
    refine tkH (i := 15) (oi := ⟨some 96, .unOp .not 4 (.tmp 95), 4, "law.go:133", #[⟨14, .data⟩, ⟨9, .guard⟩], some (9, true)⟩) (v := ?_) rfl (by kernel_rfl) (fun _ _ _ h => h) (Or.inl ⟨by rfl, ?_⟩) (by assumption) ?_
    rotate_left; (intro w hSw; (try dsimp only at hSw); go_simp <;> with_reducible rfl); try simp only [Act.put, List.setIfInBounds_toArray, List.set_cons_zero, List.set_cons_succ]
    refine tkH (i := 16) (oi := ⟨some 97, .pick (.tmp 90) (.tmp 96) (.const (.bool false)), 4, "law.go:133", #[⟨9, .data⟩, ⟨15, .data⟩, ⟨6, .guard⟩], some (6, false)⟩) (v := ?_) rfl (by kernel_rfl) (fun _ _ _ h => h) (Or.inl ⟨by rfl, ?_⟩) (by assumption) ?_
    rotate_left; (intro w hSw; (try dsimp only at hSw); go_simp <;> with_reducible rfl); try simp only [Act.put, List.setIfInBounds_toArray, List.set_cons_zero, List.set_cons_succ]
    refine tkH (i := 17) (oi := ⟨some 98, .pick (.tmp 87) (.const (.bool true)) (.tmp 97), 4, "law.go:133", #[⟨6, .data⟩, ⟨16, .data⟩], none⟩) (v := ?_) rfl (by kernel_rfl) (fun _ _ _ h => h) (Or.inl ⟨by rfl, ?_⟩) (by assumption) ?_
    rotate_left; (intro w hSw; (try dsimp only at hSw); go_simp <;> with_reducible rfl); try simp only [Act.put, List.setIfInBounds_toArray, List.set_cons_zero, List.set_cons_succ]
    refine wpAnyH_done (by kernel_rfl) ?_ _
    rotate_left
    exact AllReadyH.nil
    exact AllReadyH.nil
    exact AllReadyH.nil
    all_goals
      go_wp2_with fail
      go_meet
      refine ⟨hB32, ?_⟩
      cases ia
      · exact .inl rfl
      · exact .inr ⟨rfl, HE.out rfl⟩
  · have hod : decide ((0 : Int) ≤ ow) = false := decide_eq_false hOn
    have HE := Lib.hid (HXa.out q hq rfl hXne HAt.out (.inl (by rw [HOw.out]; omega)))
    clear HXa HAt RC IC
    refine wp_region_any (by kernel_rfl) ?_
    change wpAny _ _ _ _ _ _ _ (World.drew _)
    refine wpAny_of_heldS (S := (fun W' => (W'.cell? ⟨Hr, 0, none⟩ = some (.string m.nm) ∧ W'.cell? ⟨Hr, 1, none⟩ = some (.slice pr.a1 m.vars.length pr.c1) ∧ W'.cell? ⟨Hr, 2, none⟩ = some (.slice pr.a2 m.evs.length pr.c2) ∧ W'.cell? ⟨Hr, 3, none⟩ = some (.slice pr.a3 m.regs.length pr.c3) ∧ W'.cell? ⟨Hr, 4, none⟩ = some (.slice pr.a4 m.vers.length pr.c4) ∧ W'.cell? ⟨Hr, 5, none⟩ = some (.slice pr.a5 m.trns.length pr.c5)) ∧ (W'.cell? ⟨Hr, 6, none⟩ = some (.string m.nm) ∧ W'.cell? ⟨Hr, 7, none⟩ = some (.slice pr.a1 m.vars.length pr.c1) ∧ W'.cell? ⟨Hr, 8, none⟩ = some (.slice pr.a2 m.evs.length pr.c2) ∧ W'.cell? ⟨Hr, 9, none⟩ = some (.slice pr.a3 m.regs.length pr.c3) ∧ W'.cell? ⟨Hr, 10, none⟩ = some (.slice pr.a4 m.vers.length pr.c4) ∧ W'.cell? ⟨Hr, 11, none⟩ = some (.slice pr.a5 m.trns.length pr.c5)) ∧ W'.cell? ⟨Hc, 0, none⟩ = some (.slice a1 n1 c1) ∧ W'.cell? ⟨Hc, 1, none⟩ = some (.slice a2 n2 c2))) ?_ (fun hHeld => ?_)
    · (try dsimp only) <;> (first | exact HSc.out _ hB0.drew | exact HSc.out _ (by assumption))
    refine tkH (i := 0) (oi := ⟨some 81, .move (.tmp 9), 46, "law.go:133", #[], none⟩) (v := ?_) rfl (by kernel_rfl) (fun _ _ _ h => h) (Or.inl ⟨by rfl, ?_⟩) (by assumption) ?_
    rotate_left; (intro w hSw; (try dsimp only at hSw); go_simp <;> with_reducible rfl); try simp only [Act.put, List.setIfInBounds_toArray, List.set_cons_zero, List.set_cons_succ]
    refine tkH (i := 1) (oi := ⟨some 82, .load 52 (.tmp 13), 52, "law.go:133", #[], none⟩) (v := ?_) rfl (by kernel_rfl) (fun _ _ _ h => h) (Or.inl ⟨by rfl, ?_⟩) (by assumption) ?_
    rotate_left; (intro w hSw; (try dsimp only at hSw); go_simp <;> with_reducible rfl); try simp only [Act.put, List.setIfInBounds_toArray, List.set_cons_zero, List.set_cons_succ]
    refine tkH (i := 2) (oi := ⟨some 83, .move (.tmp 2), 3, "law.go:133", #[], none⟩) (v := ?_) rfl (by kernel_rfl) (fun _ _ _ h => h) (Or.inl ⟨by rfl, ?_⟩) (by assumption) ?_
    rotate_left; (intro w hSw; (try dsimp only at hSw); go_simp <;> with_reducible rfl); try simp only [Act.put, List.setIfInBounds_toArray, List.set_cons_zero, List.set_cons_succ]
    refine wpAnyH_ready (rs := [3]) (by kernel_rfl) (by simp) ?_
    refine AllReadyH.cons (o := ⟨some 84, .call { callee := .value (.func 18), args := #[.tmp 81, .tmp 82, .tmp 83], argTypes := #[46, 52, 3] }, 29, "law.go:133", #[⟨0, .data⟩, ⟨1, .data⟩, ⟨2, .data⟩], none⟩) rfl (fun K hK => ?_) ?_
    (go_simp; (with_reducible refine (EX.out _ hB0.drew).mono ?_); rintro e w30 ⟨v30, rfl, o30, g30⟩; have hB30 : Below w8.heap.size w8 w30 := below_ch hB0.drew g30; obtain ⟨x30, y30, rfl⟩ := ownsRow_slice o30; go_wp2_with fail)
    refine hK.out _ _ ?_ (fun hH1 => ?_)
    · (try dsimp only) <;> (first | exact HSc.out _ hB0.drew | exact HSc.out _ (by assumption))
    clear hK K hHeld
    try simp only [Act.put, List.setIfInBounds_toArray, List.set_cons_zero, List.set_cons_succ]
    refine tkH (i := 4) (oi := ⟨some 85, .call { callee := .builtin .len, args := #[.tmp 84], argTypes := #[29] }, 3, "law.go:133", #[⟨3, .data⟩], none⟩) (v := ?_) rfl (by kernel_rfl) (fun _ _ _ h => h) (Or.inl ⟨by rfl, ?_⟩) (by assumption) ?_
    rotate_left; (intro w hSw; (try dsimp only at hSw); go_simp <;> with_reducible rfl); try simp only [Act.put, List.setIfInBounds_toArray, List.set_cons_zero, List.set_cons_succ]
    refine tkH (i := 5) (oi := ⟨some 86, .binOp .neq 3 (.tmp 85) (.const (.int .i64 0)) 3, 4, "law.go:133", #[⟨4, .data⟩], none⟩) (v := ?_) rfl (by kernel_rfl) (fun _ _ _ h => h) (Or.inl ⟨by rfl, ?_⟩) (by assumption) ?_
    rotate_left; (intro w hSw; (try dsimp only at hSw); go_simp <;> with_reducible rfl); try simp only [Act.put, List.setIfInBounds_toArray, List.set_cons_zero, List.set_cons_succ]
    refine tkH (i := 6) (oi := ⟨some 87, .move (.tmp 86), 4, "law.go:133", #[⟨5, .data⟩, ⟨3, .chain⟩], none⟩) (v := ?_) rfl (by kernel_rfl) (fun _ _ _ h => h) (Or.inl ⟨by rfl, ?_⟩) (by assumption) ?_
    rotate_left; (intro w hSw; (try dsimp only at hSw); go_simp <;> with_reducible rfl); try simp only [Act.put, List.setIfInBounds_toArray, List.set_cons_zero, List.set_cons_succ]
    refine tkH (i := 7) (oi := ⟨some 88, .move (.tmp 15), 3, "law.go:133", #[⟨6, .guard⟩], some (6, false)⟩) (v := ?_) rfl (by kernel_rfl) (fun _ _ _ h => h) (Or.inl ⟨by rfl, ?_⟩) (by assumption) ?_
    rotate_left; (intro w hSw; (try dsimp only at hSw); go_simp <;> with_reducible rfl); try simp only [Act.put, List.setIfInBounds_toArray, List.set_cons_zero, List.set_cons_succ]
    refine tkH (i := 8) (oi := ⟨some 89, .binOp .geq 3 (.tmp 88) (.const (.int .i64 0)) 3, 4, "law.go:133", #[⟨7, .data⟩, ⟨6, .guard⟩], some (6, false)⟩) (v := ?_) rfl (by kernel_rfl) (fun _ _ _ h => h) (Or.inl ⟨by rfl, ?_⟩) (by assumption) ?_
    rotate_left; (intro w hSw; (try dsimp only at hSw); go_simp <;> with_reducible rfl); try simp only [Act.put, List.setIfInBounds_toArray, List.set_cons_zero, List.set_cons_succ]
    refine tkH (i := 9) (oi := ⟨some 90, .move (.tmp 89), 4, "law.go:133", #[⟨8, .data⟩, ⟨6, .chain⟩, ⟨6, .guard⟩], some (6, false)⟩) (v := ?_) rfl (by kernel_rfl) (fun _ _ _ h => h) (Or.inl ⟨by rfl, ?_⟩) (by assumption) ?_
    rotate_left; (intro w hSw; (try dsimp only at hSw); go_simp <;> with_reducible rfl); try simp only [Act.put, List.setIfInBounds_toArray, List.set_cons_zero, List.set_cons_succ]
    refine tkH (i := 10) (oi := ⟨some 91, .load 48 (.tmp 10), 48, "law.go:133", #[⟨9, .guard⟩], some (9, true)⟩) (v := undef) rfl (by kernel_rfl) (fun _ _ _ h => h) (Or.inr ⟨by rfl, rfl⟩) (by assumption) ?_
    try simp only [Act.put, List.setIfInBounds_toArray, List.set_cons_zero, List.set_cons_succ]
    refine tkH (i := 11) (oi := ⟨some 92, .load 52 (.tmp 13), 52, "law.go:133", #[⟨9, .guard⟩], some (9, true)⟩) (v := undef) rfl (by kernel_rfl) (fun _ _ _ h => h) (Or.inr ⟨by rfl, rfl⟩) (by assumption) ?_
    try simp only [Act.put, List.setIfInBounds_toArray, List.set_cons_zero, List.set_cons_succ]
    refine tkH (i := 12) (oi := ⟨some 93, .call { callee := .value (.func 23), args := #[.tmp 92], argTypes := #[52] }, 62, "law.go:133", #[⟨11, .data⟩, ⟨9, .chain⟩, ⟨9, .guard⟩], some (9, true)⟩) (v := undef) rfl (by kernel_rfl) (fun _ _ _ h => h) (Or.inr ⟨by rfl, rfl⟩) (by assumption) ?_
    try simp only [Act.put, List.setIfInBounds_toArray, List.set_cons_zero, List.set_cons_succ]
    refine tkH (i := 13) (oi := ⟨some 94, .move (.tmp 15), 3, "law.go:133", #[⟨9, .guard⟩], some (9, true)⟩) (v := undef) rfl (by kernel_rfl) (fun _ _ _ h => h) (Or.inr ⟨by rfl, rfl⟩) (by assumption) ?_
    try simp only [Act.put, List.setIfInBounds_toArray, List.set_cons_zero, List.set_cons_succ]
    refine tkH (i := 14) (oi := ⟨some 95, .call { callee := .value (.func 22), args := #[.tmp 91, .tmp 93, .tmp 94], argTypes := #[48, 62, 3] }, 4, "law.go:133", #[⟨10, .data⟩, ⟨12, .data⟩, ⟨13, .data⟩, ⟨12, .chain⟩, ⟨9, .guard⟩], some (9, true)⟩) (v := undef) rfl (by kernel_rfl) (fun _ _ _ h => h) (Or.inr ⟨by rfl, rfl⟩) (by assumption) ?_
    try simp only [Act.put, List.setIfInBounds_toArray, List.set_cons_zero, List.set_cons_succ]
    refine tkH (i := 15) (oi := ⟨some 96, .unOp .not 4 (.tmp 95), 4, "law.go:133", #[⟨14, .data⟩, ⟨9, .guard⟩], some (9, true)⟩) (v := undef) rfl (by kernel_rfl) (fun _ _ _ h => h) (Or.inr ⟨by rfl, rfl⟩) (by assumption) ?_
    try simp only [Act.put, List.setIfInBounds_toArray, List.set_cons_zero, List.set_cons_succ]
    refine tkH (i := 16) (oi := ⟨some 97, .pick (.tmp 90) (.tmp 96) (.const (.bool false)), 4, "law.go:133", #[⟨9, .data⟩, ⟨15, .data⟩, ⟨6, .guard⟩], some (6, false)⟩) (v := ?_) rfl (by kernel_rfl) (fun _ _ _ h => h) (Or.inl ⟨by rfl, ?_⟩) (by assumption) ?_
    rotate_left; (intro w hSw; (try dsimp only at hSw); go_simp <;> with_reducible rfl); try simp only [Act.put, List.setIfInBounds_toArray, List.set_cons_zero, List.set_cons_succ]
    refine tkH (i := 17) (oi := ⟨some 98, .pick (.tmp 87) (.const (.bool true)) (.tmp 97), 4, "law.go:133", #[⟨6, .data⟩, ⟨16, .data⟩], none⟩) (v := ?_) rfl (by kernel_rfl) (fun _ _ _ h => h) (Or.inl ⟨by rfl, ?_⟩) (by assumption) ?_
    rotate_left; (intro w hSw; (try dsimp only at hSw); go_simp <;> with_reducible rfl); try simp only [Act.put, List.setIfInBounds_toArray, List.set_cons_zero, List.set_cons_succ]
    refine wpAnyH_done (by kernel_rfl) ?_ _
    rotate_left
    exact AllReadyH.nil
    all_goals
      go_wp2_with fail
      go_meet
      exact ⟨hB30, .inr ⟨rfl, HE.out⟩⟩
 case rest =>
  obtain ⟨hbc, hv⟩ := hcut
  have HBc := Lib.hid hbc
  clear hbc hB0 hwl EX RC IC HSc HEn HXa x0 x1 x2 x3 x4 x5 c0 hco hbo eo hcpo HOw
  rcases hv with rfl | ⟨rfl, hE⟩
  · have HBz := Lib.hid (below_ch HB8.out HBc.out)
    go_wp2_with fail
    (with_reducible refine (WK.out _ HBz.out).mono ?_)
    rintro e w40 ⟨rfl, g40⟩
    go_wp2_with fail
    go_ret
    exact ⟨rfl, below_ch HBz.out g40⟩
  have HE := Lib.hid hE
  have HLc := Lib.hid (fun wx (g : Below wc.heap.size wc wx) => HL8.out wx (below_ch HBc.out g))
  have HB9 := Lib.hid (below_ch HB8.out HBc.out)
  have hcc : Hc < wc.heap.size := Nat.lt_of_lt_of_le hc8 HBc.out.size
  clear hE HL8 HB8 HBc hc8 H88
  have d0 := (HLc.out wc (Below.refl _ _)).cb.c0
  have d1 := (HLc.out wc (Below.refl _ _)).cb.c1
  have HD0 : Hid (Dw m wc.heap.size n1 n2 (enX m la X 0) wc (wc.alloc (.cells #[.slice a1 n1 c1, .slice a2 n2 c2] 52))) := Lib.hid
    ⟨below_al1 _ _, Nat.le_refl _, a1, c1, a2, c2, ll, Bx.made wc _ _ _ _ _ _ _, (HLc.out wc (Below.refl _ _)).cf.below (below_al1 _ _), HF.out⟩
  obtain ⟨Hd, hHd⟩ : ∃ Hd, wc.heap.size = Hd := ⟨_, rfl⟩
  have hd8 : wc.heap.size ≤ Hd := by omega
  rw [hHd] at HD0
  go_upto_region 14 with fail
  clear hHd d0 d1
  generalize wc.alloc (.cells #[.slice a1 n1 c1, .slice a2 n2 c2] 52) = W9 at *
  go_wp2_with fail
  go_loopw [17] (fun i wr => ∃ k : Nat, k ≤ nx ∧ i = .int .i64 k ∧ Dw m Hd n1 n2 (enX m la X k) wc wr) (fun i _ => nx - (intOf i).toNat)
  case atStart => exact ⟨0, by omega, rfl, HD0.out⟩
  case round =>
   obtain ⟨wo, rfl⟩ : ∃ wo : World, wo = wr := ⟨_, rfl⟩
   obtain ⟨k, hk, rfl, hw⟩ := hrel
   have HLs := Lib.hid (HLc.out wo hw.bel)
   have HBo := Lib.hid hw.bel
   obtain ⟨y1, z1, y2, z2, l', hbx, hcf, hfl⟩ := hw.db
   have HBx := Lib.hid hbx
   have HCf := Lib.hid hcf
   have HFl := Lib.hid hfl
   have hHdo := hbx.lt
   clear hw hbx hcf hfl HD0
   by_cases hkn : k < nx
   · have hkl : k < X.length := by rw [HNx.out]; exact hkn
     have hkI : (k : Int) < (nx : Int) := by omega
     have hk0 : (0 : Int) ≤ (k : Int) := by omega
     obtain ⟨gx, cx, ex⟩ := ownsRow_pos HLs.out.ox (by omega)
     simp only [Value.slice.injEq, true_and] at ex
     obtain ⟨rfl, rfl⟩ := ex
     have hcapx := ownsRow_capL HLs.out.ox
     have hgx := (HLs.out.ox.lt gx rfl).2
     have cxk := (HLs.out.ox.cellAt k (by omega)).trans (show (nums X)[k]? = some (.int .i64 X[k]) by simp [nums, hkl])
     obtain ⟨v, ev, hst, hen, hfi, hnx2⟩ := HE.out.ok k hkl
     have LVk := Lib.hid (fun wx (g : Below wo.heap.size wo wx) => enter_ok (HLs.out.st.grown g) hm1 hm2 (HCf.out.below g) hfi HFl.out (v : Int) hst hen)
     rw [← hnx2] at LVk
     unfold StepAt at LVk
     have HFn := HFl
     obtain ⟨x, hx⟩ : ∃ x : Int, (v : Int) = x := ⟨_, rfl⟩
     rw [ev, hx] at cxk
     rw [hx] at LVk
     have d0 := HBx.out.c0
     have d1 := HBx.out.c1
     have HSS : Hid (∀ W', Below wo.heap.size wo W' → W'.cell? ⟨Hd, 0, none⟩ = some (.slice y1 n1 z1) ∧ W'.cell? ⟨Hd, 1, none⟩ = some (.slice y2 n2 z2) ∧ W'.cell? ⟨gx, k, none⟩ = some (.int .i64 x)) := Lib.hid fun W' g => ⟨(g.cell (p := ⟨Hd, 0, none⟩) hHdo).trans d0, (g.cell (p := ⟨Hd, 1, none⟩) hHdo).trans d1, (g.cell (p := ⟨gx, k, none⟩) hgx).trans cxk⟩
     have hB0 : Below wo.heap.size wo wo := Below.refl _ _
     clear ev hst hen hfi hnx2 hx d0 d1 cxk
     go_upto_region 17 with fail
     refine wp_region_any (by kernel_rfl) ?_
     change wpAny _ _ _ _ _ _ _ (World.drew _)
     refine wpAny_sink (n := 12) (o := ⟨some 19, .assign (.tmp 116), 56, "law.go:138", #[⟨9, .data⟩, ⟨11, .chain⟩, ⟨0, .phase⟩, ⟨1, .phase⟩, ⟨2, .phase⟩, ⟨3, .phase⟩, ⟨4, .phase⟩, ⟨5, .phase⟩, ⟨6, .phase⟩, ⟨7, .phase⟩, ⟨8, .phase⟩, ⟨9, .phase⟩, ⟨10, .phase⟩, ⟨11, .phase⟩], none⟩) (ops' := #[⟨some 108, .move (.tmp 9), 46, "law.go:138", #[], none⟩, ⟨some 109, .load 52 (.tmp 16), 52, "law.go:138", #[], none⟩, ⟨some 110, .move (.tmp 14), 29, "law.go:138", #[], none⟩, ⟨some 111, .move (.tmp 17), 3, "law.go:138", #[], none⟩, ⟨some 112, .indexAddr 29 (.tmp 110) (.tmp 111), 0, "law.go:138", #[⟨2, .data⟩, ⟨3, .data⟩], none⟩, ⟨some 113, .load 3 (.tmp 112), 3, "law.go:138", #[⟨4, .data⟩], none⟩, ⟨some 114, .call { callee := .value (.func 25), args := #[.tmp 108, .tmp 109, .tmp 113], argTypes := #[46, 52, 3] }, 57, "law.go:138", #[⟨0, .data⟩, ⟨1, .data⟩, ⟨5, .data⟩], none⟩, ⟨some 107, .move (.tmp 114), 57, "law.go:138", #[⟨6, .data⟩], none⟩, ⟨some 115, .extract (.tmp 107) 0, 52, "law.go:138", #[⟨7, .data⟩], none⟩, ⟨some 116, .extract (.tmp 107) 1, 56, "law.go:138", #[⟨7, .data⟩, { on := 11, ground := .gcOnly Go.Departure.lateStores }], none⟩, ⟨some 18, .alloc 52, 0, "law.go:138", #[], none⟩, ⟨none, .store 52 (.tmp 18) (.tmp 115), 0, "law.go:138", #[⟨10, .data⟩, ⟨8, .data⟩, ⟨6, .chain⟩, ⟨0, .phase⟩, ⟨1, .phase⟩, ⟨2, .phase⟩, ⟨3, .phase⟩, ⟨4, .phase⟩, ⟨5, .phase⟩, ⟨6, .phase⟩, ⟨7, .phase⟩, ⟨8, .phase⟩, { on := 9, ground := .textOnly Go.Departure.lateStores }, ⟨10, .phase⟩], none⟩]) (by decide) (by kernel_rfl) (by rfl) (by rfl) ?_
     refine wpAny_of_heldS (S := (fun W' => W'.cell? ⟨Hd, 0, none⟩ = some (.slice y1 n1 z1) ∧ W'.cell? ⟨Hd, 1, none⟩ = some (.slice y2 n2 z2) ∧ W'.cell? ⟨gx, k, none⟩ = some (.int .i64 x))) ?_ (fun hHeld => ?_)
     · (try dsimp only) <;> (exact HSS.out _ (by first | exact hB0.drew | exact (hB0.alloc (Nat.le_refl _) _).drew | exact hB9 | exact hB9.alloc hB9.size _ | exact hB9.two (Nat.le_refl _) _ _ | exact (hB9.alloc hB9.size _).two hB9.size _ _))
     refine tkH (i := 0) (oi := ⟨some 108, .move (.tmp 9), 46, "law.go:138", #[], none⟩) (v := ?_) rfl (by kernel_rfl) (fun _ _ _ h => h) (Or.inl ⟨by rfl, ?_⟩) (by assumption) ?_
     rotate_left; (intro w hSw; (try dsimp only at hSw); go_simp <;> with_reducible rfl); try simp only [Act.put, List.setIfInBounds_toArray, List.set_cons_zero, List.set_cons_succ]
     refine tkH (i := 1) (oi := ⟨some 109, .load 52 (.tmp 16), 52, "law.go:138", #[], none⟩) (v := ?_) rfl (by kernel_rfl) (fun _ _ _ h => h) (Or.inl ⟨by rfl, ?_⟩) (by assumption) ?_
     rotate_left; (intro w hSw; (try dsimp only at hSw); go_simp <;> with_reducible rfl); try simp only [Act.put, List.setIfInBounds_toArray, List.set_cons_zero, List.set_cons_succ]
     refine tkH (i := 2) (oi := ⟨some 110, .move (.tmp 14), 29, "law.go:138", #[], none⟩) (v := ?_) rfl (by kernel_rfl) (fun _ _ _ h => h) (Or.inl ⟨by rfl, ?_⟩) (by assumption) ?_
     rotate_left; (intro w hSw; (try dsimp only at hSw); go_simp <;> with_reducible rfl); try simp only [Act.put, List.setIfInBounds_toArray, List.set_cons_zero, List.set_cons_succ]
     refine tkH (i := 3) (oi := ⟨some 111, .move (.tmp 17), 3, "law.go:138", #[], none⟩) (v := ?_) rfl (by kernel_rfl) (fun _ _ _ h => h) (Or.inl ⟨by rfl, ?_⟩) (by assumption) ?_
     rotate_left; (intro w hSw; (try dsimp only at hSw); go_simp <;> with_reducible rfl); try simp only [Act.put, List.setIfInBounds_toArray, List.set_cons_zero, List.set_cons_succ]
     refine tkH (i := 4) (oi := ⟨some 112, .indexAddr 29 (.tmp 110) (.tmp 111), 0, "law.go:138", #[⟨2, .data⟩, ⟨3, .data⟩], none⟩) (v := ?_) rfl (by kernel_rfl) (fun _ _ _ h => h) (Or.inl ⟨by rfl, ?_⟩) (by assumption) ?_
     rotate_left; (intro w hSw; (try dsimp only at hSw); go_simp <;> with_reducible rfl); try simp only [Act.put, List.setIfInBounds_toArray, List.set_cons_zero, List.set_cons_succ]
     refine tkH (i := 5) (oi := ⟨some 113, .load 3 (.tmp 112), 3, "law.go:138", #[⟨4, .data⟩], none⟩) (v := ?_) rfl (by kernel_rfl) (fun _ _ _ h => h) (Or.inl ⟨by rfl, ?_⟩) (by assumption) ?_
     rotate_left; (intro w hSw; (try dsimp only at hSw); go_simp <;> with_reducible rfl); try simp only [Act.put, List.setIfInBounds_toArray, List.set_cons_zero, List.set_cons_succ]
     refine wpAnyH_ready (rs := [6, 10]) (by kernel_rfl) (by simp) ?_
     refine AllReadyH.cons (o := ⟨some 114, .call { callee := .value (.func 25), args := #[.tmp 108, .tmp 109, .tmp 113], argTypes := #[46, 52, 3] }, 57, "law.go:138", #[⟨0, .data⟩, ⟨1, .data⟩, ⟨5, .data⟩], none⟩) rfl (fun K hK => ?_) ?_
     (go_simp; (with_reducible refine (LVk.out _ (by first | exact hB0.drew | exact (hB0.alloc (Nat.le_refl _) _).drew)).mono ?_); rintro e w9 ⟨u1, t1, u2, t2, rfl, g9, hec⟩; have hB9 : Below wo.heap.size wo w9 := (by first | exact below_ch hB0.drew g9 | exact below_ch (hB0.alloc (Nat.le_refl _) _).drew g9); (first | (have zA := bx_new2 g9 (by simp); obtain ⟨za0, za1, za2, za3⟩ := bx_facts2 zA) | skip); go_wp2_with fail)
     refine hK.out _ _ ?_ (fun hH1 => ?_)
     · (try dsimp only) <;> (exact HSS.out _ (by first | exact hB0.drew | exact (hB0.alloc (Nat.le_refl _) _).drew | exact hB9 | exact hB9.alloc hB9.size _ | exact hB9.two (Nat.le_refl _) _ _ | exact (hB9.alloc hB9.size _).two hB9.size _ _))
     clear hK K hHeld
     try simp only [Act.put, List.setIfInBounds_toArray, List.set_cons_zero, List.set_cons_succ]
     refine tkH (i := 7) (oi := ⟨some 107, .move (.tmp 114), 57, "law.go:138", #[⟨6, .data⟩], none⟩) (v := ?_) rfl (by kernel_rfl) (fun _ _ _ h => h) (Or.inl ⟨by rfl, ?_⟩) (by assumption) ?_
     rotate_left; (intro w hSw; (try dsimp only at hSw); go_simp <;> with_reducible rfl); try simp only [Act.put, List.setIfInBounds_toArray, List.set_cons_zero, List.set_cons_succ]
     refine tkH (i := 8) (oi := ⟨some 115, .extract (.tmp 107) 0, 52, "law.go:138", #[⟨7, .data⟩], none⟩) (v := ?_) rfl (by kernel_rfl) (fun _ _ _ h => h) (Or.inl ⟨by rfl, ?_⟩) (by assumption) ?_
     rotate_left; (intro w hSw; (try dsimp only at hSw); go_simp <;> with_reducible rfl); try simp only [Act.put, List.setIfInBounds_toArray, List.set_cons_zero, List.set_cons_succ]
     refine tkH (i := 9) (oi := ⟨some 116, .extract (.tmp 107) 1, 56, "law.go:138", #[⟨7, .data⟩, { on := 11, ground := .gcOnly Go.Departure.lateStores }], none⟩) (v := ?_) rfl (by kernel_rfl) (fun _ _ _ h => h) (Or.inl ⟨by rfl, ?_⟩) (by assumption) ?_
     rotate_left; (intro w hSw; (try dsimp only at hSw); go_simp <;> with_reducible rfl); try simp only [Act.put, List.setIfInBounds_toArray, List.set_cons_zero, List.set_cons_succ]
     refine wpAnyH_ready (rs := [10]) (by kernel_rfl) (by simp) ?_
     refine AllReadyH.cons (o := ⟨some 18, .alloc 52, 0, "law.go:138", #[], none⟩) rfl (fun K hK => ?_) ?_
     (go_simp)
     refine hK.out _ _ ?_ (fun hH2 => ?_)
     · (try dsimp only) <;> (exact HSS.out _ (by first | exact hB0.drew | exact (hB0.alloc (Nat.le_refl _) _).drew | exact hB9 | exact hB9.alloc hB9.size _ | exact hB9.two (Nat.le_refl _) _ _ | exact (hB9.alloc hB9.size _).two hB9.size _ _))
     clear hK K hH1
     try simp only [Act.put, List.setIfInBounds_toArray, List.set_cons_zero, List.set_cons_succ]
     refine wpAnyH_ready (rs := [11]) (by kernel_rfl) (by simp) ?_
     refine AllReadyH.cons (o := ⟨none, .store 52 (.tmp 18) (.tmp 115), 0, "law.go:138", #[⟨10, .data⟩, ⟨8, .data⟩, ⟨6, .chain⟩, ⟨0, .phase⟩, ⟨1, .phase⟩, ⟨2, .phase⟩, ⟨3, .phase⟩, ⟨4, .phase⟩, ⟨5, .phase⟩, ⟨6, .phase⟩, ⟨7, .phase⟩, ⟨8, .phase⟩, { on := 9, ground := .textOnly Go.Departure.lateStores }, ⟨10, .phase⟩], none⟩) rfl (fun K hK => ?_) ?_
     (go_simp)
     refine hK.out _ _ ?_ (fun hH3 => ?_)
     · (try dsimp only) <;> (exact HSS.out _ (by first | exact hB0.drew | exact (hB0.alloc (Nat.le_refl _) _).drew | exact hB9 | exact hB9.alloc hB9.size _ | exact hB9.two (Nat.le_refl _) _ _ | exact (hB9.alloc hB9.size _).two hB9.size _ _))
     clear hK K hH2
     try simp only [Act.put, List.setIfInBounds_toArray, List.set_cons_zero, List.set_cons_succ]
     refine wpAnyH_done (by kernel_rfl) ?_ _
     rotate_left
     exact AllReadyH.nil
     exact AllReadyH.nil
     refine AllReadyH.cons (o := ⟨some 18, .alloc 52, 0, "law.go:138", #[], none⟩) rfl (fun K hK => ?_) ?_
     (go_simp)
     refine hK.out _ _ ?_ (fun hH4 => ?_)
     · (try dsimp only) <;> (exact HSS.out _ (by first | exact hB0.drew | exact (hB0.alloc (Nat.le_refl _) _).drew | exact hB9 | exact hB9.alloc hB9.size _ | exact hB9.two (Nat.le_refl _) _ _ | exact (hB9.alloc hB9.size _).two hB9.size _ _))
     clear hK K hHeld
     try simp only [Act.put, List.setIfInBounds_toArray, List.set_cons_zero, List.set_cons_succ]
     refine wpAnyH_ready (rs := [6]) (by kernel_rfl) (by simp) ?_
     refine AllReadyH.cons (o := ⟨some 114, .call { callee := .value (.func 25), args := #[.tmp 108, .tmp 109, .tmp 113], argTypes := #[46, 52, 3] }, 57, "law.go:138", #[⟨0, .data⟩, ⟨1, .data⟩, ⟨5, .data⟩], none⟩) rfl (fun K hK => ?_) ?_
     (go_simp; (with_reducible refine (LVk.out _ (by first | exact hB0.drew | exact (hB0.alloc (Nat.le_refl _) _).drew)).mono ?_); rintro e w9 ⟨u1, t1, u2, t2, rfl, g9, hec⟩; have hB9 : Below wo.heap.size wo w9 := (by first | exact below_ch hB0.drew g9 | exact below_ch (hB0.alloc (Nat.le_refl _) _).drew g9); (first | (have zA := bx_new2 g9 (by simp); obtain ⟨za0, za1, za2, za3⟩ := bx_facts2 zA) | skip); go_wp2_with fail)
     refine hK.out _ _ ?_ (fun hH5 => ?_)
     · (try dsimp only) <;> (exact HSS.out _ (by first | exact hB0.drew | exact (hB0.alloc (Nat.le_refl _) _).drew | exact hB9 | exact hB9.alloc hB9.size _ | exact hB9.two (Nat.le_refl _) _ _ | exact (hB9.alloc hB9.size _).two hB9.size _ _))
     clear hK K hH4
     try simp only [Act.put, List.setIfInBounds_toArray, List.set_cons_zero, List.set_cons_succ]
     refine tkH (i := 7) (oi := ⟨some 107, .move (.tmp 114), 57, "law.go:138", #[⟨6, .data⟩], none⟩) (v := ?_) rfl (by kernel_rfl) (fun _ _ _ h => h) (Or.inl ⟨by rfl, ?_⟩) (by assumption) ?_
     rotate_left; (intro w hSw; (try dsimp only at hSw); go_simp <;> with_reducible rfl); try simp only [Act.put, List.setIfInBounds_toArray, List.set_cons_zero, List.set_cons_succ]
     refine tkH (i := 8) (oi := ⟨some 115, .extract (.tmp 107) 0, 52, "law.go:138", #[⟨7, .data⟩], none⟩) (v := ?_) rfl (by kernel_rfl) (fun _ _ _ h => h) (Or.inl ⟨by rfl, ?_⟩) (by assumption) ?_
     rotate_left; (intro w hSw; (try dsimp only at hSw); go_simp <;> with_reducible rfl); try simp only [Act.put, List.setIfInBounds_toArray, List.set_cons_zero, List.set_cons_succ]
     refine tkH (i := 9) (oi := ⟨some 116, .extract (.tmp 107) 1, 56, "law.go:138", #[⟨7, .data⟩, { on := 11, ground := .gcOnly Go.Departure.lateStores }], none⟩) (v := ?_) rfl (by kernel_rfl) (fun _ _ _ h => h) (Or.inl ⟨by rfl, ?_⟩) (by assumption) ?_
     rotate_left; (intro w hSw; (try dsimp only at hSw); go_simp <;> with_reducible rfl); try simp only [Act.put, List.setIfInBounds_toArray, List.set_cons_zero, List.set_cons_succ]
     refine wpAnyH_ready (rs := [11]) (by kernel_rfl) (by simp) ?_
     refine AllReadyH.cons (o := ⟨none, .store 52 (.tmp 18) (.tmp 115), 0, "law.go:138", #[⟨10, .data⟩, ⟨8, .data⟩, ⟨6, .chain⟩, ⟨0, .phase⟩, ⟨1, .phase⟩, ⟨2, .phase⟩, ⟨3, .phase⟩, ⟨4, .phase⟩, ⟨5, .phase⟩, ⟨6, .phase⟩, ⟨7, .phase⟩, ⟨8, .phase⟩, { on := 9, ground := .textOnly Go.Departure.lateStores }, ⟨10, .phase⟩], none⟩) rfl (fun K hK => ?_) ?_
     (go_simp)
     refine hK.out _ _ ?_ (fun hH6 => ?_)
     · (try dsimp only) <;> (exact HSS.out _ (by first | exact hB0.drew | exact (hB0.alloc (Nat.le_refl _) _).drew | exact hB9 | exact hB9.alloc hB9.size _ | exact hB9.two (Nat.le_refl _) _ _ | exact (hB9.alloc hB9.size _).two hB9.size _ _))
     clear hK K hH5
     try simp only [Act.put, List.setIfInBounds_toArray, List.set_cons_zero, List.set_cons_succ]
     refine wpAnyH_done (by kernel_rfl) ?_ _
     rotate_left
     exact AllReadyH.nil
     exact AllReadyH.nil
     exact AllReadyH.nil
     all_goals
       refine sinkQ_of fun K hK => ?_
       go_simp
       refine hK _ _ ?_
       clear hK K
       first
         | (have HN0 := nc_a (zA := zA) hB9 (by have := g9.size; simp at this; omega) hec
            generalize ((w9.setCell ⟨wo.heap.size, 0, none⟩ (.slice u1 n1 t1)).setCell ⟨wo.heap.size, 1, none⟩ (.slice u2 n2 t2)) = W18 at HN0 ⊢
            generalize wo.heap.size = B18 at HN0 ⊢
            clear zA za0 za1 za2 za3)
         | (have HN0 := nc_b hB9 hec
            generalize w9.alloc (.cells #[.slice u1 n1 t1, .slice u2 n2 t2] 52) = W18 at HN0 ⊢
            generalize w9.heap.size = B18 at HN0 ⊢)
       have hx18 := HN0.bx
       have hbd := HBx.out.below HN0.bel
       have p0 := hx18.c0
       have p1 := hx18.c1
       have r0 := hbd.c0
       have r1 := hbd.c1
       have r2 := hbd.f0
       have r3 := hbd.f1
       have HNx2 : Hid (Dw m Hd n1 n2 (enX m la X (k + 1)) wc ((W18.setCell ⟨Hd, 0, none⟩ (.slice u1 n1 t1)).setCell ⟨Hd, 1, none⟩ (.slice u2 n2 t2))) := Lib.hid
         ⟨((below_ch HBo.out HN0.bel).setCell (p := ⟨Hd, 0, none⟩) hd8 _).setCell (p := ⟨Hd, 1, none⟩) hd8 _, hd8, u1, t1, u2, t2, _, hbd.set _ _ _ _ _ _, HN0.cf.put hbd _ _ _ _ _ _, HFn.out⟩
       clear HN0 hx18 hbd hec g9 hB9 hB0 HSS HBx HCf HFl LVk
       go_wp2_with fail
       go_roundw
       case rel => exact ⟨k + 1, by omega, by go_num, HNx2.out⟩
       case measure => simp [intOf] <;> omega
   · obtain rfl : nx = k := by omega
     have hfit := HE.out.fit
     rw [HNx.out] at hfit
     have EXd := Lib.hid (exits_at HLs.out.st hm1 hm2 HCf.out hfit HFl.out (q : Int))
     have hout := HE.out.out l' HFl.out
     rw [HNx.out] at hout
     rw [hout] at EXd
     unfold RowP at EXd
     have hrl : X.reverse.length = nx := by rw [List.length_reverse]; exact HNx.out
     rw [hrl] at EXd
     have HRl := Lib.hid hrl
     have HFe := Lib.hid hfit
     have d0 := HBx.out.c0
     have d1 := HBx.out.c1
     clear hkn hk hfit hout hrl
     go_wp2_with fail
     (with_reducible refine (EXd.out).mono ?_)
     rintro e w20 ⟨v20, rfl, o20, g20⟩
     have HBy := Lib.hid (HBx.out.below g20)
     have HCy := Lib.hid (HCf.out.below g20)
     have HL20 := Lib.hid (fun wx (g : Below w20.heap.size w20 wx) => HLc.out wx (below_ch HBo.out (below_ch g20 g)))
     have HO20 := Lib.hid (fun wx (g : Below w20.heap.size w20 wx) => own_below o20 g)
     have HB20 := Lib.hid (below_ch HBo.out g20)
     have HG20 := Lib.hid g20
     have HW20 := Lib.hid (below_ch HB9.out (below_ch HBo.out g20))
     have hz20 : wo.heap.size ≤ w20.heap.size := g20.size
     obtain ⟨go, co, rfl⟩ := ownsRow_pos o20 (by omega)
     have hcapo := ownsRow_capL o20
     have hgo := (o20.lt go rfl).2
     have hnn : ((nx : Int) != (nx : Int)) = false := by simp
     have HRv : Hid (∀ i (h : i < X.reverse.length) (h2 : nx - 1 - i < X.length), X.reverse[i] = X[nx - 1 - i]) := Lib.hid fun i h h2 => by
       rw [List.getElem_reverse]; congr 1; rw [HNx.out]
     clear d0 d1 EXd o20 g20 HBx HCf HLs
     go_wp2_with fail
     go_loopw [21] (fun i wr => ∃ k : Nat, k ≤ nx ∧ i = .int .i64 k ∧ Below w20.heap.size w20 wr) (fun i _ => nx - (intOf i).toNat)
     case atStart => exact ⟨0, by omega, rfl, Below.refl _ _⟩
     case round =>
      obtain ⟨wp, rfl⟩ : ∃ wo : World, wo = wr := ⟨_, rfl⟩
      obtain ⟨k, hk, rfl, hb⟩ := hrel
      have HBp := Lib.hid hb
      have HOp := Lib.hid (HO20.out wp hb)
      have HLp := Lib.hid (HL20.out wp hb)
      clear hb
      by_cases hkn : k < nx
      · have hkl : k < X.length := by rw [HNx.out]; exact hkn
        obtain ⟨j, hj⟩ : ∃ j, nx - 1 - k = j := ⟨_, rfl⟩
        have hjr : j < X.reverse.length := by rw [HRl.out]; omega
        have hkI : (k : Int) < (nx : Int) := by omega
        have hk0 : (0 : Int) ≤ (k : Int) := by omega
        obtain ⟨gx, cx, ex⟩ := ownsRow_pos HLp.out.ox (by omega)
        simp only [Value.slice.injEq, true_and] at ex
        obtain ⟨rfl, rfl⟩ := ex
        have hcapx := ownsRow_capL HLp.out.ox
        have cxk := (HLp.out.ox.cellAt k (by omega)).trans (show (nums X)[k]? = some (.int .i64 X[k]) by simp [nums, hkl])
        have cxj := (HOp.out.cellAt j (by omega)).trans (show (nums X.reverse)[j]? = some (.int .i64 X.reverse[j]) by
          unfold nums; rw [List.getElem?_map, List.getElem?_eq_getElem hjr]; rfl)
        have e := HRv.out j hjr (by rw [HNx.out]; omega)
        have e2 : X.reverse[j] = X[k] := by rw [e]; congr 1; omega
        rw [e2] at cxj
        obtain ⟨x, hx⟩ : ∃ x, X[k] = x := ⟨_, rfl⟩
        rw [hx] at cxk cxj
        have w1 : IntKind.i64.wrap ((nx : Int) - 1) = (nx : Int) - 1 := IntWalk.i64_in _ (by omega)
        have w2 : IntKind.i64.wrap ((nx : Int) - 1 - (k : Int)) = (j : Int) := by rw [IntWalk.i64_in _ (by omega)]; omega
        have hjI : (j : Int) < (nx : Int) := by omega
        have hj0 : (0 : Int) ≤ (j : Int) := by omega
        clear e e2 hx hjr hj
        go_upto_region 27 with fail
        go_quiet (fail)
        go_wp2_with fail
        go_roundw
        case rel => exact ⟨k + 1, by omega, by go_num, below_drewN HBp.out _⟩
        case measure => simp [intOf] <;> omega
      · obtain rfl : nx = k := by omega
        have HOk := Lib.hid (fun (i : Nat) (hi : i < X.reverse.length) => (show leaveOk m (leftM (enX m la X nx) (X.reverse.take i)) X.reverse[i] = true ∧ isA m (enX m la X nx) X.reverse[i] = true by
          have e := HE.out.out l' HFl.out
          rw [HNx.out] at e
          have := exits_ok (ll := l') (r := (q : Int)) HFe.out (i := i) (by rw [e]; exact hi)
          simpa only [e] using this))
        have HBk := HE.out.back
        rw [HNx.out] at HBk
        have HBack := Lib.hid HBk
        have HHome : Hid (0 ≤ homeL m X) := Lib.hid (by
          cases hX : X with
          | nil => rw [hX] at HNx; have := HNx.out; simp at this; omega
          | cons a t => exact home_in H0.out (r := (q : Int)) (by omega) (fun x hx => HXh.out x (by rw [hX]; exact hx)))
        have HD3 : Hid (Dw m Hd n1 n2 (leftM (enX m la X nx) (X.reverse.take 0)) wc wp ∧ wp.ownsRow wo.heap.size 3 1 (.slice (some ⟨go, 0, none⟩) nx co) nx (nums X.reverse)) := Lib.hid
          ⟨⟨below_ch (below_ch HBo.out (by exact HG20.out)) HBp.out, hd8, y1, z1, y2, z2, l', HBy.out.below HBp.out, by rw [List.take_zero, left_nil]; exact HCy.out.below HBp.out, HFl.out⟩, HOp.out⟩
        have HWc := Lib.hid (fun wx (g : Below wc.heap.size wc wx) => below_ch HB9.out g)
        clear HBk HE HB20 HO20 HL20 HBy HCy HBp HOp HLp HW20 hk hkn HXh
        generalize enX m la X nx = C at *
        generalize X.reverse = Y at *
        go_wp2_with fail
        obtain ⟨N3, hN3⟩ : ∃ N3, wo.heap.size = N3 := ⟨_, rfl⟩
        have hHN : Hd < N3 := by omega
        rw [hN3] at HD3
        have hxl3 : nx ≤ 1000 := hxl
        clear hN3
        go_loopw [22] (fun i wr => ∃ k : Nat, k ≤ nx ∧ i = .int .i64 k ∧ Dw m Hd n1 n2 (leftM C (Y.take k)) wc wr ∧ wr.ownsRow N3 3 1 (.slice (some ⟨go, 0, none⟩) nx co) nx (nums Y)) (fun i _ => nx - (intOf i).toNat)
        case atStart => exact ⟨0, by omega, rfl, HD3.out⟩
        case round =>
         clear HFl HBo HG20
         obtain ⟨wo, rfl⟩ : ∃ wo : World, wo = wr := ⟨_, rfl⟩
         obtain ⟨k, hk, rfl, hw, ho⟩ := hrel
         have HLs := Lib.hid (HLc.out wo hw.bel)
         have HBo := Lib.hid hw.bel
         have HOo := Lib.hid ho
         obtain ⟨y1, z1, y2, z2, l', hbx, hcf, hfl⟩ := hw.db
         have HBx := Lib.hid hbx
         have HCf := Lib.hid hcf
         have HFl := Lib.hid hfl
         have hHdo := hbx.lt
         have hgx := (ho.lt go rfl).2
         clear hw ho hbx hcf hfl HD3
         by_cases hkn : k < nx
         · have hkl : k < Y.length := by rw [HRl.out]; exact hkn
           have hkI : (k : Int) < (nx : Int) := by omega
           have hk0 : (0 : Int) ≤ (k : Int) := by omega
           have cxk := (HOo.out.cellAt k (by omega)).trans (show (nums Y)[k]? = some (.int .i64 Y[k]) by simp [nums, hkl])
           obtain ⟨hlo, hla⟩ := HOk.out k hkl
           have hst := stands_act hla
           have HTk := Lib.hid (left_next HFe.out hkl hla)
           obtain ⟨v, hv, ev, qv, hqv, er1, er2, _⟩ := stands_in H0.out hst
           have LVk := Lib.hid (fun wx (g : Below wo.heap.size wo wx) => leave_ok (HLs.out.st.grown g) hm1 hm2 (HCf.out.below g) (fit_left HFe.out (Y.take k)) HFl.out Y[k] hst hlo)
           rw [HTk.out] at LVk
           unfold StepAt at LVk
           have HFn : Hid (Fit m (l'.set (rgA m Y[k]).toNat Y[k])) := Lib.hid (by
             rw [ev] at hst ⊢
             exact fit_set HFl.out hst)
           obtain ⟨x, hx⟩ : ∃ x, Y[k] = x := ⟨_, rfl⟩
           rw [hx] at cxk LVk HFn
           have d0 := HBx.out.c0
           have d1 := HBx.out.c1
           obtain ⟨gx, hgo2⟩ : ∃ gx, go = gx := ⟨_, rfl⟩
           subst hgo2
           have HSS : Hid (∀ W', Below wo.heap.size wo W' → W'.cell? ⟨Hd, 0, none⟩ = some (.slice y1 n1 z1) ∧ W'.cell? ⟨Hd, 1, none⟩ = some (.slice y2 n2 z2) ∧ W'.cell? ⟨go, k, none⟩ = some (.int .i64 x)) := Lib.hid fun W' g => ⟨(g.cell (p := ⟨Hd, 0, none⟩) hHdo).trans d0, (g.cell (p := ⟨Hd, 1, none⟩) hHdo).trans d1, (g.cell (p := ⟨go, k, none⟩) hgx).trans cxk⟩
           have hB0 : Below wo.heap.size wo wo := Below.refl _ _
           clear hlo hla hst HTk ev er1 er2 hx d0 d1 cxk
           go_upto_region 32 with fail
           refine wp_region_any (by kernel_rfl) ?_
           change wpAny _ _ _ _ _ _ _ (World.drew _)
           refine wpAny_sink (n := 12) (o := ⟨some 24, .assign (.tmp 163), 56, "law.go:154", #[⟨9, .data⟩, ⟨11, .chain⟩, ⟨0, .phase⟩, ⟨1, .phase⟩, ⟨2, .phase⟩, ⟨3, .phase⟩, ⟨4, .phase⟩, ⟨5, .phase⟩, ⟨6, .phase⟩, ⟨7, .phase⟩, ⟨8, .phase⟩, ⟨9, .phase⟩, ⟨10, .phase⟩, ⟨11, .phase⟩], none⟩) (ops' := #[⟨some 155, .move (.tmp 9), 46, "law.go:154", #[], none⟩, ⟨some 156, .load 52 (.tmp 16), 52, "law.go:154", #[], none⟩, ⟨some 157, .move (.tmp 20), 29, "law.go:154", #[], none⟩, ⟨some 158, .move (.tmp 22), 3, "law.go:154", #[], none⟩, ⟨some 159, .indexAddr 29 (.tmp 157) (.tmp 158), 0, "law.go:154", #[⟨2, .data⟩, ⟨3, .data⟩], none⟩, ⟨some 160, .load 3 (.tmp 159), 3, "law.go:154", #[⟨4, .data⟩], none⟩, ⟨some 161, .call { callee := .value (.func 19), args := #[.tmp 155, .tmp 156, .tmp 160], argTypes := #[46, 52, 3] }, 57, "law.go:154", #[⟨0, .data⟩, ⟨1, .data⟩, ⟨5, .data⟩], none⟩, ⟨some 154, .move (.tmp 161), 57, "law.go:154", #[⟨6, .data⟩], none⟩, ⟨some 162, .extract (.tmp 154) 0, 52, "law.go:154", #[⟨7, .data⟩], none⟩, ⟨some 163, .extract (.tmp 154) 1, 56, "law.go:154", #[⟨7, .data⟩, { on := 11, ground := .gcOnly Go.Departure.lateStores }], none⟩, ⟨some 23, .alloc 52, 0, "law.go:154", #[], none⟩, ⟨none, .store 52 (.tmp 23) (.tmp 162), 0, "law.go:154", #[⟨10, .data⟩, ⟨8, .data⟩, ⟨6, .chain⟩, ⟨0, .phase⟩, ⟨1, .phase⟩, ⟨2, .phase⟩, ⟨3, .phase⟩, ⟨4, .phase⟩, ⟨5, .phase⟩, ⟨6, .phase⟩, ⟨7, .phase⟩, ⟨8, .phase⟩, { on := 9, ground := .textOnly Go.Departure.lateStores }, ⟨10, .phase⟩], none⟩]) (by decide) (by kernel_rfl) (by rfl) (by rfl) ?_
           refine wpAny_of_heldS (S := (fun W' => W'.cell? ⟨Hd, 0, none⟩ = some (.slice y1 n1 z1) ∧ W'.cell? ⟨Hd, 1, none⟩ = some (.slice y2 n2 z2) ∧ W'.cell? ⟨go, k, none⟩ = some (.int .i64 x))) ?_ (fun hHeld => ?_)
           · (try dsimp only) <;> (exact HSS.out _ (by first | exact hB0.drew | exact (hB0.alloc (Nat.le_refl _) _).drew | exact hB9 | exact hB9.alloc hB9.size _ | exact hB9.two (Nat.le_refl _) _ _ | exact (hB9.alloc hB9.size _).two hB9.size _ _))
           refine tkH (i := 0) (oi := ⟨some 155, .move (.tmp 9), 46, "law.go:154", #[], none⟩) (v := ?_) rfl (by kernel_rfl) (fun _ _ _ h => h) (Or.inl ⟨by rfl, ?_⟩) (by assumption) ?_
           rotate_left; (intro w hSw; (try dsimp only at hSw); go_simp <;> with_reducible rfl); try simp only [Act.put, List.setIfInBounds_toArray, List.set_cons_zero, List.set_cons_succ]
           refine tkH (i := 1) (oi := ⟨some 156, .load 52 (.tmp 16), 52, "law.go:154", #[], none⟩) (v := ?_) rfl (by kernel_rfl) (fun _ _ _ h => h) (Or.inl ⟨by rfl, ?_⟩) (by assumption) ?_
           rotate_left; (intro w hSw; (try dsimp only at hSw); go_simp <;> with_reducible rfl); try simp only [Act.put, List.setIfInBounds_toArray, List.set_cons_zero, List.set_cons_succ]
           refine tkH (i := 2) (oi := ⟨some 157, .move (.tmp 20), 29, "law.go:154", #[], none⟩) (v := ?_) rfl (by kernel_rfl) (fun _ _ _ h => h) (Or.inl ⟨by rfl, ?_⟩) (by assumption) ?_
           rotate_left; (intro w hSw; (try dsimp only at hSw); go_simp <;> with_reducible rfl); try simp only [Act.put, List.setIfInBounds_toArray, List.set_cons_zero, List.set_cons_succ]
           refine tkH (i := 3) (oi := ⟨some 158, .move (.tmp 22), 3, "law.go:154", #[], none⟩) (v := ?_) rfl (by kernel_rfl) (fun _ _ _ h => h) (Or.inl ⟨by rfl, ?_⟩) (by assumption) ?_
           rotate_left; (intro w hSw; (try dsimp only at hSw); go_simp <;> with_reducible rfl); try simp only [Act.put, List.setIfInBounds_toArray, List.set_cons_zero, List.set_cons_succ]
           refine tkH (i := 4) (oi := ⟨some 159, .indexAddr 29 (.tmp 157) (.tmp 158), 0, "law.go:154", #[⟨2, .data⟩, ⟨3, .data⟩], none⟩) (v := ?_) rfl (by kernel_rfl) (fun _ _ _ h => h) (Or.inl ⟨by rfl, ?_⟩) (by assumption) ?_
           rotate_left; (intro w hSw; (try dsimp only at hSw); go_simp <;> with_reducible rfl); try simp only [Act.put, List.setIfInBounds_toArray, List.set_cons_zero, List.set_cons_succ]
           refine tkH (i := 5) (oi := ⟨some 160, .load 3 (.tmp 159), 3, "law.go:154", #[⟨4, .data⟩], none⟩) (v := ?_) rfl (by kernel_rfl) (fun _ _ _ h => h) (Or.inl ⟨by rfl, ?_⟩) (by assumption) ?_
           rotate_left; (intro w hSw; (try dsimp only at hSw); go_simp <;> with_reducible rfl); try simp only [Act.put, List.setIfInBounds_toArray, List.set_cons_zero, List.set_cons_succ]
           refine wpAnyH_ready (rs := [6, 10]) (by kernel_rfl) (by simp) ?_
           refine AllReadyH.cons (o := ⟨some 161, .call { callee := .value (.func 19), args := #[.tmp 155, .tmp 156, .tmp 160], argTypes := #[46, 52, 3] }, 57, "law.go:154", #[⟨0, .data⟩, ⟨1, .data⟩, ⟨5, .data⟩], none⟩) rfl (fun K hK => ?_) ?_
           (go_simp; (with_reducible refine (LVk.out _ (by first | exact hB0.drew | exact (hB0.alloc (Nat.le_refl _) _).drew)).mono ?_); rintro e w9 ⟨u1, t1, u2, t2, rfl, g9, hec⟩; have hB9 : Below wo.heap.size wo w9 := (by first | exact below_ch hB0.drew g9 | exact below_ch (hB0.alloc (Nat.le_refl _) _).drew g9); (first | (have zA := bx_new2 g9 (by simp); obtain ⟨za0, za1, za2, za3⟩ := bx_facts2 zA) | skip); go_wp2_with fail)
           refine hK.out _ _ ?_ (fun hH1 => ?_)
           · (try dsimp only) <;> (exact HSS.out _ (by first | exact hB0.drew | exact (hB0.alloc (Nat.le_refl _) _).drew | exact hB9 | exact hB9.alloc hB9.size _ | exact hB9.two (Nat.le_refl _) _ _ | exact (hB9.alloc hB9.size _).two hB9.size _ _))
           clear hK K hHeld
           try simp only [Act.put, List.setIfInBounds_toArray, List.set_cons_zero, List.set_cons_succ]
           refine tkH (i := 7) (oi := ⟨some 154, .move (.tmp 161), 57, "law.go:154", #[⟨6, .data⟩], none⟩) (v := ?_) rfl (by kernel_rfl) (fun _ _ _ h => h) (Or.inl ⟨by rfl, ?_⟩) (by assumption) ?_
           rotate_left; (intro w hSw; (try dsimp only at hSw); go_simp <;> with_reducible rfl); try simp only [Act.put, List.setIfInBounds_toArray, List.set_cons_zero, List.set_cons_succ]
           refine tkH (i := 8) (oi := ⟨some 162, .extract (.tmp 154) 0, 52, "law.go:154", #[⟨7, .data⟩], none⟩) (v := ?_) rfl (by kernel_rfl) (fun _ _ _ h => h) (Or.inl ⟨by rfl, ?_⟩) (by assumption) ?_
           rotate_left; (intro w hSw; (try dsimp only at hSw); go_simp <;> with_reducible rfl); try simp only [Act.put, List.setIfInBounds_toArray, List.set_cons_zero, List.set_cons_succ]
           refine tkH (i := 9) (oi := ⟨some 163, .extract (.tmp 154) 1, 56, "law.go:154", #[⟨7, .data⟩, { on := 11, ground := .gcOnly Go.Departure.lateStores }], none⟩) (v := ?_) rfl (by kernel_rfl) (fun _ _ _ h => h) (Or.inl ⟨by rfl, ?_⟩) (by assumption) ?_
           rotate_left; (intro w hSw; (try dsimp only at hSw); go_simp <;> with_reducible rfl); try simp only [Act.put, List.setIfInBounds_toArray, List.set_cons_zero, List.set_cons_succ]
           refine wpAnyH_ready (rs := [10]) (by kernel_rfl) (by simp) ?_
           refine AllReadyH.cons (o := ⟨some 23, .alloc 52, 0, "law.go:154", #[], none⟩) rfl (fun K hK => ?_) ?_
           (go_simp)
           refine hK.out _ _ ?_ (fun hH2 => ?_)
           · (try dsimp only) <;> (exact HSS.out _ (by first | exact hB0.drew | exact (hB0.alloc (Nat.le_refl _) _).drew | exact hB9 | exact hB9.alloc hB9.size _ | exact hB9.two (Nat.le_refl _) _ _ | exact (hB9.alloc hB9.size _).two hB9.size _ _))
           clear hK K hH1
           try simp only [Act.put, List.setIfInBounds_toArray, List.set_cons_zero, List.set_cons_succ]
           refine wpAnyH_ready (rs := [11]) (by kernel_rfl) (by simp) ?_
           refine AllReadyH.cons (o := ⟨none, .store 52 (.tmp 23) (.tmp 162), 0, "law.go:154", #[⟨10, .data⟩, ⟨8, .data⟩, ⟨6, .chain⟩, ⟨0, .phase⟩, ⟨1, .phase⟩, ⟨2, .phase⟩, ⟨3, .phase⟩, ⟨4, .phase⟩, ⟨5, .phase⟩, ⟨6, .phase⟩, ⟨7, .phase⟩, ⟨8, .phase⟩, { on := 9, ground := .textOnly Go.Departure.lateStores }, ⟨10, .phase⟩], none⟩) rfl (fun K hK => ?_) ?_
           (go_simp)
           refine hK.out _ _ ?_ (fun hH3 => ?_)
           · (try dsimp only) <;> (exact HSS.out _ (by first | exact hB0.drew | exact (hB0.alloc (Nat.le_refl _) _).drew | exact hB9 | exact hB9.alloc hB9.size _ | exact hB9.two (Nat.le_refl _) _ _ | exact (hB9.alloc hB9.size _).two hB9.size _ _))
           clear hK K hH2
           try simp only [Act.put, List.setIfInBounds_toArray, List.set_cons_zero, List.set_cons_succ]
           refine wpAnyH_done (by kernel_rfl) ?_ _
           rotate_left
           exact AllReadyH.nil
           exact AllReadyH.nil
           refine AllReadyH.cons (o := ⟨some 23, .alloc 52, 0, "law.go:154", #[], none⟩) rfl (fun K hK => ?_) ?_
           (go_simp)
           refine hK.out _ _ ?_ (fun hH4 => ?_)
           · (try dsimp only) <;> (exact HSS.out _ (by first | exact hB0.drew | exact (hB0.alloc (Nat.le_refl _) _).drew | exact hB9 | exact hB9.alloc hB9.size _ | exact hB9.two (Nat.le_refl _) _ _ | exact (hB9.alloc hB9.size _).two hB9.size _ _))
           clear hK K hHeld
           try simp only [Act.put, List.setIfInBounds_toArray, List.set_cons_zero, List.set_cons_succ]
           refine wpAnyH_ready (rs := [6]) (by kernel_rfl) (by simp) ?_
           refine AllReadyH.cons (o := ⟨some 161, .call { callee := .value (.func 19), args := #[.tmp 155, .tmp 156, .tmp 160], argTypes := #[46, 52, 3] }, 57, "law.go:154", #[⟨0, .data⟩, ⟨1, .data⟩, ⟨5, .data⟩], none⟩) rfl (fun K hK => ?_) ?_
           (go_simp; (with_reducible refine (LVk.out _ (by first | exact hB0.drew | exact (hB0.alloc (Nat.le_refl _) _).drew)).mono ?_); rintro e w9 ⟨u1, t1, u2, t2, rfl, g9, hec⟩; have hB9 : Below wo.heap.size wo w9 := (by first | exact below_ch hB0.drew g9 | exact below_ch (hB0.alloc (Nat.le_refl _) _).drew g9); (first | (have zA := bx_new2 g9 (by simp); obtain ⟨za0, za1, za2, za3⟩ := bx_facts2 zA) | skip); go_wp2_with fail)
           refine hK.out _ _ ?_ (fun hH5 => ?_)
           · (try dsimp only) <;> (exact HSS.out _ (by first | exact hB0.drew | exact (hB0.alloc (Nat.le_refl _) _).drew | exact hB9 | exact hB9.alloc hB9.size _ | exact hB9.two (Nat.le_refl _) _ _ | exact (hB9.alloc hB9.size _).two hB9.size _ _))
           clear hK K hH4
           try simp only [Act.put, List.setIfInBounds_toArray, List.set_cons_zero, List.set_cons_succ]
           refine tkH (i := 7) (oi := ⟨some 154, .move (.tmp 161), 57, "law.go:154", #[⟨6, .data⟩], none⟩) (v := ?_) rfl (by kernel_rfl) (fun _ _ _ h => h) (Or.inl ⟨by rfl, ?_⟩) (by assumption) ?_
           rotate_left; (intro w hSw; (try dsimp only at hSw); go_simp <;> with_reducible rfl); try simp only [Act.put, List.setIfInBounds_toArray, List.set_cons_zero, List.set_cons_succ]
           refine tkH (i := 8) (oi := ⟨some 162, .extract (.tmp 154) 0, 52, "law.go:154", #[⟨7, .data⟩], none⟩) (v := ?_) rfl (by kernel_rfl) (fun _ _ _ h => h) (Or.inl ⟨by rfl, ?_⟩) (by assumption) ?_
           rotate_left; (intro w hSw; (try dsimp only at hSw); go_simp <;> with_reducible rfl); try simp only [Act.put, List.setIfInBounds_toArray, List.set_cons_zero, List.set_cons_succ]
           refine tkH (i := 9) (oi := ⟨some 163, .extract (.tmp 154) 1, 56, "law.go:154", #[⟨7, .data⟩, { on := 11, ground := .gcOnly Go.Departure.lateStores }], none⟩) (v := ?_) rfl (by kernel_rfl) (fun _ _ _ h => h) (Or.inl ⟨by rfl, ?_⟩) (by assumption) ?_
           rotate_left; (intro w hSw; (try dsimp only at hSw); go_simp <;> with_reducible rfl); try simp only [Act.put, List.setIfInBounds_toArray, List.set_cons_zero, List.set_cons_succ]
           refine wpAnyH_ready (rs := [11]) (by kernel_rfl) (by simp) ?_
           refine AllReadyH.cons (o := ⟨none, .store 52 (.tmp 23) (.tmp 162), 0, "law.go:154", #[⟨10, .data⟩, ⟨8, .data⟩, ⟨6, .chain⟩, ⟨0, .phase⟩, ⟨1, .phase⟩, ⟨2, .phase⟩, ⟨3, .phase⟩, ⟨4, .phase⟩, ⟨5, .phase⟩, ⟨6, .phase⟩, ⟨7, .phase⟩, ⟨8, .phase⟩, { on := 9, ground := .textOnly Go.Departure.lateStores }, ⟨10, .phase⟩], none⟩) rfl (fun K hK => ?_) ?_
           (go_simp)
           refine hK.out _ _ ?_ (fun hH6 => ?_)
           · (try dsimp only) <;> (exact HSS.out _ (by first | exact hB0.drew | exact (hB0.alloc (Nat.le_refl _) _).drew | exact hB9 | exact hB9.alloc hB9.size _ | exact hB9.two (Nat.le_refl _) _ _ | exact (hB9.alloc hB9.size _).two hB9.size _ _))
           clear hK K hH5
           try simp only [Act.put, List.setIfInBounds_toArray, List.set_cons_zero, List.set_cons_succ]
           refine wpAnyH_done (by kernel_rfl) ?_ _
           rotate_left
           exact AllReadyH.nil
           exact AllReadyH.nil
           exact AllReadyH.nil
           all_goals
             refine sinkQ_of fun K hK => ?_
             go_simp
             refine hK _ _ ?_
             clear hK K
             first
               | (have HN0 := nc_a (zA := zA) hB9 (by have := g9.size; simp at this; omega) hec
                  generalize ((w9.setCell ⟨wo.heap.size, 0, none⟩ (.slice u1 n1 t1)).setCell ⟨wo.heap.size, 1, none⟩ (.slice u2 n2 t2)) = W18 at HN0 ⊢
                  generalize wo.heap.size = B18 at HN0 ⊢
                  clear zA za0 za1 za2 za3)
               | (have HN0 := nc_b hB9 hec
                  generalize w9.alloc (.cells #[.slice u1 n1 t1, .slice u2 n2 t2] 52) = W18 at HN0 ⊢
                  generalize w9.heap.size = B18 at HN0 ⊢)
             have hx18 := HN0.bx
             have hbd := HBx.out.below HN0.bel
             have p0 := hx18.c0
             have p1 := hx18.c1
             have r0 := hbd.c0
             have r1 := hbd.c1
             have r2 := hbd.f0
             have r3 := hbd.f1
             have HNx2 : Hid (Dw m Hd n1 n2 (leftM C (Y.take (k + 1))) wc ((W18.setCell ⟨Hd, 0, none⟩ (.slice u1 n1 t1)).setCell ⟨Hd, 1, none⟩ (.slice u2 n2 t2)) ∧ ((W18.setCell ⟨Hd, 0, none⟩ (.slice u1 n1 t1)).setCell ⟨Hd, 1, none⟩ (.slice u2 n2 t2)).ownsRow N3 3 1 (.slice (some ⟨go, 0, none⟩) nx co) nx (nums Y)) := Lib.hid
               ⟨⟨((below_ch HBo.out HN0.bel).setCell (p := ⟨Hd, 0, none⟩) hd8 _).setCell (p := ⟨Hd, 1, none⟩) hd8 _, hd8, u1, t1, u2, t2, _, hbd.set _ _ _ _ _ _, HN0.cf.put hbd _ _ _ _ _ _, HFn.out⟩, ownsRow_setCell_below (a := ⟨Hd, 1, none⟩) (ownsRow_setCell_below (a := ⟨Hd, 0, none⟩) (own_below HOo.out HN0.bel) (by simp only; omega) _) (by simp only; omega) _⟩
             clear HN0 hx18 hbd hec g9 hB9 hB0 HSS HBx HCf HFl LVk
             go_wp2_with fail
             go_roundw
             case rel => exact ⟨k + 1, by omega, by go_num, HNx2.out⟩
             case measure => simp [intOf] <;> omega
         · obtain rfl : nx = k := by omega
           have hcf : CfgAt la l' y1 n1 z1 y2 n2 z2 wo := by
             have := HCf.out
             rw [← HRl.out, List.take_length, HBack.out] at this
             exact this
           have hc2 := HLs.out.cf
           have SMi := Lib.hid (same_self la _ _ wo hcf.r1 hc2.r1 (by rw [HR.out.fit.hl]; omega))
           have d0 := HBx.out.c0
           have k0 := HLs.out.cb.c0
           have HM0 := Lib.hid (fun wx (g : Below wo.heap.size wo wx) => home20_any (HLs.out.st.grown g) H0.out X (.slice xa nx xc) (by have := RowIn.own (l := X) (by rw [HNx.out]; exact own_below HLs.out.ox g); exact this) (by rw [HNx.out]; omega))
           have hHm := HHome.out
           have hHd2 : decide (0 ≤ homeL m X) = true := decide_eq_true hHm
           generalize homeL m X = hv at *
           have HWo := Lib.hid (HWc.out wo HBo.out)
           clear hcf hc2 HCf HFl
           go_wp2_with fail
           (with_reducible refine (SMi.out).mono ?_)
           rintro e w50 ⟨rfl, g50⟩
           have HM1 := Lib.hid (HM0.out w50 g50)
           have HW1 := Lib.hid (below_ch HWo.out g50)
           go_wp2_with fail
           (with_reducible refine (HM1.out).mono ?_)
           rintro e w51 ⟨rfl, g51⟩
           have HW2 := Lib.hid (below_ch HW1.out g51)
           go_wp2_with fail
           (with_reducible refine (WK.out _ HW2.out).mono ?_)
           rintro e w52 ⟨rfl, g52⟩
           go_wp2_with fail
           go_ret
           exact ⟨rfl, below_ch HW2.out g52⟩
end Go.Proofs
