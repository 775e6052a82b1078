/- Walks: the law 'SetsLeave'. -/
import Derived.Test.YtodbdacdnoeheaaGreatDoorHSgTV
import Derived.Test.YtodbdacdnoeheaaGreatDoorHSgW
namespace Go.Proofs
open Go.RowKit Go.Lx Go.Md Go.Shelf Go.BigFrame Go.Rgi
set_option linter.unusedVariables false
/-- While vertices are left: the sets, the reference's, the exits, the two configurations. -/
structure Lw (m : MdlD) (p pr : Ph) (B SB Hr : Nat) (la ll X : List Int) (a1 : Option Addr) (n1 c1 : Nat) (a2 : Option Addr) (n2 c2 Hc : Nat) (xa : Option Addr) (nx xc Hd k : Nat) (w w4 w8 wr : World) : Prop where
 bel : Below w8.heap.size w8 wr
 hd : w8.heap.size ≤ Hd
 db : ∃ y1 z1 y2 z2 l', Bx Hd y1 n1 z1 y2 n2 z2 wr ∧ CfgAt (leftM la (X.take k)) l' y1 n1 z1 y2 n2 z2 wr ∧ Fit m l'
/-- What stays meanwhile. -/
structure Ls (m : MdlD) (p pr : Ph) (B SB Hr : Nat) (la ll X : List Int) (a1 : Option Addr) (n1 c1 : Nat) (a2 : Option Addr) (n2 c2 Hc : Nat) (xa : Option Addr) (nx xc N : Nat) (w w4 wr : World) : Prop where
 mb : Mb m p w.heap.size w wr
 st : SetAt B m SB wr
 sb : Sb m pr Hr w4 wr
 cb : Bx Hc a1 n1 c1 a2 n2 c2 wr
 cf : CfgAt la ll a1 n1 c1 a2 n2 c2 wr
 ox : wr.ownsRow N 3 1 (.slice xa nx xc) nx (nums X)
theorem Ls.below {m : MdlD} {p pr : Ph} {B SB Hr : Nat} {la ll X : List Int} {a1 : Option Addr} {n1 c1 : Nat} {a2 : Option Addr} {n2 c2 Hc : Nat} {xa : Option Addr} {nx xc N : Nat} {w w4 wr wy : World} (h : Ls m p pr B SB Hr la ll X a1 n1 c1 a2 n2 c2 Hc xa nx xc N w w4 wr) (g : Below wr.heap.size wr wy) : Ls m p pr B SB Hr la ll X a1 n1 c1 a2 n2 c2 Hc xa nx xc N w w4 wy :=
 ⟨h.mb.below g, h.st.grown g, h.sb.below g, h.cb.below g, h.cf.below g, own_below h.ox g⟩
set_option maxRecDepth 100000 in
set_option maxHeartbeats 16000000 in
theorem setsLeave_any {Q : Nat → BP} (m : MdlD) (p : Ph) (l : List Int) (lv : Value) (r : Int) (w : World) (h : Mod Q w m p) (hm : MdlOk m) (hT : Tab w) (hr : RowIn w lv l) (hl : l.length ≤ 140737488355328) :
   Calls Tryz.prog 4 #[mdV m p, lv, .int .i64 r] w fun e w' => e = .returned (.bool true) ∧ Below w.heap.size w w' := by
 obtain ⟨av, cv, rfl, _, _⟩ := hr.len
 have HB := Lib.hid (Mb.made h)
 have SM := Lib.hid (fun wx (g : Mb m p w.heap.size w wx) => small20_any m p wx g.mod hm)
 have WK := Lib.hid (fun wx (g : Below w.heap.size w wx) => works20 wx (hT.next g))
 have BT := Lib.hid (fun (hs : Sm20 m) wx (g : Mb m p w.heap.size w wx) => both20_any m p wx g.mod hm (hT.next g.bel) hs)
 have HLr := Lib.hid (fun wx (g : Below w.heap.size w wx) => hr.below g)
 have hvI := hm.vers
 obtain ⟨nl, hnl⟩ : ∃ n, l.length = n := ⟨_, rfl⟩
 rw [hnl] at hl HLr ⊢
 have HNl := Lib.hid hnl
 unfold mdV at SM BT ⊢
 clear h hm hT hr hnl
 go_enter Tryz.func4, Tryz.ntmps4
 obtain ⟨x0, x1, x2, x3, x4, x5, _⟩ := HB.out.box
 go_wp2_with fail
 (with_reducible refine (SM.out _ HB.out).mono ?_)
 rintro e w3 ⟨⟨b1, rfl, s1⟩, g3⟩
 have HB3 := Lib.hid (HB.out.below g3)
 have HSt := Lib.hid s1
 clear s1 g3 HB SM x0 x1 x2 x3 x4 x5
 cases b1
 · go_wp2_with fail
   (with_reducible refine (WK.out _ HB3.out.bel).mono ?_)
   rintro e w4 ⟨rfl, g4⟩
   go_wp2_with fail
   go_ret
   exact ⟨rfl, (HB3.out.below g4).bel⟩
 have hS := Lib.hid (HSt.out rfl)
 have BTs := Lib.hid (BT.out hS.out)
 clear HSt BT
 obtain ⟨x0, x1, x2, x3, x4, x5, _⟩ := HB3.out.box
 by_cases h60 : nl ≤ 60
 rotate_left
 · have d60 : decide ((60 : Int) < (nl : Int)) = true := by simp; omega
   go_wp2_with fail
   (with_reducible refine (WK.out _ HB3.out.bel).mono ?_)
   rintro e w4 ⟨rfl, g4⟩
   go_wp2_with fail
   go_ret
   exact ⟨rfl, (HB3.out.below g4).bel⟩
 have d60 : decide ((60 : Int) < (nl : Int)) = false := by simp; omega
 have d60' : ¬ ((60 : Int) < (nl : Int)) := by omega
 go_wp2_with fail
 (with_reducible refine (BTs.out _ HB3.out).mono ?_)
 rintro e w4 ⟨g4, pr, (⟨hr0, SB, rfl, hset, hmr⟩ | ⟨hr0, rfl⟩)⟩
 rotate_left
 · have HB4 : Hid (Below w.heap.size w (w4.alloc (.cells #[.string m.nm, .slice pr.a1 m.vars.length pr.c1, .slice pr.a2 m.evs.length pr.c2, .slice pr.a3 m.regs.length pr.c3, .slice pr.a4 m.vers.length pr.c4, .slice pr.a5 m.trns.length pr.c5, .string m.nm, .slice pr.a1 m.vars.length pr.c1, .slice pr.a2 m.evs.length pr.c2, .slice pr.a3 m.regs.length pr.c3, .slice pr.a4 m.vers.length pr.c4, .slice pr.a5 m.trns.length pr.c5] 48))) := Lib.hid (below_ch (HB3.out.bel.trans (g4.mono HB3.out.bel.size)) (below_al1 _ _))
   clear x0 x1 x2 x3 x4 x5 g4 HB3 BTs
   unfold stV
   go_wp2_with fail
   (with_reducible refine (WK.out _ HB4.out).mono ?_)
   rintro e w5 ⟨rfl, g5⟩
   go_wp2_with fail
   go_ret
   exact ⟨rfl, below_ch HB4.out g5⟩
 have HM5 : Hid (Mb m p w.heap.size w (w4.alloc (.cells #[.string m.nm, .slice pr.a1 m.vars.length pr.c1, .slice pr.a2 m.evs.length pr.c2, .slice pr.a3 m.regs.length pr.c3, .slice pr.a4 m.vers.length pr.c4, .slice pr.a5 m.trns.length pr.c5, .string m.nm, .slice pr.a1 m.vars.length pr.c1, .slice pr.a2 m.evs.length pr.c2, .slice pr.a3 m.regs.length pr.c3, .slice pr.a4 m.vers.length pr.c4, .slice pr.a5 m.trns.length pr.c5] 48))) := Lib.hid ((HB3.out.below g4).below (below_al1 _ _))
 have HS5 : Hid (SetAt w3.heap.size m SB (w4.alloc (.cells #[.string m.nm, .slice pr.a1 m.vars.length pr.c1, .slice pr.a2 m.evs.length pr.c2, .slice pr.a3 m.regs.length pr.c3, .slice pr.a4 m.vers.length pr.c4, .slice pr.a5 m.trns.length pr.c5, .string m.nm, .slice pr.a1 m.vars.length pr.c1, .slice pr.a2 m.evs.length pr.c2, .slice pr.a3 m.regs.length pr.c3, .slice pr.a4 m.vers.length pr.c4, .slice pr.a5 m.trns.length pr.c5] 48))) := Lib.hid (hset.grown (below_al1 _ _))
 have HR5 : Hid (Sb m pr w4.heap.size w4 (w4.alloc (.cells #[.string m.nm, .slice pr.a1 m.vars.length pr.c1, .slice pr.a2 m.evs.length pr.c2, .slice pr.a3 m.regs.length pr.c3, .slice pr.a4 m.vers.length pr.c4, .slice pr.a5 m.trns.length pr.c5, .string m.nm, .slice pr.a1 m.vars.length pr.c1, .slice pr.a2 m.evs.length pr.c2, .slice pr.a3 m.regs.length pr.c3, .slice pr.a4 m.vers.length pr.c4, .slice pr.a5 m.trns.length pr.c5] 48))) := Lib.hid (Sb.made hmr)
 have H0 := Lib.hid hr0
 have hm1 : m.regs.length ≤ 1000 := by have := hS.out.rg; omega
 have hm2 : m.vers.length ≤ 1000 := by have := hS.out.vr; omega
 have hzr : w.heap.size < w4.heap.size := Nat.lt_of_lt_of_le HB3.out.box.sl g4.size
 clear x0 x1 x2 x3 x4 x5 g4 HB3 BTs hset hmr hr0 d60 hS
 unfold stV
 obtain ⟨Hr, hHr⟩ : ∃ Hr, w4.heap.size = Hr := ⟨_, rfl⟩
 rw [hHr] at HR5 hzr
 go_upto_region 6 with fail
 clear hHr
 generalize w4.alloc (.cells #[.string m.nm, .slice pr.a1 m.vars.length pr.c1, .slice pr.a2 m.evs.length pr.c2, .slice pr.a3 m.regs.length pr.c3, .slice pr.a4 m.vers.length pr.c4, .slice pr.a5 m.trns.length pr.c5, .string m.nm, .slice pr.a1 m.vars.length pr.c1, .slice pr.a2 m.evs.length pr.c2, .slice pr.a3 m.regs.length pr.c3, .slice pr.a4 m.vers.length pr.c4, .slice pr.a5 m.trns.length pr.c5] 48) = W5 at *
 have SA := Lib.hid (start_any HS5.out H0.out hm1 hm2 l av cv (by rw [HNl.out]; exact HLr.out W5 HM5.out.bel) (by rw [HNl.out]; omega))
 rw [HNl.out] at SA
 go_wp2_with fail
 (with_reducible refine (SA.out).mono ?_)
 rintro e w6 ⟨a1, n1, c1, a2, n2, c2, rfl, hok, g6⟩
 obtain ⟨la, ll, hcf, hR, hF⟩ := hok.at
 have HR := Lib.hid hR
 have HF := Lib.hid hF
 have hn1 : n1 ≤ 1000 := by have := hR.fit.hl; have := hcf.e1; omega
 have hn2 : n2 ≤ 1000 := by have := hF.hl; have := hcf.e2; omega
 have HM6 : Hid (Mb m p w.heap.size w (w6.alloc (.cells #[.slice a1 n1 c1, .slice a2 n2 c2] 52))) := Lib.hid ((HM5.out.below g6).below (below_al1 _ _))
 have HS6 : Hid (SetAt w3.heap.size m SB (w6.alloc (.cells #[.slice a1 n1 c1, .slice a2 n2 c2] 52))) := Lib.hid ((HS5.out.grown g6).grown (below_al1 _ _))
 have HR6 : Hid (Sb m pr Hr w4 (w6.alloc (.cells #[.slice a1 n1 c1, .slice a2 n2 c2] 52))) := Lib.hid ((HR5.out.below g6).below (below_al1 _ _))
 have HC6 : Hid (CfgAt la ll a1 n1 c1 a2 n2 c2 (w6.alloc (.cells #[.slice a1 n1 c1, .slice a2 n2 c2] 52))) := Lib.hid (hcf.below (below_al1 _ _))
 have HX6 := Lib.hid (Bx.made w6 a1 n1 c1 a2 n2 c2 52)
 have hzc : Hr < w6.heap.size := Nat.lt_of_lt_of_le (by have := HR5.out.mb.box.sl; exact this) g6.size
 obtain ⟨Hc, hHc⟩ : ∃ Hc, w6.heap.size = Hc := ⟨_, rfl⟩
 rw [hHc] at HX6 hzc
 clear SA hok hcf hR hF g6 HM5 HS5 HR5
 go_upto_region 7 with fail
 clear hHc
 generalize w6.alloc (.cells #[.slice a1 n1 c1, .slice a2 n2 c2] 52) = W6 at *
 have d0 := HX6.out.c0
 have d1 := HX6.out.c1
 have FTx := Lib.hid (fits_at HS6.out hm1 hm2 HC6.out HR.out.fit HF.out)
 go_wp2_with fail
 (with_reducible refine (FTx.out).mono ?_)
 rintro e w7 ⟨rfl, g7⟩
 have HS7 := Lib.hid (HS6.out.grown g7)
 have HC7 := Lib.hid (HC6.out.below g7)
 have HX7 := Lib.hid (HX6.out.below g7)
 have HM7 := Lib.hid (HM6.out.below g7)
 have HR7 := Lib.hid (HR6.out.below g7)
 clear d0 d1 g7 FTx HS6 HC6 HX6 HM6 HR6
 have d0 := HX7.out.c0
 have d1 := HX7.out.c1
 have EX := Lib.hid (exits_at HS7.out hm1 hm2 HC7.out HR.out.fit HF.out r)
 have HXl := Lib.hid (exits_len (la := la) (ll := ll) H0.out r)
 go_wp2_with fail
 (with_reducible refine (EX.out).mono ?_)
 rintro e w8 ⟨vx, rfl, ox, g8⟩
 obtain ⟨xa, xc, rfl⟩ := ownsRow_slice ox
 have HOk := Lib.hid (fun (i : Nat) (hi : i < (exitsM m la ll r).length) => exits_ok HR.out.fit hi)
 have HAc := Lib.hid (fun (v : Nat) (hv : v < m.vers.length) => exits_act HR.out.fit HF.out HR.out.ns r hv)
 generalize exitsM m la ll r = X at *
 obtain ⟨nx, hnx⟩ : ∃ nx, X.length = nx := ⟨_, rfl⟩
 have HNx := Lib.hid hnx
 have hxl : nx ≤ 1000 := by have := HXl.out; omega
 rw [hnx] at ox ⊢
 have HL8 : Hid (∀ wx, Below w8.heap.size w8 wx → Ls m p pr w3.heap.size SB Hr la ll X a1 n1 c1 a2 n2 c2 Hc xa nx xc w7.heap.size w w4 wx) := Lib.hid fun wx g => Ls.below ⟨HM7.out.below g8, HS7.out.grown g8, HR7.out.below g8, HX7.out.below g8, HC7.out.below g8, ox⟩ g
 have HB8 := Lib.hid (HM7.out.below g8).bel
 have hc8 : Hc < w8.heap.size := Nat.lt_of_lt_of_le HX7.out.lt g8.size
 clear d0 d1 hnx EX HXl ox g8 HS7 HC7 HX7 HM7 HR7
 have d0 := (HL8.out w8 (Below.refl _ _)).cb.c0
 have d1 := (HL8.out w8 (Below.refl _ _)).cb.c1
 have HLw0 : Hid (Lw m p pr w3.heap.size SB Hr la ll X a1 n1 c1 a2 n2 c2 Hc xa nx xc w8.heap.size 0 w w4 w8 (w8.alloc (.cells #[.slice a1 n1 c1, .slice a2 n2 c2] 52))) := Lib.hid
   ⟨below_al1 _ _, Nat.le_refl _, a1, c1, a2, c2, ll, Bx.made w8 _ _ _ _ _ _ _, by rw [List.take_zero, left_nil]; exact (HL8.out w8 (Below.refl _ _)).cf.below (below_al1 _ _), HF.out⟩
 obtain ⟨Hd, hHd⟩ : ∃ Hd, w8.heap.size = Hd := ⟨_, rfl⟩
 have hd8 : w8.heap.size ≤ Hd := by omega
 rw [hHd] at HLw0
 clear d60'
 go_upto_region 11 with fail
 clear hHd d0 d1
 generalize w8.alloc (.cells #[.slice a1 n1 c1, .slice a2 n2 c2] 52) = W9 at *
 go_wp2_with fail
 go_loopw [14] (fun i wr => ∃ k : Nat, k ≤ nx ∧ i = .int .i64 k ∧ Lw m p pr w3.heap.size SB Hr la ll X a1 n1 c1 a2 n2 c2 Hc xa nx xc Hd k w w4 w8 wr) (fun i _ => nx - (intOf i).toNat)
 case atStart => exact ⟨0, by omega, rfl, HLw0.out⟩
 case round =>
  obtain ⟨wo, rfl⟩ : ∃ wo : World, wo = wr := ⟨_, rfl⟩
  obtain ⟨k, hk, rfl, hw⟩ := hrel
  have HLwo := Lib.hid hw
  have HLs := Lib.hid (HL8.out wo hw.bel)
  have HBo := Lib.hid hw.bel
  have hzo : w8.heap.size ≤ wo.heap.size := hw.bel.size
  obtain ⟨y1, z1, y2, z2, l', hbx, hcf, hfl⟩ := hw.db
  have HBx := Lib.hid hbx
  have HCf := Lib.hid hcf
  have HFl := Lib.hid hfl
  have hHdo := hbx.lt
  clear hw hbx hcf hfl HLw0
  by_cases hkn : k < nx
  · have hkl : k < X.length := by rw [HNx.out]; exact hkn
    have hkI : (k : Int) < (nx : Int) := by omega
    have hk0 : (0 : Int) ≤ (k : Int) := by omega
    obtain ⟨gx, cx, ex⟩ := ownsRow_pos HLs.out.ox (by omega)
    simp only [Value.slice.injEq, true_and] at ex
    obtain ⟨rfl, rfl⟩ := ex
    have hcapx := ownsRow_capL HLs.out.ox
    have hgx := (HLs.out.ox.lt gx rfl).2
    have cxk := (HLs.out.ox.cellAt k (by omega)).trans (show (nums X)[k]? = some (.int .i64 X[k]) by simp [nums, hkl])
    obtain ⟨hlo, hla⟩ := HOk.out k hkl
    have hst := stands_act hla
    have HTk := Lib.hid (left_next HR.out.fit hkl hla)
    obtain ⟨v, hv, ev, q, hq, er1, er2, _⟩ := stands_in H0.out hst
    have hqr : (rgA m X[k]).toNat = q := by rw [er1]; rfl
    have hHm : homeM m X[k] = q := er2
    have LVk := Lib.hid (fun wx (g : Below wo.heap.size wo wx) => leave_ok (HLs.out.st.grown g) hm1 hm2 (HCf.out.below g) (fit_left HR.out.fit (X.take k)) HFl.out X[k] hst hlo)
    rw [HTk.out] at LVk
    have HFn : Hid (Fit m (l'.set (rgA m X[k]).toNat X[k])) := Lib.hid (by
      rw [ev] at hst ⊢
      exact fit_set HFl.out hst)
    have HG := Lib.hid (fun wx (g : Below wo.heap.size wo wx) => rhome16_any m pr X[k] wx (HLs.out.sb.below g).mb.mod H0.out hvI)
    rw [hHm] at HG
    rw [hqr] at LVk HFn
    unfold ixV mdV at HG
    obtain ⟨x, hx⟩ : ∃ x, X[k] = x := ⟨_, rfl⟩
    rw [hx] at cxk LVk HFn HG
    have HqL : Hid (∀ h : q < (l'.set q x).length, (l'.set q x)[q] = x) := Lib.hid fun h => List.getElem_set_self _
    have hl'n : l'.length = n2 := HCf.out.e2
    have hqn : q < n2 := by rw [← hl'n, HFl.out.hl]; exact hq
    have d0 := HBx.out.c0
    have d1 := HBx.out.c1
    have HSS : Hid (∀ W', Below wo.heap.size wo W' → W'.cell? ⟨Hd, 0, none⟩ = some (.slice y1 n1 z1) ∧ W'.cell? ⟨Hd, 1, none⟩ = some (.slice y2 n2 z2) ∧ W'.cell? ⟨gx, k, none⟩ = some (.int .i64 x)) := Lib.hid fun W' g => ⟨(g.cell (p := ⟨Hd, 0, none⟩) hHdo).trans d0, (g.cell (p := ⟨Hd, 1, none⟩) hHdo).trans d1, (g.cell (p := ⟨gx, k, none⟩) hgx).trans cxk⟩
    have hB0 : Below wo.heap.size wo wo := Below.refl _ _
    clear hlo hla hst HTk ev er1 er2 hqr hHm hx d0 d1 cxk HOk HAc
    go_upto_region 14 with fail
    refine wp_region_any (by kernel_rfl) ?_
    change wpAny _ _ _ _ _ _ _ (World.drew _)
    refine wpAny_sink (n := 12) (o := ⟨some 16, .assign (.tmp 68), 56, "law.go:103", #[⟨9, .data⟩, ⟨11, .chain⟩, ⟨0, .phase⟩, ⟨1, .phase⟩, ⟨2, .phase⟩, ⟨3, .phase⟩, ⟨4, .phase⟩, ⟨5, .phase⟩, ⟨6, .phase⟩, ⟨7, .phase⟩, ⟨8, .phase⟩, ⟨9, .phase⟩, ⟨10, .phase⟩, ⟨11, .phase⟩], none⟩) (ops' := #[⟨some 60, .move (.tmp 7), 46, "law.go:103", #[], none⟩, ⟨some 61, .load 52 (.tmp 13), 52, "law.go:103", #[], none⟩, ⟨some 62, .move (.tmp 12), 29, "law.go:103", #[], none⟩, ⟨some 63, .move (.tmp 14), 3, "law.go:103", #[], none⟩, ⟨some 64, .indexAddr 29 (.tmp 62) (.tmp 63), 0, "law.go:103", #[⟨2, .data⟩, ⟨3, .data⟩], none⟩, ⟨some 65, .load 3 (.tmp 64), 3, "law.go:103", #[⟨4, .data⟩], none⟩, ⟨some 66, .call { callee := .value (.func 19), args := #[.tmp 60, .tmp 61, .tmp 65], argTypes := #[46, 52, 3] }, 57, "law.go:103", #[⟨0, .data⟩, ⟨1, .data⟩, ⟨5, .data⟩], none⟩, ⟨some 59, .move (.tmp 66), 57, "law.go:103", #[⟨6, .data⟩], none⟩, ⟨some 67, .extract (.tmp 59) 0, 52, "law.go:103", #[⟨7, .data⟩], none⟩, ⟨some 68, .extract (.tmp 59) 1, 56, "law.go:103", #[⟨7, .data⟩, { on := 11, ground := .gcOnly Go.Departure.lateStores }], none⟩, ⟨some 15, .alloc 52, 0, "law.go:103", #[], none⟩, ⟨none, .store 52 (.tmp 15) (.tmp 67), 0, "law.go:103", #[⟨10, .data⟩, ⟨8, .data⟩, ⟨6, .chain⟩, ⟨0, .phase⟩, ⟨1, .phase⟩, ⟨2, .phase⟩, ⟨3, .phase⟩, ⟨4, .phase⟩, ⟨5, .phase⟩, ⟨6, .phase⟩, ⟨7, .phase⟩, ⟨8, .phase⟩, { on := 9, ground := .textOnly Go.Departure.lateStores }, ⟨10, .phase⟩], none⟩]) (by decide) (by kernel_rfl) (by rfl) (by rfl) ?_
    refine wpAny_of_heldS (S := (fun W' => W'.cell? ⟨Hd, 0, none⟩ = some (.slice y1 n1 z1) ∧ W'.cell? ⟨Hd, 1, none⟩ = some (.slice y2 n2 z2) ∧ W'.cell? ⟨gx, k, none⟩ = some (.int .i64 x))) ?_ (fun hHeld => ?_)
    · (try dsimp only) <;> (first | exact HSS.out _ hB0.drew | exact HSS.out _ (hB0.alloc (Nat.le_refl _) _).drew | exact HSS.out _ hB9 | exact HSS.out _ (hB9.alloc hB9.size _) | exact HSS.out _ ((hB9.setCell (p := ⟨wo.heap.size, 0, none⟩) (Nat.le_refl _) _).setCell (p := ⟨wo.heap.size, 1, none⟩) (Nat.le_refl _) _) | exact HSS.out _ (((hB9.alloc hB9.size _).setCell (p := ⟨w9.heap.size, 0, none⟩) hB9.size _).setCell (p := ⟨w9.heap.size, 1, none⟩) hB9.size _))
    refine tkH (i := 0) (oi := ⟨some 60, .move (.tmp 7), 46, "law.go:103", #[], none⟩) (v := ?_) rfl (by kernel_rfl) (fun _ _ _ h => h) (Or.inl ⟨by rfl, ?_⟩) (by assumption) ?_
    rotate_left; (intro w hSw; (try dsimp only at hSw); go_simp <;> with_reducible rfl); try simp only [Act.put, List.setIfInBounds_toArray, List.set_cons_zero, List.set_cons_succ]
    refine tkH (i := 1) (oi := ⟨some 61, .load 52 (.tmp 13), 52, "law.go:103", #[], none⟩) (v := ?_) rfl (by kernel_rfl) (fun _ _ _ h => h) (Or.inl ⟨by rfl, ?_⟩) (by assumption) ?_
    rotate_left; (intro w hSw; (try dsimp only at hSw); go_simp <;> with_reducible rfl); try simp only [Act.put, List.setIfInBounds_toArray, List.set_cons_zero, List.set_cons_succ]
    refine tkH (i := 2) (oi := ⟨some 62, .move (.tmp 12), 29, "law.go:103", #[], none⟩) (v := ?_) rfl (by kernel_rfl) (fun _ _ _ h => h) (Or.inl ⟨by rfl, ?_⟩) (by assumption) ?_
    rotate_left; (intro w hSw; (try dsimp only at hSw); go_simp <;> with_reducible rfl); try simp only [Act.put, List.setIfInBounds_toArray, List.set_cons_zero, List.set_cons_succ]
    refine tkH (i := 3) (oi := ⟨some 63, .move (.tmp 14), 3, "law.go:103", #[], none⟩) (v := ?_) rfl (by kernel_rfl) (fun _ _ _ h => h) (Or.inl ⟨by rfl, ?_⟩) (by assumption) ?_
    rotate_left; (intro w hSw; (try dsimp only at hSw); go_simp <;> with_reducible rfl); try simp only [Act.put, List.setIfInBounds_toArray, List.set_cons_zero, List.set_cons_succ]
    refine tkH (i := 4) (oi := ⟨some 64, .indexAddr 29 (.tmp 62) (.tmp 63), 0, "law.go:103", #[⟨2, .data⟩, ⟨3, .data⟩], none⟩) (v := ?_) rfl (by kernel_rfl) (fun _ _ _ h => h) (Or.inl ⟨by rfl, ?_⟩) (by assumption) ?_
    rotate_left; (intro w hSw; (try dsimp only at hSw); go_simp <;> with_reducible rfl); try simp only [Act.put, List.setIfInBounds_toArray, List.set_cons_zero, List.set_cons_succ]
    refine tkH (i := 5) (oi := ⟨some 65, .load 3 (.tmp 64), 3, "law.go:103", #[⟨4, .data⟩], none⟩) (v := ?_) rfl (by kernel_rfl) (fun _ _ _ h => h) (Or.inl ⟨by rfl, ?_⟩) (by assumption) ?_
    rotate_left; (intro w hSw; (try dsimp only at hSw); go_simp <;> with_reducible rfl); try simp only [Act.put, List.setIfInBounds_toArray, List.set_cons_zero, List.set_cons_succ]
    refine wpAnyH_ready (rs := [6, 10]) (by kernel_rfl) (by simp) ?_
    refine AllReadyH.cons (o := ⟨some 66, .call { callee := .value (.func 19), args := #[.tmp 60, .tmp 61, .tmp 65], argTypes := #[46, 52, 3] }, 57, "law.go:103", #[⟨0, .data⟩, ⟨1, .data⟩, ⟨5, .data⟩], none⟩) rfl (fun K hK => ?_) ?_
    (go_simp; (with_reducible refine (LVk.out _ (by first | exact hB0.drew | exact (hB0.alloc (Nat.le_refl _) _).drew)).mono ?_); rintro e w9 ⟨u1, t1, u2, t2, rfl, g9, hec⟩; have hB9 : Below wo.heap.size wo w9 := (by first | exact below_ch hB0.drew g9 | exact below_ch (hB0.alloc (Nat.le_refl _) _).drew g9); (first | (have zA : w9.heap[wo.heap.size]? = some (.cells #[.slice none 0 0, .slice none 0 0] 52 (0, 0)) := (g9.block _ (by simp)).trans (World.alloc_heap_new wo (.cells #[.slice none 0 0, .slice none 0 0] 52)); have za0 := cell_blk zA 0; have za1 := cell_blk zA 1; have za2 := frz_b zA 0; have za3 := frz_b zA 1; simp only [List.getElem?_toArray, List.getElem?_cons_zero, List.getElem?_cons_succ] at za0 za1) | skip); go_wp2_with fail)
    refine hK.out _ _ ?_ (fun hH1 => ?_)
    · (try dsimp only) <;> (first | exact HSS.out _ hB0.drew | exact HSS.out _ (hB0.alloc (Nat.le_refl _) _).drew | exact HSS.out _ hB9 | exact HSS.out _ (hB9.alloc hB9.size _) | exact HSS.out _ ((hB9.setCell (p := ⟨wo.heap.size, 0, none⟩) (Nat.le_refl _) _).setCell (p := ⟨wo.heap.size, 1, none⟩) (Nat.le_refl _) _) | exact HSS.out _ (((hB9.alloc hB9.size _).setCell (p := ⟨w9.heap.size, 0, none⟩) hB9.size _).setCell (p := ⟨w9.heap.size, 1, none⟩) hB9.size _))
    clear hK K hHeld
    try simp only [Act.put, List.setIfInBounds_toArray, List.set_cons_zero, List.set_cons_succ]
    refine tkH (i := 7) (oi := ⟨some 59, .move (.tmp 66), 57, "law.go:103", #[⟨6, .data⟩], none⟩) (v := ?_) rfl (by kernel_rfl) (fun _ _ _ h => h) (Or.inl ⟨by rfl, ?_⟩) (by assumption) ?_
    rotate_left; (intro w hSw; (try dsimp only at hSw); go_simp <;> with_reducible rfl); try simp only [Act.put, List.setIfInBounds_toArray, List.set_cons_zero, List.set_cons_succ]
    refine tkH (i := 8) (oi := ⟨some 67, .extract (.tmp 59) 0, 52, "law.go:103", #[⟨7, .data⟩], none⟩) (v := ?_) rfl (by kernel_rfl) (fun _ _ _ h => h) (Or.inl ⟨by rfl, ?_⟩) (by assumption) ?_
    rotate_left; (intro w hSw; (try dsimp only at hSw); go_simp <;> with_reducible rfl); try simp only [Act.put, List.setIfInBounds_toArray, List.set_cons_zero, List.set_cons_succ]
    refine tkH (i := 9) (oi := ⟨some 68, .extract (.tmp 59) 1, 56, "law.go:103", #[⟨7, .data⟩, { on := 11, ground := .gcOnly Go.Departure.lateStores }], none⟩) (v := ?_) rfl (by kernel_rfl) (fun _ _ _ h => h) (Or.inl ⟨by rfl, ?_⟩) (by assumption) ?_
    rotate_left; (intro w hSw; (try dsimp only at hSw); go_simp <;> with_reducible rfl); try simp only [Act.put, List.setIfInBounds_toArray, List.set_cons_zero, List.set_cons_succ]
    refine wpAnyH_ready (rs := [10]) (by kernel_rfl) (by simp) ?_
    refine AllReadyH.cons (o := ⟨some 15, .alloc 52, 0, "law.go:103", #[], none⟩) rfl (fun K hK => ?_) ?_
    (go_simp)
    refine hK.out _ _ ?_ (fun hH2 => ?_)
    · (try dsimp only) <;> (first | exact HSS.out _ hB0.drew | exact HSS.out _ (hB0.alloc (Nat.le_refl _) _).drew | exact HSS.out _ hB9 | exact HSS.out _ (hB9.alloc hB9.size _) | exact HSS.out _ ((hB9.setCell (p := ⟨wo.heap.size, 0, none⟩) (Nat.le_refl _) _).setCell (p := ⟨wo.heap.size, 1, none⟩) (Nat.le_refl _) _) | exact HSS.out _ (((hB9.alloc hB9.size _).setCell (p := ⟨w9.heap.size, 0, none⟩) hB9.size _).setCell (p := ⟨w9.heap.size, 1, none⟩) hB9.size _))
    clear hK K hH1
    try simp only [Act.put, List.setIfInBounds_toArray, List.set_cons_zero, List.set_cons_succ]
    refine wpAnyH_ready (rs := [11]) (by kernel_rfl) (by simp) ?_
    refine AllReadyH.cons (o := ⟨none, .store 52 (.tmp 15) (.tmp 67), 0, "law.go:103", #[⟨10, .data⟩, ⟨8, .data⟩, ⟨6, .chain⟩, ⟨0, .phase⟩, ⟨1, .phase⟩, ⟨2, .phase⟩, ⟨3, .phase⟩, ⟨4, .phase⟩, ⟨5, .phase⟩, ⟨6, .phase⟩, ⟨7, .phase⟩, ⟨8, .phase⟩, { on := 9, ground := .textOnly Go.Departure.lateStores }, ⟨10, .phase⟩], none⟩) rfl (fun K hK => ?_) ?_
    (go_simp)
    refine hK.out _ _ ?_ (fun hH3 => ?_)
    · (try dsimp only) <;> (first | exact HSS.out _ hB0.drew | exact HSS.out _ (hB0.alloc (Nat.le_refl _) _).drew | exact HSS.out _ hB9 | exact HSS.out _ (hB9.alloc hB9.size _) | exact HSS.out _ ((hB9.setCell (p := ⟨wo.heap.size, 0, none⟩) (Nat.le_refl _) _).setCell (p := ⟨wo.heap.size, 1, none⟩) (Nat.le_refl _) _) | exact HSS.out _ (((hB9.alloc hB9.size _).setCell (p := ⟨w9.heap.size, 0, none⟩) hB9.size _).setCell (p := ⟨w9.heap.size, 1, none⟩) hB9.size _))
    clear hK K hH2
    try simp only [Act.put, List.setIfInBounds_toArray, List.set_cons_zero, List.set_cons_succ]
    refine wpAnyH_done (by kernel_rfl) ?_ _
    rotate_left
    exact AllReadyH.nil
    exact AllReadyH.nil
    refine AllReadyH.cons (o := ⟨some 15, .alloc 52, 0, "law.go:103", #[], none⟩) rfl (fun K hK => ?_) ?_
    (go_simp)
    refine hK.out _ _ ?_ (fun hH4 => ?_)
    · (try dsimp only) <;> (first | exact HSS.out _ hB0.drew | exact HSS.out _ (hB0.alloc (Nat.le_refl _) _).drew | exact HSS.out _ hB9 | exact HSS.out _ (hB9.alloc hB9.size _) | exact HSS.out _ ((hB9.setCell (p := ⟨wo.heap.size, 0, none⟩) (Nat.le_refl _) _).setCell (p := ⟨wo.heap.size, 1, none⟩) (Nat.le_refl _) _) | exact HSS.out _ (((hB9.alloc hB9.size _).setCell (p := ⟨w9.heap.size, 0, none⟩) hB9.size _).setCell (p := ⟨w9.heap.size, 1, none⟩) hB9.size _))
    clear hK K hHeld
    try simp only [Act.put, List.setIfInBounds_toArray, List.set_cons_zero, List.set_cons_succ]
    refine wpAnyH_ready (rs := [6]) (by kernel_rfl) (by simp) ?_
    refine AllReadyH.cons (o := ⟨some 66, .call { callee := .value (.func 19), args := #[.tmp 60, .tmp 61, .tmp 65], argTypes := #[46, 52, 3] }, 57, "law.go:103", #[⟨0, .data⟩, ⟨1, .data⟩, ⟨5, .data⟩], none⟩) rfl (fun K hK => ?_) ?_
    (go_simp; (with_reducible refine (LVk.out _ (by first | exact hB0.drew | exact (hB0.alloc (Nat.le_refl _) _).drew)).mono ?_); rintro e w9 ⟨u1, t1, u2, t2, rfl, g9, hec⟩; have hB9 : Below wo.heap.size wo w9 := (by first | exact below_ch hB0.drew g9 | exact below_ch (hB0.alloc (Nat.le_refl _) _).drew g9); (first | (have zA : w9.heap[wo.heap.size]? = some (.cells #[.slice none 0 0, .slice none 0 0] 52 (0, 0)) := (g9.block _ (by simp)).trans (World.alloc_heap_new wo (.cells #[.slice none 0 0, .slice none 0 0] 52)); have za0 := cell_blk zA 0; have za1 := cell_blk zA 1; have za2 := frz_b zA 0; have za3 := frz_b zA 1; simp only [List.getElem?_toArray, List.getElem?_cons_zero, List.getElem?_cons_succ] at za0 za1) | skip); go_wp2_with fail)
    refine hK.out _ _ ?_ (fun hH5 => ?_)
    · (try dsimp only) <;> (first | exact HSS.out _ hB0.drew | exact HSS.out _ (hB0.alloc (Nat.le_refl _) _).drew | exact HSS.out _ hB9 | exact HSS.out _ (hB9.alloc hB9.size _) | exact HSS.out _ ((hB9.setCell (p := ⟨wo.heap.size, 0, none⟩) (Nat.le_refl _) _).setCell (p := ⟨wo.heap.size, 1, none⟩) (Nat.le_refl _) _) | exact HSS.out _ (((hB9.alloc hB9.size _).setCell (p := ⟨w9.heap.size, 0, none⟩) hB9.size _).setCell (p := ⟨w9.heap.size, 1, none⟩) hB9.size _))
    clear hK K hH4
    try simp only [Act.put, List.setIfInBounds_toArray, List.set_cons_zero, List.set_cons_succ]
    refine tkH (i := 7) (oi := ⟨some 59, .move (.tmp 66), 57, "law.go:103", #[⟨6, .data⟩], none⟩) (v := ?_) rfl (by kernel_rfl) (fun _ _ _ h => h) (Or.inl ⟨by rfl, ?_⟩) (by assumption) ?_
    rotate_left; (intro w hSw; (try dsimp only at hSw); go_simp <;> with_reducible rfl); try simp only [Act.put, List.setIfInBounds_toArray, List.set_cons_zero, List.set_cons_succ]
    refine tkH (i := 8) (oi := ⟨some 67, .extract (.tmp 59) 0, 52, "law.go:103", #[⟨7, .data⟩], none⟩) (v := ?_) rfl (by kernel_rfl) (fun _ _ _ h => h) (Or.inl ⟨by rfl, ?_⟩) (by assumption) ?_
    rotate_left; (intro w hSw; (try dsimp only at hSw); go_simp <;> with_reducible rfl); try simp only [Act.put, List.setIfInBounds_toArray, List.set_cons_zero, List.set_cons_succ]
    refine tkH (i := 9) (oi := ⟨some 68, .extract (.tmp 59) 1, 56, "law.go:103", #[⟨7, .data⟩, { on := 11, ground := .gcOnly Go.Departure.lateStores }], none⟩) (v := ?_) rfl (by kernel_rfl) (fun _ _ _ h => h) (Or.inl ⟨by rfl, ?_⟩) (by assumption) ?_
    rotate_left; (intro w hSw; (try dsimp only at hSw); go_simp <;> with_reducible rfl); try simp only [Act.put, List.setIfInBounds_toArray, List.set_cons_zero, List.set_cons_succ]
    refine wpAnyH_ready (rs := [11]) (by kernel_rfl) (by simp) ?_
    refine AllReadyH.cons (o := ⟨none, .store 52 (.tmp 15) (.tmp 67), 0, "law.go:103", #[⟨10, .data⟩, ⟨8, .data⟩, ⟨6, .chain⟩, ⟨0, .phase⟩, ⟨1, .phase⟩, ⟨2, .phase⟩, ⟨3, .phase⟩, ⟨4, .phase⟩, ⟨5, .phase⟩, ⟨6, .phase⟩, ⟨7, .phase⟩, ⟨8, .phase⟩, { on := 9, ground := .textOnly Go.Departure.lateStores }, ⟨10, .phase⟩], none⟩) rfl (fun K hK => ?_) ?_
    (go_simp)
    refine hK.out _ _ ?_ (fun hH6 => ?_)
    · (try dsimp only) <;> (first | exact HSS.out _ hB0.drew | exact HSS.out _ (hB0.alloc (Nat.le_refl _) _).drew | exact HSS.out _ hB9 | exact HSS.out _ (hB9.alloc hB9.size _) | exact HSS.out _ ((hB9.setCell (p := ⟨wo.heap.size, 0, none⟩) (Nat.le_refl _) _).setCell (p := ⟨wo.heap.size, 1, none⟩) (Nat.le_refl _) _) | exact HSS.out _ (((hB9.alloc hB9.size _).setCell (p := ⟨w9.heap.size, 0, none⟩) hB9.size _).setCell (p := ⟨w9.heap.size, 1, none⟩) hB9.size _))
    clear hK K hH5
    try simp only [Act.put, List.setIfInBounds_toArray, List.set_cons_zero, List.set_cons_succ]
    refine wpAnyH_done (by kernel_rfl) ?_ _
    rotate_left
    exact AllReadyH.nil
    exact AllReadyH.nil
    exact AllReadyH.nil
    all_goals
      refine sinkQ_of fun K hK => ?_
      go_simp
      refine hK _ _ ?_
      clear hK K
      first
        | (have HN0 := nc_a (zA := zA) hB9 (by have := g9.size; simp at this; omega) hec
           generalize ((w9.setCell ⟨wo.heap.size, 0, none⟩ (.slice u1 n1 t1)).setCell ⟨wo.heap.size, 1, none⟩ (.slice u2 n2 t2)) = W18 at HN0 ⊢
           generalize wo.heap.size = B18 at HN0 ⊢
           clear zA za0 za1 za2 za3)
        | (have HN0 := nc_b hB9 hec
           generalize w9.alloc (.cells #[.slice u1 n1 t1, .slice u2 n2 t2] 52) = W18 at HN0 ⊢
           generalize w9.heap.size = B18 at HN0 ⊢)
      have HN := Lib.hid HN0
      have hlo := HN0.lo
      have hw18 := Lib.hid HN0.bel
      have hbl := HN0.bx.lt
      clear HN0 hec g9 hB9 hB0
      obtain ⟨_, _, cxk⟩ := HSS.out W18 hw18.out
      obtain ⟨s1, s2, s3⟩ := RowIn.len HN.out.cf.r2
      have hqs : q < (l'.set q x).length := by rw [List.length_set, hl'n]; exact hqn
      obtain ⟨e3, hc3, qs⟩ := s3
      obtain ⟨bq, oq, eq, hbq, hcq⟩ := qs q hqs
      rw [HqL.out hqs] at hcq
      simp only [Value.slice.injEq] at e3
      obtain ⟨e31, e33, e32⟩ := e3
      clear e33
      rw [← e31] at eq
      rw [← e32, List.length_set, hl'n] at hc3
      subst eq
      have hgx18 : gx < W18.heap.size := Nat.lt_of_lt_of_le hgx hw18.out.size
      have q1 := HN.out.bx.c1
      have HS15 : Hid (∀ W', Below W18.heap.size W18 W' → (W'.cell? ⟨Hr, 6, none⟩ = some (.string m.nm) ∧ W'.cell? ⟨Hr, 7, none⟩ = some (.slice pr.a1 m.vars.length pr.c1) ∧ W'.cell? ⟨Hr, 8, none⟩ = some (.slice pr.a2 m.evs.length pr.c2) ∧ W'.cell? ⟨Hr, 9, none⟩ = some (.slice pr.a3 m.regs.length pr.c3) ∧ W'.cell? ⟨Hr, 10, none⟩ = some (.slice pr.a4 m.vers.length pr.c4) ∧ W'.cell? ⟨Hr, 11, none⟩ = some (.slice pr.a5 m.trns.length pr.c5)) ∧ W'.cell? ⟨gx, k, none⟩ = some (.int .i64 x) ∧ W'.cell? ⟨B18, 1, none⟩ = some (.slice (some ⟨bq, oq, none⟩) n2 t2) ∧ W'.cell? ⟨bq, oq + q, none⟩ = some (.int .i64 x)) := Lib.hid fun W' g => ⟨(HLs.out.sb.below (below_ch hw18.out g)).y, (g.cell (p := ⟨gx, k, none⟩) hgx18).trans cxk, (g.cell (p := ⟨B18, 1, none⟩) hbl).trans q1, (g.cell (p := ⟨bq, oq + q, none⟩) hbq).trans hcq⟩
      have HGx := Lib.hid (fun wx (g : Below W18.heap.size W18 wx) => HG.out wx (below_ch hw18.out g))
      have hB0 : Below W18.heap.size W18 W18 := Below.refl _ _
      have hqI : (q : Int) < (n2 : Int) := by omega
      have hq0 : (0 : Int) ≤ (q : Int) := by omega
      have hqd : decide ((q : Int) < 0) = false := decide_eq_false (by omega)
      clear cxk q1 hcq s1 s2 e31 e32 qs LVk HG
      go_upto_region 15 with fail
      refine wp_region_any (by kernel_rfl) ?_
      change wpAny _ _ _ _ _ _ _ (World.drew _)
      refine wpAny_of_heldS (S := (fun W' => (W'.cell? ⟨Hr, 6, none⟩ = some (.string m.nm) ∧ W'.cell? ⟨Hr, 7, none⟩ = some (.slice pr.a1 m.vars.length pr.c1) ∧ W'.cell? ⟨Hr, 8, none⟩ = some (.slice pr.a2 m.evs.length pr.c2) ∧ W'.cell? ⟨Hr, 9, none⟩ = some (.slice pr.a3 m.regs.length pr.c3) ∧ W'.cell? ⟨Hr, 10, none⟩ = some (.slice pr.a4 m.vers.length pr.c4) ∧ W'.cell? ⟨Hr, 11, none⟩ = some (.slice pr.a5 m.trns.length pr.c5)) ∧ W'.cell? ⟨gx, k, none⟩ = some (.int .i64 x) ∧ W'.cell? ⟨B18, 1, none⟩ = some (.slice (some ⟨bq, oq, none⟩) n2 t2) ∧ W'.cell? ⟨bq, oq + q, none⟩ = some (.int .i64 x))) ?_ (fun hHeld => ?_)
      · (try dsimp only) <;> (first | exact HS15.out _ hB0.drew | exact HS15.out _ (by assumption))
      refine tkH (i := 0) (oi := ⟨some 69, .move (.tmp 16), 56, "law.go:104", #[], none⟩) (v := ?_) rfl (by kernel_rfl) (fun _ _ _ h => h) (Or.inl ⟨by rfl, ?_⟩) (by assumption) ?_
      rotate_left; (intro w hSw; (try dsimp only at hSw); go_simp <;> with_reducible rfl); try simp only [Act.put, List.setIfInBounds_toArray, List.set_cons_zero, List.set_cons_succ]
      refine tkH (i := 1) (oi := ⟨some 70, .binOp .neq 56 (.tmp 69) (.const (.int .i64 0)) 56, 4, "law.go:104", #[⟨0, .data⟩], none⟩) (v := ?_) rfl (by kernel_rfl) (fun _ _ _ h => h) (Or.inl ⟨by rfl, ?_⟩) (by assumption) ?_
      rotate_left; (intro w hSw; (try dsimp only at hSw); go_simp <;> with_reducible rfl); try simp only [Act.put, List.setIfInBounds_toArray, List.set_cons_zero, List.set_cons_succ]
      refine tkH (i := 2) (oi := ⟨some 71, .move (.tmp 70), 4, "law.go:104", #[⟨1, .data⟩], none⟩) (v := ?_) rfl (by kernel_rfl) (fun _ _ _ h => h) (Or.inl ⟨by rfl, ?_⟩) (by assumption) ?_
      rotate_left; (intro w hSw; (try dsimp only at hSw); go_simp <;> with_reducible rfl); try simp only [Act.put, List.setIfInBounds_toArray, List.set_cons_zero, List.set_cons_succ]
      refine tkH (i := 3) (oi := ⟨some 72, .fieldAddr 48 (.tmp 8) 1, 0, "law.go:104", #[⟨2, .guard⟩], some (2, false)⟩) (v := ?_) rfl (by kernel_rfl) (fun _ _ _ h => h) (Or.inl ⟨by rfl, ?_⟩) (by assumption) ?_
      rotate_left; (intro w hSw; (try dsimp only at hSw); go_simp <;> with_reducible rfl); try simp only [Act.put, List.setIfInBounds_toArray, List.set_cons_zero, List.set_cons_succ]
      refine tkH (i := 4) (oi := ⟨some 73, .load 40 (.tmp 72), 40, "law.go:104", #[⟨3, .data⟩, ⟨2, .guard⟩], some (2, false)⟩) (v := ?_) rfl (by kernel_rfl) (fun _ _ _ h => h) (Or.inl ⟨by rfl, ?_⟩) (by assumption) ?_
      rotate_left; (intro w hSw; (try dsimp only at hSw); go_simp <;> with_reducible rfl); try simp only [Act.put, List.setIfInBounds_toArray, List.set_cons_zero, List.set_cons_succ]
      refine tkH (i := 5) (oi := ⟨some 74, .move (.tmp 12), 29, "law.go:104", #[⟨2, .guard⟩], some (2, false)⟩) (v := ?_) rfl (by kernel_rfl) (fun _ _ _ h => h) (Or.inl ⟨by rfl, ?_⟩) (by assumption) ?_
      rotate_left; (intro w hSw; (try dsimp only at hSw); go_simp <;> with_reducible rfl); try simp only [Act.put, List.setIfInBounds_toArray, List.set_cons_zero, List.set_cons_succ]
      refine tkH (i := 6) (oi := ⟨some 75, .move (.tmp 14), 3, "law.go:104", #[⟨2, .guard⟩], some (2, false)⟩) (v := ?_) rfl (by kernel_rfl) (fun _ _ _ h => h) (Or.inl ⟨by rfl, ?_⟩) (by assumption) ?_
      rotate_left; (intro w hSw; (try dsimp only at hSw); go_simp <;> with_reducible rfl); try simp only [Act.put, List.setIfInBounds_toArray, List.set_cons_zero, List.set_cons_succ]
      refine tkH (i := 7) (oi := ⟨some 76, .indexAddr 29 (.tmp 74) (.tmp 75), 0, "law.go:104", #[⟨5, .data⟩, ⟨6, .data⟩, ⟨2, .guard⟩], some (2, false)⟩) (v := ?_) rfl (by kernel_rfl) (fun _ _ _ h => h) (Or.inl ⟨by rfl, ?_⟩) (by assumption) ?_
      rotate_left; (intro w hSw; (try dsimp only at hSw); go_simp <;> with_reducible rfl); try simp only [Act.put, List.setIfInBounds_toArray, List.set_cons_zero, List.set_cons_succ]
      refine tkH (i := 8) (oi := ⟨some 77, .load 3 (.tmp 76), 3, "law.go:104", #[⟨7, .data⟩, ⟨2, .guard⟩], some (2, false)⟩) (v := ?_) rfl (by kernel_rfl) (fun _ _ _ h => h) (Or.inl ⟨by rfl, ?_⟩) (by assumption) ?_
      rotate_left; (intro w hSw; (try dsimp only at hSw); go_simp <;> with_reducible rfl); try simp only [Act.put, List.setIfInBounds_toArray, List.set_cons_zero, List.set_cons_succ]
      refine wpAnyH_ready (rs := [9]) (by kernel_rfl) (by simp) ?_
      refine AllReadyH.cons (o := ⟨some 78, .call { callee := .value (.func 20), args := #[.tmp 73, .tmp 77], argTypes := #[40, 3] }, 3, "law.go:104", #[⟨4, .data⟩, ⟨8, .data⟩, ⟨2, .chain⟩, ⟨2, .guard⟩], some (2, false)⟩) rfl (fun K hK => ?_) ?_
      (go_simp; (with_reducible refine (HGx.out _ hB0.drew).mono ?_); rintro e w20 ⟨rfl, g20⟩; have hB20 : Below W18.heap.size W18 w20 := below_ch hB0.drew g20; go_wp2_with fail)
      refine hK.out _ _ ?_ (fun hH1 => ?_)
      · (try dsimp only) <;> (first | exact HS15.out _ hB0.drew | exact HS15.out _ (by assumption))
      clear hK K hHeld
      try simp only [Act.put, List.setIfInBounds_toArray, List.set_cons_zero, List.set_cons_succ]
      refine tkH (i := 10) (oi := ⟨some 79, .binOp .lss 3 (.tmp 78) (.const (.int .i64 0)) 3, 4, "law.go:104", #[⟨9, .data⟩, ⟨2, .guard⟩], some (2, false)⟩) (v := ?_) rfl (by kernel_rfl) (fun _ _ _ h => h) (Or.inl ⟨by rfl, ?_⟩) (by assumption) ?_
      rotate_left; (intro w hSw; (try dsimp only at hSw); go_simp <;> with_reducible rfl); try simp only [Act.put, List.setIfInBounds_toArray, List.set_cons_zero, List.set_cons_succ]
      refine tkH (i := 11) (oi := ⟨some 80, .pick (.tmp 71) (.const (.bool true)) (.tmp 79), 4, "law.go:104", #[⟨2, .data⟩, ⟨10, .data⟩], none⟩) (v := ?_) rfl (by kernel_rfl) (fun _ _ _ h => h) (Or.inl ⟨by rfl, ?_⟩) (by assumption) ?_
      rotate_left; (intro w hSw; (try dsimp only at hSw); go_simp <;> with_reducible rfl); try simp only [Act.put, List.setIfInBounds_toArray, List.set_cons_zero, List.set_cons_succ]
      refine tkH (i := 12) (oi := ⟨some 81, .move (.tmp 80), 4, "law.go:104", #[⟨11, .data⟩, ⟨9, .chain⟩], none⟩) (v := ?_) rfl (by kernel_rfl) (fun _ _ _ h => h) (Or.inl ⟨by rfl, ?_⟩) (by assumption) ?_
      rotate_left; (intro w hSw; (try dsimp only at hSw); go_simp <;> with_reducible rfl); try simp only [Act.put, List.setIfInBounds_toArray, List.set_cons_zero, List.set_cons_succ]
      refine tkH (i := 13) (oi := ⟨some 82, .fieldAddr 52 (.tmp 15) 1, 0, "law.go:104", #[⟨12, .guard⟩], some (12, false)⟩) (v := ?_) rfl (by kernel_rfl) (fun _ _ _ h => h) (Or.inl ⟨by rfl, ?_⟩) (by assumption) ?_
      rotate_left; (intro w hSw; (try dsimp only at hSw); go_simp <;> with_reducible rfl); try simp only [Act.put, List.setIfInBounds_toArray, List.set_cons_zero, List.set_cons_succ]
      refine tkH (i := 14) (oi := ⟨some 83, .load 29 (.tmp 82), 29, "law.go:104", #[⟨13, .data⟩, ⟨12, .guard⟩], some (12, false)⟩) (v := ?_) rfl (by kernel_rfl) (fun _ _ _ h => h) (Or.inl ⟨by rfl, ?_⟩) (by assumption) ?_
      rotate_left; (intro w hSw; (try dsimp only at hSw); go_simp <;> with_reducible rfl); try simp only [Act.put, List.setIfInBounds_toArray, List.set_cons_zero, List.set_cons_succ]
      refine tkH (i := 15) (oi := ⟨some 84, .fieldAddr 48 (.tmp 8) 1, 0, "law.go:104", #[⟨12, .guard⟩], some (12, false)⟩) (v := ?_) rfl (by kernel_rfl) (fun _ _ _ h => h) (Or.inl ⟨by rfl, ?_⟩) (by assumption) ?_
      rotate_left; (intro w hSw; (try dsimp only at hSw); go_simp <;> with_reducible rfl); try simp only [Act.put, List.setIfInBounds_toArray, List.set_cons_zero, List.set_cons_succ]
      refine tkH (i := 16) (oi := ⟨some 85, .load 40 (.tmp 84), 40, "law.go:104", #[⟨15, .data⟩, ⟨12, .guard⟩], some (12, false)⟩) (v := ?_) rfl (by kernel_rfl) (fun _ _ _ h => h) (Or.inl ⟨by rfl, ?_⟩) (by assumption) ?_
      rotate_left; (intro w hSw; (try dsimp only at hSw); go_simp <;> with_reducible rfl); try simp only [Act.put, List.setIfInBounds_toArray, List.set_cons_zero, List.set_cons_succ]
      refine tkH (i := 17) (oi := ⟨some 86, .move (.tmp 12), 29, "law.go:104", #[⟨12, .guard⟩], some (12, false)⟩) (v := ?_) rfl (by kernel_rfl) (fun _ _ _ h => h) (Or.inl ⟨by rfl, ?_⟩) (by assumption) ?_
      rotate_left; (intro w hSw; (try dsimp only at hSw); go_simp <;> with_reducible rfl); try simp only [Act.put, List.setIfInBounds_toArray, List.set_cons_zero, List.set_cons_succ]
      refine tkH (i := 18) (oi := ⟨some 87, .move (.tmp 14), 3, "law.go:104", #[⟨12, .guard⟩], some (12, false)⟩) (v := ?_) rfl (by kernel_rfl) (fun _ _ _ h => h) (Or.inl ⟨by rfl, ?_⟩) (by assumption) ?_
      rotate_left; (intro w hSw; (try dsimp only at hSw); go_simp <;> with_reducible rfl); try simp only [Act.put, List.setIfInBounds_toArray, List.set_cons_zero, List.set_cons_succ]
      refine tkH (i := 19) (oi := ⟨some 88, .indexAddr 29 (.tmp 86) (.tmp 87), 0, "law.go:104", #[⟨17, .data⟩, ⟨18, .data⟩, ⟨12, .guard⟩], some (12, false)⟩) (v := ?_) rfl (by kernel_rfl) (fun _ _ _ h => h) (Or.inl ⟨by rfl, ?_⟩) (by assumption) ?_
      rotate_left; (intro w hSw; (try dsimp only at hSw); go_simp <;> with_reducible rfl); try simp only [Act.put, List.setIfInBounds_toArray, List.set_cons_zero, List.set_cons_succ]
      refine tkH (i := 20) (oi := ⟨some 89, .load 3 (.tmp 88), 3, "law.go:104", #[⟨19, .data⟩, ⟨12, .guard⟩], some (12, false)⟩) (v := ?_) rfl (by kernel_rfl) (fun _ _ _ h => h) (Or.inl ⟨by rfl, ?_⟩) (by assumption) ?_
      rotate_left; (intro w hSw; (try dsimp only at hSw); go_simp <;> with_reducible rfl); try simp only [Act.put, List.setIfInBounds_toArray, List.set_cons_zero, List.set_cons_succ]
      refine tkH (i := 24) (oi := ⟨some 93, .move (.tmp 12), 29, "law.go:104", #[⟨12, .guard⟩], some (12, false)⟩) (v := ?_) rfl (by kernel_rfl) (fun _ _ _ h => h) (Or.inl ⟨by rfl, ?_⟩) (by assumption) ?_
      rotate_left; (intro w hSw; (try dsimp only at hSw); go_simp <;> with_reducible rfl); try simp only [Act.put, List.setIfInBounds_toArray, List.set_cons_zero, List.set_cons_succ]
      refine tkH (i := 25) (oi := ⟨some 94, .move (.tmp 14), 3, "law.go:104", #[⟨12, .guard⟩], some (12, false)⟩) (v := ?_) rfl (by kernel_rfl) (fun _ _ _ h => h) (Or.inl ⟨by rfl, ?_⟩) (by assumption) ?_
      rotate_left; (intro w hSw; (try dsimp only at hSw); go_simp <;> with_reducible rfl); try simp only [Act.put, List.setIfInBounds_toArray, List.set_cons_zero, List.set_cons_succ]
      refine tkH (i := 26) (oi := ⟨some 95, .indexAddr 29 (.tmp 93) (.tmp 94), 0, "law.go:104", #[⟨24, .data⟩, ⟨25, .data⟩, ⟨12, .guard⟩], some (12, false)⟩) (v := ?_) rfl (by kernel_rfl) (fun _ _ _ h => h) (Or.inl ⟨by rfl, ?_⟩) (by assumption) ?_
      rotate_left; (intro w hSw; (try dsimp only at hSw); go_simp <;> with_reducible rfl); try simp only [Act.put, List.setIfInBounds_toArray, List.set_cons_zero, List.set_cons_succ]
      refine tkH (i := 27) (oi := ⟨some 96, .load 3 (.tmp 95), 3, "law.go:104", #[⟨26, .data⟩, ⟨12, .guard⟩], some (12, false)⟩) (v := ?_) rfl (by kernel_rfl) (fun _ _ _ h => h) (Or.inl ⟨by rfl, ?_⟩) (by assumption) ?_
      rotate_left; (intro w hSw; (try dsimp only at hSw); go_simp <;> with_reducible rfl); try simp only [Act.put, List.setIfInBounds_toArray, List.set_cons_zero, List.set_cons_succ]
      refine wpAnyH_ready (rs := [21]) (by kernel_rfl) (by simp) ?_
      refine AllReadyH.cons (o := ⟨some 90, .call { callee := .value (.func 20), args := #[.tmp 85, .tmp 89], argTypes := #[40, 3] }, 3, "law.go:104", #[⟨16, .data⟩, ⟨20, .data⟩, ⟨12, .chain⟩, ⟨12, .guard⟩], some (12, false)⟩) rfl (fun K hK => ?_) ?_
      (go_simp; (with_reducible refine (HGx.out _ hB20).mono ?_); rintro e w21 ⟨rfl, g21⟩; have hB21 : Below W18.heap.size W18 w21 := below_ch hB20 g21; go_wp2_with fail)
      refine hK.out _ _ ?_ (fun hH2 => ?_)
      · (try dsimp only) <;> (first | exact HS15.out _ hB0.drew | exact HS15.out _ (by assumption))
      clear hK K hH1
      try simp only [Act.put, List.setIfInBounds_toArray, List.set_cons_zero, List.set_cons_succ]
      refine tkH (i := 22) (oi := ⟨some 91, .indexAddr 29 (.tmp 83) (.tmp 90), 0, "law.go:104", #[⟨14, .data⟩, ⟨21, .data⟩, ⟨12, .guard⟩], some (12, false)⟩) (v := ?_) rfl (by kernel_rfl) (fun _ _ _ h => h) (Or.inl ⟨by rfl, ?_⟩) (by assumption) ?_
      rotate_left; (intro w hSw; (try dsimp only at hSw); go_simp <;> with_reducible rfl); try simp only [Act.put, List.setIfInBounds_toArray, List.set_cons_zero, List.set_cons_succ]
      refine tkH (i := 23) (oi := ⟨some 92, .load 3 (.tmp 91), 3, "law.go:104", #[⟨22, .data⟩, ⟨12, .guard⟩], some (12, false)⟩) (v := ?_) rfl (by kernel_rfl) (fun _ _ _ h => h) (Or.inl ⟨by rfl, ?_⟩) (by assumption) ?_
      rotate_left; (intro w hSw; (try dsimp only at hSw); go_simp <;> with_reducible rfl); try simp only [Act.put, List.setIfInBounds_toArray, List.set_cons_zero, List.set_cons_succ]
      refine tkH (i := 28) (oi := ⟨some 97, .binOp .neq 3 (.tmp 92) (.tmp 96) 3, 4, "law.go:104", #[⟨23, .data⟩, ⟨27, .data⟩, ⟨12, .guard⟩], some (12, false)⟩) (v := ?_) rfl (by kernel_rfl) (fun _ _ _ h => h) (Or.inl ⟨by rfl, ?_⟩) (by assumption) ?_
      rotate_left; (intro w hSw; (try dsimp only at hSw); go_simp <;> with_reducible rfl); try simp only [Act.put, List.setIfInBounds_toArray, List.set_cons_zero, List.set_cons_succ]
      refine tkH (i := 29) (oi := ⟨some 98, .pick (.tmp 81) (.const (.bool true)) (.tmp 97), 4, "law.go:104", #[⟨12, .data⟩, ⟨28, .data⟩], none⟩) (v := ?_) rfl (by kernel_rfl) (fun _ _ _ h => h) (Or.inl ⟨by rfl, ?_⟩) (by assumption) ?_
      rotate_left; (intro w hSw; (try dsimp only at hSw); go_simp <;> with_reducible rfl); try simp only [Act.put, List.setIfInBounds_toArray, List.set_cons_zero, List.set_cons_succ]
      refine wpAnyH_done (by kernel_rfl) ?_ _
      rotate_left
      exact AllReadyH.nil
      exact AllReadyH.nil
      all_goals
        have hx18 := HN.out.bx.below hB21
        have hbd := HBx.out.below (below_ch hw18.out hB21)
        have p0 := hx18.c0
        have p1 := hx18.c1
        have r0 := hbd.c0
        have r1 := hbd.c1
        have r2 := hbd.f0
        have r3 := hbd.f1
        have HNx2 : Hid (Lw m p pr w3.heap.size SB Hr la ll X a1 n1 c1 a2 n2 c2 Hc (some ⟨gx, 0, none⟩) nx xc Hd (k + 1) w w4 w8 ((w21.setCell ⟨Hd, 0, none⟩ (.slice u1 n1 t1)).setCell ⟨Hd, 1, none⟩ (.slice (some ⟨bq, oq, none⟩) n2 t2))) := Lib.hid
          ⟨((below_ch (below_ch HBo.out hw18.out) hB21).setCell (p := ⟨Hd, 0, none⟩) hd8 _).setCell (p := ⟨Hd, 1, none⟩) hd8 _, hd8, u1, t1, some ⟨bq, oq, none⟩, t2, l'.set q x, hbd.set _ _ _ _ _ _, (HN.out.cf.below hB21).put hbd _ _ _ _ _ _, HFn.out⟩
        clear hx18 hbd HN g20 g21 hB20 hB21 HS15 HSS HBx HCf HFl
        go_wp2_with fail
        go_roundw
        case rel => exact ⟨k + 1, by omega, by go_num, HNx2.out⟩
        case measure => simp [intOf] <;> omega
  · obtain rfl : nx = k := by omega
    have HCd : Hid (CfgAt (leftM la X) l' y1 n1 z1 y2 n2 z2 wo) := Lib.hid (by
      have := HCf.out
      rwa [← HNx.out, List.take_length] at this)
    have hB0 : Below wo.heap.size wo wo := Below.refl _ _
    clear hkn hk HOk HCf HLs
    go_wp2_with fail
    go_loopw [17] (fun i wr => ∃ v : Nat, v ≤ m.vers.length ∧ i = .int .i64 v ∧ Below wo.heap.size wo wr) (fun i _ => m.vers.length - (intOf i).toNat)
    case atStart => exact ⟨0, by omega, rfl, hB0⟩
    case round =>
     obtain ⟨wp, rfl⟩ : ∃ wo : World, wo = wr := ⟨_, rfl⟩
     obtain ⟨v, hv, rfl, hb⟩ := hrel
     have HLp := Lib.hid (HL8.out wp (below_ch HBo.out hb))
     have HCp := Lib.hid (HCd.out.below hb)
     have HBp := Lib.hid hb
     have HBxp := Lib.hid (HBx.out.below hb)
     have hHdp := HBxp.out.lt
     have hHcp := HLp.out.cb.lt
     clear hb
     obtain ⟨x0, x1, x2, x3, x4, x5, _⟩ := HLp.out.mb.box
     obtain ⟨y3, y4, y5, y6, y7, y8⟩ := HLp.out.sb.y
     by_cases hvl : v < m.vers.length
     · have hvlI : (v : Int) < (m.vers.length : Int) := by omega
       have IN := Lib.hid (rin16_any m pr (v : Int) r wp HLp.out.sb.mb.mod H0.out hvI (by omega))
       unfold ixV mdV at IN
       have HAv := Lib.hid (HAc.out v hvl)
       have HIr := Lib.hid (fun h : inM m (v : Int) r = true => in_has H0.out h)
       obtain ⟨ib, hib⟩ : ∃ ib, inM m (v : Int) r = ib := ⟨_, rfl⟩
       rw [hib] at IN HAv HIr
       clear hib
       have RD := Lib.hid (fun wx (g : Below wp.heap.size wp wx) => ref_at (HCp.out.below g) (by omega) (by omega))
       have RC := Lib.hid (fun wx (g : Below wp.heap.size wp wx) => ref_at (HLp.out.cf.below g) (by omega) (by omega))
       have ID := Lib.hid (fun wx (g : Below wp.heap.size wp wx) (a3 : Option Addr) (c3 : Nat) (a4 : Option Addr) (c4 : Nat) (hc : CfgAt (leftM la X) l' a3 n1 c3 a4 n2 c4 wx) => is_at (HLp.out.sb.below g).mb.mod hc (fit_left HR.out.fit X) (by omega) (v : Int))
       have IC := Lib.hid (fun wx (g : Below wp.heap.size wp wx) (a3 : Option Addr) (c3 : Nat) (a4 : Option Addr) (c4 : Nat) (hc : CfgAt la ll a3 n1 c3 a4 n2 c4 wx) => is_at (HLp.out.sb.below g).mb.mod hc HR.out.fit (by omega) (v : Int))
       unfold RefAt at RD RC
       unfold stV at ID IC
       rw [HAv.out] at ID
       generalize isA m la (v : Int) = b at *
       go_wp2_with fail
       (with_reducible refine (IN.out).mono ?_)
       rintro e w20 ⟨rfl, g20⟩
       have hB20 : Below wp.heap.size wp w20 := g20
       have HSS : Hid (∀ W', Below wp.heap.size wp W' → (W'.cell? ⟨Hr, 0, none⟩ = some (.string m.nm) ∧ W'.cell? ⟨Hr, 1, none⟩ = some (.slice pr.a1 m.vars.length pr.c1) ∧ W'.cell? ⟨Hr, 2, none⟩ = some (.slice pr.a2 m.evs.length pr.c2) ∧ W'.cell? ⟨Hr, 3, none⟩ = some (.slice pr.a3 m.regs.length pr.c3) ∧ W'.cell? ⟨Hr, 4, none⟩ = some (.slice pr.a4 m.vers.length pr.c4) ∧ W'.cell? ⟨Hr, 5, none⟩ = some (.slice pr.a5 m.trns.length pr.c5)) ∧ (W'.cell? ⟨Hr, 6, none⟩ = some (.string m.nm) ∧ W'.cell? ⟨Hr, 7, none⟩ = some (.slice pr.a1 m.vars.length pr.c1) ∧ W'.cell? ⟨Hr, 8, none⟩ = some (.slice pr.a2 m.evs.length pr.c2) ∧ W'.cell? ⟨Hr, 9, none⟩ = some (.slice pr.a3 m.regs.length pr.c3) ∧ W'.cell? ⟨Hr, 10, none⟩ = some (.slice pr.a4 m.vers.length pr.c4) ∧ W'.cell? ⟨Hr, 11, none⟩ = some (.slice pr.a5 m.trns.length pr.c5)) ∧ W'.cell? ⟨Hd, 0, none⟩ = some (.slice y1 n1 z1) ∧ W'.cell? ⟨Hd, 1, none⟩ = some (.slice y2 n2 z2) ∧ W'.cell? ⟨Hc, 0, none⟩ = some (.slice a1 n1 c1) ∧ W'.cell? ⟨Hc, 1, none⟩ = some (.slice a2 n2 c2)) := Lib.hid fun W' g => by
         have hs := HLp.out.sb.below g
         obtain ⟨j0, j1, j2, j3, j4, j5, _⟩ := hs.mb.box
         have hx := HBxp.out.below g
         have hy := HLp.out.cb.below g
         exact ⟨⟨j0, j1, j2, j3, j4, j5⟩, hs.y, hx.c0, hx.c1, hy.c0, hy.c1⟩
       clear g20 x0 x1 x2 x3 x4 x5 y3 y4 y5 y6 y7 y8 HAv IN
       cases ib
       · simp only [Bool.not_false, Bool.and_true] at ID
         go_upto_region 22 with fail
         refine wp_region_any (by kernel_rfl) ?_
         change wpAny _ _ _ _ _ _ _ (World.drew _)
         refine wpAny_of_heldS (S := (fun W' => (W'.cell? ⟨Hr, 0, none⟩ = some (.string m.nm) ∧ W'.cell? ⟨Hr, 1, none⟩ = some (.slice pr.a1 m.vars.length pr.c1) ∧ W'.cell? ⟨Hr, 2, none⟩ = some (.slice pr.a2 m.evs.length pr.c2) ∧ W'.cell? ⟨Hr, 3, none⟩ = some (.slice pr.a3 m.regs.length pr.c3) ∧ W'.cell? ⟨Hr, 4, none⟩ = some (.slice pr.a4 m.vers.length pr.c4) ∧ W'.cell? ⟨Hr, 5, none⟩ = some (.slice pr.a5 m.trns.length pr.c5)) ∧ (W'.cell? ⟨Hr, 6, none⟩ = some (.string m.nm) ∧ W'.cell? ⟨Hr, 7, none⟩ = some (.slice pr.a1 m.vars.length pr.c1) ∧ W'.cell? ⟨Hr, 8, none⟩ = some (.slice pr.a2 m.evs.length pr.c2) ∧ W'.cell? ⟨Hr, 9, none⟩ = some (.slice pr.a3 m.regs.length pr.c3) ∧ W'.cell? ⟨Hr, 10, none⟩ = some (.slice pr.a4 m.vers.length pr.c4) ∧ W'.cell? ⟨Hr, 11, none⟩ = some (.slice pr.a5 m.trns.length pr.c5)) ∧ W'.cell? ⟨Hd, 0, none⟩ = some (.slice y1 n1 z1) ∧ W'.cell? ⟨Hd, 1, none⟩ = some (.slice y2 n2 z2) ∧ W'.cell? ⟨Hc, 0, none⟩ = some (.slice a1 n1 c1) ∧ W'.cell? ⟨Hc, 1, none⟩ = some (.slice a2 n2 c2))) ?_ (fun hHeld => ?_)
         · (try dsimp only) <;> (first | exact HSS.out _ hB20.drew | exact HSS.out _ (by assumption))
         refine tkH (i := 0) (oi := ⟨some 116, .move (.tmp 18), 4, "law.go:111", #[], none⟩) (v := ?_) rfl (by kernel_rfl) (fun _ _ _ h => h) (Or.inl ⟨by rfl, ?_⟩) (by assumption) ?_
         rotate_left; (intro w hSw; (try dsimp only at hSw); go_simp <;> with_reducible rfl); try simp only [Act.put, List.setIfInBounds_toArray, List.set_cons_zero, List.set_cons_succ]
         refine tkH (i := 1) (oi := ⟨some 117, .move (.tmp 116), 4, "law.go:111", #[⟨0, .data⟩], none⟩) (v := ?_) rfl (by kernel_rfl) (fun _ _ _ h => h) (Or.inl ⟨by rfl, ?_⟩) (by assumption) ?_
         rotate_left; (intro w hSw; (try dsimp only at hSw); go_simp <;> with_reducible rfl); try simp only [Act.put, List.setIfInBounds_toArray, List.set_cons_zero, List.set_cons_succ]
         refine tkH (i := 2) (oi := ⟨some 118, .load 48 (.tmp 8), 48, "law.go:111", #[⟨1, .guard⟩], some (1, true)⟩) (v := undef) rfl (by kernel_rfl) (fun _ _ _ h => h) (Or.inr ⟨by rfl, rfl⟩) (by assumption) ?_
         try simp only [Act.put, List.setIfInBounds_toArray, List.set_cons_zero, List.set_cons_succ]
         refine tkH (i := 3) (oi := ⟨some 119, .load 52 (.tmp 13), 52, "law.go:111", #[⟨1, .guard⟩], some (1, true)⟩) (v := undef) rfl (by kernel_rfl) (fun _ _ _ h => h) (Or.inr ⟨by rfl, rfl⟩) (by assumption) ?_
         try simp only [Act.put, List.setIfInBounds_toArray, List.set_cons_zero, List.set_cons_succ]
         refine tkH (i := 4) (oi := ⟨some 120, .call { callee := .value (.func 23), args := #[.tmp 119], argTypes := #[52] }, 62, "law.go:111", #[⟨3, .data⟩, ⟨1, .chain⟩, ⟨1, .guard⟩], some (1, true)⟩) (v := undef) rfl (by kernel_rfl) (fun _ _ _ h => h) (Or.inr ⟨by rfl, rfl⟩) (by assumption) ?_
         try simp only [Act.put, List.setIfInBounds_toArray, List.set_cons_zero, List.set_cons_succ]
         refine tkH (i := 5) (oi := ⟨some 121, .move (.tmp 17), 3, "law.go:111", #[⟨1, .guard⟩], some (1, true)⟩) (v := undef) rfl (by kernel_rfl) (fun _ _ _ h => h) (Or.inr ⟨by rfl, rfl⟩) (by assumption) ?_
         try simp only [Act.put, List.setIfInBounds_toArray, List.set_cons_zero, List.set_cons_succ]
         refine tkH (i := 6) (oi := ⟨some 122, .call { callee := .value (.func 22), args := #[.tmp 118, .tmp 120, .tmp 121], argTypes := #[48, 62, 3] }, 4, "law.go:111", #[⟨2, .data⟩, ⟨4, .data⟩, ⟨5, .data⟩, ⟨4, .chain⟩, ⟨1, .guard⟩], some (1, true)⟩) (v := undef) rfl (by kernel_rfl) (fun _ _ _ h => h) (Or.inr ⟨by rfl, rfl⟩) (by assumption) ?_
         try simp only [Act.put, List.setIfInBounds_toArray, List.set_cons_zero, List.set_cons_succ]
         refine tkH (i := 7) (oi := ⟨some 123, .pick (.tmp 117) (.tmp 122) (.const (.bool false)), 4, "law.go:111", #[⟨1, .data⟩, ⟨6, .data⟩], none⟩) (v := ?_) rfl (by kernel_rfl) (fun _ _ _ h => h) (Or.inl ⟨by rfl, ?_⟩) (by assumption) ?_
         rotate_left; (intro w hSw; (try dsimp only at hSw); go_simp <;> with_reducible rfl); try simp only [Act.put, List.setIfInBounds_toArray, List.set_cons_zero, List.set_cons_succ]
         refine tkH (i := 8) (oi := ⟨some 124, .move (.tmp 123), 4, "law.go:111", #[⟨7, .data⟩, ⟨6, .chain⟩], none⟩) (v := ?_) rfl (by kernel_rfl) (fun _ _ _ h => h) (Or.inl ⟨by rfl, ?_⟩) (by assumption) ?_
         rotate_left; (intro w hSw; (try dsimp only at hSw); go_simp <;> with_reducible rfl); try simp only [Act.put, List.setIfInBounds_toArray, List.set_cons_zero, List.set_cons_succ]
         refine tkH (i := 9) (oi := ⟨some 125, .move (.tmp 18), 4, "law.go:111", #[⟨8, .guard⟩], some (8, false)⟩) (v := ?_) rfl (by kernel_rfl) (fun _ _ _ h => h) (Or.inl ⟨by rfl, ?_⟩) (by assumption) ?_
         rotate_left; (intro w hSw; (try dsimp only at hSw); go_simp <;> with_reducible rfl); try simp only [Act.put, List.setIfInBounds_toArray, List.set_cons_zero, List.set_cons_succ]
         refine tkH (i := 10) (oi := ⟨some 126, .unOp .not 4 (.tmp 125), 4, "law.go:111", #[⟨9, .data⟩, ⟨8, .guard⟩], some (8, false)⟩) (v := ?_) rfl (by kernel_rfl) (fun _ _ _ h => h) (Or.inl ⟨by rfl, ?_⟩) (by assumption) ?_
         rotate_left; (intro w hSw; (try dsimp only at hSw); go_simp <;> with_reducible rfl); try simp only [Act.put, List.setIfInBounds_toArray, List.set_cons_zero, List.set_cons_succ]
         refine tkH (i := 11) (oi := ⟨some 127, .move (.tmp 126), 4, "law.go:111", #[⟨10, .data⟩, ⟨8, .chain⟩, ⟨8, .guard⟩], some (8, false)⟩) (v := ?_) rfl (by kernel_rfl) (fun _ _ _ h => h) (Or.inl ⟨by rfl, ?_⟩) (by assumption) ?_
         rotate_left; (intro w hSw; (try dsimp only at hSw); go_simp <;> with_reducible rfl); try simp only [Act.put, List.setIfInBounds_toArray, List.set_cons_zero, List.set_cons_succ]
         refine tkH (i := 12) (oi := ⟨some 128, .load 48 (.tmp 8), 48, "law.go:111", #[⟨11, .guard⟩], some (11, true)⟩) (v := ?_) rfl (by kernel_rfl) (fun _ _ _ h => h) (Or.inl ⟨by rfl, ?_⟩) (by assumption) ?_
         rotate_left; (intro w hSw; (try dsimp only at hSw); go_simp <;> with_reducible rfl); try simp only [Act.put, List.setIfInBounds_toArray, List.set_cons_zero, List.set_cons_succ]
         refine tkH (i := 13) (oi := ⟨some 129, .load 52 (.tmp 13), 52, "law.go:111", #[⟨11, .guard⟩], some (11, true)⟩) (v := ?_) rfl (by kernel_rfl) (fun _ _ _ h => h) (Or.inl ⟨by rfl, ?_⟩) (by assumption) ?_
         rotate_left; (intro w hSw; (try dsimp only at hSw); go_simp <;> with_reducible rfl); try simp only [Act.put, List.setIfInBounds_toArray, List.set_cons_zero, List.set_cons_succ]
         refine tkH (i := 15) (oi := ⟨some 131, .move (.tmp 17), 3, "law.go:111", #[⟨11, .guard⟩], some (11, true)⟩) (v := ?_) rfl (by kernel_rfl) (fun _ _ _ h => h) (Or.inl ⟨by rfl, ?_⟩) (by assumption) ?_
         rotate_left; (intro w hSw; (try dsimp only at hSw); go_simp <;> with_reducible rfl); try simp only [Act.put, List.setIfInBounds_toArray, List.set_cons_zero, List.set_cons_succ]
         refine tkH (i := 17) (oi := ⟨some 133, .load 48 (.tmp 8), 48, "law.go:111", #[⟨11, .guard⟩], some (11, true)⟩) (v := ?_) rfl (by kernel_rfl) (fun _ _ _ h => h) (Or.inl ⟨by rfl, ?_⟩) (by assumption) ?_
         rotate_left; (intro w hSw; (try dsimp only at hSw); go_simp <;> with_reducible rfl); try simp only [Act.put, List.setIfInBounds_toArray, List.set_cons_zero, List.set_cons_succ]
         refine tkH (i := 18) (oi := ⟨some 134, .load 52 (.tmp 11), 52, "law.go:111", #[⟨11, .guard⟩], some (11, true)⟩) (v := ?_) rfl (by kernel_rfl) (fun _ _ _ h => h) (Or.inl ⟨by rfl, ?_⟩) (by assumption) ?_
         rotate_left; (intro w hSw; (try dsimp only at hSw); go_simp <;> with_reducible rfl); try simp only [Act.put, List.setIfInBounds_toArray, List.set_cons_zero, List.set_cons_succ]
         refine tkH (i := 20) (oi := ⟨some 136, .move (.tmp 17), 3, "law.go:111", #[⟨11, .guard⟩], some (11, true)⟩) (v := ?_) rfl (by kernel_rfl) (fun _ _ _ h => h) (Or.inl ⟨by rfl, ?_⟩) (by assumption) ?_
         rotate_left; (intro w hSw; (try dsimp only at hSw); go_simp <;> with_reducible rfl); try simp only [Act.put, List.setIfInBounds_toArray, List.set_cons_zero, List.set_cons_succ]
         refine wpAnyH_ready (rs := [14]) (by kernel_rfl) (by simp) ?_
         refine AllReadyH.cons (o := ⟨some 130, .call { callee := .value (.func 23), args := #[.tmp 129], argTypes := #[52] }, 62, "law.go:111", #[⟨13, .data⟩, ⟨11, .chain⟩, ⟨11, .guard⟩], some (11, true)⟩) rfl (fun K hK => ?_) ?_
         (go_simp; (with_reducible refine (RD.out _ hB20.drew).mono ?_); rintro e w30 ⟨x1, s1, x2, s2, rfl, hRd, g30⟩; have hB30 : Below wp.heap.size wp w30 := below_ch hB20.drew g30; go_wp2_with fail)
         refine hK.out _ _ ?_ (fun hH1 => ?_)
         · (try dsimp only) <;> (first | exact HSS.out _ hB20.drew | exact HSS.out _ (by assumption))
         clear hK K hHeld
         try simp only [Act.put, List.setIfInBounds_toArray, List.set_cons_zero, List.set_cons_succ]
         refine wpAnyH_ready (rs := [16]) (by kernel_rfl) (by simp) ?_
         refine AllReadyH.cons (o := ⟨some 132, .call { callee := .value (.func 22), args := #[.tmp 128, .tmp 130, .tmp 131], argTypes := #[48, 62, 3] }, 4, "law.go:111", #[⟨12, .data⟩, ⟨14, .data⟩, ⟨15, .data⟩, ⟨14, .chain⟩, ⟨11, .guard⟩], some (11, true)⟩) rfl (fun K hK => ?_) ?_
         (go_simp; (with_reducible refine (ID.out _ hB30 _ _ _ _ hRd).mono ?_); rintro e w31 ⟨rfl, g31⟩; have hB31 : Below wp.heap.size wp w31 := below_ch hB30 g31; go_wp2_with fail)
         refine hK.out _ _ ?_ (fun hH2 => ?_)
         · (try dsimp only) <;> (first | exact HSS.out _ hB20.drew | exact HSS.out _ (by assumption))
         clear hK K hH1
         try simp only [Act.put, List.setIfInBounds_toArray, List.set_cons_zero, List.set_cons_succ]
         refine wpAnyH_ready (rs := [19]) (by kernel_rfl) (by simp) ?_
         refine AllReadyH.cons (o := ⟨some 135, .call { callee := .value (.func 23), args := #[.tmp 134], argTypes := #[52] }, 62, "law.go:111", #[⟨18, .data⟩, ⟨16, .chain⟩, ⟨11, .guard⟩], some (11, true)⟩) rfl (fun K hK => ?_) ?_
         (go_simp; (with_reducible refine (RC.out _ hB31).mono ?_); rintro e w32 ⟨x3, s3, x4, s4, rfl, hRc, g32⟩; have hB32 : Below wp.heap.size wp w32 := below_ch hB31 g32; go_wp2_with fail)
         refine hK.out _ _ ?_ (fun hH3 => ?_)
         · (try dsimp only) <;> (first | exact HSS.out _ hB20.drew | exact HSS.out _ (by assumption))
         clear hK K hH2
         try simp only [Act.put, List.setIfInBounds_toArray, List.set_cons_zero, List.set_cons_succ]
         refine wpAnyH_ready (rs := [21]) (by kernel_rfl) (by simp) ?_
         refine AllReadyH.cons (o := ⟨some 137, .call { callee := .value (.func 22), args := #[.tmp 133, .tmp 135, .tmp 136], argTypes := #[48, 62, 3] }, 4, "law.go:111", #[⟨17, .data⟩, ⟨19, .data⟩, ⟨20, .data⟩, ⟨19, .chain⟩, ⟨11, .guard⟩], some (11, true)⟩) rfl (fun K hK => ?_) ?_
         (go_simp; (with_reducible refine (IC.out _ hB32 _ _ _ _ hRc).mono ?_); rintro e w33 ⟨rfl, g33⟩; have hB33 : Below wp.heap.size wp w33 := below_ch hB32 g33; go_wp2_with fail)
         refine hK.out _ _ ?_ (fun hH4 => ?_)
         · (try dsimp only) <;> (first | exact HSS.out _ hB20.drew | exact HSS.out _ (by assumption))
         clear hK K hH3
         try simp only [Act.put, List.setIfInBounds_toArray, List.set_cons_zero, List.set_cons_succ]
         refine tkH (i := 22) (oi := ⟨some 138, .binOp .neq 4 (.tmp 132) (.tmp 137) 4, 4, "law.go:111", #[⟨16, .data⟩, ⟨21, .data⟩, ⟨11, .guard⟩], some (11, true)⟩) (v := ?_) rfl (by kernel_rfl) (fun _ _ _ h => h) (Or.inl ⟨by rfl, ?_⟩) (by assumption) ?_
         rotate_left; (intro w hSw; (try dsimp only at hSw); go_simp <;> with_reducible rfl); try simp only [Act.put, List.setIfInBounds_toArray, List.set_cons_zero, List.set_cons_succ]
         refine tkH (i := 23) (oi := ⟨some 139, .pick (.tmp 127) (.tmp 138) (.const (.bool false)), 4, "law.go:111", #[⟨11, .data⟩, ⟨22, .data⟩, ⟨8, .guard⟩], some (8, false)⟩) (v := ?_) rfl (by kernel_rfl) (fun _ _ _ h => h) (Or.inl ⟨by rfl, ?_⟩) (by assumption) ?_
         rotate_left; (intro w hSw; (try dsimp only at hSw); go_simp <;> with_reducible rfl); try simp only [Act.put, List.setIfInBounds_toArray, List.set_cons_zero, List.set_cons_succ]
         refine tkH (i := 24) (oi := ⟨some 140, .pick (.tmp 124) (.const (.bool true)) (.tmp 139), 4, "law.go:111", #[⟨8, .data⟩, ⟨23, .data⟩], none⟩) (v := ?_) rfl (by kernel_rfl) (fun _ _ _ h => h) (Or.inl ⟨by rfl, ?_⟩) (by assumption) ?_
         rotate_left; (intro w hSw; (try dsimp only at hSw); go_simp <;> with_reducible rfl); try simp only [Act.put, List.setIfInBounds_toArray, List.set_cons_zero, List.set_cons_succ]
         refine wpAnyH_done (by kernel_rfl) ?_ _
         rotate_left
         exact AllReadyH.nil
         exact AllReadyH.nil
         exact AllReadyH.nil
         exact AllReadyH.nil
         all_goals
           go_wp2_with fail
           go_roundw
           case rel => exact ⟨v + 1, by omega, by go_num, below_ch HBp.out hB33⟩
           case measure => simp [intOf] <;> omega
       · simp only [Bool.not_true, Bool.and_false] at ID
         have hr := hasR_yes (HIr.out rfl)
         have hr0 : (0 : Int) ≤ r := by obtain ⟨k', e', _⟩ := hr; omega
         have hr0d : decide ((0 : Int) ≤ r) = true := decide_eq_true hr0
         clear hr
         go_upto_region 22 with fail
         refine wp_region_any (by kernel_rfl) ?_
         change wpAny _ _ _ _ _ _ _ (World.drew _)
         refine wpAny_of_heldS (S := (fun W' => (W'.cell? ⟨Hr, 0, none⟩ = some (.string m.nm) ∧ W'.cell? ⟨Hr, 1, none⟩ = some (.slice pr.a1 m.vars.length pr.c1) ∧ W'.cell? ⟨Hr, 2, none⟩ = some (.slice pr.a2 m.evs.length pr.c2) ∧ W'.cell? ⟨Hr, 3, none⟩ = some (.slice pr.a3 m.regs.length pr.c3) ∧ W'.cell? ⟨Hr, 4, none⟩ = some (.slice pr.a4 m.vers.length pr.c4) ∧ W'.cell? ⟨Hr, 5, none⟩ = some (.slice pr.a5 m.trns.length pr.c5)) ∧ (W'.cell? ⟨Hr, 6, none⟩ = some (.string m.nm) ∧ W'.cell? ⟨Hr, 7, none⟩ = some (.slice pr.a1 m.vars.length pr.c1) ∧ W'.cell? ⟨Hr, 8, none⟩ = some (.slice pr.a2 m.evs.length pr.c2) ∧ W'.cell? ⟨Hr, 9, none⟩ = some (.slice pr.a3 m.regs.length pr.c3) ∧ W'.cell? ⟨Hr, 10, none⟩ = some (.slice pr.a4 m.vers.length pr.c4) ∧ W'.cell? ⟨Hr, 11, none⟩ = some (.slice pr.a5 m.trns.length pr.c5)) ∧ W'.cell? ⟨Hd, 0, none⟩ = some (.slice y1 n1 z1) ∧ W'.cell? ⟨Hd, 1, none⟩ = some (.slice y2 n2 z2) ∧ W'.cell? ⟨Hc, 0, none⟩ = some (.slice a1 n1 c1) ∧ W'.cell? ⟨Hc, 1, none⟩ = some (.slice a2 n2 c2))) ?_ (fun hHeld => ?_)
         · (try dsimp only) <;> (first | exact HSS.out _ hB20.drew | exact HSS.out _ (by assumption))
         refine tkH (i := 0) (oi := ⟨some 116, .move (.tmp 18), 4, "law.go:111", #[], none⟩) (v := ?_) rfl (by kernel_rfl) (fun _ _ _ h => h) (Or.inl ⟨by rfl, ?_⟩) (by assumption) ?_
         rotate_left; (intro w hSw; (try dsimp only at hSw); go_simp <;> with_reducible rfl); try simp only [Act.put, List.setIfInBounds_toArray, List.set_cons_zero, List.set_cons_succ]
         refine tkH (i := 1) (oi := ⟨some 117, .move (.tmp 116), 4, "law.go:111", #[⟨0, .data⟩], none⟩) (v := ?_) rfl (by kernel_rfl) (fun _ _ _ h => h) (Or.inl ⟨by rfl, ?_⟩) (by assumption) ?_
         rotate_left; (intro w hSw; (try dsimp only at hSw); go_simp <;> with_reducible rfl); try simp only [Act.put, List.setIfInBounds_toArray, List.set_cons_zero, List.set_cons_succ]
         refine tkH (i := 2) (oi := ⟨some 118, .load 48 (.tmp 8), 48, "law.go:111", #[⟨1, .guard⟩], some (1, true)⟩) (v := ?_) rfl (by kernel_rfl) (fun _ _ _ h => h) (Or.inl ⟨by rfl, ?_⟩) (by assumption) ?_
         rotate_left; (intro w hSw; (try dsimp only at hSw); go_simp <;> with_reducible rfl); try simp only [Act.put, List.setIfInBounds_toArray, List.set_cons_zero, List.set_cons_succ]
         refine tkH (i := 3) (oi := ⟨some 119, .load 52 (.tmp 13), 52, "law.go:111", #[⟨1, .guard⟩], some (1, true)⟩) (v := ?_) rfl (by kernel_rfl) (fun _ _ _ h => h) (Or.inl ⟨by rfl, ?_⟩) (by assumption) ?_
         rotate_left; (intro w hSw; (try dsimp only at hSw); go_simp <;> with_reducible rfl); try simp only [Act.put, List.setIfInBounds_toArray, List.set_cons_zero, List.set_cons_succ]
         refine tkH (i := 5) (oi := ⟨some 121, .move (.tmp 17), 3, "law.go:111", #[⟨1, .guard⟩], some (1, true)⟩) (v := ?_) rfl (by kernel_rfl) (fun _ _ _ h => h) (Or.inl ⟨by rfl, ?_⟩) (by assumption) ?_
         rotate_left; (intro w hSw; (try dsimp only at hSw); go_simp <;> with_reducible rfl); try simp only [Act.put, List.setIfInBounds_toArray, List.set_cons_zero, List.set_cons_succ]
         refine wpAnyH_ready (rs := [4]) (by kernel_rfl) (by simp) ?_
         refine AllReadyH.cons (o := ⟨some 120, .call { callee := .value (.func 23), args := #[.tmp 119], argTypes := #[52] }, 62, "law.go:111", #[⟨3, .data⟩, ⟨1, .chain⟩, ⟨1, .guard⟩], some (1, true)⟩) rfl (fun K hK => ?_) ?_
         (go_simp; (with_reducible refine (RD.out _ hB20.drew).mono ?_); rintro e w30 ⟨x1, s1, x2, s2, rfl, hRd, g30⟩; have hB30 : Below wp.heap.size wp w30 := below_ch hB20.drew g30; go_wp2_with fail)
         refine hK.out _ _ ?_ (fun hH1 => ?_)
         · (try dsimp only) <;> (first | exact HSS.out _ hB20.drew | exact HSS.out _ (by assumption))
         clear hK K hHeld
         try simp only [Act.put, List.setIfInBounds_toArray, List.set_cons_zero, List.set_cons_succ]
         refine wpAnyH_ready (rs := [6]) (by kernel_rfl) (by simp) ?_
         refine AllReadyH.cons (o := ⟨some 122, .call { callee := .value (.func 22), args := #[.tmp 118, .tmp 120, .tmp 121], argTypes := #[48, 62, 3] }, 4, "law.go:111", #[⟨2, .data⟩, ⟨4, .data⟩, ⟨5, .data⟩, ⟨4, .chain⟩, ⟨1, .guard⟩], some (1, true)⟩) rfl (fun K hK => ?_) ?_
         (go_simp; (with_reducible refine (ID.out _ hB30 _ _ _ _ hRd).mono ?_); rintro e w31 ⟨rfl, g31⟩; have hB31 : Below wp.heap.size wp w31 := below_ch hB30 g31; go_wp2_with fail)
         refine hK.out _ _ ?_ (fun hH2 => ?_)
         · (try dsimp only) <;> (first | exact HSS.out _ hB20.drew | exact HSS.out _ (by assumption))
         clear hK K hH1
         try simp only [Act.put, List.setIfInBounds_toArray, List.set_cons_zero, List.set_cons_succ]
         refine tkH (i := 7) (oi := ⟨some 123, .pick (.tmp 117) (.tmp 122) (.const (.bool false)), 4, "law.go:111", #[⟨1, .data⟩, ⟨6, .data⟩], none⟩) (v := ?_) rfl (by kernel_rfl) (fun _ _ _ h => h) (Or.inl ⟨by rfl, ?_⟩) (by assumption) ?_
         rotate_left; (intro w hSw; (try dsimp only at hSw); go_simp <;> with_reducible rfl); try simp only [Act.put, List.setIfInBounds_toArray, List.set_cons_zero, List.set_cons_succ]
         refine tkH (i := 8) (oi := ⟨some 124, .move (.tmp 123), 4, "law.go:111", #[⟨7, .data⟩, ⟨6, .chain⟩], none⟩) (v := ?_) rfl (by kernel_rfl) (fun _ _ _ h => h) (Or.inl ⟨by rfl, ?_⟩) (by assumption) ?_
         rotate_left; (intro w hSw; (try dsimp only at hSw); go_simp <;> with_reducible rfl); try simp only [Act.put, List.setIfInBounds_toArray, List.set_cons_zero, List.set_cons_succ]
         refine tkH (i := 9) (oi := ⟨some 125, .move (.tmp 18), 4, "law.go:111", #[⟨8, .guard⟩], some (8, false)⟩) (v := ?_) rfl (by kernel_rfl) (fun _ _ _ h => h) (Or.inl ⟨by rfl, ?_⟩) (by assumption) ?_
         rotate_left; (intro w hSw; (try dsimp only at hSw); go_simp <;> with_reducible rfl); try simp only [Act.put, List.setIfInBounds_toArray, List.set_cons_zero, List.set_cons_succ]
         refine tkH (i := 10) (oi := ⟨some 126, .unOp .not 4 (.tmp 125), 4, "law.go:111", #[⟨9, .data⟩, ⟨8, .guard⟩], some (8, false)⟩) (v := ?_) rfl (by kernel_rfl) (fun _ _ _ h => h) (Or.inl ⟨by rfl, ?_⟩) (by assumption) ?_
         rotate_left; (intro w hSw; (try dsimp only at hSw); go_simp <;> with_reducible rfl); try simp only [Act.put, List.setIfInBounds_toArray, List.set_cons_zero, List.set_cons_succ]
         refine tkH (i := 11) (oi := ⟨some 127, .move (.tmp 126), 4, "law.go:111", #[⟨10, .data⟩, ⟨8, .chain⟩, ⟨8, .guard⟩], some (8, false)⟩) (v := ?_) rfl (by kernel_rfl) (fun _ _ _ h => h) (Or.inl ⟨by rfl, ?_⟩) (by assumption) ?_
         rotate_left; (intro w hSw; (try dsimp only at hSw); go_simp <;> with_reducible rfl); try simp only [Act.put, List.setIfInBounds_toArray, List.set_cons_zero, List.set_cons_succ]
         refine tkH (i := 12) (oi := ⟨some 128, .load 48 (.tmp 8), 48, "law.go:111", #[⟨11, .guard⟩], some (11, true)⟩) (v := undef) rfl (by kernel_rfl) (fun _ _ _ h => h) (Or.inr ⟨by rfl, rfl⟩) (by assumption) ?_
         try simp only [Act.put, List.setIfInBounds_toArray, List.set_cons_zero, List.set_cons_succ]
         refine tkH (i := 13) (oi := ⟨some 129, .load 52 (.tmp 13), 52, "law.go:111", #[⟨11, .guard⟩], some (11, true)⟩) (v := undef) rfl (by kernel_rfl) (fun _ _ _ h => h) (Or.inr ⟨by rfl, rfl⟩) (by assumption) ?_
         try simp only [Act.put, List.setIfInBounds_toArray, List.set_cons_zero, List.set_cons_succ]
         refine tkH (i := 14) (oi := ⟨some 130, .call { callee := .value (.func 23), args := #[.tmp 129], argTypes := #[52] }, 62, "law.go:111", #[⟨13, .data⟩, ⟨11, .chain⟩, ⟨11, .guard⟩], some (11, true)⟩) (v := undef) rfl (by kernel_rfl) (fun _ _ _ h => h) (Or.inr ⟨by rfl, rfl⟩) (by assumption) ?_
         try simp only [Act.put, List.setIfInBounds_toArray, List.set_cons_zero, List.set_cons_succ]
         refine tkH (i := 15) (oi := ⟨some 131, .move (.tmp 17), 3, "law.go:111", #[⟨11, .guard⟩], some (11, true)⟩) (v := undef) rfl (by kernel_rfl) (fun _ _ _ h => h) (Or.inr ⟨by rfl, rfl⟩) (by assumption) ?_
         try simp only [Act.put, List.setIfInBounds_toArray, List.set_cons_zero, List.set_cons_succ]
         refine tkH (i := 16) (oi := ⟨some 132, .call { callee := .value (.func 22), args := #[.tmp 128, .tmp 130, .tmp 131], argTypes := #[48, 62, 3] }, 4, "law.go:111", #[⟨12, .data⟩, ⟨14, .data⟩, ⟨15, .data⟩, ⟨14, .chain⟩, ⟨11, .guard⟩], some (11, true)⟩) (v := undef) rfl (by kernel_rfl) (fun _ _ _ h => h) (Or.inr ⟨by rfl, rfl⟩) (by assumption) ?_
         try simp only [Act.put, List.setIfInBounds_toArray, List.set_cons_zero, List.set_cons_succ]
         refine tkH (i := 17) (oi := ⟨some 133, .load 48 (.tmp 8), 48, "law.go:111", #[⟨11, .guard⟩], some (11, true)⟩) (v := undef) rfl (by kernel_rfl) (fun _ _ _ h => h) (Or.inr ⟨by rfl, rfl⟩) (by assumption) ?_
         try simp only [Act.put, List.setIfInBounds_toArray, List.set_cons_zero, List.set_cons_succ]
         refine tkH (i := 18) (oi := ⟨some 134, .load 52 (.tmp 11), 52, "law.go:111", #[⟨11, .guard⟩], some (11, true)⟩) (v := undef) rfl (by kernel_rfl) (fun _ _ _ h => h) (Or.inr ⟨by rfl, rfl⟩) (by assumption) ?_
         try simp only [Act.put, List.setIfInBounds_toArray, List.set_cons_zero, List.set_cons_succ]
         refine tkH (i := 19) (oi := ⟨some 135, .call { callee := .value (.func 23), args := #[.tmp 134], argTypes := #[52] }, 62, "law.go:111", #[⟨18, .data⟩, ⟨16, .chain⟩, ⟨11, .guard⟩], some (11, true)⟩) (v := undef) rfl (by kernel_rfl) (fun _ _ _ h => h) (Or.inr ⟨by rfl, rfl⟩) (by assumption) ?_
         try simp only [Act.put, List.setIfInBounds_toArray, List.set_cons_zero, List.set_cons_succ]
         refine tkH (i := 20) (oi := ⟨some 136, .move (.tmp 17), 3, "law.go:111", #[⟨11, .guard⟩], some (11, true)⟩) (v := undef) rfl (by kernel_rfl) (fun _ _ _ h => h) (Or.inr ⟨by rfl, rfl⟩) (by assumption) ?_
         try simp only [Act.put, List.setIfInBounds_toArray, List.set_cons_zero, List.set_cons_succ]
         refine tkH (i := 21) (oi := ⟨some 137, .call { callee := .value (.func 22), args := #[.tmp 133, .tmp 135, .tmp 136], argTypes := #[48, 62, 3] }, 4, "law.go:111", #[⟨17, .data⟩, ⟨19, .data⟩, ⟨20, .data⟩, ⟨19, .chain⟩, ⟨11, .guard⟩], some (11, true)⟩) (v := undef) rfl (by kernel_rfl) (fun _ _ _ h => h) (Or.inr ⟨by rfl, rfl⟩) (by assumption) ?_
         try simp only [Act.put, List.setIfInBounds_toArray, List.set_cons_zero, List.set_cons_succ]
         refine tkH (i := 22) (oi := ⟨some 138, .binOp .neq 4 (.tmp 132) (.tmp 137) 4, 4, "law.go:111", #[⟨16, .data⟩, ⟨21, .data⟩, ⟨11, .guard⟩], some (11, true)⟩) (v := undef) rfl (by kernel_rfl) (fun _ _ _ h => h) (Or.inr ⟨by rfl, rfl⟩) (by assumption) ?_
         try simp only [Act.put, List.setIfInBounds_toArray, List.set_cons_zero, List.set_cons_succ]
         refine tkH (i := 23) (oi := ⟨some 139, .pick (.tmp 127) (.tmp 138) (.const (.bool false)), 4, "law.go:111", #[⟨11, .data⟩, ⟨22, .data⟩, ⟨8, .guard⟩], some (8, false)⟩) (v := ?_) rfl (by kernel_rfl) (fun _ _ _ h => h) (Or.inl ⟨by rfl, ?_⟩) (by assumption) ?_
         rotate_left; (intro w hSw; (try dsimp only at hSw); go_simp <;> with_reducible rfl); try simp only [Act.put, List.setIfInBounds_toArray, List.set_cons_zero, List.set_cons_succ]
         refine tkH (i := 24) (oi := ⟨some 140, .pick (.tmp 124) (.const (.bool true)) (.tmp 139), 4, "law.go:111", #[⟨8, .data⟩, ⟨23, .data⟩], none⟩) (v := ?_) rfl (by kernel_rfl) (fun _ _ _ h => h) (Or.inl ⟨by rfl, ?_⟩) (by assumption) ?_
         rotate_left; (intro w hSw; (try dsimp only at hSw); go_simp <;> with_reducible rfl); try simp only [Act.put, List.setIfInBounds_toArray, List.set_cons_zero, List.set_cons_succ]
         refine wpAnyH_done (by kernel_rfl) ?_ _
         rotate_left
         exact AllReadyH.nil
         exact AllReadyH.nil
         all_goals
           go_wp2_with fail
           go_roundw
           case rel => exact ⟨v + 1, by omega, by go_num, below_ch HBp.out hB31⟩
           case measure => simp [intOf] <;> omega
     · obtain rfl : v = m.vers.length := by omega
       have FTd := Lib.hid (fits_at HLp.out.st hm1 hm2 HCp.out (fit_left HR.out.fit X) HFl.out)
       have q0 := HBxp.out.c0
       have q1 := HBxp.out.c1
       go_wp2_with fail
       (with_reducible refine (FTd.out).mono ?_)
       rintro e w30 ⟨rfl, g30⟩
       have HBw := Lib.hid (HLp.out.mb.below g30).bel
       go_wp2_with fail
       (with_reducible refine (WK.out _ HBw.out).mono ?_)
       rintro e w31 ⟨rfl, g31⟩
       go_wp2_with fail
       go_ret
       exact ⟨rfl, below_ch HBw.out g31⟩
end Go.Proofs
