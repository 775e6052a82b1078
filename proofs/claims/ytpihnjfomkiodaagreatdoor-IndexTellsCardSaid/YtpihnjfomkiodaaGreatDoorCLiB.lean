/- Walks: the law 'IndexTells'. -/
import Derived.Test.YtpihnjfomkiodaaGreatDoorCLiA
namespace Go.Proofs
open Go.RowKit Go.Lx Go.Md Go.Shelf Go.BigFrame Go.Rgi
set_option linter.unusedVariables false
/-- An index, and the reference's in its box. -/
structure Tl (m : MdlD) (pr : Ph) (IB H : Nat) (w wx : World) : Prop where
  bel : Below w.heap.size w wx
  idx : IdxAt w.heap.size m IB wx
  mod : Mod anyM wx m pr
  box : Box wx H (.string m.nm) (.slice pr.a1 m.vars.length pr.c1) (.slice pr.a2 m.evs.length pr.c2) (.slice pr.a3 m.regs.length pr.c3) (.slice pr.a4 m.vers.length pr.c4) (.slice pr.a5 m.trns.length pr.c5)
theorem Tl.below {m : MdlD} {pr : Ph} {IB H : Nat} {w wx wy : World} (h : Tl m pr IB H w wx) (g : Below wx.heap.size wx wy) : Tl m pr IB H w wy :=
  ⟨h.bel.trans (g.mono h.bel.size), h.idx.grown g, h.mod.below g, h.box.below g h.box.sl⟩
def TlV (m : MdlD) (pr : Ph) (IB H : Nat) (w : World) (u : Value) (e : Ending) (w' : World) : Prop := e = .returned u ∧ Hid (Tl m pr IB H w w')
def TlX (m : MdlD) (pr : Ph) (IB H : Nat) (w wx : World) (u : Value) (e : Ending) (w' : World) : Prop := e = .returned u ∧ Hid (Tl m pr IB H w w') ∧ Below wx.heap.size wx w'
def TlR (m : MdlD) (pr : Ph) (IB H : Nat) (w wx : World) (l : List Int) (e : Ending) (w' : World) : Prop := ∃ v, e = .returned v ∧ Hid (RowIn w' v l) ∧ Hid (Tl m pr IB H w w') ∧ Below wx.heap.size wx w'
section
variable {m : MdlD} {pr : Ph} {IB H : Nat} {w wx : World} {f : Nat} {args : Array Value} {u u' : Value}
theorem tl1 (g : Tl m pr IB H w wx) (h : Calls Tryz.prog f args wx fun e w' => e = .returned u ∧ wx = w') : Calls Tryz.prog f args wx (TlV m pr IB H w u) :=
  h.mono fun e w' ⟨he, hw⟩ => ⟨he, Lib.hid (hw ▸ g)⟩
theorem tl2 (g : Tl m pr IB H w wx) (h : Calls Tryz.prog f args wx fun e w' => e = .returned u ∧ Below wx.heap.size wx w') (hu : u = u') : Calls Tryz.prog f args wx (TlV m pr IB H w u') :=
  h.mono fun e w' ⟨he, hw⟩ => ⟨hu ▸ he, Lib.hid (g.below hw)⟩
theorem tl3 (g : Tl m pr IB H w wx) (h : Calls Tryz.prog f args wx fun e w' => e = .returned u ∧ Below wx.heap.size wx w') : Calls Tryz.prog f args wx (TlX m pr IB H w wx u) :=
  h.mono fun e w' ⟨he, hw⟩ => ⟨he, Lib.hid (g.below hw), hw⟩
theorem tlr {l l' : List Int} (g : Tl m pr IB H w wx) (h : Calls Tryz.prog f args wx (RowP l wx)) (hl : l = l') : Calls Tryz.prog f args wx (TlR m pr IB H w wx l') :=
  h.mono fun e w' ⟨v, he, ho, hb⟩ => ⟨v, he, Lib.hid (hl ▸ RowIn.own ho), Lib.hid (g.below hb), hb⟩
theorem tls {l : List Int} {v1 v2 : Value} (g : Tl m pr IB H w wx) (h1 : RowIn wx v1 l) (h2 : RowIn wx v2 l) (hl : l.length ≤ 1000000) : Calls Tryz.prog 61 #[v1, v2] wx (TlV m pr IB H w (.bool true)) :=
  tl2 g (same_self l v1 v2 wx h1 h2 hl) rfl
end
theorem chainM_le {m : MdlD} (h0 : riM m = (0, 0, 0)) (v : Int) : (chainM m v).length ≤ 64 := by
  cases hv : hasV m v with
  | false => unfold chainM; rw [hv]; simp
  | true =>
    obtain ⟨k, rfl, hk⟩ := hasV_nat hv
    rw [chainM_len h0 hk, ← (len_par h0 hk).1]; exact (len_par h0 hk).2.1
set_option maxRecDepth 100000 in
set_option maxHeartbeats 16000000 in
theorem indexTells_any {Q : Nat → BP} (m : MdlD) (p : Ph) (a b : Int) (w : World) (h : Mod Q w m p) (hm : MdlOk m) (hT : Tab w) (ha : (Lit.int .i64 a).wf = true) (hb : (Lit.int .i64 b).wf = true) :
    Calls Tryz.prog 8 #[mdV m p, .int .i64 a, .int .i64 b] w fun e w' => e = .returned (.bool true) ∧ Below w.heap.size w w' := by
  have HB := Lib.hid (Mb.made h)
  have F1 := Lib.hid (fun wx (g : Mb m p w.heap.size w wx) => small16_any m p wx g.mod hm)
  have BT := Lib.hid (fun (hs : Sm16 m) wx (g : Mb m p w.heap.size w wx) => both16_any m p wx g.mod hm (hT.next g.bel) hs)
  have WK := Lib.hid (fun wx (g : Below w.heap.size w wx) => works16 wx (hT.next g))
  have HA := Lib.hid ha
  unfold mdV at F1 BT ⊢
  clear h hm hT ha hb
  go_enter Tryz.func8, Tryz.ntmps8
  simp only [List.append_eq, List.cons_append, List.nil_append]
  obtain ⟨x0, x1, x2, x3, x4, x5, _⟩ := HB.out.box
  go_wp2_with fail
  (with_reducible refine (F1.out _ HB.out).mono ?_)
  rintro e w3 ⟨⟨b1, rfl, s1⟩, g3⟩
  have HB3 := Lib.hid (HB.out.below g3)
  clear HB x0 x1 x2 x3 x4 x5 F1
  obtain ⟨x0, x1, x2, x3, x4, x5, _⟩ := HB3.out.box
  cases b1
  · go_wp2_with fail
    (with_reducible refine (WK.out _ HB3.out.bel).mono ?_)
    rintro e w4 ⟨rfl, g4⟩
    go_wp2_with fail
    go_ret
    exact ⟨rfl, HB3.out.bel.trans (g4.mono HB3.out.bel.size)⟩
  have hS := Lib.hid (s1 rfl)
  clear s1 g3
  go_wp2_with fail
  (with_reducible refine (BT.out hS.out _ HB3.out).mono ?_)
  rintro e w4 ⟨g4, pr, (⟨hr, IB, rfl, hi, hmr⟩ | ⟨hr, rfl⟩)⟩
  rotate_left
  · have HB4 := Lib.hid (HB3.out.bel.trans (g4.mono HB3.out.bel.size))
    clear x0 x1 x2 x3 x4 x5 HB3 BT
    unfold ixV mdV
    go_wp2_with fail
    have G5 := Lib.hid (below_al1 w4 (.cells #[.string m.nm, .slice pr.a1 m.vars.length pr.c1, .slice pr.a2 m.evs.length pr.c2, .slice pr.a3 m.regs.length pr.c3, .slice pr.a4 m.vers.length pr.c4, .slice pr.a5 m.trns.length pr.c5] 50))
    (with_reducible refine (WK.out _ (HB4.out.trans (G5.out.mono HB4.out.size))).mono ?_)
    rintro e w5 ⟨rfl, g5⟩
    go_wp2_with fail
    go_ret
    exact ⟨rfl, (HB4.out.trans (G5.out.mono HB4.out.size)).trans (g5.mono (HB4.out.trans (G5.out.mono HB4.out.size)).size)⟩
  · have HB4 := Lib.hid (HB3.out.bel.trans (g4.mono HB3.out.bel.size))
    have HI := Lib.hid (hi.low HB3.out.bel.size)
    have HM := Lib.hid hmr
    have HR := Lib.hid hr
    clear x0 x1 x2 x3 x4 x5 HB3 BT hi hmr hr
    unfold ixV mdV
    have CS := Lib.hid (fun wx (g : Hid (Tl m pr IB w4.heap.size w wx)) (v1 v2 : Value) (l : List Int) (h1 : Hid (RowIn wx v1 l)) (h2 : Hid (RowIn wx v2 l)) (hl : l.length ≤ 1000000) => tls g.out h1.out h2.out hl)
    have h0 := HR.out
    have ha := HA.out
    have hv := hS.out.vr
    have hg := hS.out.rg
    have ht := hS.out.tr
    have C0 := Lib.hid (fun wx (g : Hid (Tl m pr IB w4.heap.size w wx)) => tl1 g.out (parent_any g.out.idx a ha))
    have C1 := Lib.hid (fun wx (g : Hid (Tl m pr IB w4.heap.size w wx)) => tl2 g.out (rparent16_any m pr a wx g.out.mod h0 (by omega) (by omega)) rfl)
    have C2 := Lib.hid (fun wx (g : Hid (Tl m pr IB w4.heap.size w wx)) => tl1 g.out (home_any g.out.idx a ha))
    have C3 := Lib.hid (fun wx (g : Hid (Tl m pr IB w4.heap.size w wx)) => tl2 g.out (rhome16_any m pr a wx g.out.mod h0 (by omega)) rfl)
    have C4 := Lib.hid (fun wx (g : Hid (Tl m pr IB w4.heap.size w wx)) => tl1 g.out (ixdepth_any g.out.idx a ha))
    have C5 := Lib.hid (fun wx (g : Hid (Tl m pr IB w4.heap.size w wx)) => tl2 g.out (rdepth16_any m pr a wx g.out.mod h0 (by omega) (by omega)) rfl)
    have C6 := Lib.hid (fun wx (g : Hid (Tl m pr IB w4.heap.size w wx)) => tl2 g.out (iunder_any g.out.idx a b h0) rfl)
    have C7 := Lib.hid (fun wx (g : Hid (Tl m pr IB w4.heap.size w wx)) => tl2 g.out (runder16_any m pr a b wx g.out.mod h0 (by omega) (by omega)) rfl)
    have C8 := Lib.hid (fun wx (g : Hid (Tl m pr IB w4.heap.size w wx)) => tl2 g.out (in_any g.out.idx a b h0) rfl)
    have C9 := Lib.hid (fun wx (g : Hid (Tl m pr IB w4.heap.size w wx)) => tl2 g.out (rin16_any m pr a b wx g.out.mod h0 (by omega) (by omega)) rfl)
    have C10 := Lib.hid (fun wx (g : Hid (Tl m pr IB w4.heap.size w wx)) => tl2 g.out (orth_any g.out.idx a b h0) rfl)
    have C11 := Lib.hid (fun wx (g : Hid (Tl m pr IB w4.heap.size w wx)) => tl2 g.out (rorth16_any m pr a b wx g.out.mod h0 (by omega) (by omega)) (congrArg Value.bool (orth_eq h0 a b).symm))
    have C12 := Lib.hid (fun wx (g : Hid (Tl m pr IB w4.heap.size w wx)) => tl1 g.out (icomp_any g.out.idx a ha))
    have C13 := Lib.hid (fun wx (g : Hid (Tl m pr IB w4.heap.size w wx)) => tl2 g.out (rcomp16_any m pr a wx g.out.mod (by omega) (by omega)) rfl)
    have D0 := Lib.hid (fun wx (g : Hid (Tl m pr IB w4.heap.size w wx)) => tlr (l' := kidsM m a) g.out (kids_any g.out.idx a (by omega)) (kidsR_eq h0 a))
    have E0 := Lib.hid (fun wx (g : Hid (Tl m pr IB w4.heap.size w wx)) => tlr (l' := kidsM m a) g.out (rkids16_any m pr a wx g.out.mod (by omega)) (rfl))
    have L0 : Hid ((kidsM m a).length ≤ 1000000) := Lib.hid (by have := sel_len (isKid a) m.vers; have e : (kidsM m a).length ≤ m.vers.length := this; omega)
    have D1 := Lib.hid (fun wx (g : Hid (Tl m pr IB w4.heap.size w wx)) => tlr (l' := ownM m a) g.out (regions_any g.out.idx a ha (by omega)) (rfl))
    have E1 := Lib.hid (fun wx (g : Hid (Tl m pr IB w4.heap.size w wx)) => tlr (l' := ownM m a) g.out (rregions16_any m pr a wx g.out.mod (by omega)) (rfl))
    have L1 : Hid ((ownM m a).length ≤ 1000000) := Lib.hid (by have := sel_len (isOwn a) m.regs; have e : (ownM m a).length ≤ m.regs.length := this; omega)
    have D2 := Lib.hid (fun wx (g : Hid (Tl m pr IB w4.heap.size w wx)) => tlr (l' := pntM m a) g.out (points_any g.out.idx a ha (by omega)) (rfl))
    have E2 := Lib.hid (fun wx (g : Hid (Tl m pr IB w4.heap.size w wx)) => tlr (l' := pntM m a) g.out (rpoints16_any m pr a wx g.out.mod (by omega)) (rfl))
    have L2 : Hid ((pntM m a).length ≤ 1000000) := Lib.hid (by have := sel_len (isPnt a) m.vers; have e : (pntM m a).length ≤ m.vers.length := this; omega)
    have D3 := Lib.hid (fun wx (g : Hid (Tl m pr IB w4.heap.size w wx)) => tlr (l' := outM m a) g.out (out_any g.out.idx a (by omega)) (outR_eq h0 a))
    have E3 := Lib.hid (fun wx (g : Hid (Tl m pr IB w4.heap.size w wx)) => tlr (l' := outM m a) g.out (rout16_any m pr a wx g.out.mod (by omega)) (rfl))
    have L3 : Hid ((outM m a).length ≤ 1000000) := Lib.hid (by have := sel_len (isOut a) m.trns; have e : (outM m a).length ≤ m.trns.length := this; omega)
    have D4 := Lib.hid (fun wx (g : Hid (Tl m pr IB w4.heap.size w wx)) => tlr (l' := intoM m a) g.out (into_any g.out.idx a (by omega)) (intoR_eq h0 a))
    have E4 := Lib.hid (fun wx (g : Hid (Tl m pr IB w4.heap.size w wx)) => tlr (l' := intoM m a) g.out (rinto16_any m pr a wx g.out.mod (by omega)) (rfl))
    have L4 : Hid ((intoM m a).length ≤ 1000000) := Lib.hid (by have := sel_len (isInto a) m.trns; have e : (intoM m a).length ≤ m.trns.length := this; omega)
    have D5 := Lib.hid (fun wx (g : Hid (Tl m pr IB w4.heap.size w wx)) => tlr (l' := chainM m a) g.out (chain_any g.out.idx a h0) (rfl))
    have E5 := Lib.hid (fun wx (g : Hid (Tl m pr IB w4.heap.size w wx)) => tlr (l' := chainM m a) g.out (rchain16_any m pr a wx g.out.mod h0 (by omega) (by omega)) (rfl))
    have L5 : Hid ((chainM m a).length ≤ 1000000) := Lib.hid (by have := chainM_le h0 a; omega)
    have K1 := Lib.hid (fun wx (g : Hid (Tl m pr IB w4.heap.size w wx)) => tl3 g.out (common_any g.out.idx a b (.slice none 0 0) [] (by simp) (.inl ⟨none, 0, rfl, rfl⟩) h0))
    have K2 := Lib.hid (fun wx (g : Hid (Tl m pr IB w4.heap.size w wx)) (lv : Value) (hr : Hid (RowIn wx lv [a, b])) => tl2 (u' := .int .i64 (commonM m a [b])) g.out (rcommon16_any m pr [a, b] lv wx g.out.mod h0 hr.out (by simp) (by omega) (by omega)) (by rw [common_eq h0 a [b] [a, b] (fun x => by simp)]))
    have W8 := Lib.hid (fun wx (g : Hid (Tl m pr IB w4.heap.size w wx)) => WK.out wx g.out.bel)
    unfold ixV mdV at C1 C3 C5 C7 C9 C11 C13 E0 E1 E2 E3 E4 E5 K2
    clear h0 ha hv hg ht HA
    have G5 := Lib.hid (below_al1 w4 (.cells #[.string m.nm, .slice pr.a1 m.vars.length pr.c1, .slice pr.a2 m.evs.length pr.c2, .slice pr.a3 m.regs.length pr.c3, .slice pr.a4 m.vers.length pr.c4, .slice pr.a5 m.trns.length pr.c5] 50))
    have HT : Hid (Tl m pr IB w4.heap.size w (w4.alloc (.cells #[.string m.nm, .slice pr.a1 m.vars.length pr.c1, .slice pr.a2 m.evs.length pr.c2, .slice pr.a3 m.regs.length pr.c3, .slice pr.a4 m.vers.length pr.c4, .slice pr.a5 m.trns.length pr.c5] 50))) := Lib.hid ⟨HB4.out.trans (G5.out.mono HB4.out.size), HI.out.grown G5.out, HM.out.below G5.out, boxT w4 m pr _⟩
    clear G5 HB4 HI HM
    go_upto_region 6 with fail
    generalize w4.alloc (.cells #[.string m.nm, .slice pr.a1 m.vars.length pr.c1, .slice pr.a2 m.evs.length pr.c2, .slice pr.a3 m.regs.length pr.c3, .slice pr.a4 m.vers.length pr.c4, .slice pr.a5 m.trns.length pr.c5] 50) = W5 at *
    have HSS : Hid (∀ W', Hid (Tl m pr IB w4.heap.size w W') → (W'.cell? ⟨w4.heap.size, 0, none⟩ = some (.string m.nm) ∧ W'.cell? ⟨w4.heap.size, 1, none⟩ = some (.slice pr.a1 m.vars.length pr.c1) ∧ W'.cell? ⟨w4.heap.size, 2, none⟩ = some (.slice pr.a2 m.evs.length pr.c2) ∧ W'.cell? ⟨w4.heap.size, 3, none⟩ = some (.slice pr.a3 m.regs.length pr.c3) ∧ W'.cell? ⟨w4.heap.size, 4, none⟩ = some (.slice pr.a4 m.vers.length pr.c4) ∧ W'.cell? ⟨w4.heap.size, 5, none⟩ = some (.slice pr.a5 m.trns.length pr.c5))) := Lib.hid fun W' g => by
      obtain ⟨x0, x1, x2, x3, x4, x5, _⟩ := g.out.box
      exact ⟨x0, x1, x2, x3, x4, x5⟩
    have HTd : Hid (Tl m pr IB w4.heap.size w W5.drew) := Lib.hid (HT.out.below (Below.refl _ _).drew)
    refine wp_region_any (by kernel_rfl) ?_
    change wpAny _ _ _ _ _ _ _ (World.drew _)
    refine wpAny_of_heldS (S := (fun W' => (W'.cell? ⟨w4.heap.size, 0, none⟩ = some (.string m.nm) ∧ W'.cell? ⟨w4.heap.size, 1, none⟩ = some (.slice pr.a1 m.vars.length pr.c1) ∧ W'.cell? ⟨w4.heap.size, 2, none⟩ = some (.slice pr.a2 m.evs.length pr.c2) ∧ W'.cell? ⟨w4.heap.size, 3, none⟩ = some (.slice pr.a3 m.regs.length pr.c3) ∧ W'.cell? ⟨w4.heap.size, 4, none⟩ = some (.slice pr.a4 m.vers.length pr.c4) ∧ W'.cell? ⟨w4.heap.size, 5, none⟩ = some (.slice pr.a5 m.trns.length pr.c5)))) ?_ (fun hHeld => ?_)
    · (try dsimp only) <;> (exact HSS.out _ (by assumption))
    refine wpAnyH_take (i := 0) (oi := { dst := some 28, op := Go.Op.move (Go.Operand.tmp 7), type := 42, pos := "law.go:36", after := #[], guard := none }) (v := ?_) rfl (by kernel_rfl) (by kernel_rfl) (by kernel_rfl) (fun _ _ _ h => h) (Or.inl ⟨by rfl, ?_⟩) (by assumption) ?_
    rotate_left
    (intro w hSw; (try dsimp only at hSw); go_simp <;> with_reducible rfl)
    try simp only [Act.put, List.setIfInBounds_toArray, List.set_cons_zero, List.set_cons_succ]
    refine wpAnyH_take (i := 1) (oi := { dst := some 29, op := Go.Op.move (Go.Operand.tmp 1), type := 3, pos := "law.go:36", after := #[], guard := none }) (v := ?_) rfl (by kernel_rfl) (by kernel_rfl) (by kernel_rfl) (fun _ _ _ h => h) (Or.inl ⟨by rfl, ?_⟩) (by assumption) ?_
    rotate_left
    (intro w hSw; (try dsimp only at hSw); go_simp <;> with_reducible rfl)
    try simp only [Act.put, List.setIfInBounds_toArray, List.set_cons_zero, List.set_cons_succ]
    refine wpAnyH_take (i := 3) (oi := { dst := some 31, op := Go.Op.load 50 (Go.Operand.tmp 8), type := 50, pos := "law.go:36", after := #[], guard := none }) (v := ?_) rfl (by kernel_rfl) (by kernel_rfl) (by kernel_rfl) (fun _ _ _ h => h) (Or.inl ⟨by rfl, ?_⟩) (by assumption) ?_
    rotate_left
    (intro w hSw; (try dsimp only at hSw); go_simp <;> with_reducible rfl)
    try simp only [Act.put, List.setIfInBounds_toArray, List.set_cons_zero, List.set_cons_succ]
    refine wpAnyH_take (i := 4) (oi := { dst := some 32, op := Go.Op.move (Go.Operand.tmp 1), type := 3, pos := "law.go:36", after := #[], guard := none }) (v := ?_) rfl (by kernel_rfl) (by kernel_rfl) (by kernel_rfl) (fun _ _ _ h => h) (Or.inl ⟨by rfl, ?_⟩) (by assumption) ?_
    rotate_left
    (intro w hSw; (try dsimp only at hSw); go_simp <;> with_reducible rfl)
    try simp only [Act.put, List.setIfInBounds_toArray, List.set_cons_zero, List.set_cons_succ]
    refine wpAnyH_ready (rs := [2]) (by kernel_rfl) (by simp) ?_
    refine AllReadyH.cons (o := { dst := some 30, op := Go.Op.call { callee := Go.Callee.value (Go.Operand.func 49), args := #[Go.Operand.tmp 28, Go.Operand.tmp 29], argTypes := #[42, 3] }, type := 3, pos := "law.go:36", after := #[{ on := 0, ground := Go.Ground.data }, { on := 1, ground := Go.Ground.data }], guard := none }) rfl (fun K hK => ?_) ?_
    (go_simp; (with_reducible refine (C0.out _ (by assumption)).mono ?_); rintro e v1 ⟨rfl, hn1⟩; go_wp2_with fail)
    refine hK.out _ _ ?_ (fun hH1 => ?_)
    · (try dsimp only) <;> (exact HSS.out _ (by assumption))
    clear hK K hHeld
    try simp only [Act.put, List.setIfInBounds_toArray, List.set_cons_zero, List.set_cons_succ]
    refine wpAnyH_ready (rs := [5]) (by kernel_rfl) (by simp) ?_
    refine AllReadyH.cons (o := { dst := some 33, op := Go.Op.call { callee := Go.Callee.value (Go.Operand.func 50), args := #[Go.Operand.tmp 31, Go.Operand.tmp 32], argTypes := #[50, 3] }, type := 3, pos := "law.go:36", after := #[{ on := 3, ground := Go.Ground.data }, { on := 4, ground := Go.Ground.data }, { on := 2, ground := Go.Ground.chain }], guard := none }) rfl (fun K hK => ?_) ?_
    (go_simp; (with_reducible refine (C1.out _ (by assumption)).mono ?_); rintro e v2 ⟨rfl, hn2⟩; go_wp2_with fail)
    refine hK.out _ _ ?_ (fun hH2 => ?_)
    · (try dsimp only) <;> (exact HSS.out _ (by assumption))
    clear hK K hH1
    try simp only [Act.put, List.setIfInBounds_toArray, List.set_cons_zero, List.set_cons_succ]
    refine wpAnyH_take (i := 6) (oi := { dst := some 34, op := Go.Op.binOp Go.BinOp.neq 3 (Go.Operand.tmp 30) (Go.Operand.tmp 33) 3, type := 4, pos := "law.go:36", after := #[{ on := 2, ground := Go.Ground.data }, { on := 5, ground := Go.Ground.data }], guard := none }) (v := ?_) rfl (by kernel_rfl) (by kernel_rfl) (by kernel_rfl) (fun _ _ _ h => h) (Or.inl ⟨by rfl, ?_⟩) (by assumption) ?_
    rotate_left
    (intro w hSw; (try dsimp only at hSw); go_simp <;> with_reducible rfl)
    try simp only [Act.put, List.setIfInBounds_toArray, List.set_cons_zero, List.set_cons_succ]
    refine wpAnyH_take (i := 7) (oi := { dst := some 35, op := Go.Op.move (Go.Operand.tmp 34), type := 4, pos := "law.go:36", after := #[{ on := 6, ground := Go.Ground.data }, { on := 5, ground := Go.Ground.chain }], guard := none }) (v := ?_) rfl (by kernel_rfl) (by kernel_rfl) (by kernel_rfl) (fun _ _ _ h => h) (Or.inl ⟨by rfl, ?_⟩) (by assumption) ?_
    rotate_left
    (intro w hSw; (try dsimp only at hSw); go_simp <;> with_reducible rfl)
    try simp only [Act.put, List.setIfInBounds_toArray, List.set_cons_zero, List.set_cons_succ]
    refine wpAnyH_take (i := 8) (oi := { dst := some 36, op := Go.Op.move (Go.Operand.tmp 7), type := 42, pos := "law.go:36", after := #[{ on := 7, ground := Go.Ground.guard }], guard := some (7, false) }) (v := ?_) rfl (by kernel_rfl) (by kernel_rfl) (by kernel_rfl) (fun _ _ _ h => h) (Or.inl ⟨by rfl, ?_⟩) (by assumption) ?_
    rotate_left
    (intro w hSw; (try dsimp only at hSw); go_simp <;> with_reducible rfl)
    try simp only [Act.put, List.setIfInBounds_toArray, List.set_cons_zero, List.set_cons_succ]
    refine wpAnyH_take (i := 9) (oi := { dst := some 37, op := Go.Op.move (Go.Operand.tmp 1), type := 3, pos := "law.go:36", after := #[{ on := 7, ground := Go.Ground.guard }], guard := some (7, false) }) (v := ?_) rfl (by kernel_rfl) (by kernel_rfl) (by kernel_rfl) (fun _ _ _ h => h) (Or.inl ⟨by rfl, ?_⟩) (by assumption) ?_
    rotate_left
    (intro w hSw; (try dsimp only at hSw); go_simp <;> with_reducible rfl)
    try simp only [Act.put, List.setIfInBounds_toArray, List.set_cons_zero, List.set_cons_succ]
    refine wpAnyH_take (i := 11) (oi := { dst := some 39, op := Go.Op.load 50 (Go.Operand.tmp 8), type := 50, pos := "law.go:36", after := #[{ on := 7, ground := Go.Ground.guard }], guard := some (7, false) }) (v := ?_) rfl (by kernel_rfl) (by kernel_rfl) (by kernel_rfl) (fun _ _ _ h => h) (Or.inl ⟨by rfl, ?_⟩) (by assumption) ?_
    rotate_left
    (intro w hSw; (try dsimp only at hSw); go_simp <;> with_reducible rfl)
    try simp only [Act.put, List.setIfInBounds_toArray, List.set_cons_zero, List.set_cons_succ]
    refine wpAnyH_take (i := 12) (oi := { dst := some 40, op := Go.Op.move (Go.Operand.tmp 1), type := 3, pos := "law.go:36", after := #[{ on := 7, ground := Go.Ground.guard }], guard := some (7, false) }) (v := ?_) rfl (by kernel_rfl) (by kernel_rfl) (by kernel_rfl) (fun _ _ _ h => h) (Or.inl ⟨by rfl, ?_⟩) (by assumption) ?_
    rotate_left
    (intro w hSw; (try dsimp only at hSw); go_simp <;> with_reducible rfl)
    try simp only [Act.put, List.setIfInBounds_toArray, List.set_cons_zero, List.set_cons_succ]
    refine wpAnyH_ready (rs := [10]) (by kernel_rfl) (by simp) ?_
    refine AllReadyH.cons (o := { dst := some 38, op := Go.Op.call { callee := Go.Callee.value (Go.Operand.func 51), args := #[Go.Operand.tmp 36, Go.Operand.tmp 37], argTypes := #[42, 3] }, type := 3, pos := "law.go:36", after := #[{ on := 8, ground := Go.Ground.data }, { on := 9, ground := Go.Ground.data }, { on := 7, ground := Go.Ground.chain }, { on := 7, ground := Go.Ground.guard }], guard := some (7, false) }) rfl (fun K hK => ?_) ?_
    (go_simp; (with_reducible refine (C2.out _ (by assumption)).mono ?_); rintro e v3 ⟨rfl, hn3⟩; go_wp2_with fail)
    refine hK.out _ _ ?_ (fun hH3 => ?_)
    · (try dsimp only) <;> (exact HSS.out _ (by assumption))
    clear hK K hH2
    try simp only [Act.put, List.setIfInBounds_toArray, List.set_cons_zero, List.set_cons_succ]
    refine wpAnyH_ready (rs := [13]) (by kernel_rfl) (by simp) ?_
    refine AllReadyH.cons (o := { dst := some 41, op := Go.Op.call { callee := Go.Callee.value (Go.Operand.func 52), args := #[Go.Operand.tmp 39, Go.Operand.tmp 40], argTypes := #[50, 3] }, type := 3, pos := "law.go:36", after := #[{ on := 11, ground := Go.Ground.data }, { on := 12, ground := Go.Ground.data }, { on := 10, ground := Go.Ground.chain }, { on := 7, ground := Go.Ground.guard }], guard := some (7, false) }) rfl (fun K hK => ?_) ?_
    (go_simp; (with_reducible refine (C3.out _ (by assumption)).mono ?_); rintro e v4 ⟨rfl, hn4⟩; go_wp2_with fail)
    refine hK.out _ _ ?_ (fun hH4 => ?_)
    · (try dsimp only) <;> (exact HSS.out _ (by assumption))
    clear hK K hH3
    try simp only [Act.put, List.setIfInBounds_toArray, List.set_cons_zero, List.set_cons_succ]
    refine wpAnyH_take (i := 14) (oi := { dst := some 42, op := Go.Op.binOp Go.BinOp.neq 3 (Go.Operand.tmp 38) (Go.Operand.tmp 41) 3, type := 4, pos := "law.go:36", after := #[{ on := 10, ground := Go.Ground.data }, { on := 13, ground := Go.Ground.data }, { on := 7, ground := Go.Ground.guard }], guard := some (7, false) }) (v := ?_) rfl (by kernel_rfl) (by kernel_rfl) (by kernel_rfl) (fun _ _ _ h => h) (Or.inl ⟨by rfl, ?_⟩) (by assumption) ?_
    rotate_left
    (intro w hSw; (try dsimp only at hSw); go_simp <;> with_reducible rfl)
    try simp only [Act.put, List.setIfInBounds_toArray, List.set_cons_zero, List.set_cons_succ]
    refine wpAnyH_take (i := 15) (oi := { dst := some 43, op := Go.Op.pick (Go.Operand.tmp 35) (Go.Operand.const (Go.Value.bool true)) (Go.Operand.tmp 42), type := 4, pos := "law.go:36", after := #[{ on := 7, ground := Go.Ground.data }, { on := 14, ground := Go.Ground.data }], guard := none }) (v := ?_) rfl (by kernel_rfl) (by kernel_rfl) (by kernel_rfl) (fun _ _ _ h => h) (Or.inl ⟨by rfl, ?_⟩) (by assumption) ?_
    rotate_left
    (intro w hSw; (try dsimp only at hSw); go_simp <;> with_reducible rfl)
    try simp only [Act.put, List.setIfInBounds_toArray, List.set_cons_zero, List.set_cons_succ]
    refine wpAnyH_take (i := 16) (oi := { dst := some 44, op := Go.Op.move (Go.Operand.tmp 43), type := 4, pos := "law.go:36", after := #[{ on := 15, ground := Go.Ground.data }, { on := 13, ground := Go.Ground.chain }], guard := none }) (v := ?_) rfl (by kernel_rfl) (by kernel_rfl) (by kernel_rfl) (fun _ _ _ h => h) (Or.inl ⟨by rfl, ?_⟩) (by assumption) ?_
    rotate_left
    (intro w hSw; (try dsimp only at hSw); go_simp <;> with_reducible rfl)
    try simp only [Act.put, List.setIfInBounds_toArray, List.set_cons_zero, List.set_cons_succ]
    refine wpAnyH_take (i := 17) (oi := { dst := some 45, op := Go.Op.move (Go.Operand.tmp 7), type := 42, pos := "law.go:36", after := #[{ on := 16, ground := Go.Ground.guard }], guard := some (16, false) }) (v := ?_) rfl (by kernel_rfl) (by kernel_rfl) (by kernel_rfl) (fun _ _ _ h => h) (Or.inl ⟨by rfl, ?_⟩) (by assumption) ?_
    rotate_left
    (intro w hSw; (try dsimp only at hSw); go_simp <;> with_reducible rfl)
    try simp only [Act.put, List.setIfInBounds_toArray, List.set_cons_zero, List.set_cons_succ]
    refine wpAnyH_take (i := 18) (oi := { dst := some 46, op := Go.Op.move (Go.Operand.tmp 1), type := 3, pos := "law.go:36", after := #[{ on := 16, ground := Go.Ground.guard }], guard := some (16, false) }) (v := ?_) rfl (by kernel_rfl) (by kernel_rfl) (by kernel_rfl) (fun _ _ _ h => h) (Or.inl ⟨by rfl, ?_⟩) (by assumption) ?_
    rotate_left
    (intro w hSw; (try dsimp only at hSw); go_simp <;> with_reducible rfl)
    try simp only [Act.put, List.setIfInBounds_toArray, List.set_cons_zero, List.set_cons_succ]
    refine wpAnyH_take (i := 20) (oi := { dst := some 48, op := Go.Op.load 50 (Go.Operand.tmp 8), type := 50, pos := "law.go:36", after := #[{ on := 16, ground := Go.Ground.guard }], guard := some (16, false) }) (v := ?_) rfl (by kernel_rfl) (by kernel_rfl) (by kernel_rfl) (fun _ _ _ h => h) (Or.inl ⟨by rfl, ?_⟩) (by assumption) ?_
    rotate_left
    (intro w hSw; (try dsimp only at hSw); go_simp <;> with_reducible rfl)
    try simp only [Act.put, List.setIfInBounds_toArray, List.set_cons_zero, List.set_cons_succ]
    refine wpAnyH_take (i := 21) (oi := { dst := some 49, op := Go.Op.move (Go.Operand.tmp 1), type := 3, pos := "law.go:36", after := #[{ on := 16, ground := Go.Ground.guard }], guard := some (16, false) }) (v := ?_) rfl (by kernel_rfl) (by kernel_rfl) (by kernel_rfl) (fun _ _ _ h => h) (Or.inl ⟨by rfl, ?_⟩) (by assumption) ?_
    rotate_left
    (intro w hSw; (try dsimp only at hSw); go_simp <;> with_reducible rfl)
    try simp only [Act.put, List.setIfInBounds_toArray, List.set_cons_zero, List.set_cons_succ]
    refine wpAnyH_ready (rs := [19]) (by kernel_rfl) (by simp) ?_
    refine AllReadyH.cons (o := { dst := some 47, op := Go.Op.call { callee := Go.Callee.value (Go.Operand.func 30), args := #[Go.Operand.tmp 45, Go.Operand.tmp 46], argTypes := #[42, 3] }, type := 3, pos := "law.go:36", after := #[{ on := 17, ground := Go.Ground.data }, { on := 18, ground := Go.Ground.data }, { on := 16, ground := Go.Ground.chain }, { on := 16, ground := Go.Ground.guard }], guard := some (16, false) }) rfl (fun K hK => ?_) ?_
    (go_simp; (with_reducible refine (C4.out _ (by assumption)).mono ?_); rintro e v5 ⟨rfl, hn5⟩; go_wp2_with fail)
    refine hK.out _ _ ?_ (fun hH5 => ?_)
    · (try dsimp only) <;> (exact HSS.out _ (by assumption))
    clear hK K hH4
    try simp only [Act.put, List.setIfInBounds_toArray, List.set_cons_zero, List.set_cons_succ]
    refine wpAnyH_ready (rs := [22]) (by kernel_rfl) (by simp) ?_
    refine AllReadyH.cons (o := { dst := some 50, op := Go.Op.call { callee := Go.Callee.value (Go.Operand.func 53), args := #[Go.Operand.tmp 48, Go.Operand.tmp 49], argTypes := #[50, 3] }, type := 3, pos := "law.go:36", after := #[{ on := 20, ground := Go.Ground.data }, { on := 21, ground := Go.Ground.data }, { on := 19, ground := Go.Ground.chain }, { on := 16, ground := Go.Ground.guard }], guard := some (16, false) }) rfl (fun K hK => ?_) ?_
    (go_simp; (with_reducible refine (C5.out _ (by assumption)).mono ?_); rintro e v6 ⟨rfl, hn6⟩; go_wp2_with fail)
    refine hK.out _ _ ?_ (fun hH6 => ?_)
    · (try dsimp only) <;> (exact HSS.out _ (by assumption))
    clear hK K hH5
    try simp only [Act.put, List.setIfInBounds_toArray, List.set_cons_zero, List.set_cons_succ]
    refine wpAnyH_take (i := 23) (oi := { dst := some 51, op := Go.Op.binOp Go.BinOp.neq 3 (Go.Operand.tmp 47) (Go.Operand.tmp 50) 3, type := 4, pos := "law.go:36", after := #[{ on := 19, ground := Go.Ground.data }, { on := 22, ground := Go.Ground.data }, { on := 16, ground := Go.Ground.guard }], guard := some (16, false) }) (v := ?_) rfl (by kernel_rfl) (by kernel_rfl) (by kernel_rfl) (fun _ _ _ h => h) (Or.inl ⟨by rfl, ?_⟩) (by assumption) ?_
    rotate_left
    (intro w hSw; (try dsimp only at hSw); go_simp <;> with_reducible rfl)
    try simp only [Act.put, List.setIfInBounds_toArray, List.set_cons_zero, List.set_cons_succ]
    refine wpAnyH_take (i := 24) (oi := { dst := some 52, op := Go.Op.pick (Go.Operand.tmp 44) (Go.Operand.const (Go.Value.bool true)) (Go.Operand.tmp 51), type := 4, pos := "law.go:36", after := #[{ on := 16, ground := Go.Ground.data }, { on := 23, ground := Go.Ground.data }], guard := none }) (v := ?_) rfl (by kernel_rfl) (by kernel_rfl) (by kernel_rfl) (fun _ _ _ h => h) (Or.inl ⟨by rfl, ?_⟩) (by assumption) ?_
    rotate_left
    (intro w hSw; (try dsimp only at hSw); go_simp <;> with_reducible rfl)
    try simp only [Act.put, List.setIfInBounds_toArray, List.set_cons_zero, List.set_cons_succ]
    refine wpAnyH_take (i := 25) (oi := { dst := some 53, op := Go.Op.move (Go.Operand.tmp 52), type := 4, pos := "law.go:36", after := #[{ on := 24, ground := Go.Ground.data }, { on := 22, ground := Go.Ground.chain }], guard := none }) (v := ?_) rfl (by kernel_rfl) (by kernel_rfl) (by kernel_rfl) (fun _ _ _ h => h) (Or.inl ⟨by rfl, ?_⟩) (by assumption) ?_
    rotate_left
    (intro w hSw; (try dsimp only at hSw); go_simp <;> with_reducible rfl)
    try simp only [Act.put, List.setIfInBounds_toArray, List.set_cons_zero, List.set_cons_succ]
    refine wpAnyH_take (i := 26) (oi := { dst := some 54, op := Go.Op.move (Go.Operand.tmp 7), type := 42, pos := "law.go:36", after := #[{ on := 25, ground := Go.Ground.guard }], guard := some (25, false) }) (v := ?_) rfl (by kernel_rfl) (by kernel_rfl) (by kernel_rfl) (fun _ _ _ h => h) (Or.inl ⟨by rfl, ?_⟩) (by assumption) ?_
    rotate_left
    (intro w hSw; (try dsimp only at hSw); go_simp <;> with_reducible rfl)
    try simp only [Act.put, List.setIfInBounds_toArray, List.set_cons_zero, List.set_cons_succ]
    refine wpAnyH_take (i := 27) (oi := { dst := some 55, op := Go.Op.move (Go.Operand.tmp 1), type := 3, pos := "law.go:36", after := #[{ on := 25, ground := Go.Ground.guard }], guard := some (25, false) }) (v := ?_) rfl (by kernel_rfl) (by kernel_rfl) (by kernel_rfl) (fun _ _ _ h => h) (Or.inl ⟨by rfl, ?_⟩) (by assumption) ?_
    rotate_left
    (intro w hSw; (try dsimp only at hSw); go_simp <;> with_reducible rfl)
    try simp only [Act.put, List.setIfInBounds_toArray, List.set_cons_zero, List.set_cons_succ]
    refine wpAnyH_take (i := 28) (oi := { dst := some 56, op := Go.Op.move (Go.Operand.tmp 2), type := 3, pos := "law.go:36", after := #[{ on := 25, ground := Go.Ground.guard }], guard := some (25, false) }) (v := ?_) rfl (by kernel_rfl) (by kernel_rfl) (by kernel_rfl) (fun _ _ _ h => h) (Or.inl ⟨by rfl, ?_⟩) (by assumption) ?_
    rotate_left
    (intro w hSw; (try dsimp only at hSw); go_simp <;> with_reducible rfl)
    try simp only [Act.put, List.setIfInBounds_toArray, List.set_cons_zero, List.set_cons_succ]
    refine wpAnyH_take (i := 30) (oi := { dst := some 58, op := Go.Op.load 50 (Go.Operand.tmp 8), type := 50, pos := "law.go:36", after := #[{ on := 25, ground := Go.Ground.guard }], guard := some (25, false) }) (v := ?_) rfl (by kernel_rfl) (by kernel_rfl) (by kernel_rfl) (fun _ _ _ h => h) (Or.inl ⟨by rfl, ?_⟩) (by assumption) ?_
    rotate_left
    (intro w hSw; (try dsimp only at hSw); go_simp <;> with_reducible rfl)
    try simp only [Act.put, List.setIfInBounds_toArray, List.set_cons_zero, List.set_cons_succ]
    refine wpAnyH_take (i := 31) (oi := { dst := some 59, op := Go.Op.move (Go.Operand.tmp 1), type := 3, pos := "law.go:36", after := #[{ on := 25, ground := Go.Ground.guard }], guard := some (25, false) }) (v := ?_) rfl (by kernel_rfl) (by kernel_rfl) (by kernel_rfl) (fun _ _ _ h => h) (Or.inl ⟨by rfl, ?_⟩) (by assumption) ?_
    rotate_left
    (intro w hSw; (try dsimp only at hSw); go_simp <;> with_reducible rfl)
    try simp only [Act.put, List.setIfInBounds_toArray, List.set_cons_zero, List.set_cons_succ]
    refine wpAnyH_take (i := 32) (oi := { dst := some 60, op := Go.Op.move (Go.Operand.tmp 2), type := 3, pos := "law.go:36", after := #[{ on := 25, ground := Go.Ground.guard }], guard := some (25, false) }) (v := ?_) rfl (by kernel_rfl) (by kernel_rfl) (by kernel_rfl) (fun _ _ _ h => h) (Or.inl ⟨by rfl, ?_⟩) (by assumption) ?_
    rotate_left
    (intro w hSw; (try dsimp only at hSw); go_simp <;> with_reducible rfl)
    try simp only [Act.put, List.setIfInBounds_toArray, List.set_cons_zero, List.set_cons_succ]
    refine wpAnyH_ready (rs := [29]) (by kernel_rfl) (by simp) ?_
    refine AllReadyH.cons (o := { dst := some 57, op := Go.Op.call { callee := Go.Callee.value (Go.Operand.func 54), args := #[Go.Operand.tmp 54, Go.Operand.tmp 55, Go.Operand.tmp 56], argTypes := #[42, 3, 3] }, type := 4, pos := "law.go:36", after := #[{ on := 26, ground := Go.Ground.data }, { on := 27, ground := Go.Ground.data }, { on := 28, ground := Go.Ground.data }, { on := 25, ground := Go.Ground.chain }, { on := 25, ground := Go.Ground.guard }], guard := some (25, false) }) rfl (fun K hK => ?_) ?_
    (go_simp; (with_reducible refine (C6.out _ (by assumption)).mono ?_); rintro e v7 ⟨rfl, hn7⟩; go_wp2_with fail)
    refine hK.out _ _ ?_ (fun hH7 => ?_)
    · (try dsimp only) <;> (exact HSS.out _ (by assumption))
    clear hK K hH6
    try simp only [Act.put, List.setIfInBounds_toArray, List.set_cons_zero, List.set_cons_succ]
    refine wpAnyH_ready (rs := [33]) (by kernel_rfl) (by simp) ?_
    refine AllReadyH.cons (o := { dst := some 61, op := Go.Op.call { callee := Go.Callee.value (Go.Operand.func 55), args := #[Go.Operand.tmp 58, Go.Operand.tmp 59, Go.Operand.tmp 60], argTypes := #[50, 3, 3] }, type := 4, pos := "law.go:36", after := #[{ on := 30, ground := Go.Ground.data }, { on := 31, ground := Go.Ground.data }, { on := 32, ground := Go.Ground.data }, { on := 29, ground := Go.Ground.chain }, { on := 25, ground := Go.Ground.guard }], guard := some (25, false) }) rfl (fun K hK => ?_) ?_
    (go_simp; (with_reducible refine (C7.out _ (by assumption)).mono ?_); rintro e v8 ⟨rfl, hn8⟩; go_wp2_with fail)
    refine hK.out _ _ ?_ (fun hH8 => ?_)
    · (try dsimp only) <;> (exact HSS.out _ (by assumption))
    clear hK K hH7
    try simp only [Act.put, List.setIfInBounds_toArray, List.set_cons_zero, List.set_cons_succ]
    refine wpAnyH_take (i := 34) (oi := { dst := some 62, op := Go.Op.binOp Go.BinOp.neq 4 (Go.Operand.tmp 57) (Go.Operand.tmp 61) 4, type := 4, pos := "law.go:36", after := #[{ on := 29, ground := Go.Ground.data }, { on := 33, ground := Go.Ground.data }, { on := 25, ground := Go.Ground.guard }], guard := some (25, false) }) (v := ?_) rfl (by kernel_rfl) (by kernel_rfl) (by kernel_rfl) (fun _ _ _ h => h) (Or.inl ⟨by rfl, ?_⟩) (by assumption) ?_
    rotate_left
    (intro w hSw; (try dsimp only at hSw); go_simp <;> with_reducible rfl)
    try simp only [Act.put, List.setIfInBounds_toArray, List.set_cons_zero, List.set_cons_succ]
    refine wpAnyH_take (i := 35) (oi := { dst := some 63, op := Go.Op.pick (Go.Operand.tmp 53) (Go.Operand.const (Go.Value.bool true)) (Go.Operand.tmp 62), type := 4, pos := "law.go:36", after := #[{ on := 25, ground := Go.Ground.data }, { on := 34, ground := Go.Ground.data }], guard := none }) (v := ?_) rfl (by kernel_rfl) (by kernel_rfl) (by kernel_rfl) (fun _ _ _ h => h) (Or.inl ⟨by rfl, ?_⟩) (by assumption) ?_
    rotate_left
    (intro w hSw; (try dsimp only at hSw); go_simp <;> with_reducible rfl)
    try simp only [Act.put, List.setIfInBounds_toArray, List.set_cons_zero, List.set_cons_succ]
    refine wpAnyH_take (i := 36) (oi := { dst := some 64, op := Go.Op.move (Go.Operand.tmp 63), type := 4, pos := "law.go:36", after := #[{ on := 35, ground := Go.Ground.data }, { on := 33, ground := Go.Ground.chain }], guard := none }) (v := ?_) rfl (by kernel_rfl) (by kernel_rfl) (by kernel_rfl) (fun _ _ _ h => h) (Or.inl ⟨by rfl, ?_⟩) (by assumption) ?_
    rotate_left
    (intro w hSw; (try dsimp only at hSw); go_simp <;> with_reducible rfl)
    try simp only [Act.put, List.setIfInBounds_toArray, List.set_cons_zero, List.set_cons_succ]
    refine wpAnyH_take (i := 37) (oi := { dst := some 65, op := Go.Op.move (Go.Operand.tmp 7), type := 42, pos := "law.go:36", after := #[{ on := 36, ground := Go.Ground.guard }], guard := some (36, false) }) (v := ?_) rfl (by kernel_rfl) (by kernel_rfl) (by kernel_rfl) (fun _ _ _ h => h) (Or.inl ⟨by rfl, ?_⟩) (by assumption) ?_
    rotate_left
    (intro w hSw; (try dsimp only at hSw); go_simp <;> with_reducible rfl)
    try simp only [Act.put, List.setIfInBounds_toArray, List.set_cons_zero, List.set_cons_succ]
    refine wpAnyH_take (i := 38) (oi := { dst := some 66, op := Go.Op.move (Go.Operand.tmp 1), type := 3, pos := "law.go:36", after := #[{ on := 36, ground := Go.Ground.guard }], guard := some (36, false) }) (v := ?_) rfl (by kernel_rfl) (by kernel_rfl) (by kernel_rfl) (fun _ _ _ h => h) (Or.inl ⟨by rfl, ?_⟩) (by assumption) ?_
    rotate_left
    (intro w hSw; (try dsimp only at hSw); go_simp <;> with_reducible rfl)
    try simp only [Act.put, List.setIfInBounds_toArray, List.set_cons_zero, List.set_cons_succ]
    refine wpAnyH_take (i := 39) (oi := { dst := some 67, op := Go.Op.move (Go.Operand.tmp 2), type := 3, pos := "law.go:36", after := #[{ on := 36, ground := Go.Ground.guard }], guard := some (36, false) }) (v := ?_) rfl (by kernel_rfl) (by kernel_rfl) (by kernel_rfl) (fun _ _ _ h => h) (Or.inl ⟨by rfl, ?_⟩) (by assumption) ?_
    rotate_left
    (intro w hSw; (try dsimp only at hSw); go_simp <;> with_reducible rfl)
    try simp only [Act.put, List.setIfInBounds_toArray, List.set_cons_zero, List.set_cons_succ]
    refine wpAnyH_take (i := 41) (oi := { dst := some 69, op := Go.Op.load 50 (Go.Operand.tmp 8), type := 50, pos := "law.go:36", after := #[{ on := 36, ground := Go.Ground.guard }], guard := some (36, false) }) (v := ?_) rfl (by kernel_rfl) (by kernel_rfl) (by kernel_rfl) (fun _ _ _ h => h) (Or.inl ⟨by rfl, ?_⟩) (by assumption) ?_
    rotate_left
    (intro w hSw; (try dsimp only at hSw); go_simp <;> with_reducible rfl)
    try simp only [Act.put, List.setIfInBounds_toArray, List.set_cons_zero, List.set_cons_succ]
    refine wpAnyH_take (i := 42) (oi := { dst := some 70, op := Go.Op.move (Go.Operand.tmp 1), type := 3, pos := "law.go:36", after := #[{ on := 36, ground := Go.Ground.guard }], guard := some (36, false) }) (v := ?_) rfl (by kernel_rfl) (by kernel_rfl) (by kernel_rfl) (fun _ _ _ h => h) (Or.inl ⟨by rfl, ?_⟩) (by assumption) ?_
    rotate_left
    (intro w hSw; (try dsimp only at hSw); go_simp <;> with_reducible rfl)
    try simp only [Act.put, List.setIfInBounds_toArray, List.set_cons_zero, List.set_cons_succ]
    refine wpAnyH_take (i := 43) (oi := { dst := some 71, op := Go.Op.move (Go.Operand.tmp 2), type := 3, pos := "law.go:36", after := #[{ on := 36, ground := Go.Ground.guard }], guard := some (36, false) }) (v := ?_) rfl (by kernel_rfl) (by kernel_rfl) (by kernel_rfl) (fun _ _ _ h => h) (Or.inl ⟨by rfl, ?_⟩) (by assumption) ?_
    rotate_left
    (intro w hSw; (try dsimp only at hSw); go_simp <;> with_reducible rfl)
    try simp only [Act.put, List.setIfInBounds_toArray, List.set_cons_zero, List.set_cons_succ]
    refine wpAnyH_ready (rs := [40]) (by kernel_rfl) (by simp) ?_
    refine AllReadyH.cons (o := { dst := some 68, op := Go.Op.call { callee := Go.Callee.value (Go.Operand.func 28), args := #[Go.Operand.tmp 65, Go.Operand.tmp 66, Go.Operand.tmp 67], argTypes := #[42, 3, 3] }, type := 4, pos := "law.go:36", after := #[{ on := 37, ground := Go.Ground.data }, { on := 38, ground := Go.Ground.data }, { on := 39, ground := Go.Ground.data }, { on := 36, ground := Go.Ground.chain }, { on := 36, ground := Go.Ground.guard }], guard := some (36, false) }) rfl (fun K hK => ?_) ?_
    (go_simp; (with_reducible refine (C8.out _ (by assumption)).mono ?_); rintro e v9 ⟨rfl, hn9⟩; go_wp2_with fail)
    refine hK.out _ _ ?_ (fun hH9 => ?_)
    · (try dsimp only) <;> (exact HSS.out _ (by assumption))
    clear hK K hH8
    try simp only [Act.put, List.setIfInBounds_toArray, List.set_cons_zero, List.set_cons_succ]
    refine wpAnyH_ready (rs := [44]) (by kernel_rfl) (by simp) ?_
    refine AllReadyH.cons (o := { dst := some 72, op := Go.Op.call { callee := Go.Callee.value (Go.Operand.func 56), args := #[Go.Operand.tmp 69, Go.Operand.tmp 70, Go.Operand.tmp 71], argTypes := #[50, 3, 3] }, type := 4, pos := "law.go:36", after := #[{ on := 41, ground := Go.Ground.data }, { on := 42, ground := Go.Ground.data }, { on := 43, ground := Go.Ground.data }, { on := 40, ground := Go.Ground.chain }, { on := 36, ground := Go.Ground.guard }], guard := some (36, false) }) rfl (fun K hK => ?_) ?_
    (go_simp; (with_reducible refine (C9.out _ (by assumption)).mono ?_); rintro e v10 ⟨rfl, hn10⟩; go_wp2_with fail)
    refine hK.out _ _ ?_ (fun hH10 => ?_)
    · (try dsimp only) <;> (exact HSS.out _ (by assumption))
    clear hK K hH9
    try simp only [Act.put, List.setIfInBounds_toArray, List.set_cons_zero, List.set_cons_succ]
    refine wpAnyH_take (i := 45) (oi := { dst := some 73, op := Go.Op.binOp Go.BinOp.neq 4 (Go.Operand.tmp 68) (Go.Operand.tmp 72) 4, type := 4, pos := "law.go:36", after := #[{ on := 40, ground := Go.Ground.data }, { on := 44, ground := Go.Ground.data }, { on := 36, ground := Go.Ground.guard }], guard := some (36, false) }) (v := ?_) rfl (by kernel_rfl) (by kernel_rfl) (by kernel_rfl) (fun _ _ _ h => h) (Or.inl ⟨by rfl, ?_⟩) (by assumption) ?_
    rotate_left
    (intro w hSw; (try dsimp only at hSw); go_simp <;> with_reducible rfl)
    try simp only [Act.put, List.setIfInBounds_toArray, List.set_cons_zero, List.set_cons_succ]
    refine wpAnyH_take (i := 46) (oi := { dst := some 74, op := Go.Op.pick (Go.Operand.tmp 64) (Go.Operand.const (Go.Value.bool true)) (Go.Operand.tmp 73), type := 4, pos := "law.go:36", after := #[{ on := 36, ground := Go.Ground.data }, { on := 45, ground := Go.Ground.data }], guard := none }) (v := ?_) rfl (by kernel_rfl) (by kernel_rfl) (by kernel_rfl) (fun _ _ _ h => h) (Or.inl ⟨by rfl, ?_⟩) (by assumption) ?_
    rotate_left
    (intro w hSw; (try dsimp only at hSw); go_simp <;> with_reducible rfl)
    try simp only [Act.put, List.setIfInBounds_toArray, List.set_cons_zero, List.set_cons_succ]
    refine wpAnyH_take (i := 47) (oi := { dst := some 75, op := Go.Op.move (Go.Operand.tmp 74), type := 4, pos := "law.go:36", after := #[{ on := 46, ground := Go.Ground.data }, { on := 44, ground := Go.Ground.chain }], guard := none }) (v := ?_) rfl (by kernel_rfl) (by kernel_rfl) (by kernel_rfl) (fun _ _ _ h => h) (Or.inl ⟨by rfl, ?_⟩) (by assumption) ?_
    rotate_left
    (intro w hSw; (try dsimp only at hSw); go_simp <;> with_reducible rfl)
    try simp only [Act.put, List.setIfInBounds_toArray, List.set_cons_zero, List.set_cons_succ]
    refine wpAnyH_take (i := 48) (oi := { dst := some 76, op := Go.Op.move (Go.Operand.tmp 7), type := 42, pos := "law.go:36", after := #[{ on := 47, ground := Go.Ground.guard }], guard := some (47, false) }) (v := ?_) rfl (by kernel_rfl) (by kernel_rfl) (by kernel_rfl) (fun _ _ _ h => h) (Or.inl ⟨by rfl, ?_⟩) (by assumption) ?_
    rotate_left
    (intro w hSw; (try dsimp only at hSw); go_simp <;> with_reducible rfl)
    try simp only [Act.put, List.setIfInBounds_toArray, List.set_cons_zero, List.set_cons_succ]
    refine wpAnyH_take (i := 49) (oi := { dst := some 77, op := Go.Op.move (Go.Operand.tmp 1), type := 3, pos := "law.go:36", after := #[{ on := 47, ground := Go.Ground.guard }], guard := some (47, false) }) (v := ?_) rfl (by kernel_rfl) (by kernel_rfl) (by kernel_rfl) (fun _ _ _ h => h) (Or.inl ⟨by rfl, ?_⟩) (by assumption) ?_
    rotate_left
    (intro w hSw; (try dsimp only at hSw); go_simp <;> with_reducible rfl)
    try simp only [Act.put, List.setIfInBounds_toArray, List.set_cons_zero, List.set_cons_succ]
    refine wpAnyH_take (i := 50) (oi := { dst := some 78, op := Go.Op.move (Go.Operand.tmp 2), type := 3, pos := "law.go:36", after := #[{ on := 47, ground := Go.Ground.guard }], guard := some (47, false) }) (v := ?_) rfl (by kernel_rfl) (by kernel_rfl) (by kernel_rfl) (fun _ _ _ h => h) (Or.inl ⟨by rfl, ?_⟩) (by assumption) ?_
    rotate_left
    (intro w hSw; (try dsimp only at hSw); go_simp <;> with_reducible rfl)
    try simp only [Act.put, List.setIfInBounds_toArray, List.set_cons_zero, List.set_cons_succ]
    refine wpAnyH_take (i := 52) (oi := { dst := some 80, op := Go.Op.load 50 (Go.Operand.tmp 8), type := 50, pos := "law.go:36", after := #[{ on := 47, ground := Go.Ground.guard }], guard := some (47, false) }) (v := ?_) rfl (by kernel_rfl) (by kernel_rfl) (by kernel_rfl) (fun _ _ _ h => h) (Or.inl ⟨by rfl, ?_⟩) (by assumption) ?_
    rotate_left
    (intro w hSw; (try dsimp only at hSw); go_simp <;> with_reducible rfl)
    try simp only [Act.put, List.setIfInBounds_toArray, List.set_cons_zero, List.set_cons_succ]
    refine wpAnyH_take (i := 53) (oi := { dst := some 81, op := Go.Op.move (Go.Operand.tmp 1), type := 3, pos := "law.go:36", after := #[{ on := 47, ground := Go.Ground.guard }], guard := some (47, false) }) (v := ?_) rfl (by kernel_rfl) (by kernel_rfl) (by kernel_rfl) (fun _ _ _ h => h) (Or.inl ⟨by rfl, ?_⟩) (by assumption) ?_
    rotate_left
    (intro w hSw; (try dsimp only at hSw); go_simp <;> with_reducible rfl)
    try simp only [Act.put, List.setIfInBounds_toArray, List.set_cons_zero, List.set_cons_succ]
    refine wpAnyH_take (i := 54) (oi := { dst := some 82, op := Go.Op.move (Go.Operand.tmp 2), type := 3, pos := "law.go:36", after := #[{ on := 47, ground := Go.Ground.guard }], guard := some (47, false) }) (v := ?_) rfl (by kernel_rfl) (by kernel_rfl) (by kernel_rfl) (fun _ _ _ h => h) (Or.inl ⟨by rfl, ?_⟩) (by assumption) ?_
    rotate_left
    (intro w hSw; (try dsimp only at hSw); go_simp <;> with_reducible rfl)
    try simp only [Act.put, List.setIfInBounds_toArray, List.set_cons_zero, List.set_cons_succ]
    refine wpAnyH_ready (rs := [51]) (by kernel_rfl) (by simp) ?_
    refine AllReadyH.cons (o := { dst := some 79, op := Go.Op.call { callee := Go.Callee.value (Go.Operand.func 57), args := #[Go.Operand.tmp 76, Go.Operand.tmp 77, Go.Operand.tmp 78], argTypes := #[42, 3, 3] }, type := 4, pos := "law.go:36", after := #[{ on := 48, ground := Go.Ground.data }, { on := 49, ground := Go.Ground.data }, { on := 50, ground := Go.Ground.data }, { on := 47, ground := Go.Ground.chain }, { on := 47, ground := Go.Ground.guard }], guard := some (47, false) }) rfl (fun K hK => ?_) ?_
    (go_simp; (with_reducible refine (C10.out _ (by assumption)).mono ?_); rintro e v11 ⟨rfl, hn11⟩; go_wp2_with fail)
    refine hK.out _ _ ?_ (fun hH11 => ?_)
    · (try dsimp only) <;> (exact HSS.out _ (by assumption))
    clear hK K hH10
    try simp only [Act.put, List.setIfInBounds_toArray, List.set_cons_zero, List.set_cons_succ]
    refine wpAnyH_ready (rs := [55]) (by kernel_rfl) (by simp) ?_
    refine AllReadyH.cons (o := { dst := some 83, op := Go.Op.call { callee := Go.Callee.value (Go.Operand.func 58), args := #[Go.Operand.tmp 80, Go.Operand.tmp 81, Go.Operand.tmp 82], argTypes := #[50, 3, 3] }, type := 4, pos := "law.go:36", after := #[{ on := 52, ground := Go.Ground.data }, { on := 53, ground := Go.Ground.data }, { on := 54, ground := Go.Ground.data }, { on := 51, ground := Go.Ground.chain }, { on := 47, ground := Go.Ground.guard }], guard := some (47, false) }) rfl (fun K hK => ?_) ?_
    (go_simp; (with_reducible refine (C11.out _ (by assumption)).mono ?_); rintro e v12 ⟨rfl, hn12⟩; go_wp2_with fail)
    refine hK.out _ _ ?_ (fun hH12 => ?_)
    · (try dsimp only) <;> (exact HSS.out _ (by assumption))
    clear hK K hH11
    try simp only [Act.put, List.setIfInBounds_toArray, List.set_cons_zero, List.set_cons_succ]
    refine wpAnyH_take (i := 56) (oi := { dst := some 84, op := Go.Op.binOp Go.BinOp.neq 4 (Go.Operand.tmp 79) (Go.Operand.tmp 83) 4, type := 4, pos := "law.go:36", after := #[{ on := 51, ground := Go.Ground.data }, { on := 55, ground := Go.Ground.data }, { on := 47, ground := Go.Ground.guard }], guard := some (47, false) }) (v := ?_) rfl (by kernel_rfl) (by kernel_rfl) (by kernel_rfl) (fun _ _ _ h => h) (Or.inl ⟨by rfl, ?_⟩) (by assumption) ?_
    rotate_left
    (intro w hSw; (try dsimp only at hSw); go_simp <;> with_reducible rfl)
    try simp only [Act.put, List.setIfInBounds_toArray, List.set_cons_zero, List.set_cons_succ]
    refine wpAnyH_take (i := 57) (oi := { dst := some 85, op := Go.Op.pick (Go.Operand.tmp 75) (Go.Operand.const (Go.Value.bool true)) (Go.Operand.tmp 84), type := 4, pos := "law.go:36", after := #[{ on := 47, ground := Go.Ground.data }, { on := 56, ground := Go.Ground.data }], guard := none }) (v := ?_) rfl (by kernel_rfl) (by kernel_rfl) (by kernel_rfl) (fun _ _ _ h => h) (Or.inl ⟨by rfl, ?_⟩) (by assumption) ?_
    rotate_left
    (intro w hSw; (try dsimp only at hSw); go_simp <;> with_reducible rfl)
    try simp only [Act.put, List.setIfInBounds_toArray, List.set_cons_zero, List.set_cons_succ]
    refine wpAnyH_take (i := 58) (oi := { dst := some 86, op := Go.Op.move (Go.Operand.tmp 85), type := 4, pos := "law.go:36", after := #[{ on := 57, ground := Go.Ground.data }, { on := 55, ground := Go.Ground.chain }], guard := none }) (v := ?_) rfl (by kernel_rfl) (by kernel_rfl) (by kernel_rfl) (fun _ _ _ h => h) (Or.inl ⟨by rfl, ?_⟩) (by assumption) ?_
    rotate_left
    (intro w hSw; (try dsimp only at hSw); go_simp <;> with_reducible rfl)
    try simp only [Act.put, List.setIfInBounds_toArray, List.set_cons_zero, List.set_cons_succ]
    refine wpAnyH_take (i := 59) (oi := { dst := some 87, op := Go.Op.move (Go.Operand.tmp 7), type := 42, pos := "law.go:36", after := #[{ on := 58, ground := Go.Ground.guard }], guard := some (58, false) }) (v := ?_) rfl (by kernel_rfl) (by kernel_rfl) (by kernel_rfl) (fun _ _ _ h => h) (Or.inl ⟨by rfl, ?_⟩) (by assumption) ?_
    rotate_left
    (intro w hSw; (try dsimp only at hSw); go_simp <;> with_reducible rfl)
    try simp only [Act.put, List.setIfInBounds_toArray, List.set_cons_zero, List.set_cons_succ]
    refine wpAnyH_take (i := 60) (oi := { dst := some 88, op := Go.Op.move (Go.Operand.tmp 1), type := 3, pos := "law.go:36", after := #[{ on := 58, ground := Go.Ground.guard }], guard := some (58, false) }) (v := ?_) rfl (by kernel_rfl) (by kernel_rfl) (by kernel_rfl) (fun _ _ _ h => h) (Or.inl ⟨by rfl, ?_⟩) (by assumption) ?_
    rotate_left
    (intro w hSw; (try dsimp only at hSw); go_simp <;> with_reducible rfl)
    try simp only [Act.put, List.setIfInBounds_toArray, List.set_cons_zero, List.set_cons_succ]
    refine wpAnyH_take (i := 62) (oi := { dst := some 90, op := Go.Op.load 50 (Go.Operand.tmp 8), type := 50, pos := "law.go:36", after := #[{ on := 58, ground := Go.Ground.guard }], guard := some (58, false) }) (v := ?_) rfl (by kernel_rfl) (by kernel_rfl) (by kernel_rfl) (fun _ _ _ h => h) (Or.inl ⟨by rfl, ?_⟩) (by assumption) ?_
    rotate_left
    (intro w hSw; (try dsimp only at hSw); go_simp <;> with_reducible rfl)
    try simp only [Act.put, List.setIfInBounds_toArray, List.set_cons_zero, List.set_cons_succ]
    refine wpAnyH_take (i := 63) (oi := { dst := some 91, op := Go.Op.move (Go.Operand.tmp 1), type := 3, pos := "law.go:36", after := #[{ on := 58, ground := Go.Ground.guard }], guard := some (58, false) }) (v := ?_) rfl (by kernel_rfl) (by kernel_rfl) (by kernel_rfl) (fun _ _ _ h => h) (Or.inl ⟨by rfl, ?_⟩) (by assumption) ?_
    rotate_left
    (intro w hSw; (try dsimp only at hSw); go_simp <;> with_reducible rfl)
    try simp only [Act.put, List.setIfInBounds_toArray, List.set_cons_zero, List.set_cons_succ]
    refine wpAnyH_ready (rs := [61]) (by kernel_rfl) (by simp) ?_
    refine AllReadyH.cons (o := { dst := some 89, op := Go.Op.call { callee := Go.Callee.value (Go.Operand.func 59), args := #[Go.Operand.tmp 87, Go.Operand.tmp 88], argTypes := #[42, 3] }, type := 4, pos := "law.go:36", after := #[{ on := 59, ground := Go.Ground.data }, { on := 60, ground := Go.Ground.data }, { on := 58, ground := Go.Ground.chain }, { on := 58, ground := Go.Ground.guard }], guard := some (58, false) }) rfl (fun K hK => ?_) ?_
    (go_simp; (with_reducible refine (C12.out _ (by assumption)).mono ?_); rintro e v13 ⟨rfl, hn13⟩; go_wp2_with fail)
    refine hK.out _ _ ?_ (fun hH13 => ?_)
    · (try dsimp only) <;> (exact HSS.out _ (by assumption))
    clear hK K hH12
    try simp only [Act.put, List.setIfInBounds_toArray, List.set_cons_zero, List.set_cons_succ]
    refine wpAnyH_ready (rs := [64]) (by kernel_rfl) (by simp) ?_
    refine AllReadyH.cons (o := { dst := some 92, op := Go.Op.call { callee := Go.Callee.value (Go.Operand.func 60), args := #[Go.Operand.tmp 90, Go.Operand.tmp 91], argTypes := #[50, 3] }, type := 4, pos := "law.go:36", after := #[{ on := 62, ground := Go.Ground.data }, { on := 63, ground := Go.Ground.data }, { on := 61, ground := Go.Ground.chain }, { on := 58, ground := Go.Ground.guard }], guard := some (58, false) }) rfl (fun K hK => ?_) ?_
    (go_simp; (with_reducible refine (C13.out _ (by assumption)).mono ?_); rintro e v14 ⟨rfl, hn14⟩; go_wp2_with fail)
    refine hK.out _ _ ?_ (fun hH14 => ?_)
    · (try dsimp only) <;> (exact HSS.out _ (by assumption))
    clear hK K hH13
    try simp only [Act.put, List.setIfInBounds_toArray, List.set_cons_zero, List.set_cons_succ]
    refine wpAnyH_take (i := 65) (oi := { dst := some 93, op := Go.Op.binOp Go.BinOp.neq 4 (Go.Operand.tmp 89) (Go.Operand.tmp 92) 4, type := 4, pos := "law.go:36", after := #[{ on := 61, ground := Go.Ground.data }, { on := 64, ground := Go.Ground.data }, { on := 58, ground := Go.Ground.guard }], guard := some (58, false) }) (v := ?_) rfl (by kernel_rfl) (by kernel_rfl) (by kernel_rfl) (fun _ _ _ h => h) (Or.inl ⟨by rfl, ?_⟩) (by assumption) ?_
    rotate_left
    (intro w hSw; (try dsimp only at hSw); go_simp <;> with_reducible rfl)
    try simp only [Act.put, List.setIfInBounds_toArray, List.set_cons_zero, List.set_cons_succ]
    refine wpAnyH_take (i := 66) (oi := { dst := some 94, op := Go.Op.pick (Go.Operand.tmp 86) (Go.Operand.const (Go.Value.bool true)) (Go.Operand.tmp 93), type := 4, pos := "law.go:36", after := #[{ on := 58, ground := Go.Ground.data }, { on := 65, ground := Go.Ground.data }], guard := none }) (v := ?_) rfl (by kernel_rfl) (by kernel_rfl) (by kernel_rfl) (fun _ _ _ h => h) (Or.inl ⟨by rfl, ?_⟩) (by assumption) ?_
    rotate_left
    (intro w hSw; (try dsimp only at hSw); go_simp <;> with_reducible rfl)
    try simp only [Act.put, List.setIfInBounds_toArray, List.set_cons_zero, List.set_cons_succ]
    refine wpAnyH_done (by kernel_rfl) ?_ _
    rotate_left
    exact AllReadyH.nil
    exact AllReadyH.nil
    exact AllReadyH.nil
    exact AllReadyH.nil
    exact AllReadyH.nil
    exact AllReadyH.nil
    exact AllReadyH.nil
    exact AllReadyH.nil
    exact AllReadyH.nil
    exact AllReadyH.nil
    exact AllReadyH.nil
    exact AllReadyH.nil
    exact AllReadyH.nil
    exact AllReadyH.nil
    all_goals as_aux_lemma =>
      go_wp2_with fail
      have HTe : Hid (Tl m pr IB w4.heap.size w v14.drew) := Lib.hid (hn14.out.below (Below.refl _ _).drew)
      clear hn1 hn2 hn3 hn4 hn5 hn6 hn7 hn8 hn9 hn10 hn11 hn12 hn13 HTd HT C0 C1 C2 C3 C4 C5 C6 C7 C8 C9 C10 C11 C12 C13
      refine wp_region_any (by kernel_rfl) ?_
      change wpAny _ _ _ _ _ _ _ (World.drew _)
      refine wpAny_of_heldS (S := (fun W' => (W'.cell? ⟨w4.heap.size, 0, none⟩ = some (.string m.nm) ∧ W'.cell? ⟨w4.heap.size, 1, none⟩ = some (.slice pr.a1 m.vars.length pr.c1) ∧ W'.cell? ⟨w4.heap.size, 2, none⟩ = some (.slice pr.a2 m.evs.length pr.c2) ∧ W'.cell? ⟨w4.heap.size, 3, none⟩ = some (.slice pr.a3 m.regs.length pr.c3) ∧ W'.cell? ⟨w4.heap.size, 4, none⟩ = some (.slice pr.a4 m.vers.length pr.c4) ∧ W'.cell? ⟨w4.heap.size, 5, none⟩ = some (.slice pr.a5 m.trns.length pr.c5)))) ?_ (fun hHeld => ?_)
      · (try dsimp only) <;> (exact HSS.out _ (by assumption))
      refine wpAnyH_take (i := 0) (oi := { dst := some 95, op := Go.Op.move (Go.Operand.tmp 7), type := 42, pos := "law.go:39", after := #[], guard := none }) (v := ?_) rfl (by kernel_rfl) (by kernel_rfl) (by kernel_rfl) (fun _ _ _ h => h) (Or.inl ⟨by rfl, ?_⟩) (by assumption) ?_
      rotate_left
      (intro w hSw; (try dsimp only at hSw); go_simp <;> with_reducible rfl)
      try simp only [Act.put, List.setIfInBounds_toArray, List.set_cons_zero, List.set_cons_succ]
      refine wpAnyH_take (i := 1) (oi := { dst := some 96, op := Go.Op.move (Go.Operand.tmp 1), type := 3, pos := "law.go:39", after := #[], guard := none }) (v := ?_) rfl (by kernel_rfl) (by kernel_rfl) (by kernel_rfl) (fun _ _ _ h => h) (Or.inl ⟨by rfl, ?_⟩) (by assumption) ?_
      rotate_left
      (intro w hSw; (try dsimp only at hSw); go_simp <;> with_reducible rfl)
      try simp only [Act.put, List.setIfInBounds_toArray, List.set_cons_zero, List.set_cons_succ]
      refine wpAnyH_take (i := 3) (oi := { dst := some 98, op := Go.Op.load 50 (Go.Operand.tmp 8), type := 50, pos := "law.go:39", after := #[], guard := none }) (v := ?_) rfl (by kernel_rfl) (by kernel_rfl) (by kernel_rfl) (fun _ _ _ h => h) (Or.inl ⟨by rfl, ?_⟩) (by assumption) ?_
      rotate_left
      (intro w hSw; (try dsimp only at hSw); go_simp <;> with_reducible rfl)
      try simp only [Act.put, List.setIfInBounds_toArray, List.set_cons_zero, List.set_cons_succ]
      refine wpAnyH_take (i := 4) (oi := { dst := some 99, op := Go.Op.move (Go.Operand.tmp 1), type := 3, pos := "law.go:39", after := #[], guard := none }) (v := ?_) rfl (by kernel_rfl) (by kernel_rfl) (by kernel_rfl) (fun _ _ _ h => h) (Or.inl ⟨by rfl, ?_⟩) (by assumption) ?_
      rotate_left
      (intro w hSw; (try dsimp only at hSw); go_simp <;> with_reducible rfl)
      try simp only [Act.put, List.setIfInBounds_toArray, List.set_cons_zero, List.set_cons_succ]
      refine wpAnyH_ready (rs := [2]) (by kernel_rfl) (by simp) ?_
      refine AllReadyH.cons (o := { dst := some 97, op := Go.Op.call { callee := Go.Callee.value (Go.Operand.func 26), args := #[Go.Operand.tmp 95, Go.Operand.tmp 96], argTypes := #[42, 3] }, type := 31, pos := "law.go:39", after := #[{ on := 0, ground := Go.Ground.data }, { on := 1, ground := Go.Ground.data }], guard := none }) rfl (fun K hK => ?_) ?_
      (go_simp; (with_reducible refine (D0.out _ (by assumption)).mono ?_); rintro e d0 ⟨r0, rfl, h0, hn, _⟩; go_wp2_with fail)
      refine hK.out _ _ ?_ (fun hH1 => ?_)
      · (try dsimp only) <;> (exact HSS.out _ (by assumption))
      clear hK K hHeld
      try simp only [Act.put, List.setIfInBounds_toArray, List.set_cons_zero, List.set_cons_succ]
      refine wpAnyH_ready (rs := [5]) (by kernel_rfl) (by simp) ?_
      refine AllReadyH.cons (o := { dst := some 100, op := Go.Op.call { callee := Go.Callee.value (Go.Operand.func 62), args := #[Go.Operand.tmp 98, Go.Operand.tmp 99], argTypes := #[50, 3] }, type := 31, pos := "law.go:39", after := #[{ on := 3, ground := Go.Ground.data }, { on := 4, ground := Go.Ground.data }, { on := 2, ground := Go.Ground.chain }], guard := none }) rfl (fun K hK => ?_) ?_
      (go_simp; (with_reducible refine (E0.out _ (by assumption)).mono ?_); rintro e e0 ⟨s0, rfl, k0, hn, g⟩; have t0 := Lib.hid (h0.out.below g); go_wp2_with fail)
      refine hK.out _ _ ?_ (fun hH2 => ?_)
      · (try dsimp only) <;> (exact HSS.out _ (by assumption))
      clear hK K hH1
      try simp only [Act.put, List.setIfInBounds_toArray, List.set_cons_zero, List.set_cons_succ]
      refine wpAnyH_ready (rs := [6]) (by kernel_rfl) (by simp) ?_
      refine AllReadyH.cons (o := { dst := some 101, op := Go.Op.call { callee := Go.Callee.value (Go.Operand.func 61), args := #[Go.Operand.tmp 97, Go.Operand.tmp 100], argTypes := #[31, 31] }, type := 4, pos := "law.go:39", after := #[{ on := 2, ground := Go.Ground.data }, { on := 5, ground := Go.Ground.data }, { on := 5, ground := Go.Ground.chain }], guard := none }) rfl (fun K hK => ?_) ?_
      (go_simp; (with_reducible refine (CS.out _ (by assumption) _ _ _ t0 k0 L0.out).mono ?_); rintro e f0 ⟨rfl, hnF0⟩; go_wp2_with fail)
      refine hK.out _ _ ?_ (fun hH3 => ?_)
      · (try dsimp only) <;> (exact HSS.out _ (by assumption))
      clear hK K hH2
      try simp only [Act.put, List.setIfInBounds_toArray, List.set_cons_zero, List.set_cons_succ]
      refine wpAnyH_take (i := 7) (oi := { dst := some 102, op := Go.Op.move (Go.Operand.tmp 101), type := 4, pos := "law.go:39", after := #[{ on := 6, ground := Go.Ground.data }, { on := 6, ground := Go.Ground.chain }], guard := none }) (v := ?_) rfl (by kernel_rfl) (by kernel_rfl) (by kernel_rfl) (fun _ _ _ h => h) (Or.inl ⟨by rfl, ?_⟩) (by assumption) ?_
      rotate_left
      (intro w hSw; (try dsimp only at hSw); go_simp <;> with_reducible rfl)
      try simp only [Act.put, List.setIfInBounds_toArray, List.set_cons_zero, List.set_cons_succ]
      refine wpAnyH_take (i := 8) (oi := { dst := some 103, op := Go.Op.move (Go.Operand.tmp 7), type := 42, pos := "law.go:39", after := #[{ on := 7, ground := Go.Ground.guard }], guard := some (7, true) }) (v := ?_) rfl (by kernel_rfl) (by kernel_rfl) (by kernel_rfl) (fun _ _ _ h => h) (Or.inl ⟨by rfl, ?_⟩) (by assumption) ?_
      rotate_left
      (intro w hSw; (try dsimp only at hSw); go_simp <;> with_reducible rfl)
      try simp only [Act.put, List.setIfInBounds_toArray, List.set_cons_zero, List.set_cons_succ]
      refine wpAnyH_take (i := 9) (oi := { dst := some 104, op := Go.Op.move (Go.Operand.tmp 1), type := 3, pos := "law.go:39", after := #[{ on := 7, ground := Go.Ground.guard }], guard := some (7, true) }) (v := ?_) rfl (by kernel_rfl) (by kernel_rfl) (by kernel_rfl) (fun _ _ _ h => h) (Or.inl ⟨by rfl, ?_⟩) (by assumption) ?_
      rotate_left
      (intro w hSw; (try dsimp only at hSw); go_simp <;> with_reducible rfl)
      try simp only [Act.put, List.setIfInBounds_toArray, List.set_cons_zero, List.set_cons_succ]
      refine wpAnyH_take (i := 11) (oi := { dst := some 106, op := Go.Op.load 50 (Go.Operand.tmp 8), type := 50, pos := "law.go:39", after := #[{ on := 7, ground := Go.Ground.guard }], guard := some (7, true) }) (v := ?_) rfl (by kernel_rfl) (by kernel_rfl) (by kernel_rfl) (fun _ _ _ h => h) (Or.inl ⟨by rfl, ?_⟩) (by assumption) ?_
      rotate_left
      (intro w hSw; (try dsimp only at hSw); go_simp <;> with_reducible rfl)
      try simp only [Act.put, List.setIfInBounds_toArray, List.set_cons_zero, List.set_cons_succ]
      refine wpAnyH_take (i := 12) (oi := { dst := some 107, op := Go.Op.move (Go.Operand.tmp 1), type := 3, pos := "law.go:39", after := #[{ on := 7, ground := Go.Ground.guard }], guard := some (7, true) }) (v := ?_) rfl (by kernel_rfl) (by kernel_rfl) (by kernel_rfl) (fun _ _ _ h => h) (Or.inl ⟨by rfl, ?_⟩) (by assumption) ?_
      rotate_left
      (intro w hSw; (try dsimp only at hSw); go_simp <;> with_reducible rfl)
      try simp only [Act.put, List.setIfInBounds_toArray, List.set_cons_zero, List.set_cons_succ]
      refine wpAnyH_ready (rs := [10]) (by kernel_rfl) (by simp) ?_
      refine AllReadyH.cons (o := { dst := some 105, op := Go.Op.call { callee := Go.Callee.value (Go.Operand.func 63), args := #[Go.Operand.tmp 103, Go.Operand.tmp 104], argTypes := #[42, 3] }, type := 31, pos := "law.go:39", after := #[{ on := 8, ground := Go.Ground.data }, { on := 9, ground := Go.Ground.data }, { on := 7, ground := Go.Ground.chain }, { on := 7, ground := Go.Ground.guard }], guard := some (7, true) }) rfl (fun K hK => ?_) ?_
      (go_simp; (with_reducible refine (D1.out _ (by assumption)).mono ?_); rintro e d1 ⟨r1, rfl, h1, hn, _⟩; go_wp2_with fail)
      refine hK.out _ _ ?_ (fun hH4 => ?_)
      · (try dsimp only) <;> (exact HSS.out _ (by assumption))
      clear hK K hH3
      try simp only [Act.put, List.setIfInBounds_toArray, List.set_cons_zero, List.set_cons_succ]
      refine wpAnyH_ready (rs := [13]) (by kernel_rfl) (by simp) ?_
      refine AllReadyH.cons (o := { dst := some 108, op := Go.Op.call { callee := Go.Callee.value (Go.Operand.func 48), args := #[Go.Operand.tmp 106, Go.Operand.tmp 107], argTypes := #[50, 3] }, type := 31, pos := "law.go:39", after := #[{ on := 11, ground := Go.Ground.data }, { on := 12, ground := Go.Ground.data }, { on := 10, ground := Go.Ground.chain }, { on := 7, ground := Go.Ground.guard }], guard := some (7, true) }) rfl (fun K hK => ?_) ?_
      (go_simp; (with_reducible refine (E1.out _ (by assumption)).mono ?_); rintro e e1 ⟨s1, rfl, k1, hn, g⟩; have t1 := Lib.hid (h1.out.below g); go_wp2_with fail)
      refine hK.out _ _ ?_ (fun hH5 => ?_)
      · (try dsimp only) <;> (exact HSS.out _ (by assumption))
      clear hK K hH4
      try simp only [Act.put, List.setIfInBounds_toArray, List.set_cons_zero, List.set_cons_succ]
      refine wpAnyH_ready (rs := [14]) (by kernel_rfl) (by simp) ?_
      refine AllReadyH.cons (o := { dst := some 109, op := Go.Op.call { callee := Go.Callee.value (Go.Operand.func 61), args := #[Go.Operand.tmp 105, Go.Operand.tmp 108], argTypes := #[31, 31] }, type := 4, pos := "law.go:39", after := #[{ on := 10, ground := Go.Ground.data }, { on := 13, ground := Go.Ground.data }, { on := 13, ground := Go.Ground.chain }, { on := 7, ground := Go.Ground.guard }], guard := some (7, true) }) rfl (fun K hK => ?_) ?_
      (go_simp; (with_reducible refine (CS.out _ (by assumption) _ _ _ t1 k1 L1.out).mono ?_); rintro e f1 ⟨rfl, hnF1⟩; go_wp2_with fail)
      refine hK.out _ _ ?_ (fun hH6 => ?_)
      · (try dsimp only) <;> (exact HSS.out _ (by assumption))
      clear hK K hH5
      try simp only [Act.put, List.setIfInBounds_toArray, List.set_cons_zero, List.set_cons_succ]
      refine wpAnyH_take (i := 15) (oi := { dst := some 110, op := Go.Op.pick (Go.Operand.tmp 102) (Go.Operand.tmp 109) (Go.Operand.const (Go.Value.bool false)), type := 4, pos := "law.go:39", after := #[{ on := 7, ground := Go.Ground.data }, { on := 14, ground := Go.Ground.data }], guard := none }) (v := ?_) rfl (by kernel_rfl) (by kernel_rfl) (by kernel_rfl) (fun _ _ _ h => h) (Or.inl ⟨by rfl, ?_⟩) (by assumption) ?_
      rotate_left
      (intro w hSw; (try dsimp only at hSw); go_simp <;> with_reducible rfl)
      try simp only [Act.put, List.setIfInBounds_toArray, List.set_cons_zero, List.set_cons_succ]
      refine wpAnyH_take (i := 16) (oi := { dst := some 111, op := Go.Op.move (Go.Operand.tmp 110), type := 4, pos := "law.go:39", after := #[{ on := 15, ground := Go.Ground.data }, { on := 14, ground := Go.Ground.chain }], guard := none }) (v := ?_) rfl (by kernel_rfl) (by kernel_rfl) (by kernel_rfl) (fun _ _ _ h => h) (Or.inl ⟨by rfl, ?_⟩) (by assumption) ?_
      rotate_left
      (intro w hSw; (try dsimp only at hSw); go_simp <;> with_reducible rfl)
      try simp only [Act.put, List.setIfInBounds_toArray, List.set_cons_zero, List.set_cons_succ]
      refine wpAnyH_take (i := 17) (oi := { dst := some 112, op := Go.Op.move (Go.Operand.tmp 7), type := 42, pos := "law.go:39", after := #[{ on := 16, ground := Go.Ground.guard }], guard := some (16, true) }) (v := ?_) rfl (by kernel_rfl) (by kernel_rfl) (by kernel_rfl) (fun _ _ _ h => h) (Or.inl ⟨by rfl, ?_⟩) (by assumption) ?_
      rotate_left
      (intro w hSw; (try dsimp only at hSw); go_simp <;> with_reducible rfl)
      try simp only [Act.put, List.setIfInBounds_toArray, List.set_cons_zero, List.set_cons_succ]
      refine wpAnyH_take (i := 18) (oi := { dst := some 113, op := Go.Op.move (Go.Operand.tmp 1), type := 3, pos := "law.go:39", after := #[{ on := 16, ground := Go.Ground.guard }], guard := some (16, true) }) (v := ?_) rfl (by kernel_rfl) (by kernel_rfl) (by kernel_rfl) (fun _ _ _ h => h) (Or.inl ⟨by rfl, ?_⟩) (by assumption) ?_
      rotate_left
      (intro w hSw; (try dsimp only at hSw); go_simp <;> with_reducible rfl)
      try simp only [Act.put, List.setIfInBounds_toArray, List.set_cons_zero, List.set_cons_succ]
      refine wpAnyH_take (i := 20) (oi := { dst := some 115, op := Go.Op.load 50 (Go.Operand.tmp 8), type := 50, pos := "law.go:39", after := #[{ on := 16, ground := Go.Ground.guard }], guard := some (16, true) }) (v := ?_) rfl (by kernel_rfl) (by kernel_rfl) (by kernel_rfl) (fun _ _ _ h => h) (Or.inl ⟨by rfl, ?_⟩) (by assumption) ?_
      rotate_left
      (intro w hSw; (try dsimp only at hSw); go_simp <;> with_reducible rfl)
      try simp only [Act.put, List.setIfInBounds_toArray, List.set_cons_zero, List.set_cons_succ]
      refine wpAnyH_take (i := 21) (oi := { dst := some 116, op := Go.Op.move (Go.Operand.tmp 1), type := 3, pos := "law.go:39", after := #[{ on := 16, ground := Go.Ground.guard }], guard := some (16, true) }) (v := ?_) rfl (by kernel_rfl) (by kernel_rfl) (by kernel_rfl) (fun _ _ _ h => h) (Or.inl ⟨by rfl, ?_⟩) (by assumption) ?_
      rotate_left
      (intro w hSw; (try dsimp only at hSw); go_simp <;> with_reducible rfl)
      try simp only [Act.put, List.setIfInBounds_toArray, List.set_cons_zero, List.set_cons_succ]
      refine wpAnyH_ready (rs := [19]) (by kernel_rfl) (by simp) ?_
      refine AllReadyH.cons (o := { dst := some 114, op := Go.Op.call { callee := Go.Callee.value (Go.Operand.func 27), args := #[Go.Operand.tmp 112, Go.Operand.tmp 113], argTypes := #[42, 3] }, type := 31, pos := "law.go:39", after := #[{ on := 17, ground := Go.Ground.data }, { on := 18, ground := Go.Ground.data }, { on := 16, ground := Go.Ground.chain }, { on := 16, ground := Go.Ground.guard }], guard := some (16, true) }) rfl (fun K hK => ?_) ?_
      (go_simp; (with_reducible refine (D2.out _ (by assumption)).mono ?_); rintro e d2 ⟨r2, rfl, h2, hn, _⟩; go_wp2_with fail)
      refine hK.out _ _ ?_ (fun hH7 => ?_)
      · (try dsimp only) <;> (exact HSS.out _ (by assumption))
      clear hK K hH6
      try simp only [Act.put, List.setIfInBounds_toArray, List.set_cons_zero, List.set_cons_succ]
      refine wpAnyH_ready (rs := [22]) (by kernel_rfl) (by simp) ?_
      refine AllReadyH.cons (o := { dst := some 117, op := Go.Op.call { callee := Go.Callee.value (Go.Operand.func 64), args := #[Go.Operand.tmp 115, Go.Operand.tmp 116], argTypes := #[50, 3] }, type := 31, pos := "law.go:39", after := #[{ on := 20, ground := Go.Ground.data }, { on := 21, ground := Go.Ground.data }, { on := 19, ground := Go.Ground.chain }, { on := 16, ground := Go.Ground.guard }], guard := some (16, true) }) rfl (fun K hK => ?_) ?_
      (go_simp; (with_reducible refine (E2.out _ (by assumption)).mono ?_); rintro e e2 ⟨s2, rfl, k2, hn, g⟩; have t2 := Lib.hid (h2.out.below g); go_wp2_with fail)
      refine hK.out _ _ ?_ (fun hH8 => ?_)
      · (try dsimp only) <;> (exact HSS.out _ (by assumption))
      clear hK K hH7
      try simp only [Act.put, List.setIfInBounds_toArray, List.set_cons_zero, List.set_cons_succ]
      refine wpAnyH_ready (rs := [23]) (by kernel_rfl) (by simp) ?_
      refine AllReadyH.cons (o := { dst := some 118, op := Go.Op.call { callee := Go.Callee.value (Go.Operand.func 61), args := #[Go.Operand.tmp 114, Go.Operand.tmp 117], argTypes := #[31, 31] }, type := 4, pos := "law.go:39", after := #[{ on := 19, ground := Go.Ground.data }, { on := 22, ground := Go.Ground.data }, { on := 22, ground := Go.Ground.chain }, { on := 16, ground := Go.Ground.guard }], guard := some (16, true) }) rfl (fun K hK => ?_) ?_
      (go_simp; (with_reducible refine (CS.out _ (by assumption) _ _ _ t2 k2 L2.out).mono ?_); rintro e f2 ⟨rfl, hnF2⟩; go_wp2_with fail)
      refine hK.out _ _ ?_ (fun hH9 => ?_)
      · (try dsimp only) <;> (exact HSS.out _ (by assumption))
      clear hK K hH8
      try simp only [Act.put, List.setIfInBounds_toArray, List.set_cons_zero, List.set_cons_succ]
      refine wpAnyH_take (i := 24) (oi := { dst := some 119, op := Go.Op.pick (Go.Operand.tmp 111) (Go.Operand.tmp 118) (Go.Operand.const (Go.Value.bool false)), type := 4, pos := "law.go:39", after := #[{ on := 16, ground := Go.Ground.data }, { on := 23, ground := Go.Ground.data }], guard := none }) (v := ?_) rfl (by kernel_rfl) (by kernel_rfl) (by kernel_rfl) (fun _ _ _ h => h) (Or.inl ⟨by rfl, ?_⟩) (by assumption) ?_
      rotate_left
      (intro w hSw; (try dsimp only at hSw); go_simp <;> with_reducible rfl)
      try simp only [Act.put, List.setIfInBounds_toArray, List.set_cons_zero, List.set_cons_succ]
      refine wpAnyH_take (i := 25) (oi := { dst := some 120, op := Go.Op.move (Go.Operand.tmp 119), type := 4, pos := "law.go:39", after := #[{ on := 24, ground := Go.Ground.data }, { on := 23, ground := Go.Ground.chain }], guard := none }) (v := ?_) rfl (by kernel_rfl) (by kernel_rfl) (by kernel_rfl) (fun _ _ _ h => h) (Or.inl ⟨by rfl, ?_⟩) (by assumption) ?_
      rotate_left
      (intro w hSw; (try dsimp only at hSw); go_simp <;> with_reducible rfl)
      try simp only [Act.put, List.setIfInBounds_toArray, List.set_cons_zero, List.set_cons_succ]
      refine wpAnyH_take (i := 26) (oi := { dst := some 121, op := Go.Op.move (Go.Operand.tmp 7), type := 42, pos := "law.go:39", after := #[{ on := 25, ground := Go.Ground.guard }], guard := some (25, true) }) (v := ?_) rfl (by kernel_rfl) (by kernel_rfl) (by kernel_rfl) (fun _ _ _ h => h) (Or.inl ⟨by rfl, ?_⟩) (by assumption) ?_
      rotate_left
      (intro w hSw; (try dsimp only at hSw); go_simp <;> with_reducible rfl)
      try simp only [Act.put, List.setIfInBounds_toArray, List.set_cons_zero, List.set_cons_succ]
      refine wpAnyH_take (i := 27) (oi := { dst := some 122, op := Go.Op.move (Go.Operand.tmp 1), type := 3, pos := "law.go:39", after := #[{ on := 25, ground := Go.Ground.guard }], guard := some (25, true) }) (v := ?_) rfl (by kernel_rfl) (by kernel_rfl) (by kernel_rfl) (fun _ _ _ h => h) (Or.inl ⟨by rfl, ?_⟩) (by assumption) ?_
      rotate_left
      (intro w hSw; (try dsimp only at hSw); go_simp <;> with_reducible rfl)
      try simp only [Act.put, List.setIfInBounds_toArray, List.set_cons_zero, List.set_cons_succ]
      refine wpAnyH_take (i := 29) (oi := { dst := some 124, op := Go.Op.load 50 (Go.Operand.tmp 8), type := 50, pos := "law.go:39", after := #[{ on := 25, ground := Go.Ground.guard }], guard := some (25, true) }) (v := ?_) rfl (by kernel_rfl) (by kernel_rfl) (by kernel_rfl) (fun _ _ _ h => h) (Or.inl ⟨by rfl, ?_⟩) (by assumption) ?_
      rotate_left
      (intro w hSw; (try dsimp only at hSw); go_simp <;> with_reducible rfl)
      try simp only [Act.put, List.setIfInBounds_toArray, List.set_cons_zero, List.set_cons_succ]
      refine wpAnyH_take (i := 30) (oi := { dst := some 125, op := Go.Op.move (Go.Operand.tmp 1), type := 3, pos := "law.go:39", after := #[{ on := 25, ground := Go.Ground.guard }], guard := some (25, true) }) (v := ?_) rfl (by kernel_rfl) (by kernel_rfl) (by kernel_rfl) (fun _ _ _ h => h) (Or.inl ⟨by rfl, ?_⟩) (by assumption) ?_
      rotate_left
      (intro w hSw; (try dsimp only at hSw); go_simp <;> with_reducible rfl)
      try simp only [Act.put, List.setIfInBounds_toArray, List.set_cons_zero, List.set_cons_succ]
      refine wpAnyH_ready (rs := [28]) (by kernel_rfl) (by simp) ?_
      refine AllReadyH.cons (o := { dst := some 123, op := Go.Op.call { callee := Go.Callee.value (Go.Operand.func 65), args := #[Go.Operand.tmp 121, Go.Operand.tmp 122], argTypes := #[42, 3] }, type := 31, pos := "law.go:39", after := #[{ on := 26, ground := Go.Ground.data }, { on := 27, ground := Go.Ground.data }, { on := 25, ground := Go.Ground.chain }, { on := 25, ground := Go.Ground.guard }], guard := some (25, true) }) rfl (fun K hK => ?_) ?_
      (go_simp; (with_reducible refine (D3.out _ (by assumption)).mono ?_); rintro e d3 ⟨r3, rfl, h3, hn, _⟩; go_wp2_with fail)
      refine hK.out _ _ ?_ (fun hH10 => ?_)
      · (try dsimp only) <;> (exact HSS.out _ (by assumption))
      clear hK K hH9
      try simp only [Act.put, List.setIfInBounds_toArray, List.set_cons_zero, List.set_cons_succ]
      refine wpAnyH_ready (rs := [31]) (by kernel_rfl) (by simp) ?_
      refine AllReadyH.cons (o := { dst := some 126, op := Go.Op.call { callee := Go.Callee.value (Go.Operand.func 66), args := #[Go.Operand.tmp 124, Go.Operand.tmp 125], argTypes := #[50, 3] }, type := 31, pos := "law.go:39", after := #[{ on := 29, ground := Go.Ground.data }, { on := 30, ground := Go.Ground.data }, { on := 28, ground := Go.Ground.chain }, { on := 25, ground := Go.Ground.guard }], guard := some (25, true) }) rfl (fun K hK => ?_) ?_
      (go_simp; (with_reducible refine (E3.out _ (by assumption)).mono ?_); rintro e e3 ⟨s3, rfl, k3, hn, g⟩; have t3 := Lib.hid (h3.out.below g); go_wp2_with fail)
      refine hK.out _ _ ?_ (fun hH11 => ?_)
      · (try dsimp only) <;> (exact HSS.out _ (by assumption))
      clear hK K hH10
      try simp only [Act.put, List.setIfInBounds_toArray, List.set_cons_zero, List.set_cons_succ]
      refine wpAnyH_ready (rs := [32]) (by kernel_rfl) (by simp) ?_
      refine AllReadyH.cons (o := { dst := some 127, op := Go.Op.call { callee := Go.Callee.value (Go.Operand.func 61), args := #[Go.Operand.tmp 123, Go.Operand.tmp 126], argTypes := #[31, 31] }, type := 4, pos := "law.go:39", after := #[{ on := 28, ground := Go.Ground.data }, { on := 31, ground := Go.Ground.data }, { on := 31, ground := Go.Ground.chain }, { on := 25, ground := Go.Ground.guard }], guard := some (25, true) }) rfl (fun K hK => ?_) ?_
      (go_simp; (with_reducible refine (CS.out _ (by assumption) _ _ _ t3 k3 L3.out).mono ?_); rintro e f3 ⟨rfl, hnF3⟩; go_wp2_with fail)
      refine hK.out _ _ ?_ (fun hH12 => ?_)
      · (try dsimp only) <;> (exact HSS.out _ (by assumption))
      clear hK K hH11
      try simp only [Act.put, List.setIfInBounds_toArray, List.set_cons_zero, List.set_cons_succ]
      refine wpAnyH_take (i := 33) (oi := { dst := some 128, op := Go.Op.pick (Go.Operand.tmp 120) (Go.Operand.tmp 127) (Go.Operand.const (Go.Value.bool false)), type := 4, pos := "law.go:39", after := #[{ on := 25, ground := Go.Ground.data }, { on := 32, ground := Go.Ground.data }], guard := none }) (v := ?_) rfl (by kernel_rfl) (by kernel_rfl) (by kernel_rfl) (fun _ _ _ h => h) (Or.inl ⟨by rfl, ?_⟩) (by assumption) ?_
      rotate_left
      (intro w hSw; (try dsimp only at hSw); go_simp <;> with_reducible rfl)
      try simp only [Act.put, List.setIfInBounds_toArray, List.set_cons_zero, List.set_cons_succ]
      refine wpAnyH_take (i := 34) (oi := { dst := some 129, op := Go.Op.move (Go.Operand.tmp 128), type := 4, pos := "law.go:39", after := #[{ on := 33, ground := Go.Ground.data }, { on := 32, ground := Go.Ground.chain }], guard := none }) (v := ?_) rfl (by kernel_rfl) (by kernel_rfl) (by kernel_rfl) (fun _ _ _ h => h) (Or.inl ⟨by rfl, ?_⟩) (by assumption) ?_
      rotate_left
      (intro w hSw; (try dsimp only at hSw); go_simp <;> with_reducible rfl)
      try simp only [Act.put, List.setIfInBounds_toArray, List.set_cons_zero, List.set_cons_succ]
      refine wpAnyH_take (i := 35) (oi := { dst := some 130, op := Go.Op.move (Go.Operand.tmp 7), type := 42, pos := "law.go:39", after := #[{ on := 34, ground := Go.Ground.guard }], guard := some (34, true) }) (v := ?_) rfl (by kernel_rfl) (by kernel_rfl) (by kernel_rfl) (fun _ _ _ h => h) (Or.inl ⟨by rfl, ?_⟩) (by assumption) ?_
      rotate_left
      (intro w hSw; (try dsimp only at hSw); go_simp <;> with_reducible rfl)
      try simp only [Act.put, List.setIfInBounds_toArray, List.set_cons_zero, List.set_cons_succ]
      refine wpAnyH_take (i := 36) (oi := { dst := some 131, op := Go.Op.move (Go.Operand.tmp 1), type := 3, pos := "law.go:39", after := #[{ on := 34, ground := Go.Ground.guard }], guard := some (34, true) }) (v := ?_) rfl (by kernel_rfl) (by kernel_rfl) (by kernel_rfl) (fun _ _ _ h => h) (Or.inl ⟨by rfl, ?_⟩) (by assumption) ?_
      rotate_left
      (intro w hSw; (try dsimp only at hSw); go_simp <;> with_reducible rfl)
      try simp only [Act.put, List.setIfInBounds_toArray, List.set_cons_zero, List.set_cons_succ]
      refine wpAnyH_take (i := 38) (oi := { dst := some 133, op := Go.Op.load 50 (Go.Operand.tmp 8), type := 50, pos := "law.go:39", after := #[{ on := 34, ground := Go.Ground.guard }], guard := some (34, true) }) (v := ?_) rfl (by kernel_rfl) (by kernel_rfl) (by kernel_rfl) (fun _ _ _ h => h) (Or.inl ⟨by rfl, ?_⟩) (by assumption) ?_
      rotate_left
      (intro w hSw; (try dsimp only at hSw); go_simp <;> with_reducible rfl)
      try simp only [Act.put, List.setIfInBounds_toArray, List.set_cons_zero, List.set_cons_succ]
      refine wpAnyH_take (i := 39) (oi := { dst := some 134, op := Go.Op.move (Go.Operand.tmp 1), type := 3, pos := "law.go:39", after := #[{ on := 34, ground := Go.Ground.guard }], guard := some (34, true) }) (v := ?_) rfl (by kernel_rfl) (by kernel_rfl) (by kernel_rfl) (fun _ _ _ h => h) (Or.inl ⟨by rfl, ?_⟩) (by assumption) ?_
      rotate_left
      (intro w hSw; (try dsimp only at hSw); go_simp <;> with_reducible rfl)
      try simp only [Act.put, List.setIfInBounds_toArray, List.set_cons_zero, List.set_cons_succ]
      refine wpAnyH_ready (rs := [37]) (by kernel_rfl) (by simp) ?_
      refine AllReadyH.cons (o := { dst := some 132, op := Go.Op.call { callee := Go.Callee.value (Go.Operand.func 67), args := #[Go.Operand.tmp 130, Go.Operand.tmp 131], argTypes := #[42, 3] }, type := 31, pos := "law.go:39", after := #[{ on := 35, ground := Go.Ground.data }, { on := 36, ground := Go.Ground.data }, { on := 34, ground := Go.Ground.chain }, { on := 34, ground := Go.Ground.guard }], guard := some (34, true) }) rfl (fun K hK => ?_) ?_
      (go_simp; (with_reducible refine (D4.out _ (by assumption)).mono ?_); rintro e d4 ⟨r4, rfl, h4, hn, _⟩; go_wp2_with fail)
      refine hK.out _ _ ?_ (fun hH13 => ?_)
      · (try dsimp only) <;> (exact HSS.out _ (by assumption))
      clear hK K hH12
      try simp only [Act.put, List.setIfInBounds_toArray, List.set_cons_zero, List.set_cons_succ]
      refine wpAnyH_ready (rs := [40]) (by kernel_rfl) (by simp) ?_
      refine AllReadyH.cons (o := { dst := some 135, op := Go.Op.call { callee := Go.Callee.value (Go.Operand.func 68), args := #[Go.Operand.tmp 133, Go.Operand.tmp 134], argTypes := #[50, 3] }, type := 31, pos := "law.go:39", after := #[{ on := 38, ground := Go.Ground.data }, { on := 39, ground := Go.Ground.data }, { on := 37, ground := Go.Ground.chain }, { on := 34, ground := Go.Ground.guard }], guard := some (34, true) }) rfl (fun K hK => ?_) ?_
      (go_simp; (with_reducible refine (E4.out _ (by assumption)).mono ?_); rintro e e4 ⟨s4, rfl, k4, hn, g⟩; have t4 := Lib.hid (h4.out.below g); go_wp2_with fail)
      refine hK.out _ _ ?_ (fun hH14 => ?_)
      · (try dsimp only) <;> (exact HSS.out _ (by assumption))
      clear hK K hH13
      try simp only [Act.put, List.setIfInBounds_toArray, List.set_cons_zero, List.set_cons_succ]
      refine wpAnyH_ready (rs := [41]) (by kernel_rfl) (by simp) ?_
      refine AllReadyH.cons (o := { dst := some 136, op := Go.Op.call { callee := Go.Callee.value (Go.Operand.func 61), args := #[Go.Operand.tmp 132, Go.Operand.tmp 135], argTypes := #[31, 31] }, type := 4, pos := "law.go:39", after := #[{ on := 37, ground := Go.Ground.data }, { on := 40, ground := Go.Ground.data }, { on := 40, ground := Go.Ground.chain }, { on := 34, ground := Go.Ground.guard }], guard := some (34, true) }) rfl (fun K hK => ?_) ?_
      (go_simp; (with_reducible refine (CS.out _ (by assumption) _ _ _ t4 k4 L4.out).mono ?_); rintro e f4 ⟨rfl, hnF4⟩; go_wp2_with fail)
      refine hK.out _ _ ?_ (fun hH15 => ?_)
      · (try dsimp only) <;> (exact HSS.out _ (by assumption))
      clear hK K hH14
      try simp only [Act.put, List.setIfInBounds_toArray, List.set_cons_zero, List.set_cons_succ]
      refine wpAnyH_take (i := 42) (oi := { dst := some 137, op := Go.Op.pick (Go.Operand.tmp 129) (Go.Operand.tmp 136) (Go.Operand.const (Go.Value.bool false)), type := 4, pos := "law.go:39", after := #[{ on := 34, ground := Go.Ground.data }, { on := 41, ground := Go.Ground.data }], guard := none }) (v := ?_) rfl (by kernel_rfl) (by kernel_rfl) (by kernel_rfl) (fun _ _ _ h => h) (Or.inl ⟨by rfl, ?_⟩) (by assumption) ?_
      rotate_left
      (intro w hSw; (try dsimp only at hSw); go_simp <;> with_reducible rfl)
      try simp only [Act.put, List.setIfInBounds_toArray, List.set_cons_zero, List.set_cons_succ]
      refine wpAnyH_take (i := 43) (oi := { dst := some 138, op := Go.Op.move (Go.Operand.tmp 137), type := 4, pos := "law.go:39", after := #[{ on := 42, ground := Go.Ground.data }, { on := 41, ground := Go.Ground.chain }], guard := none }) (v := ?_) rfl (by kernel_rfl) (by kernel_rfl) (by kernel_rfl) (fun _ _ _ h => h) (Or.inl ⟨by rfl, ?_⟩) (by assumption) ?_
      rotate_left
      (intro w hSw; (try dsimp only at hSw); go_simp <;> with_reducible rfl)
      try simp only [Act.put, List.setIfInBounds_toArray, List.set_cons_zero, List.set_cons_succ]
      refine wpAnyH_take (i := 44) (oi := { dst := some 139, op := Go.Op.move (Go.Operand.tmp 7), type := 42, pos := "law.go:39", after := #[{ on := 43, ground := Go.Ground.guard }], guard := some (43, true) }) (v := ?_) rfl (by kernel_rfl) (by kernel_rfl) (by kernel_rfl) (fun _ _ _ h => h) (Or.inl ⟨by rfl, ?_⟩) (by assumption) ?_
      rotate_left
      (intro w hSw; (try dsimp only at hSw); go_simp <;> with_reducible rfl)
      try simp only [Act.put, List.setIfInBounds_toArray, List.set_cons_zero, List.set_cons_succ]
      refine wpAnyH_take (i := 45) (oi := { dst := some 140, op := Go.Op.move (Go.Operand.tmp 1), type := 3, pos := "law.go:39", after := #[{ on := 43, ground := Go.Ground.guard }], guard := some (43, true) }) (v := ?_) rfl (by kernel_rfl) (by kernel_rfl) (by kernel_rfl) (fun _ _ _ h => h) (Or.inl ⟨by rfl, ?_⟩) (by assumption) ?_
      rotate_left
      (intro w hSw; (try dsimp only at hSw); go_simp <;> with_reducible rfl)
      try simp only [Act.put, List.setIfInBounds_toArray, List.set_cons_zero, List.set_cons_succ]
      refine wpAnyH_take (i := 47) (oi := { dst := some 142, op := Go.Op.load 50 (Go.Operand.tmp 8), type := 50, pos := "law.go:39", after := #[{ on := 43, ground := Go.Ground.guard }], guard := some (43, true) }) (v := ?_) rfl (by kernel_rfl) (by kernel_rfl) (by kernel_rfl) (fun _ _ _ h => h) (Or.inl ⟨by rfl, ?_⟩) (by assumption) ?_
      rotate_left
      (intro w hSw; (try dsimp only at hSw); go_simp <;> with_reducible rfl)
      try simp only [Act.put, List.setIfInBounds_toArray, List.set_cons_zero, List.set_cons_succ]
      refine wpAnyH_take (i := 48) (oi := { dst := some 143, op := Go.Op.move (Go.Operand.tmp 1), type := 3, pos := "law.go:39", after := #[{ on := 43, ground := Go.Ground.guard }], guard := some (43, true) }) (v := ?_) rfl (by kernel_rfl) (by kernel_rfl) (by kernel_rfl) (fun _ _ _ h => h) (Or.inl ⟨by rfl, ?_⟩) (by assumption) ?_
      rotate_left
      (intro w hSw; (try dsimp only at hSw); go_simp <;> with_reducible rfl)
      try simp only [Act.put, List.setIfInBounds_toArray, List.set_cons_zero, List.set_cons_succ]
      refine wpAnyH_ready (rs := [46]) (by kernel_rfl) (by simp) ?_
      refine AllReadyH.cons (o := { dst := some 141, op := Go.Op.call { callee := Go.Callee.value (Go.Operand.func 29), args := #[Go.Operand.tmp 139, Go.Operand.tmp 140], argTypes := #[42, 3] }, type := 31, pos := "law.go:39", after := #[{ on := 44, ground := Go.Ground.data }, { on := 45, ground := Go.Ground.data }, { on := 43, ground := Go.Ground.chain }, { on := 43, ground := Go.Ground.guard }], guard := some (43, true) }) rfl (fun K hK => ?_) ?_
      (go_simp; (with_reducible refine (D5.out _ (by assumption)).mono ?_); rintro e d5 ⟨r5, rfl, h5, hn, _⟩; go_wp2_with fail)
      refine hK.out _ _ ?_ (fun hH16 => ?_)
      · (try dsimp only) <;> (exact HSS.out _ (by assumption))
      clear hK K hH15
      try simp only [Act.put, List.setIfInBounds_toArray, List.set_cons_zero, List.set_cons_succ]
      refine wpAnyH_ready (rs := [49]) (by kernel_rfl) (by simp) ?_
      refine AllReadyH.cons (o := { dst := some 144, op := Go.Op.call { callee := Go.Callee.value (Go.Operand.func 47), args := #[Go.Operand.tmp 142, Go.Operand.tmp 143], argTypes := #[50, 3] }, type := 31, pos := "law.go:39", after := #[{ on := 47, ground := Go.Ground.data }, { on := 48, ground := Go.Ground.data }, { on := 46, ground := Go.Ground.chain }, { on := 43, ground := Go.Ground.guard }], guard := some (43, true) }) rfl (fun K hK => ?_) ?_
      (go_simp; (with_reducible refine (E5.out _ (by assumption)).mono ?_); rintro e e5 ⟨s5, rfl, k5, hn, g⟩; have t5 := Lib.hid (h5.out.below g); go_wp2_with fail)
      refine hK.out _ _ ?_ (fun hH17 => ?_)
      · (try dsimp only) <;> (exact HSS.out _ (by assumption))
      clear hK K hH16
      try simp only [Act.put, List.setIfInBounds_toArray, List.set_cons_zero, List.set_cons_succ]
      refine wpAnyH_ready (rs := [50]) (by kernel_rfl) (by simp) ?_
      refine AllReadyH.cons (o := { dst := some 145, op := Go.Op.call { callee := Go.Callee.value (Go.Operand.func 61), args := #[Go.Operand.tmp 141, Go.Operand.tmp 144], argTypes := #[31, 31] }, type := 4, pos := "law.go:39", after := #[{ on := 46, ground := Go.Ground.data }, { on := 49, ground := Go.Ground.data }, { on := 49, ground := Go.Ground.chain }, { on := 43, ground := Go.Ground.guard }], guard := some (43, true) }) rfl (fun K hK => ?_) ?_
      (go_simp; (with_reducible refine (CS.out _ (by assumption) _ _ _ t5 k5 L5.out).mono ?_); rintro e f5 ⟨rfl, hnF5⟩; go_wp2_with fail)
      refine hK.out _ _ ?_ (fun hH18 => ?_)
      · (try dsimp only) <;> (exact HSS.out _ (by assumption))
      clear hK K hH17
      try simp only [Act.put, List.setIfInBounds_toArray, List.set_cons_zero, List.set_cons_succ]
      refine wpAnyH_take (i := 51) (oi := { dst := some 146, op := Go.Op.pick (Go.Operand.tmp 138) (Go.Operand.tmp 145) (Go.Operand.const (Go.Value.bool false)), type := 4, pos := "law.go:39", after := #[{ on := 43, ground := Go.Ground.data }, { on := 50, ground := Go.Ground.data }], guard := none }) (v := ?_) rfl (by kernel_rfl) (by kernel_rfl) (by kernel_rfl) (fun _ _ _ h => h) (Or.inl ⟨by rfl, ?_⟩) (by assumption) ?_
      rotate_left
      (intro w hSw; (try dsimp only at hSw); go_simp <;> with_reducible rfl)
      try simp only [Act.put, List.setIfInBounds_toArray, List.set_cons_zero, List.set_cons_succ]
      refine wpAnyH_take (i := 52) (oi := { dst := some 147, op := Go.Op.move (Go.Operand.tmp 146), type := 4, pos := "law.go:39", after := #[{ on := 51, ground := Go.Ground.data }, { on := 50, ground := Go.Ground.chain }], guard := none }) (v := ?_) rfl (by kernel_rfl) (by kernel_rfl) (by kernel_rfl) (fun _ _ _ h => h) (Or.inl ⟨by rfl, ?_⟩) (by assumption) ?_
      rotate_left
      (intro w hSw; (try dsimp only at hSw); go_simp <;> with_reducible rfl)
      try simp only [Act.put, List.setIfInBounds_toArray, List.set_cons_zero, List.set_cons_succ]
      refine wpAnyH_take (i := 53) (oi := { dst := some 148, op := Go.Op.move (Go.Operand.tmp 7), type := 42, pos := "law.go:39", after := #[{ on := 52, ground := Go.Ground.guard }], guard := some (52, true) }) (v := ?_) rfl (by kernel_rfl) (by kernel_rfl) (by kernel_rfl) (fun _ _ _ h => h) (Or.inl ⟨by rfl, ?_⟩) (by assumption) ?_
      rotate_left
      (intro w hSw; (try dsimp only at hSw); go_simp <;> with_reducible rfl)
      try simp only [Act.put, List.setIfInBounds_toArray, List.set_cons_zero, List.set_cons_succ]
      refine wpAnyH_take (i := 54) (oi := { dst := some 149, op := Go.Op.move (Go.Operand.tmp 1), type := 3, pos := "law.go:39", after := #[{ on := 52, ground := Go.Ground.guard }], guard := some (52, true) }) (v := ?_) rfl (by kernel_rfl) (by kernel_rfl) (by kernel_rfl) (fun _ _ _ h => h) (Or.inl ⟨by rfl, ?_⟩) (by assumption) ?_
      rotate_left
      (intro w hSw; (try dsimp only at hSw); go_simp <;> with_reducible rfl)
      try simp only [Act.put, List.setIfInBounds_toArray, List.set_cons_zero, List.set_cons_succ]
      refine wpAnyH_take (i := 55) (oi := { dst := some 150, op := Go.Op.move (Go.Operand.tmp 2), type := 3, pos := "law.go:39", after := #[{ on := 52, ground := Go.Ground.guard }], guard := some (52, true) }) (v := ?_) rfl (by kernel_rfl) (by kernel_rfl) (by kernel_rfl) (fun _ _ _ h => h) (Or.inl ⟨by rfl, ?_⟩) (by assumption) ?_
      rotate_left
      (intro w hSw; (try dsimp only at hSw); go_simp <;> with_reducible rfl)
      try simp only [Act.put, List.setIfInBounds_toArray, List.set_cons_zero, List.set_cons_succ]
      refine wpAnyH_take (i := 57) (oi := { dst := some 152, op := Go.Op.load 50 (Go.Operand.tmp 8), type := 50, pos := "law.go:39", after := #[{ on := 52, ground := Go.Ground.guard }], guard := some (52, true) }) (v := ?_) rfl (by kernel_rfl) (by kernel_rfl) (by kernel_rfl) (fun _ _ _ h => h) (Or.inl ⟨by rfl, ?_⟩) (by assumption) ?_
      rotate_left
      (intro w hSw; (try dsimp only at hSw); go_simp <;> with_reducible rfl)
      try simp only [Act.put, List.setIfInBounds_toArray, List.set_cons_zero, List.set_cons_succ]
      refine wpAnyH_take (i := 58) (oi := { dst := some 153, op := Go.Op.move (Go.Operand.tmp 1), type := 3, pos := "law.go:39", after := #[{ on := 52, ground := Go.Ground.guard }], guard := some (52, true) }) (v := ?_) rfl (by kernel_rfl) (by kernel_rfl) (by kernel_rfl) (fun _ _ _ h => h) (Or.inl ⟨by rfl, ?_⟩) (by assumption) ?_
      rotate_left
      (intro w hSw; (try dsimp only at hSw); go_simp <;> with_reducible rfl)
      try simp only [Act.put, List.setIfInBounds_toArray, List.set_cons_zero, List.set_cons_succ]
      refine wpAnyH_take (i := 59) (oi := { dst := some 154, op := Go.Op.move (Go.Operand.tmp 2), type := 3, pos := "law.go:39", after := #[{ on := 52, ground := Go.Ground.guard }], guard := some (52, true) }) (v := ?_) rfl (by kernel_rfl) (by kernel_rfl) (by kernel_rfl) (fun _ _ _ h => h) (Or.inl ⟨by rfl, ?_⟩) (by assumption) ?_
      rotate_left
      (intro w hSw; (try dsimp only at hSw); go_simp <;> with_reducible rfl)
      try simp only [Act.put, List.setIfInBounds_toArray, List.set_cons_zero, List.set_cons_succ]
      refine wpAnyH_ready (rs := [56, 60]) (by kernel_rfl) (by simp) ?_
      refine AllReadyH.cons (o := { dst := some 151, op := Go.Op.call { callee := Go.Callee.value (Go.Operand.func 23), args := #[Go.Operand.tmp 148, Go.Operand.tmp 149, Go.Operand.tmp 150, Go.Operand.const (Go.Value.slice none 0 0)], argTypes := #[42, 3, 3, 31] }, type := 3, pos := "law.go:39", after := #[{ on := 53, ground := Go.Ground.data }, { on := 54, ground := Go.Ground.data }, { on := 55, ground := Go.Ground.data }, { on := 52, ground := Go.Ground.chain }, { on := 52, ground := Go.Ground.guard }], guard := some (52, true) }) rfl (fun K hK => ?_) ?_
      (go_simp; (with_reducible refine (K1.out _ (by assumption)).mono ?_); rintro e kk1 ⟨rfl, hnK, gK⟩; (first | (have hrC := Lib.hid (hrB.out.below gK)) | skip); go_wp2_with fail)
      refine hK.out _ _ ?_ (fun hH19 => ?_)
      · (try dsimp only) <;> (exact HSS.out _ (by assumption))
      clear hK K hH18
      try simp only [Act.put, List.setIfInBounds_toArray, List.set_cons_zero, List.set_cons_succ]
      refine wpAnyH_ready (rs := [60]) (by kernel_rfl) (by simp) ?_
      refine AllReadyH.cons (o := { dst := some 155, op := Go.Op.buildSlice 31 2 #[(0, Go.Operand.tmp 153), (1, Go.Operand.tmp 154)], type := 31, pos := "law.go:39", after := #[{ on := 58, ground := Go.Ground.data }, { on := 59, ground := Go.Ground.data }, { on := 52, ground := Go.Ground.guard }], guard := some (52, true) }) rfl (fun K hK => ?_) ?_
      (go_simp; (first | (have hnB : Hid (Tl m pr IB w4.heap.size w (kk1.alloc (.cells #[.int .i64 a, .int .i64 b] 3))) := Lib.hid (hnK.out.below (below_al1 kk1 _)); have hrC : Hid (RowIn (kk1.alloc (.cells #[.int .i64 a, .int .i64 b] 3)) (.slice (some ⟨kk1.heap.size, 0, none⟩) 2 2) [a, b]) := Lib.hid (RowIn.fresh kk1 [a, b] _ rfl 2 rfl)) | (have hnB : Hid (Tl m pr IB w4.heap.size w (f5.alloc (.cells #[.int .i64 a, .int .i64 b] 3))) := Lib.hid (hnF5.out.below (below_al1 f5 _)); have hrB : Hid (RowIn (f5.alloc (.cells #[.int .i64 a, .int .i64 b] 3)) (.slice (some ⟨f5.heap.size, 0, none⟩) 2 2) [a, b]) := Lib.hid (RowIn.fresh f5 [a, b] _ rfl 2 rfl))))
      refine hK.out _ _ ?_ (fun hH20 => ?_)
      · (try dsimp only) <;> (exact HSS.out _ (by assumption))
      clear hK K hH19
      try simp only [Act.put, List.setIfInBounds_toArray, List.set_cons_zero, List.set_cons_succ]
      refine wpAnyH_ready (rs := [61]) (by kernel_rfl) (by simp) ?_
      refine AllReadyH.cons (o := { dst := some 156, op := Go.Op.call { callee := Go.Callee.value (Go.Operand.func 24), args := #[Go.Operand.tmp 152, Go.Operand.tmp 155], argTypes := #[50, 31] }, type := 3, pos := "law.go:39", after := #[{ on := 57, ground := Go.Ground.data }, { on := 60, ground := Go.Ground.data }, { on := 56, ground := Go.Ground.chain }, { on := 52, ground := Go.Ground.guard }], guard := some (52, true) }) rfl (fun K hK => ?_) ?_
      (go_simp; (with_reducible refine (K2.out _ (by assumption) _ (by assumption)).mono ?_); rintro e kk2 ⟨rfl, hnL⟩; go_wp2_with fail)
      refine hK.out _ _ ?_ (fun hH21 => ?_)
      · (try dsimp only) <;> (exact HSS.out _ (by assumption))
      clear hK K hH20
      try simp only [Act.put, List.setIfInBounds_toArray, List.set_cons_zero, List.set_cons_succ]
      refine wpAnyH_take (i := 62) (oi := { dst := some 157, op := Go.Op.binOp Go.BinOp.eql 3 (Go.Operand.tmp 151) (Go.Operand.tmp 156) 3, type := 4, pos := "law.go:39", after := #[{ on := 56, ground := Go.Ground.data }, { on := 61, ground := Go.Ground.data }, { on := 52, ground := Go.Ground.guard }], guard := some (52, true) }) (v := ?_) rfl (by kernel_rfl) (by kernel_rfl) (by kernel_rfl) (fun _ _ _ h => h) (Or.inl ⟨by rfl, ?_⟩) (by assumption) ?_
      rotate_left
      (intro w hSw; (try dsimp only at hSw); go_simp <;> with_reducible rfl)
      try simp only [Act.put, List.setIfInBounds_toArray, List.set_cons_zero, List.set_cons_succ]
      refine wpAnyH_take (i := 63) (oi := { dst := some 158, op := Go.Op.pick (Go.Operand.tmp 147) (Go.Operand.tmp 157) (Go.Operand.const (Go.Value.bool false)), type := 4, pos := "law.go:39", after := #[{ on := 52, ground := Go.Ground.data }, { on := 62, ground := Go.Ground.data }], guard := none }) (v := ?_) rfl (by kernel_rfl) (by kernel_rfl) (by kernel_rfl) (fun _ _ _ h => h) (Or.inl ⟨by rfl, ?_⟩) (by assumption) ?_
      rotate_left
      (intro w hSw; (try dsimp only at hSw); go_simp <;> with_reducible rfl)
      try simp only [Act.put, List.setIfInBounds_toArray, List.set_cons_zero, List.set_cons_succ]
      refine wpAnyH_take (i := 64) (oi := { dst := some 159, op := Go.Op.move (Go.Operand.tmp 158), type := 4, pos := "law.go:39", after := #[{ on := 63, ground := Go.Ground.data }, { on := 61, ground := Go.Ground.chain }], guard := none }) (v := ?_) rfl (by kernel_rfl) (by kernel_rfl) (by kernel_rfl) (fun _ _ _ h => h) (Or.inl ⟨by rfl, ?_⟩) (by assumption) ?_
      rotate_left
      (intro w hSw; (try dsimp only at hSw); go_simp <;> with_reducible rfl)
      try simp only [Act.put, List.setIfInBounds_toArray, List.set_cons_zero, List.set_cons_succ]
      refine wpAnyH_ready (rs := [65]) (by kernel_rfl) (by simp) ?_
      refine AllReadyH.cons (o := { dst := some 160, op := Go.Op.call { callee := Go.Callee.value (Go.Operand.func 21), args := #[], argTypes := #[] }, type := 4, pos := "law.go:39", after := #[{ on := 64, ground := Go.Ground.chain }, { on := 64, ground := Go.Ground.guard }], guard := some (64, true) }) rfl (fun K hK => ?_) ?_
      (go_simp; (with_reducible refine (W8.out _ (by assumption)).mono ?_); rintro e kk3 ⟨rfl, gZ⟩; have hnZ := Lib.hid (hnL.out.below gZ); go_wp2_with fail)
      refine hK.out _ _ ?_ (fun hH22 => ?_)
      · (try dsimp only) <;> (exact HSS.out _ (by assumption))
      clear hK K hH21
      try simp only [Act.put, List.setIfInBounds_toArray, List.set_cons_zero, List.set_cons_succ]
      refine wpAnyH_take (i := 66) (oi := { dst := some 161, op := Go.Op.pick (Go.Operand.tmp 159) (Go.Operand.tmp 160) (Go.Operand.const (Go.Value.bool false)), type := 4, pos := "law.go:39", after := #[{ on := 64, ground := Go.Ground.data }, { on := 65, ground := Go.Ground.data }], guard := none }) (v := ?_) rfl (by kernel_rfl) (by kernel_rfl) (by kernel_rfl) (fun _ _ _ h => h) (Or.inl ⟨by rfl, ?_⟩) (by assumption) ?_
      rotate_left
      (intro w hSw; (try dsimp only at hSw); go_simp <;> with_reducible rfl)
      try simp only [Act.put, List.setIfInBounds_toArray, List.set_cons_zero, List.set_cons_succ]
      refine wpAnyH_take (i := 67) (oi := { dst := some 6, op := Go.Op.assign (Go.Operand.tmp 161), type := 4, pos := "law.go:39", after := ([{ on := 66, ground := Go.Ground.data }, { on := 65, ground := Go.Ground.chain }, { on := 0, ground := Go.Ground.phase }, { on := 1, ground := Go.Ground.phase }, { on := 2, ground := Go.Ground.phase }, { on := 3, ground := Go.Ground.phase }, { on := 4, ground := Go.Ground.phase }, { on := 5, ground := Go.Ground.phase }, { on := 6, ground := Go.Ground.phase }, { on := 7, ground := Go.Ground.phase }, { on := 8, ground := Go.Ground.phase }, { on := 9, ground := Go.Ground.phase }, { on := 10, ground := Go.Ground.phase }, { on := 11, ground := Go.Ground.phase }, { on := 12, ground := Go.Ground.phase }, { on := 13, ground := Go.Ground.phase }, { on := 14, ground := Go.Ground.phase }, { on := 15, ground := Go.Ground.phase }, { on := 16, ground := Go.Ground.phase }, { on := 17, ground := Go.Ground.phase }, { on := 18, ground := Go.Ground.phase }, { on := 19, ground := Go.Ground.phase }, { on := 20, ground := Go.Ground.phase }, { on := 21, ground := Go.Ground.phase }, { on := 22, ground := Go.Ground.phase }, { on := 23, ground := Go.Ground.phase }, { on := 24, ground := Go.Ground.phase }, { on := 25, ground := Go.Ground.phase }, { on := 26, ground := Go.Ground.phase }, { on := 27, ground := Go.Ground.phase }, { on := 28, ground := Go.Ground.phase }, { on := 29, ground := Go.Ground.phase }, { on := 30, ground := Go.Ground.phase }, { on := 31, ground := Go.Ground.phase }].append [{ on := 32, ground := Go.Ground.phase }, { on := 33, ground := Go.Ground.phase }, { on := 34, ground := Go.Ground.phase }, { on := 35, ground := Go.Ground.phase }, { on := 36, ground := Go.Ground.phase }, { on := 37, ground := Go.Ground.phase }, { on := 38, ground := Go.Ground.phase }, { on := 39, ground := Go.Ground.phase }, { on := 40, ground := Go.Ground.phase }, { on := 41, ground := Go.Ground.phase }, { on := 42, ground := Go.Ground.phase }, { on := 43, ground := Go.Ground.phase }, { on := 44, ground := Go.Ground.phase }, { on := 45, ground := Go.Ground.phase }, { on := 46, ground := Go.Ground.phase }, { on := 47, ground := Go.Ground.phase }, { on := 48, ground := Go.Ground.phase }, { on := 49, ground := Go.Ground.phase }, { on := 50, ground := Go.Ground.phase }, { on := 51, ground := Go.Ground.phase }, { on := 52, ground := Go.Ground.phase }, { on := 53, ground := Go.Ground.phase }, { on := 54, ground := Go.Ground.phase }, { on := 55, ground := Go.Ground.phase }, { on := 56, ground := Go.Ground.phase }, { on := 57, ground := Go.Ground.phase }, { on := 58, ground := Go.Ground.phase }, { on := 59, ground := Go.Ground.phase }, { on := 60, ground := Go.Ground.phase }, { on := 61, ground := Go.Ground.phase }, { on := 62, ground := Go.Ground.phase }, { on := 63, ground := Go.Ground.phase }, { on := 64, ground := Go.Ground.phase }, { on := 65, ground := Go.Ground.phase }, { on := 66, ground := Go.Ground.phase }]).toArray, guard := none }) (v := ?_) rfl (by kernel_rfl) (by kernel_rfl) (by kernel_rfl) (fun _ _ _ h => h) (Or.inl ⟨by rfl, ?_⟩) (by assumption) ?_
      rotate_left
      (intro w hSw; (try dsimp only at hSw); go_simp <;> with_reducible rfl)
      try simp only [Act.put, List.setIfInBounds_toArray, List.set_cons_zero, List.set_cons_succ]
      refine wpAnyH_done (by kernel_rfl) ?_ _
      rotate_left
      exact AllReadyH.nil
      exact AllReadyH.nil
      exact AllReadyH.nil
      refine AllReadyH.cons (o := { dst := some 155, op := Go.Op.buildSlice 31 2 #[(0, Go.Operand.tmp 153), (1, Go.Operand.tmp 154)], type := 31, pos := "law.go:39", after := #[{ on := 58, ground := Go.Ground.data }, { on := 59, ground := Go.Ground.data }, { on := 52, ground := Go.Ground.guard }], guard := some (52, true) }) rfl (fun K hK => ?_) ?_
      (go_simp; (first | (have hnB : Hid (Tl m pr IB w4.heap.size w (kk1.alloc (.cells #[.int .i64 a, .int .i64 b] 3))) := Lib.hid (hnK.out.below (below_al1 kk1 _)); have hrC : Hid (RowIn (kk1.alloc (.cells #[.int .i64 a, .int .i64 b] 3)) (.slice (some ⟨kk1.heap.size, 0, none⟩) 2 2) [a, b]) := Lib.hid (RowIn.fresh kk1 [a, b] _ rfl 2 rfl)) | (have hnB : Hid (Tl m pr IB w4.heap.size w (f5.alloc (.cells #[.int .i64 a, .int .i64 b] 3))) := Lib.hid (hnF5.out.below (below_al1 f5 _)); have hrB : Hid (RowIn (f5.alloc (.cells #[.int .i64 a, .int .i64 b] 3)) (.slice (some ⟨f5.heap.size, 0, none⟩) 2 2) [a, b]) := Lib.hid (RowIn.fresh f5 [a, b] _ rfl 2 rfl))))
      refine hK.out _ _ ?_ (fun hH23 => ?_)
      · (try dsimp only) <;> (exact HSS.out _ (by assumption))
      clear hK K hH18
      try simp only [Act.put, List.setIfInBounds_toArray, List.set_cons_zero, List.set_cons_succ]
      refine wpAnyH_ready (rs := [56]) (by kernel_rfl) (by simp) ?_
      refine AllReadyH.cons (o := { dst := some 151, op := Go.Op.call { callee := Go.Callee.value (Go.Operand.func 23), args := #[Go.Operand.tmp 148, Go.Operand.tmp 149, Go.Operand.tmp 150, Go.Operand.const (Go.Value.slice none 0 0)], argTypes := #[42, 3, 3, 31] }, type := 3, pos := "law.go:39", after := #[{ on := 53, ground := Go.Ground.data }, { on := 54, ground := Go.Ground.data }, { on := 55, ground := Go.Ground.data }, { on := 52, ground := Go.Ground.chain }, { on := 52, ground := Go.Ground.guard }], guard := some (52, true) }) rfl (fun K hK => ?_) ?_
      (go_simp; (with_reducible refine (K1.out _ (by assumption)).mono ?_); rintro e kk1 ⟨rfl, hnK, gK⟩; (first | (have hrC := Lib.hid (hrB.out.below gK)) | skip); go_wp2_with fail)
      refine hK.out _ _ ?_ (fun hH24 => ?_)
      · (try dsimp only) <;> (exact HSS.out _ (by assumption))
      clear hK K hH23
      try simp only [Act.put, List.setIfInBounds_toArray, List.set_cons_zero, List.set_cons_succ]
      refine wpAnyH_ready (rs := [61]) (by kernel_rfl) (by simp) ?_
      refine AllReadyH.cons (o := { dst := some 156, op := Go.Op.call { callee := Go.Callee.value (Go.Operand.func 24), args := #[Go.Operand.tmp 152, Go.Operand.tmp 155], argTypes := #[50, 31] }, type := 3, pos := "law.go:39", after := #[{ on := 57, ground := Go.Ground.data }, { on := 60, ground := Go.Ground.data }, { on := 56, ground := Go.Ground.chain }, { on := 52, ground := Go.Ground.guard }], guard := some (52, true) }) rfl (fun K hK => ?_) ?_
      (go_simp; (with_reducible refine (K2.out _ (by assumption) _ (by assumption)).mono ?_); rintro e kk2 ⟨rfl, hnL⟩; go_wp2_with fail)
      refine hK.out _ _ ?_ (fun hH25 => ?_)
      · (try dsimp only) <;> (exact HSS.out _ (by assumption))
      clear hK K hH24
      try simp only [Act.put, List.setIfInBounds_toArray, List.set_cons_zero, List.set_cons_succ]
      refine wpAnyH_take (i := 62) (oi := { dst := some 157, op := Go.Op.binOp Go.BinOp.eql 3 (Go.Operand.tmp 151) (Go.Operand.tmp 156) 3, type := 4, pos := "law.go:39", after := #[{ on := 56, ground := Go.Ground.data }, { on := 61, ground := Go.Ground.data }, { on := 52, ground := Go.Ground.guard }], guard := some (52, true) }) (v := ?_) rfl (by kernel_rfl) (by kernel_rfl) (by kernel_rfl) (fun _ _ _ h => h) (Or.inl ⟨by rfl, ?_⟩) (by assumption) ?_
      rotate_left
      (intro w hSw; (try dsimp only at hSw); go_simp <;> with_reducible rfl)
      try simp only [Act.put, List.setIfInBounds_toArray, List.set_cons_zero, List.set_cons_succ]
      refine wpAnyH_take (i := 63) (oi := { dst := some 158, op := Go.Op.pick (Go.Operand.tmp 147) (Go.Operand.tmp 157) (Go.Operand.const (Go.Value.bool false)), type := 4, pos := "law.go:39", after := #[{ on := 52, ground := Go.Ground.data }, { on := 62, ground := Go.Ground.data }], guard := none }) (v := ?_) rfl (by kernel_rfl) (by kernel_rfl) (by kernel_rfl) (fun _ _ _ h => h) (Or.inl ⟨by rfl, ?_⟩) (by assumption) ?_
      rotate_left
      (intro w hSw; (try dsimp only at hSw); go_simp <;> with_reducible rfl)
      try simp only [Act.put, List.setIfInBounds_toArray, List.set_cons_zero, List.set_cons_succ]
      refine wpAnyH_take (i := 64) (oi := { dst := some 159, op := Go.Op.move (Go.Operand.tmp 158), type := 4, pos := "law.go:39", after := #[{ on := 63, ground := Go.Ground.data }, { on := 61, ground := Go.Ground.chain }], guard := none }) (v := ?_) rfl (by kernel_rfl) (by kernel_rfl) (by kernel_rfl) (fun _ _ _ h => h) (Or.inl ⟨by rfl, ?_⟩) (by assumption) ?_
      rotate_left
      (intro w hSw; (try dsimp only at hSw); go_simp <;> with_reducible rfl)
      try simp only [Act.put, List.setIfInBounds_toArray, List.set_cons_zero, List.set_cons_succ]
      refine wpAnyH_ready (rs := [65]) (by kernel_rfl) (by simp) ?_
      refine AllReadyH.cons (o := { dst := some 160, op := Go.Op.call { callee := Go.Callee.value (Go.Operand.func 21), args := #[], argTypes := #[] }, type := 4, pos := "law.go:39", after := #[{ on := 64, ground := Go.Ground.chain }, { on := 64, ground := Go.Ground.guard }], guard := some (64, true) }) rfl (fun K hK => ?_) ?_
      (go_simp; (with_reducible refine (W8.out _ (by assumption)).mono ?_); rintro e kk3 ⟨rfl, gZ⟩; have hnZ := Lib.hid (hnL.out.below gZ); go_wp2_with fail)
      refine hK.out _ _ ?_ (fun hH26 => ?_)
      · (try dsimp only) <;> (exact HSS.out _ (by assumption))
      clear hK K hH25
      try simp only [Act.put, List.setIfInBounds_toArray, List.set_cons_zero, List.set_cons_succ]
      refine wpAnyH_take (i := 66) (oi := { dst := some 161, op := Go.Op.pick (Go.Operand.tmp 159) (Go.Operand.tmp 160) (Go.Operand.const (Go.Value.bool false)), type := 4, pos := "law.go:39", after := #[{ on := 64, ground := Go.Ground.data }, { on := 65, ground := Go.Ground.data }], guard := none }) (v := ?_) rfl (by kernel_rfl) (by kernel_rfl) (by kernel_rfl) (fun _ _ _ h => h) (Or.inl ⟨by rfl, ?_⟩) (by assumption) ?_
      rotate_left
      (intro w hSw; (try dsimp only at hSw); go_simp <;> with_reducible rfl)
      try simp only [Act.put, List.setIfInBounds_toArray, List.set_cons_zero, List.set_cons_succ]
      refine wpAnyH_take (i := 67) (oi := { dst := some 6, op := Go.Op.assign (Go.Operand.tmp 161), type := 4, pos := "law.go:39", after := ([{ on := 66, ground := Go.Ground.data }, { on := 65, ground := Go.Ground.chain }, { on := 0, ground := Go.Ground.phase }, { on := 1, ground := Go.Ground.phase }, { on := 2, ground := Go.Ground.phase }, { on := 3, ground := Go.Ground.phase }, { on := 4, ground := Go.Ground.phase }, { on := 5, ground := Go.Ground.phase }, { on := 6, ground := Go.Ground.phase }, { on := 7, ground := Go.Ground.phase }, { on := 8, ground := Go.Ground.phase }, { on := 9, ground := Go.Ground.phase }, { on := 10, ground := Go.Ground.phase }, { on := 11, ground := Go.Ground.phase }, { on := 12, ground := Go.Ground.phase }, { on := 13, ground := Go.Ground.phase }, { on := 14, ground := Go.Ground.phase }, { on := 15, ground := Go.Ground.phase }, { on := 16, ground := Go.Ground.phase }, { on := 17, ground := Go.Ground.phase }, { on := 18, ground := Go.Ground.phase }, { on := 19, ground := Go.Ground.phase }, { on := 20, ground := Go.Ground.phase }, { on := 21, ground := Go.Ground.phase }, { on := 22, ground := Go.Ground.phase }, { on := 23, ground := Go.Ground.phase }, { on := 24, ground := Go.Ground.phase }, { on := 25, ground := Go.Ground.phase }, { on := 26, ground := Go.Ground.phase }, { on := 27, ground := Go.Ground.phase }, { on := 28, ground := Go.Ground.phase }, { on := 29, ground := Go.Ground.phase }, { on := 30, ground := Go.Ground.phase }, { on := 31, ground := Go.Ground.phase }].append [{ on := 32, ground := Go.Ground.phase }, { on := 33, ground := Go.Ground.phase }, { on := 34, ground := Go.Ground.phase }, { on := 35, ground := Go.Ground.phase }, { on := 36, ground := Go.Ground.phase }, { on := 37, ground := Go.Ground.phase }, { on := 38, ground := Go.Ground.phase }, { on := 39, ground := Go.Ground.phase }, { on := 40, ground := Go.Ground.phase }, { on := 41, ground := Go.Ground.phase }, { on := 42, ground := Go.Ground.phase }, { on := 43, ground := Go.Ground.phase }, { on := 44, ground := Go.Ground.phase }, { on := 45, ground := Go.Ground.phase }, { on := 46, ground := Go.Ground.phase }, { on := 47, ground := Go.Ground.phase }, { on := 48, ground := Go.Ground.phase }, { on := 49, ground := Go.Ground.phase }, { on := 50, ground := Go.Ground.phase }, { on := 51, ground := Go.Ground.phase }, { on := 52, ground := Go.Ground.phase }, { on := 53, ground := Go.Ground.phase }, { on := 54, ground := Go.Ground.phase }, { on := 55, ground := Go.Ground.phase }, { on := 56, ground := Go.Ground.phase }, { on := 57, ground := Go.Ground.phase }, { on := 58, ground := Go.Ground.phase }, { on := 59, ground := Go.Ground.phase }, { on := 60, ground := Go.Ground.phase }, { on := 61, ground := Go.Ground.phase }, { on := 62, ground := Go.Ground.phase }, { on := 63, ground := Go.Ground.phase }, { on := 64, ground := Go.Ground.phase }, { on := 65, ground := Go.Ground.phase }, { on := 66, ground := Go.Ground.phase }]).toArray, guard := none }) (v := ?_) rfl (by kernel_rfl) (by kernel_rfl) (by kernel_rfl) (fun _ _ _ h => h) (Or.inl ⟨by rfl, ?_⟩) (by assumption) ?_
      rotate_left
      (intro w hSw; (try dsimp only at hSw); go_simp <;> with_reducible rfl)
      try simp only [Act.put, List.setIfInBounds_toArray, List.set_cons_zero, List.set_cons_succ]
      refine wpAnyH_done (by kernel_rfl) ?_ _
      rotate_left
      exact AllReadyH.nil
      exact AllReadyH.nil
      exact AllReadyH.nil
      exact AllReadyH.nil
      exact AllReadyH.nil
      exact AllReadyH.nil
      exact AllReadyH.nil
      exact AllReadyH.nil
      exact AllReadyH.nil
      exact AllReadyH.nil
      exact AllReadyH.nil
      exact AllReadyH.nil
      exact AllReadyH.nil
      exact AllReadyH.nil
      exact AllReadyH.nil
      exact AllReadyH.nil
      exact AllReadyH.nil
      exact AllReadyH.nil
      exact AllReadyH.nil
      exact AllReadyH.nil
      exact AllReadyH.nil
      exact AllReadyH.nil
      all_goals
        go_wp2_with fail
        go_ret
        exact ⟨rfl, hnZ.out.bel⟩
end Go.Proofs

