/- Walks: the document's sets: Of, Vertex, row, Fits. -/
import Derived.Test.YtodbdacdnoeheaaGreatDoorHLgAE
import Derived.Test.YtodbdacdnoeheaaGreatDoorHRyAB
namespace Go.Proofs
open Go.RowKit Go.Lx Go.Md Go.Shelf Go.BigFrame Go.Rgi
set_option linter.unusedVariables false
/-- The document's sets. -/
def stV (m : MdlD) (p : Ph) : Value := .agg #[.string m.nm, .slice p.a1 m.vars.length p.c1, .slice p.a2 m.evs.length p.c2, .slice p.a3 m.regs.length p.c3, .slice p.a4 m.vers.length p.c4, .slice p.a5 m.trns.length p.c5, .string m.nm, .slice p.a1 m.vars.length p.c1, .slice p.a2 m.evs.length p.c2, .slice p.a3 m.regs.length p.c3, .slice p.a4 m.vers.length p.c4, .slice p.a5 m.trns.length p.c5]
/-- They lie in a box at H. -/
structure Sb (m : MdlD) (p : Ph) (H : Nat) (w wx : World) : Prop where
 mb : Mb m p H w wx
 y : wx.cell? ⟨H, 6, none⟩ = some (.string m.nm) ∧ wx.cell? ⟨H, 7, none⟩ = some (.slice p.a1 m.vars.length p.c1) ∧ wx.cell? ⟨H, 8, none⟩ = some (.slice p.a2 m.evs.length p.c2) ∧ wx.cell? ⟨H, 9, none⟩ = some (.slice p.a3 m.regs.length p.c3) ∧ wx.cell? ⟨H, 10, none⟩ = some (.slice p.a4 m.vers.length p.c4) ∧ wx.cell? ⟨H, 11, none⟩ = some (.slice p.a5 m.trns.length p.c5)
theorem Sb.below {m : MdlD} {p : Ph} {H : Nat} {w wx wy : World} (h : Sb m p H w wx) (g : Below wx.heap.size wx wy) : Sb m p H w wy := by
 obtain ⟨y0, y1, y2, y3, y4, y5⟩ := h.y
 have hl := h.mb.box.sl
 exact ⟨h.mb.below g, (g.cell (p := ⟨H, 6, none⟩) hl).trans y0, (g.cell (p := ⟨H, 7, none⟩) hl).trans y1, (g.cell (p := ⟨H, 8, none⟩) hl).trans y2, (g.cell (p := ⟨H, 9, none⟩) hl).trans y3, (g.cell (p := ⟨H, 10, none⟩) hl).trans y4, (g.cell (p := ⟨H, 11, none⟩) hl).trans y5⟩
theorem Sb.made {Q : Nat → BP} {m : MdlD} {p : Ph} {w : World} (h : Mod Q w m p) : Sb m p w.heap.size w (w.alloc (.cells #[.string m.nm, .slice p.a1 m.vars.length p.c1, .slice p.a2 m.evs.length p.c2, .slice p.a3 m.regs.length p.c3, .slice p.a4 m.vers.length p.c4, .slice p.a5 m.trns.length p.c5, .string m.nm, .slice p.a1 m.vars.length p.c1, .slice p.a2 m.evs.length p.c2, .slice p.a3 m.regs.length p.c3, .slice p.a4 m.vers.length p.c4, .slice p.a5 m.trns.length p.c5] 48)) := by
 refine ⟨⟨below_al1 w _, (h.weaken fun _ _ h _ => h).below (below_al1 w _), ?_⟩, ?_⟩
 · constructor <;> simp
 · simp
set_option maxRecDepth 100000 in
set_option maxHeartbeats 2000000 in
theorem sof_any (m : MdlD) (p : Ph) (w : World) : Calls Tryz.prog 61 #[mdV m p] w fun e w' => e = .returned (stV m p) ∧ Below w.heap.size w w' := by
 unfold mdV stV
 go_enter Tryz.func61, Tryz.ntmps61
 go_wp2_with fail
 refine bodyPost_ret (v := .agg #[.string m.nm, .slice p.a1 m.vars.length p.c1, .slice p.a2 m.evs.length p.c2, .slice p.a3 m.regs.length p.c3, .slice p.a4 m.vers.length p.c4, .slice p.a5 m.trns.length p.c5, .string m.nm, .slice p.a1 m.vars.length p.c1, .slice p.a2 m.evs.length p.c2, .slice p.a3 m.regs.length p.c3, .slice p.a4 m.vers.length p.c4, .slice p.a5 m.trns.length p.c5]) (by simp [results, Tryz.results61, go_sem]) rfl ⟨rfl, below_al2 w _ _⟩
set_option maxRecDepth 100000 in
set_option maxHeartbeats 2000000 in
theorem svertex_any {Q : Nat → BP} (m : MdlD) (p : Ph) (v : Int) (w : World) (h : Mod Q w m p) (hvl : m.vers.length ≤ 100000) :
   Calls Tryz.prog 73 #[stV m p, .int .i64 v] w fun e w' => e = .returned (.bool (stands m v)) ∧ Below w.heap.size w w' := by
 have HB := Lib.hid (Sb.made h)
 unfold stV
 cases hv : hasV m v with
 | false =>
  have hp : stands m v = false := by unfold stands; rw [hv]; rfl
  rw [hp]
  unfold hasV at hv
  clear h hp
  by_cases h1 : 0 ≤ v
  · have h2 : ¬ (v < m.vers.length) := by simp [h1] at hv; omega
    clear hv
    go_enter Tryz.func73, Tryz.ntmps73
    go_wp2_with fail
    go_ret
    exact ⟨rfl, below_al1 w _⟩
  · clear hv
    go_enter Tryz.func73, Tryz.ntmps73
    go_wp2_with fail
    go_ret
    exact ⟨rfl, below_al1 w _⟩
 | true =>
  obtain ⟨k, rfl, hk⟩ := hasV_yes hv
  rw [stands_at hk]
  obtain ⟨b2, o2, ea, hb2, dv, hdv, r0, r1, _⟩ := h.vers.get hk
  have hcap := h.vers.cap (by omega)
  obtain ⟨x, hx⟩ : ∃ x, m.vers[k].kd = x := ⟨_, rfl⟩
  rw [hx] at r1 ⊢
  rw [ea]
  have h1 : (0 : Int) ≤ (k : Int) := by omega
  have h2 : (k : Int) < (m.vers.length : Int) := by omega
  clear h hv ea hdv r0 hx HB
  cases d1 : (x == 1) with
  | true =>
   have e1 : ((x : Int) == 1) = true := by simp at d1 ⊢; omega
   go_enter Tryz.func73, Tryz.ntmps73
   go_wp2_with fail
   go_ret
   exact ⟨rfl, below_al1 w _⟩
  | false =>
   have e1 : ((x : Int) == 1) = false := by simp at d1 ⊢; omega
   cases d2 : (x == 2) with
   | true =>
    have e2 : ((x : Int) == 2) = true := by simp at d2 ⊢; omega
    go_enter Tryz.func73, Tryz.ntmps73
    go_wp2_with fail
    go_ret
    exact ⟨rfl, below_al1 w _⟩
   | false =>
    have e2 : ((x : Int) == 2) = false := by simp at d2 ⊢; omega
    go_enter Tryz.func73, Tryz.ntmps73
    go_wp2_with fail
    go_ret
    exact ⟨rfl, below_al1 w _⟩
/-- The sets and a configuration in their boxes. -/
structure Sc (m : MdlD) (p : Ph) (la ll : List Int) (a1 a2 : Option Addr) (c1 c2 : Nat) (w wx : World) : Prop where
 sb : Sb m p w.heap.size w wx
 d0 : wx.cell? ⟨w.heap.size + 1, 0, none⟩ = some (.slice a1 la.length c1)
 d1 : wx.cell? ⟨w.heap.size + 1, 1, none⟩ = some (.slice a2 ll.length c2)
 sz : w.heap.size + 1 < wx.heap.size
 r1 : RowIn wx (.slice a1 la.length c1) la
theorem Sc.below {m : MdlD} {p : Ph} {la ll : List Int} {a1 a2 : Option Addr} {c1 c2 : Nat} {w wx wy : World} (h : Sc m p la ll a1 a2 c1 c2 w wx) (g : Below wx.heap.size wx wy) : Sc m p la ll a1 a2 c1 c2 w wy :=
 ⟨h.sb.below g, (g.cell (p := ⟨w.heap.size + 1, 0, none⟩) h.sz).trans h.d0, (g.cell (p := ⟨w.heap.size + 1, 1, none⟩) h.sz).trans h.d1, Nat.lt_of_lt_of_le h.sz g.size, h.r1.below g⟩
theorem Sc.made {Q : Nat → BP} {m : MdlD} {p : Ph} {la ll : List Int} {a1 a2 : Option Addr} {c1 c2 : Nat} {w : World} (h : Mod Q w m p) (h1 : RowIn w (.slice a1 la.length c1) la) :
   Sc m p la ll a1 a2 c1 c2 w ((w.alloc (.cells #[.string m.nm, .slice p.a1 m.vars.length p.c1, .slice p.a2 m.evs.length p.c2, .slice p.a3 m.regs.length p.c3, .slice p.a4 m.vers.length p.c4, .slice p.a5 m.trns.length p.c5, .string m.nm, .slice p.a1 m.vars.length p.c1, .slice p.a2 m.evs.length p.c2, .slice p.a3 m.regs.length p.c3, .slice p.a4 m.vers.length p.c4, .slice p.a5 m.trns.length p.c5] 48)).alloc (.cells #[.slice a1 la.length c1, .slice a2 ll.length c2] 62)) :=
 ⟨(Sb.made h).below (below_al1 _ _), by simp, by simp, by simp, h1.below (below_al2 w _ _)⟩
set_option maxRecDepth 100000 in
set_option maxHeartbeats 4000000 in
theorem sis_any {Q : Nat → BP} (m : MdlD) (p : Ph) (la ll : List Int) (a1 a2 : Option Addr) (c1 c2 : Nat) (v : Int) (w : World) (h : Mod Q w m p) (h0 : riM m = (0, 0, 0)) (h1 : RowIn w (.slice a1 la.length c1) la) (hl : la.length = m.regs.length) (hvl : m.vers.length ≤ 100000) :
   Calls Tryz.prog 22 #[stV m p, .agg #[.slice a1 la.length c1, .slice a2 ll.length c2], .int .i64 v] w fun e w' => e = .returned (.bool (isA m la v)) ∧ Below w.heap.size w w' := by
 have HB := Lib.hid (Sc.made (ll := ll) (a2 := a2) (c2 := c2) h h1)
 have HC0 := Lib.hid (fun wx (g : Sc m p la ll a1 a2 c1 c2 w wx) => svertex_any m p v wx g.sb.mb.mod hvl)
 have HG0 := Lib.hid (fun wx (g : Sc m p la ll a1 a2 c1 c2 w wx) => rhome16_any m p v wx g.sb.mb.mod h0 (by omega))
 have HI : Hid (isA m la v = (stands m v && atL la (rgA m v) == v)) := Lib.hid rfl
 have HSt := Lib.hid (fun (hs : stands m v = true) => stands_in h0 hs)
 have HLl := Lib.hid hl
 obtain ⟨st, hst⟩ : ∃ b, stands m v = b := ⟨_, rfl⟩
 unfold ixV at HG0
 unfold stV mdV at *
 rw [hst] at HI
 have HC1 : Hid (∀ wx, Sc m p la ll a1 a2 c1 c2 w wx → Calls Tryz.prog 73 #[.agg #[.string m.nm, .slice p.a1 m.vars.length p.c1, .slice p.a2 m.evs.length p.c2, .slice p.a3 m.regs.length p.c3, .slice p.a4 m.vers.length p.c4, .slice p.a5 m.trns.length p.c5, .string m.nm, .slice p.a1 m.vars.length p.c1, .slice p.a2 m.evs.length p.c2, .slice p.a3 m.regs.length p.c3, .slice p.a4 m.vers.length p.c4, .slice p.a5 m.trns.length p.c5], .int .i64 v] wx fun e w' => e = .returned (.bool st) ∧ Below wx.heap.size wx w') := Lib.hid (by rw [← hst]; exact HC0.out)
 obtain ⟨a1', c1', e, hc, q⟩ := h1.len
 simp only [Value.slice.injEq] at e
 obtain ⟨e1, _, e2⟩ := e
 rw [← e2] at hc
 rw [← e1] at q
 have hq := q
 clear h h0 HC0 e1 e2 q hl
 cases st with
 | false =>
  rw [Bool.false_and] at HI
  rw [HI.out]
  clear HI HG0 HSt hq hst h1
  go_enter Tryz.func22, Tryz.ntmps22
  go_wp2_with fail
  generalize ((w.alloc (.cells #[.string m.nm, .slice p.a1 m.vars.length p.c1, .slice p.a2 m.evs.length p.c2, .slice p.a3 m.regs.length p.c3, .slice p.a4 m.vers.length p.c4, .slice p.a5 m.trns.length p.c5, .string m.nm, .slice p.a1 m.vars.length p.c1, .slice p.a2 m.evs.length p.c2, .slice p.a3 m.regs.length p.c3, .slice p.a4 m.vers.length p.c4, .slice p.a5 m.trns.length p.c5] 48)).alloc (.cells #[.slice a1 la.length c1, .slice a2 ll.length c2] 62)) = W1 at *
  have HC := Lib.hid (fun wx (g : Below W1.heap.size W1 wx) => HC1.out wx (HB.out.below g))
  have HS1 : Hid (∀ W', Below W1.heap.size W1 W' → (W'.cell? ⟨w.heap.size, 0, none⟩ = some (.string m.nm) ∧ W'.cell? ⟨w.heap.size, 1, none⟩ = some (.slice p.a1 m.vars.length p.c1) ∧ W'.cell? ⟨w.heap.size, 2, none⟩ = some (.slice p.a2 m.evs.length p.c2) ∧ W'.cell? ⟨w.heap.size, 3, none⟩ = some (.slice p.a3 m.regs.length p.c3) ∧ W'.cell? ⟨w.heap.size, 4, none⟩ = some (.slice p.a4 m.vers.length p.c4) ∧ W'.cell? ⟨w.heap.size, 5, none⟩ = some (.slice p.a5 m.trns.length p.c5)) ∧ (W'.cell? ⟨w.heap.size, 6, none⟩ = some (.string m.nm) ∧ W'.cell? ⟨w.heap.size, 7, none⟩ = some (.slice p.a1 m.vars.length p.c1) ∧ W'.cell? ⟨w.heap.size, 8, none⟩ = some (.slice p.a2 m.evs.length p.c2) ∧ W'.cell? ⟨w.heap.size, 9, none⟩ = some (.slice p.a3 m.regs.length p.c3) ∧ W'.cell? ⟨w.heap.size, 10, none⟩ = some (.slice p.a4 m.vers.length p.c4) ∧ W'.cell? ⟨w.heap.size, 11, none⟩ = some (.slice p.a5 m.trns.length p.c5)) ∧ W'.cell? ⟨w.heap.size + 1, 0, none⟩ = some (.slice a1 la.length c1)) := Lib.hid fun W' g => by
    have hh := HB.out.below g
    obtain ⟨x0, x1, x2, x3, x4, x5, _⟩ := hh.sb.mb.box
    exact ⟨⟨x0, x1, x2, x3, x4, x5⟩, hh.sb.y, hh.d0⟩
  have hB0 : Below W1.heap.size W1 W1 := Below.refl _ _
  clear HC1
  refine wp_region_any (by kernel_rfl) ?_
  change wpAny _ _ _ _ _ _ _ (World.drew _)
  refine wpAny_of_heldS (S := (fun W' => (W'.cell? ⟨w.heap.size, 0, none⟩ = some (.string m.nm) ∧ W'.cell? ⟨w.heap.size, 1, none⟩ = some (.slice p.a1 m.vars.length p.c1) ∧ W'.cell? ⟨w.heap.size, 2, none⟩ = some (.slice p.a2 m.evs.length p.c2) ∧ W'.cell? ⟨w.heap.size, 3, none⟩ = some (.slice p.a3 m.regs.length p.c3) ∧ W'.cell? ⟨w.heap.size, 4, none⟩ = some (.slice p.a4 m.vers.length p.c4) ∧ W'.cell? ⟨w.heap.size, 5, none⟩ = some (.slice p.a5 m.trns.length p.c5)) ∧ (W'.cell? ⟨w.heap.size, 6, none⟩ = some (.string m.nm) ∧ W'.cell? ⟨w.heap.size, 7, none⟩ = some (.slice p.a1 m.vars.length p.c1) ∧ W'.cell? ⟨w.heap.size, 8, none⟩ = some (.slice p.a2 m.evs.length p.c2) ∧ W'.cell? ⟨w.heap.size, 9, none⟩ = some (.slice p.a3 m.regs.length p.c3) ∧ W'.cell? ⟨w.heap.size, 10, none⟩ = some (.slice p.a4 m.vers.length p.c4) ∧ W'.cell? ⟨w.heap.size, 11, none⟩ = some (.slice p.a5 m.trns.length p.c5)) ∧ W'.cell? ⟨w.heap.size + 1, 0, none⟩ = some (.slice a1 la.length c1))) ?_ (fun hHeld => ?_)
  · (try dsimp only) <;> (first | exact HS1.out _ (by assumption) | exact HS1.out _ hB0.drew)
  refine tkH (i := 0) (oi := ⟨some 7, .load 48 (.tmp 3), 48, "ref.go:109", #[], none⟩) (v := ?_) rfl (by kernel_rfl) (fun _ _ _ h => h) (Or.inl ⟨by rfl, ?_⟩) (by assumption) ?_
  rotate_left; (intro w hSw; (try dsimp only at hSw); go_simp <;> with_reducible rfl); try simp only [Act.put, List.setIfInBounds_toArray, List.set_cons_zero, List.set_cons_succ]
  refine tkH (i := 1) (oi := ⟨some 8, .move (.tmp 2), 3, "ref.go:109", #[], none⟩) (v := ?_) rfl (by kernel_rfl) (fun _ _ _ h => h) (Or.inl ⟨by rfl, ?_⟩) (by assumption) ?_
  rotate_left; (intro w hSw; (try dsimp only at hSw); go_simp <;> with_reducible rfl); try simp only [Act.put, List.setIfInBounds_toArray, List.set_cons_zero, List.set_cons_succ]
  refine wpAnyH_ready (rs := [2]) (by kernel_rfl) (by simp) ?_
  refine AllReadyH.cons (o := ⟨some 9, .call { callee := .value (.func 73), args := #[.tmp 7, .tmp 8], argTypes := #[48, 3] }, 4, "ref.go:109", #[⟨0, .data⟩, ⟨1, .data⟩], none⟩) rfl (fun K hK => ?_) ?_
  (go_simp; (with_reducible refine (HC.out _ (by first | assumption | exact hB0.drew)).mono ?_); rintro e w3 ⟨rfl, hb3⟩; have hB3 := below_ch (by first | assumption | exact hB0.drew) hb3; go_wp2_with fail)
  refine hK.out _ _ ?_ (fun hH1 => ?_)
  · (try dsimp only) <;> (first | exact HS1.out _ (by assumption) | exact HS1.out _ hB0.drew)
  clear hK K hHeld
  try simp only [Act.put, List.setIfInBounds_toArray, List.set_cons_zero, List.set_cons_succ]
  refine tkH (i := 3) (oi := ⟨some 10, .move (.tmp 9), 4, "ref.go:109", #[⟨2, .data⟩, ⟨2, .chain⟩], none⟩) (v := ?_) rfl (by kernel_rfl) (fun _ _ _ h => h) (Or.inl ⟨by rfl, ?_⟩) (by assumption) ?_
  rotate_left; (intro w hSw; (try dsimp only at hSw); go_simp <;> with_reducible rfl); try simp only [Act.put, List.setIfInBounds_toArray, List.set_cons_zero, List.set_cons_succ]
  refine tkH (i := 4) (oi := ⟨some 11, .fieldAddr 62 (.tmp 4) 0, 0, "ref.go:109", #[⟨3, .guard⟩], some (3, true)⟩) (v := undef) rfl (by kernel_rfl) (fun _ _ _ h => h) (Or.inr ⟨by rfl, rfl⟩) (by assumption) ?_
  try simp only [Act.put, List.setIfInBounds_toArray, List.set_cons_zero, List.set_cons_succ]
  refine tkH (i := 5) (oi := ⟨some 12, .load 29 (.tmp 11), 29, "ref.go:109", #[⟨4, .data⟩, ⟨3, .guard⟩], some (3, true)⟩) (v := undef) rfl (by kernel_rfl) (fun _ _ _ h => h) (Or.inr ⟨by rfl, rfl⟩) (by assumption) ?_
  try simp only [Act.put, List.setIfInBounds_toArray, List.set_cons_zero, List.set_cons_succ]
  refine tkH (i := 6) (oi := ⟨some 13, .fieldAddr 48 (.tmp 3) 1, 0, "ref.go:109", #[⟨3, .guard⟩], some (3, true)⟩) (v := undef) rfl (by kernel_rfl) (fun _ _ _ h => h) (Or.inr ⟨by rfl, rfl⟩) (by assumption) ?_
  try simp only [Act.put, List.setIfInBounds_toArray, List.set_cons_zero, List.set_cons_succ]
  refine tkH (i := 7) (oi := ⟨some 14, .load 40 (.tmp 13), 40, "ref.go:109", #[⟨6, .data⟩, ⟨3, .guard⟩], some (3, true)⟩) (v := undef) rfl (by kernel_rfl) (fun _ _ _ h => h) (Or.inr ⟨by rfl, rfl⟩) (by assumption) ?_
  try simp only [Act.put, List.setIfInBounds_toArray, List.set_cons_zero, List.set_cons_succ]
  refine tkH (i := 8) (oi := ⟨some 15, .move (.tmp 2), 3, "ref.go:109", #[⟨3, .guard⟩], some (3, true)⟩) (v := undef) rfl (by kernel_rfl) (fun _ _ _ h => h) (Or.inr ⟨by rfl, rfl⟩) (by assumption) ?_
  try simp only [Act.put, List.setIfInBounds_toArray, List.set_cons_zero, List.set_cons_succ]
  refine tkH (i := 9) (oi := ⟨some 16, .call { callee := .value (.func 20), args := #[.tmp 14, .tmp 15], argTypes := #[40, 3] }, 3, "ref.go:109", #[⟨7, .data⟩, ⟨8, .data⟩, ⟨3, .chain⟩, ⟨3, .guard⟩], some (3, true)⟩) (v := undef) rfl (by kernel_rfl) (fun _ _ _ h => h) (Or.inr ⟨by rfl, rfl⟩) (by assumption) ?_
  try simp only [Act.put, List.setIfInBounds_toArray, List.set_cons_zero, List.set_cons_succ]
  refine tkH (i := 10) (oi := ⟨some 17, .indexAddr 29 (.tmp 12) (.tmp 16), 0, "ref.go:109", #[⟨5, .data⟩, ⟨9, .data⟩, ⟨3, .guard⟩], some (3, true)⟩) (v := undef) rfl (by kernel_rfl) (fun _ _ _ h => h) (Or.inr ⟨by rfl, rfl⟩) (by assumption) ?_
  try simp only [Act.put, List.setIfInBounds_toArray, List.set_cons_zero, List.set_cons_succ]
  refine tkH (i := 11) (oi := ⟨some 18, .load 3 (.tmp 17), 3, "ref.go:109", #[⟨10, .data⟩, ⟨3, .guard⟩], some (3, true)⟩) (v := undef) rfl (by kernel_rfl) (fun _ _ _ h => h) (Or.inr ⟨by rfl, rfl⟩) (by assumption) ?_
  try simp only [Act.put, List.setIfInBounds_toArray, List.set_cons_zero, List.set_cons_succ]
  refine tkH (i := 12) (oi := ⟨some 19, .move (.tmp 2), 3, "ref.go:109", #[⟨3, .guard⟩], some (3, true)⟩) (v := undef) rfl (by kernel_rfl) (fun _ _ _ h => h) (Or.inr ⟨by rfl, rfl⟩) (by assumption) ?_
  try simp only [Act.put, List.setIfInBounds_toArray, List.set_cons_zero, List.set_cons_succ]
  refine tkH (i := 13) (oi := ⟨some 20, .binOp .eql 3 (.tmp 18) (.tmp 19) 3, 4, "ref.go:109", #[⟨11, .data⟩, ⟨12, .data⟩, ⟨3, .guard⟩], some (3, true)⟩) (v := undef) rfl (by kernel_rfl) (fun _ _ _ h => h) (Or.inr ⟨by rfl, rfl⟩) (by assumption) ?_
  try simp only [Act.put, List.setIfInBounds_toArray, List.set_cons_zero, List.set_cons_succ]
  refine tkH (i := 14) (oi := ⟨some 21, .pick (.tmp 10) (.tmp 20) (.const (.bool false)), 4, "ref.go:109", #[⟨3, .data⟩, ⟨13, .data⟩], none⟩) (v := ?_) rfl (by kernel_rfl) (fun _ _ _ h => h) (Or.inl ⟨by rfl, ?_⟩) (by assumption) ?_
  rotate_left; (intro w hSw; (try dsimp only at hSw); go_simp <;> with_reducible rfl); try simp only [Act.put, List.setIfInBounds_toArray, List.set_cons_zero, List.set_cons_succ]
  refine tkH (i := 15) (oi := ⟨some 6, .assign (.tmp 21), 4, "ref.go:109", #[⟨14, .data⟩, ⟨9, .chain⟩, ⟨0, .phase⟩, ⟨1, .phase⟩, ⟨2, .phase⟩, ⟨3, .phase⟩, ⟨4, .phase⟩, ⟨5, .phase⟩, ⟨6, .phase⟩, ⟨7, .phase⟩, ⟨8, .phase⟩, ⟨9, .phase⟩, ⟨10, .phase⟩, ⟨11, .phase⟩, ⟨12, .phase⟩, ⟨13, .phase⟩, ⟨14, .phase⟩], none⟩) (v := ?_) rfl (by kernel_rfl) (fun _ _ _ h => h) (Or.inl ⟨by rfl, ?_⟩) (by assumption) ?_
  rotate_left; (intro w hSw; (try dsimp only at hSw); go_simp <;> with_reducible rfl); try simp only [Act.put, List.setIfInBounds_toArray, List.set_cons_zero, List.set_cons_succ]
  refine wpAnyH_done (by kernel_rfl) ?_ _
  rotate_left
  exact AllReadyH.nil
  all_goals
    go_wp2_with fail
    go_ret
    exact ⟨rfl, (HB.out.below hB3).sb.mb.bel⟩
 | true =>
  obtain ⟨k, hk, rfl, r, hr, e1, e2, _⟩ := HSt.out hst
  have hrl : r < la.length := by rw [HLl.out]; exact hr
  have HG1 : Hid (∀ wx, Sc m p la ll a1 a2 c1 c2 w wx → Calls Tryz.prog 20 #[.agg #[.string m.nm, .slice p.a1 m.vars.length p.c1, .slice p.a2 m.evs.length p.c2, .slice p.a3 m.regs.length p.c3, .slice p.a4 m.vers.length p.c4, .slice p.a5 m.trns.length p.c5], .int .i64 (k : Int)] wx fun e w' => e = .returned (.int .i64 (r : Int)) ∧ Below wx.heap.size wx w') := Lib.hid (by rw [← e2]; exact HG0.out)
  obtain ⟨b1, o1, ea, hb1, hc1⟩ := hq r hrl
  rw [e1, Bool.true_and, atL_at hrl] at HI
  obtain ⟨y, hy⟩ : ∃ y, la[r]'hrl = y := ⟨_, rfl⟩
  rw [hy] at hc1 HI
  rw [HI.out]
  have hb1' : b1 < ((w.alloc (.cells #[.string m.nm, .slice p.a1 m.vars.length p.c1, .slice p.a2 m.evs.length p.c2, .slice p.a3 m.regs.length p.c3, .slice p.a4 m.vers.length p.c4, .slice p.a5 m.trns.length p.c5, .string m.nm, .slice p.a1 m.vars.length p.c1, .slice p.a2 m.evs.length p.c2, .slice p.a3 m.regs.length p.c3, .slice p.a4 m.vers.length p.c4, .slice p.a5 m.trns.length p.c5] 48)).alloc (.cells #[.slice a1 la.length c1, .slice a2 ll.length c2] 62)).heap.size := by simp; omega
  have hc1' : ((w.alloc (.cells #[.string m.nm, .slice p.a1 m.vars.length p.c1, .slice p.a2 m.evs.length p.c2, .slice p.a3 m.regs.length p.c3, .slice p.a4 m.vers.length p.c4, .slice p.a5 m.trns.length p.c5, .string m.nm, .slice p.a1 m.vars.length p.c1, .slice p.a2 m.evs.length p.c2, .slice p.a3 m.regs.length p.c3, .slice p.a4 m.vers.length p.c4, .slice p.a5 m.trns.length p.c5] 48)).alloc (.cells #[.slice a1 la.length c1, .slice a2 ll.length c2] 62)).cell? ⟨b1, o1 + r, none⟩ = some (.int .i64 y) := ((below_al2 w _ _).cell (p := ⟨b1, o1 + r, none⟩) hb1).trans hc1
  have hrI : (r : Int) < (la.length : Int) := by omega
  have hr0 : (0 : Int) ≤ (r : Int) := by omega
  clear HI HG0 HSt hst e1 e2 hy hc1 hq hb1
  subst ea
  go_enter Tryz.func22, Tryz.ntmps22
  go_wp2_with fail
  generalize ((w.alloc (.cells #[.string m.nm, .slice p.a1 m.vars.length p.c1, .slice p.a2 m.evs.length p.c2, .slice p.a3 m.regs.length p.c3, .slice p.a4 m.vers.length p.c4, .slice p.a5 m.trns.length p.c5, .string m.nm, .slice p.a1 m.vars.length p.c1, .slice p.a2 m.evs.length p.c2, .slice p.a3 m.regs.length p.c3, .slice p.a4 m.vers.length p.c4, .slice p.a5 m.trns.length p.c5] 48)).alloc (.cells #[.slice (some ⟨b1, o1, none⟩) la.length c1, .slice a2 ll.length c2] 62)) = W1 at *
  have HC := Lib.hid (fun wx (g : Below W1.heap.size W1 wx) => HC1.out wx (HB.out.below g))
  have HG := Lib.hid (fun wx (g : Below W1.heap.size W1 wx) => HG1.out wx (HB.out.below g))
  have HS1 : Hid (∀ W', Below W1.heap.size W1 W' → (W'.cell? ⟨w.heap.size, 0, none⟩ = some (.string m.nm) ∧ W'.cell? ⟨w.heap.size, 1, none⟩ = some (.slice p.a1 m.vars.length p.c1) ∧ W'.cell? ⟨w.heap.size, 2, none⟩ = some (.slice p.a2 m.evs.length p.c2) ∧ W'.cell? ⟨w.heap.size, 3, none⟩ = some (.slice p.a3 m.regs.length p.c3) ∧ W'.cell? ⟨w.heap.size, 4, none⟩ = some (.slice p.a4 m.vers.length p.c4) ∧ W'.cell? ⟨w.heap.size, 5, none⟩ = some (.slice p.a5 m.trns.length p.c5)) ∧ (W'.cell? ⟨w.heap.size, 6, none⟩ = some (.string m.nm) ∧ W'.cell? ⟨w.heap.size, 7, none⟩ = some (.slice p.a1 m.vars.length p.c1) ∧ W'.cell? ⟨w.heap.size, 8, none⟩ = some (.slice p.a2 m.evs.length p.c2) ∧ W'.cell? ⟨w.heap.size, 9, none⟩ = some (.slice p.a3 m.regs.length p.c3) ∧ W'.cell? ⟨w.heap.size, 10, none⟩ = some (.slice p.a4 m.vers.length p.c4) ∧ W'.cell? ⟨w.heap.size, 11, none⟩ = some (.slice p.a5 m.trns.length p.c5)) ∧ W'.cell? ⟨w.heap.size + 1, 0, none⟩ = some (.slice (some ⟨b1, o1, none⟩) la.length c1) ∧ W'.cell? ⟨b1, o1 + r, none⟩ = some (.int .i64 y)) := Lib.hid fun W' g => by
    have hh := HB.out.below g
    obtain ⟨x0, x1, x2, x3, x4, x5, _⟩ := hh.sb.mb.box
    exact ⟨⟨x0, x1, x2, x3, x4, x5⟩, hh.sb.y, hh.d0, (g.cell (p := ⟨b1, o1 + r, none⟩) hb1').trans hc1'⟩
  have hB0 : Below W1.heap.size W1 W1 := Below.refl _ _
  clear HC1 HG1 h1
  refine wp_region_any (by kernel_rfl) ?_
  change wpAny _ _ _ _ _ _ _ (World.drew _)
  refine wpAny_of_heldS (S := (fun W' => (W'.cell? ⟨w.heap.size, 0, none⟩ = some (.string m.nm) ∧ W'.cell? ⟨w.heap.size, 1, none⟩ = some (.slice p.a1 m.vars.length p.c1) ∧ W'.cell? ⟨w.heap.size, 2, none⟩ = some (.slice p.a2 m.evs.length p.c2) ∧ W'.cell? ⟨w.heap.size, 3, none⟩ = some (.slice p.a3 m.regs.length p.c3) ∧ W'.cell? ⟨w.heap.size, 4, none⟩ = some (.slice p.a4 m.vers.length p.c4) ∧ W'.cell? ⟨w.heap.size, 5, none⟩ = some (.slice p.a5 m.trns.length p.c5)) ∧ (W'.cell? ⟨w.heap.size, 6, none⟩ = some (.string m.nm) ∧ W'.cell? ⟨w.heap.size, 7, none⟩ = some (.slice p.a1 m.vars.length p.c1) ∧ W'.cell? ⟨w.heap.size, 8, none⟩ = some (.slice p.a2 m.evs.length p.c2) ∧ W'.cell? ⟨w.heap.size, 9, none⟩ = some (.slice p.a3 m.regs.length p.c3) ∧ W'.cell? ⟨w.heap.size, 10, none⟩ = some (.slice p.a4 m.vers.length p.c4) ∧ W'.cell? ⟨w.heap.size, 11, none⟩ = some (.slice p.a5 m.trns.length p.c5)) ∧ W'.cell? ⟨w.heap.size + 1, 0, none⟩ = some (.slice (some ⟨b1, o1, none⟩) la.length c1) ∧ W'.cell? ⟨b1, o1 + r, none⟩ = some (.int .i64 y))) ?_ (fun hHeld => ?_)
  · (try dsimp only) <;> (first | exact HS1.out _ (by assumption) | exact HS1.out _ hB0.drew)
  refine tkH (i := 0) (oi := ⟨some 7, .load 48 (.tmp 3), 48, "ref.go:109", #[], none⟩) (v := ?_) rfl (by kernel_rfl) (fun _ _ _ h => h) (Or.inl ⟨by rfl, ?_⟩) (by assumption) ?_
  rotate_left; (intro w hSw; (try dsimp only at hSw); go_simp <;> with_reducible rfl); try simp only [Act.put, List.setIfInBounds_toArray, List.set_cons_zero, List.set_cons_succ]
  refine tkH (i := 1) (oi := ⟨some 8, .move (.tmp 2), 3, "ref.go:109", #[], none⟩) (v := ?_) rfl (by kernel_rfl) (fun _ _ _ h => h) (Or.inl ⟨by rfl, ?_⟩) (by assumption) ?_
  rotate_left; (intro w hSw; (try dsimp only at hSw); go_simp <;> with_reducible rfl); try simp only [Act.put, List.setIfInBounds_toArray, List.set_cons_zero, List.set_cons_succ]
  refine wpAnyH_ready (rs := [2]) (by kernel_rfl) (by simp) ?_
  refine AllReadyH.cons (o := ⟨some 9, .call { callee := .value (.func 73), args := #[.tmp 7, .tmp 8], argTypes := #[48, 3] }, 4, "ref.go:109", #[⟨0, .data⟩, ⟨1, .data⟩], none⟩) rfl (fun K hK => ?_) ?_
  (go_simp; (with_reducible refine (HC.out _ (by first | assumption | exact hB0.drew)).mono ?_); rintro e w3 ⟨rfl, hb3⟩; have hB3 := below_ch (by first | assumption | exact hB0.drew) hb3; go_wp2_with fail)
  refine hK.out _ _ ?_ (fun hH1 => ?_)
  · (try dsimp only) <;> (first | exact HS1.out _ (by assumption) | exact HS1.out _ hB0.drew)
  clear hK K hHeld
  try simp only [Act.put, List.setIfInBounds_toArray, List.set_cons_zero, List.set_cons_succ]
  refine tkH (i := 3) (oi := ⟨some 10, .move (.tmp 9), 4, "ref.go:109", #[⟨2, .data⟩, ⟨2, .chain⟩], none⟩) (v := ?_) rfl (by kernel_rfl) (fun _ _ _ h => h) (Or.inl ⟨by rfl, ?_⟩) (by assumption) ?_
  rotate_left; (intro w hSw; (try dsimp only at hSw); go_simp <;> with_reducible rfl); try simp only [Act.put, List.setIfInBounds_toArray, List.set_cons_zero, List.set_cons_succ]
  refine tkH (i := 4) (oi := ⟨some 11, .fieldAddr 62 (.tmp 4) 0, 0, "ref.go:109", #[⟨3, .guard⟩], some (3, true)⟩) (v := ?_) rfl (by kernel_rfl) (fun _ _ _ h => h) (Or.inl ⟨by rfl, ?_⟩) (by assumption) ?_
  rotate_left; (intro w hSw; (try dsimp only at hSw); go_simp <;> with_reducible rfl); try simp only [Act.put, List.setIfInBounds_toArray, List.set_cons_zero, List.set_cons_succ]
  refine tkH (i := 5) (oi := ⟨some 12, .load 29 (.tmp 11), 29, "ref.go:109", #[⟨4, .data⟩, ⟨3, .guard⟩], some (3, true)⟩) (v := ?_) rfl (by kernel_rfl) (fun _ _ _ h => h) (Or.inl ⟨by rfl, ?_⟩) (by assumption) ?_
  rotate_left; (intro w hSw; (try dsimp only at hSw); go_simp <;> with_reducible rfl); try simp only [Act.put, List.setIfInBounds_toArray, List.set_cons_zero, List.set_cons_succ]
  refine tkH (i := 6) (oi := ⟨some 13, .fieldAddr 48 (.tmp 3) 1, 0, "ref.go:109", #[⟨3, .guard⟩], some (3, true)⟩) (v := ?_) rfl (by kernel_rfl) (fun _ _ _ h => h) (Or.inl ⟨by rfl, ?_⟩) (by assumption) ?_
  rotate_left; (intro w hSw; (try dsimp only at hSw); go_simp <;> with_reducible rfl); try simp only [Act.put, List.setIfInBounds_toArray, List.set_cons_zero, List.set_cons_succ]
  refine tkH (i := 7) (oi := ⟨some 14, .load 40 (.tmp 13), 40, "ref.go:109", #[⟨6, .data⟩, ⟨3, .guard⟩], some (3, true)⟩) (v := ?_) rfl (by kernel_rfl) (fun _ _ _ h => h) (Or.inl ⟨by rfl, ?_⟩) (by assumption) ?_
  rotate_left; (intro w hSw; (try dsimp only at hSw); go_simp <;> with_reducible rfl); try simp only [Act.put, List.setIfInBounds_toArray, List.set_cons_zero, List.set_cons_succ]
  refine tkH (i := 8) (oi := ⟨some 15, .move (.tmp 2), 3, "ref.go:109", #[⟨3, .guard⟩], some (3, true)⟩) (v := ?_) rfl (by kernel_rfl) (fun _ _ _ h => h) (Or.inl ⟨by rfl, ?_⟩) (by assumption) ?_
  rotate_left; (intro w hSw; (try dsimp only at hSw); go_simp <;> with_reducible rfl); try simp only [Act.put, List.setIfInBounds_toArray, List.set_cons_zero, List.set_cons_succ]
  refine tkH (i := 12) (oi := ⟨some 19, .move (.tmp 2), 3, "ref.go:109", #[⟨3, .guard⟩], some (3, true)⟩) (v := ?_) rfl (by kernel_rfl) (fun _ _ _ h => h) (Or.inl ⟨by rfl, ?_⟩) (by assumption) ?_
  rotate_left; (intro w hSw; (try dsimp only at hSw); go_simp <;> with_reducible rfl); try simp only [Act.put, List.setIfInBounds_toArray, List.set_cons_zero, List.set_cons_succ]
  refine wpAnyH_ready (rs := [9]) (by kernel_rfl) (by simp) ?_
  refine AllReadyH.cons (o := ⟨some 16, .call { callee := .value (.func 20), args := #[.tmp 14, .tmp 15], argTypes := #[40, 3] }, 3, "ref.go:109", #[⟨7, .data⟩, ⟨8, .data⟩, ⟨3, .chain⟩, ⟨3, .guard⟩], some (3, true)⟩) rfl (fun K hK => ?_) ?_
  (go_simp; (with_reducible refine (HG.out _ (by assumption)).mono ?_); rintro e w4 ⟨rfl, hb4⟩; have hB4 := below_ch hB3 hb4; go_wp2_with fail)
  refine hK.out _ _ ?_ (fun hH2 => ?_)
  · (try dsimp only) <;> (first | exact HS1.out _ (by assumption) | exact HS1.out _ hB0.drew)
  clear hK K hH1
  try simp only [Act.put, List.setIfInBounds_toArray, List.set_cons_zero, List.set_cons_succ]
  refine tkH (i := 10) (oi := ⟨some 17, .indexAddr 29 (.tmp 12) (.tmp 16), 0, "ref.go:109", #[⟨5, .data⟩, ⟨9, .data⟩, ⟨3, .guard⟩], some (3, true)⟩) (v := ?_) rfl (by kernel_rfl) (fun _ _ _ h => h) (Or.inl ⟨by rfl, ?_⟩) (by assumption) ?_
  rotate_left; (intro w hSw; (try dsimp only at hSw); go_simp <;> with_reducible rfl); try simp only [Act.put, List.setIfInBounds_toArray, List.set_cons_zero, List.set_cons_succ]
  refine tkH (i := 11) (oi := ⟨some 18, .load 3 (.tmp 17), 3, "ref.go:109", #[⟨10, .data⟩, ⟨3, .guard⟩], some (3, true)⟩) (v := ?_) rfl (by kernel_rfl) (fun _ _ _ h => h) (Or.inl ⟨by rfl, ?_⟩) (by assumption) ?_
  rotate_left; (intro w hSw; (try dsimp only at hSw); go_simp <;> with_reducible rfl); try simp only [Act.put, List.setIfInBounds_toArray, List.set_cons_zero, List.set_cons_succ]
  refine tkH (i := 13) (oi := ⟨some 20, .binOp .eql 3 (.tmp 18) (.tmp 19) 3, 4, "ref.go:109", #[⟨11, .data⟩, ⟨12, .data⟩, ⟨3, .guard⟩], some (3, true)⟩) (v := ?_) rfl (by kernel_rfl) (fun _ _ _ h => h) (Or.inl ⟨by rfl, ?_⟩) (by assumption) ?_
  rotate_left; (intro w hSw; (try dsimp only at hSw); go_simp <;> with_reducible rfl); try simp only [Act.put, List.setIfInBounds_toArray, List.set_cons_zero, List.set_cons_succ]
  refine tkH (i := 14) (oi := ⟨some 21, .pick (.tmp 10) (.tmp 20) (.const (.bool false)), 4, "ref.go:109", #[⟨3, .data⟩, ⟨13, .data⟩], none⟩) (v := ?_) rfl (by kernel_rfl) (fun _ _ _ h => h) (Or.inl ⟨by rfl, ?_⟩) (by assumption) ?_
  rotate_left; (intro w hSw; (try dsimp only at hSw); go_simp <;> with_reducible rfl); try simp only [Act.put, List.setIfInBounds_toArray, List.set_cons_zero, List.set_cons_succ]
  refine tkH (i := 15) (oi := ⟨some 6, .assign (.tmp 21), 4, "ref.go:109", #[⟨14, .data⟩, ⟨9, .chain⟩, ⟨0, .phase⟩, ⟨1, .phase⟩, ⟨2, .phase⟩, ⟨3, .phase⟩, ⟨4, .phase⟩, ⟨5, .phase⟩, ⟨6, .phase⟩, ⟨7, .phase⟩, ⟨8, .phase⟩, ⟨9, .phase⟩, ⟨10, .phase⟩, ⟨11, .phase⟩, ⟨12, .phase⟩, ⟨13, .phase⟩, ⟨14, .phase⟩], none⟩) (v := ?_) rfl (by kernel_rfl) (fun _ _ _ h => h) (Or.inl ⟨by rfl, ?_⟩) (by assumption) ?_
  rotate_left; (intro w hSw; (try dsimp only at hSw); go_simp <;> with_reducible rfl); try simp only [Act.put, List.setIfInBounds_toArray, List.set_cons_zero, List.set_cons_succ]
  refine wpAnyH_done (by kernel_rfl) ?_ _
  rotate_left
  exact AllReadyH.nil
  exact AllReadyH.nil
  all_goals
    go_wp2_with fail
    go_ret
    exact ⟨rfl, (HB.out.below hB4).sb.mb.bel⟩
end Go.Proofs
