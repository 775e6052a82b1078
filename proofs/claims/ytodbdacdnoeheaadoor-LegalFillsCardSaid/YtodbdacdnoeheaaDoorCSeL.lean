/- Walks: 'left': an iterator over what is left with a region; it ranges over itself. -/
import Derived.Test.YtodbdacdnoeheaaDoorCLgAE
import Derived.Test.YtodbdacdnoeheaaDoorCSeP
import Derived.Test.YtodbdacdnoeheaaDoorCRfB
import Derived.Test.YtodbdacdnoeheaaDoorCGen
import Derived.Test.YtodbdacdnoeheaaDoorCIxU
import Derived.Test.YtodbdacdnoeheaaDoorCMdSm
import Derived.Maps.AppendAt
import Derived.RangeFuncBox
import Derived.BigRegion
import Derived.Deep.RegionLaw
namespace Go.Proofs
open Go.RowKit Go.Lx Go.Md Go.Shelf Go.Rfu
set_option linter.unusedVariables false
attribute [local go_sem] Oper.semAt_some
theorem roundIn_wide {P : Program} {n n' l : Nat} {l2 : Nat} {f : FuncId} {tmps : Array Value} {assign body : Code} {w : World} {R : Ending → World → Prop} (h : RoundIn Fence.wide n P l f tmps assign body w R) : RoundIn (Fence.wide.inRound l2) n' P l f tmps assign body w R :=
  ⟨h.1, fun c cs _ => h.2 c cs (room_wide _)⟩
theorem roundIn_any {P : Program} {n n' l : Nat} {f : FuncId} {tmps : Array Value} {assign body : Code} {w : World} {R : Ending → World → Prop} (h : RoundIn Fence.wide n P l f tmps assign body w R) : RoundIn Fence.wide n' P l f tmps assign body w R :=
  ⟨h.1, fun c cs _ => h.2 c cs (room_wide _)⟩
theorem shut_turn {n0 : Nat} {ds : List Nat} {W : World} (h : Marked n0 ds W) : Turn0 n0 W (Rfu.shut ds W) :=
  ⟨(shut_meta ds W).1, (shut_meta ds W).2.1, (shut_meta ds W).2.2, by rw [shut_size]; exact Nat.le_refl _, fun b hb => shut_heap ds W fun hm => by have := h.lo b hm; omega, fun b o hb ho => shut_keep h hb ho⟩
/-- Where the iterator's variables lie. -/
structure LfAt (m : MdlD) (B SB : Nat) (la ll : List Int) (a1 a2 : Option Addr) (c1 c2 : Nat) (r : Nat) (Bc Br Bs : Nat) (w : World) : Prop where
  set : SetAt B m SB w
  row : RowIn w (.slice a1 la.length c1) la
  xs : w.cell? ⟨Bs, 0, none⟩ = some (.pointer (some ⟨SB, 0, none⟩))
  xc : w.cell? ⟨Bc, 0, none⟩ = some (.slice a1 la.length c1)
  xd : w.cell? ⟨Bc, 1, none⟩ = some (.slice a2 ll.length c2)
  xr : w.cell? ⟨Br, 0, none⟩ = some (.int .i64 r)
theorem LfAt.below {m : MdlD} {B SB : Nat} {la ll : List Int} {a1 a2 : Option Addr} {c1 c2 r Bc Br Bs : Nat} {w w' : World} (h : LfAt m B SB la ll a1 a2 c1 c2 r Bc Br Bs w) (g : Below w.heap.size w w') : LfAt m B SB la ll a1 a2 c1 c2 r Bc Br Bs w' :=
  ⟨h.set.grown g, h.row.below g, (g.cell (p := ⟨Bs, 0, none⟩) (World.block_lt_of_cell? w _ h.xs)).trans h.xs, (g.cell (p := ⟨Bc, 0, none⟩) (World.block_lt_of_cell? w _ h.xc)).trans h.xc, (g.cell (p := ⟨Bc, 1, none⟩) (World.block_lt_of_cell? w _ h.xd)).trans h.xd, (g.cell (p := ⟨Br, 0, none⟩) (World.block_lt_of_cell? w _ h.xr)).trans h.xr⟩
theorem left_any (SB : Nat) (c : Value) (r : Int) (w : World) (v1 v2 : Value) (hc : c = .agg #[v1, v2]) :
    Calls Tryd.prog 29 #[.pointer (some ⟨SB, 0, none⟩), c, .int .i64 r] w fun e w' => e = .returned (.func (.func 44) #[] #[.pointer (some ⟨w.heap.size + 1, 0, none⟩), .pointer (some ⟨w.heap.size + 1 + 1, 0, none⟩), .pointer (some ⟨w.heap.size, 0, none⟩)]) ∧ ((w.alloc (.cells #[.pointer (some ⟨SB, 0, none⟩)] 44)).alloc (.cells #[v1, v2] 31)).alloc (.cells #[.int .i64 r] 3) = w' := by
  subst hc
  go_enter Tryd.func29, Tryd.ntmps29
  go_wp2_with fail
  go_ret
  exact ⟨rfl, rfl⟩
theorem allocs3_c (w : World) (o0 o1 o2 : Obj) : (((w.alloc o0).alloc o1).alloc o2).heap[w.heap.size]? = some o0 ∧ (((w.alloc o0).alloc o1).alloc o2).heap[w.heap.size + 1]? = some o1 ∧ (((w.alloc o0).alloc o1).alloc o2).heap[w.heap.size + 1 + 1]? = some o2 := by
  have e1 := World.alloc_heap_new (w.alloc o0) o1
  have e2 := World.alloc_heap_new ((w.alloc o0).alloc o1) o2
  simp only [World.size_alloc] at e1 e2
  exact ⟨(Below.heap_alloc _ _ _ (by simp; omega)).trans ((Below.heap_alloc _ _ _ (by simp)).trans (World.alloc_heap_new w o0)), (Below.heap_alloc _ _ _ (by simp)).trans e1, e2⟩
theorem lf_made {m : MdlD} {B SB : Nat} {la ll : List Int} {a1 a2 : Option Addr} {c1 c2 : Nat} {w : World} (r : Nat) (h : SetAt B m SB w) (hr : RowIn w (.slice a1 la.length c1) la) :
    LfAt m B SB la ll a1 a2 c1 c2 r (w.heap.size + 1) (w.heap.size + 1 + 1) w.heap.size (((w.alloc (.cells #[.pointer (some ⟨SB, 0, none⟩)] 44)).alloc (.cells #[.slice a1 la.length c1, .slice a2 ll.length c2] 31)).alloc (.cells #[.int .i64 r] 3)) := by
  have hb : Below w.heap.size w (((w.alloc (.cells #[.pointer (some ⟨SB, 0, none⟩)] 44)).alloc (.cells #[.slice a1 la.length c1, .slice a2 ll.length c2] 31)).alloc (.cells #[.int .i64 r] 3)) := (((Below.refl _ w).alloc (Nat.le_refl _) _).alloc (by simp) _).alloc (by simp; omega) _
  obtain ⟨e0, e1, e2⟩ := allocs3_c w (.cells #[.pointer (some ⟨SB, 0, none⟩)] 44) (.cells #[.slice a1 la.length c1, .slice a2 ll.length c2] 31) (.cells #[.int .i64 r] 3)
  exact ⟨h.grown hb, hr.below hb, cell_blk e0 0, cell_blk e1 0, cell_blk e1 1, cell_blk e2 0⟩
/-- The regions gone through so far. -/
def exP (m : MdlD) (c : List Int) (f : Nat) (R : List Int) (k : Nat) : List Int := (R.take k).flatMap (exF m c f)
theorem exP_succ (m : MdlD) (c : List Int) (f : Nat) (R : List Int) {k : Nat} (hk : k < R.length) : exP m c f R (k + 1) = exP m c f R k ++ exF m c f R[k] := by
  unfold exP; rw [List.take_succ_eq_append_getElem hk, List.flatMap_append]; simp
theorem exP_all (m : MdlD) (c : List Int) (f : Nat) (R : List Int) : exP m c f R R.length = R.flatMap (exF m c f) := by unfold exP; rw [List.take_length]
theorem exP_at (m : MdlD) (c : List Int) (f : Nat) (R : List Int) (v : Int) {k j : Nat} (hk : k < R.length) (hj : j < (exF m c f R[k]).length) : ∃ h : (exP m c f R k).length + j < (R.flatMap (exF m c f) ++ [v]).length, (R.flatMap (exF m c f) ++ [v])[(exP m c f R k).length + j] = (exF m c f R[k])[j] := by
  have e : R.flatMap (exF m c f) ++ [v] = exP m c f R k ++ exF m c f R[k] ++ ((R.drop (k + 1)).flatMap (exF m c f) ++ [v]) := by
    have h1 : R.flatMap (exF m c f) = exP m c f R (k + 1) ++ (R.drop (k + 1)).flatMap (exF m c f) := by
      unfold exP; rw [← List.flatMap_append, List.take_append_drop]
    rw [h1, exP_succ m c f R hk]; simp
  refine ⟨by rw [e]; simp; omega, ?_⟩
  simp only [e]
  rw [List.getElem_append_left (by simp; omega), List.getElem_append_right (by omega)]
  simp
theorem exP_end (m : MdlD) (c : List Int) (f : Nat) (R : List Int) (v : Int) : ∃ h : (exP m c f R R.length).length < (R.flatMap (exF m c f) ++ [v]).length, (R.flatMap (exF m c f) ++ [v])[(exP m c f R R.length).length] = v := by
  rw [exP_all]
  exact ⟨by simp, by simp⟩
theorem ownsRow_capL {N T n c : Nat} {a : Option Addr} {w : World} {xs : List Value} (h : w.ownsRow N T 1 (.slice a n c) n xs) : n ≤ c := by
  rcases h.2 with ⟨e, h0⟩ | ⟨g', c', _, e, _, _, hc, _⟩
  · omega
  · simp only [Value.slice.injEq] at e; omega
theorem cellK {wa wb : World} {b k : Nat} (h : wb.heap[b]? = wa.heap[b]?) : wb.cell? ⟨b, k, none⟩ = wa.cell? ⟨b, k, none⟩ := World.cell?_of_block (w := wa) h
/-- Between two regions. -/
structure LfSt (J : Nat → (Nat → Prop) → World → Prop) (n0 : Nat) (w2 : World) (j : Nat) (ds : List Nat) (S : Nat → Prop) (wr : World) : Prop where
  j : J j S wr
  mkd : Marked n0 ds wr
  sd : ∀ D ∈ ds, S D
  kp : ∀ b, n0 ≤ b → b < w2.heap.size → S b ∧ wr.heap[b]? = w2.heap[b]?
  lt : ∀ b, S b → b < wr.heap.size
/-- Between two rounds of a region's. -/
structure LfIn (J : Nat → (Nat → Prop) → World → Prop) (S0 : Nat → Prop) (w3 : World) (j : Nat) (S : Nat → Prop) (W : World) : Prop where
  j : J j (fun b => S0 b ∨ S b) W
  kp : ∀ b, S0 b → W.heap[b]? = w3.heap[b]?
  sz : w3.heap.size ≤ W.heap.size
theorem lf_keep {m : MdlD} {B B' SB : Nat} {la ll : List Int} {a1 a2 : Option Addr} {c1 c2 r q Bc Br Bs Bc' Br' Bs' : Nat} {w w' : World} (h : LfAt m B SB la ll a1 a2 c1 c2 r Bc Br Bs w') (g : LfAt m B' SB la ll a1 a2 c1 c2 q Bc' Br' Bs' w) (k : ∀ b, b = Bc' ∨ b = Br' ∨ b = Bs' → w'.heap[b]? = w.heap[b]?) : LfAt m B SB la ll a1 a2 c1 c2 q Bc' Br' Bs' w' :=
  ⟨h.set, h.row, (cellK (k _ (.inr (.inr rfl)))).trans g.xs, (cellK (k _ (.inl rfl))).trans g.xc, (cellK (k _ (.inl rfl))).trans g.xd, (cellK (k _ (.inr (.inl rfl)))).trans g.xr⟩
theorem size_keep {A B : World} {b : Nat} (h : B.heap[b]? = A.heap[b]?) (hb : b < A.heap.size) : b < B.heap.size := (Array.getElem?_eq_some_iff.1 (h.trans (Array.getElem?_eq_getElem hb))).1
set_option maxRecDepth 100000 in
set_option maxHeartbeats 4000000 in
/-- The iterator: what is left with its region, in order. -/
theorem left1_seq {m : MdlD} {B SB : Nat} {la ll : List Int} {a1 a2 : Option Addr} {c1 c2 : Nat} (F : Fit m la) (hm1 : m.regs.length ≤ 1000) (hm2 : m.vers.length ≤ 1000) : ∀ (f r Bc Br Bs : Nat), r < m.regs.length → (∀ k : Nat, atL la r = k → 65 ≤ deM m k + f) →
    SeqB Tryd.prog 44 #[.pointer (some ⟨Bc, 0, none⟩), .pointer (some ⟨Br, 0, none⟩), .pointer (some ⟨Bs, 0, none⟩)] (exF m la f r) (fun A => LfAt m B SB la ll a1 a2 c1 c2 r Bc Br Bs A)
  | f, r, Bc, Br, Bs, hr, hf => by
    have hrl : r < la.length := by rw [F.hl]; exact hr
    have e0 : atL la r = la[r] := by unfold atL; rw [Int.toNat_natCast, List.getD_eq_getElem?_getD, List.getElem?_eq_getElem hrl]; rfl
    by_cases hn : atL la r < 0
    · have hnil : exF m la f r = [] := by cases f <;> simp [exF, hn]
      rw [hnil]
      intro l J Jx W hU hst hsx hY h0
      refine callsIn_wide.2 (calls_of_marks Tryd.func44 rfl ?_)
      simp only [Tryd.ntmps44, List.size_toArray, List.length_cons, List.length_nil, Nat.reduceAdd, Nat.reduceSub, Array.replicate_succ, Array.replicate_zero, List.push_toArray, List.append_toArray, List.nil_append, List.cons_append]
      have hLW := (hU _ _ _ h0).1
      have hJ1 : J 0 (fun _ => False) (W.alloc (.cells #[.func (.yield l) #[] #[]] 62)) := hst _ _ _ _ _ h0 (Turn0.alloc W _ (Nat.le_refl _)) (Grow.same _ _ _)
      go_upto_region 1 with fail
      generalize W.alloc (.cells #[.func (.yield l) #[] #[]] 62) = W1 at *
      have hL1 := (hU _ _ _ hJ1).1
      obtain ⟨aa, cc, ev, hcap, q⟩ := hL1.row.len
      obtain ⟨b1, o1, ea, hb1', hc1⟩ := q r hrl
      simp only [Value.slice.injEq] at ev
      obtain ⟨rfl, _, rfl⟩ := ev
      subst ea
      rw [← e0] at hc1
      have x2 := hL1.xc
      have x4 := hL1.xr
      have hr0 : (0 : Int) ≤ (r : Int) := by omega
      have hrI : (r : Int) < (la.length : Int) := by omega
      clear q e0
      generalize atL la r = y at hc1 hn
      go_wp2_with fail
      exact post_ret (ds := []) (Marked.nil W.heap.size _) (v := .tuple #[]) (by simp [results, Tryd.results44, go_sem]) ⟨⟨_, rfl⟩, .inl ⟨_, hJ1⟩⟩
    · obtain ⟨v, hv, e, hg, hd, ha⟩ := fit_in F.hl F.hf hr (by omega)
      obtain ⟨f, rfl⟩ : ∃ g, f = g + 1 := ⟨f - 1, by have := hf v e; have := deep_right F.h0 hv; omega⟩
      have hxs : exF m la (f + 1) r = (ownM m (v : Int)).flatMap (exF m la f) ++ [(v : Int)] := by
        rw [exF, if_neg hn, e]
      have HSq : Hid (∀ q ∈ ownM m (v : Int), ∃ qn : Nat, q = qn ∧ qn < m.regs.length ∧ ∀ Bc Br Bs, SeqB Tryd.prog 44 #[.pointer (some ⟨Bc, 0, none⟩), .pointer (some ⟨Br, 0, none⟩), .pointer (some ⟨Bs, 0, none⟩)] (exF m la f q) (fun A => LfAt m B SB la ll a1 a2 c1 c2 qn Bc Br Bs A)) := Lib.hid fun q hq => by
        obtain ⟨j, hj, rfl, ho⟩ := own_at hq
        refine ⟨j, rfl, hj, fun Bc Br Bs => left1_seq F hm1 hm2 f j Bc Br Bs hj fun k hk => ?_⟩
        obtain ⟨y, hy, ey, gy, dy, _⟩ := fit_in F.hl F.hf hj (by omega)
        obtain rfl : k = y := by omega
        have := (below_own F hj ho hv hy hk gy dy).2
        have := hf v e
        omega
      rw [hxs]
      intro l J Jx W hU hst hsx hY h0
      refine callsIn_wide.2 (calls_of_marks Tryd.func44 rfl ?_)
      simp only [Tryd.ntmps44, List.size_toArray, List.length_cons, List.length_nil, Nat.reduceAdd, Nat.reduceSub, Array.replicate_succ, Array.replicate_zero, List.push_toArray, List.append_toArray, List.nil_append, List.cons_append]
      have hJ1 : J 0 (fun b => b = W.heap.size) (W.alloc (.cells #[.func (.yield l) #[] #[]] 62)) := hst _ _ _ _ _ h0 (Turn0.alloc W _ (Nat.le_refl _)) (fun b hb => .inr ⟨by omega, by simp; omega⟩)
      have c4 : (W.alloc (.cells #[.func (.yield l) #[] #[]] 62)).cell? ⟨W.heap.size, 0, none⟩ = some (.func (.yield l) #[] #[]) := by simp
      have hz1 : (W.alloc (.cells #[.func (.yield l) #[] #[]] 62)).heap.size = W.heap.size + 1 := by simp
      go_upto_region 1 with fail
      generalize W.alloc (.cells #[.func (.yield l) #[] #[]] 62) = W1 at *
      have hL1 := (hU _ _ _ hJ1).1
      obtain ⟨aa, cc, ev, hcap, q⟩ := hL1.row.len
      obtain ⟨b1, o1, ea, hb1', hc1⟩ := q r hrl
      simp only [Value.slice.injEq] at ev
      obtain ⟨rfl, _, rfl⟩ := ev
      subst ea
      rw [← e0, e] at hc1
      have x1 := hL1.xs
      have x2 := hL1.xc
      have x4 := hL1.xr
      obtain ⟨IB, kv, hi, s0, s1, s2, hku, hz⟩ := hL1.set
      have HRg := Lib.hid (regions_any hi (v : Int) (WalkArith.wf_i64 ⟨by omega, by omega⟩) (by omega))
      have hr0 : (0 : Int) ≤ (r : Int) := by omega
      have hrI : (r : Int) < (la.length : Int) := by omega
      have hv0 : ¬ ((v : Int) < 0) := by omega
      have HU := Lib.hid hU
      have HSt := Lib.hid hst
      have HSx := Lib.hid hsx
      have HY := Lib.hid hY
      have HJ1 := Lib.hid hJ1
      clear q e0 hn hxs hi hL1 hku hU hst hsx hY hJ1 h0 hd ha hg e hf
      have hRl : (ownM m (v : Int)).length ≤ 1000 := by have := sel_len (isOwn (v : Int)) m.regs; have e : (ownM m (v : Int)).length ≤ m.regs.length := this; omega
      obtain ⟨R, hRe⟩ : ∃ R, ownM m (v : Int) = R := ⟨_, rfl⟩
      have HRe := Lib.hid hRe
      rw [hRe] at HSq HY HRg hRl
      clear hRe
      go_wp2_with fail
      (with_reducible refine (HRg.out).mono ?_)
      rintro e w2 ⟨rv, rfl, ho2, hb2⟩
      obtain ⟨ra, rc, rfl⟩ := ownsRow_slice ho2
      have HO := Lib.hid ho2
      have HB2 := Lib.hid hb2
      have c42 : Hid (w2.cell? ⟨W.heap.size, 0, none⟩ = some (.func (.yield l) #[] #[])) := Lib.hid ((hb2.cell (p := ⟨W.heap.size, 0, none⟩) (by simp only; omega)).trans c4)
      have hz2 : W1.heap.size ≤ w2.heap.size := hb2.size
      have HS0 : Hid (LfSt J W.heap.size w2 0 [] (fun b => W.heap.size ≤ b ∧ b < w2.heap.size) w2) := Lib.hid ⟨HSt.out _ _ _ _ _ HJ1.out (Turn0.of_below hb2 (by omega)) (fun b hb => (Nat.lt_or_ge W.heap.size b).elim (fun h => .inr ⟨by omega, hb.2⟩) (fun h => .inl (by omega))), Marked.nil _ _, fun _ h => absurd h (by simp), fun b h1 h2 => ⟨⟨h1, h2⟩, rfl⟩, fun b h => h.2⟩
      clear ho2 hb2 c4 x1 x2 x4 s0 s1 s2 hc1 HRg
      go_wp2_with fail
      refine wp_loopd [7, 23, 24, 25, 26, 27, 28, 29, 30, 36] 23 (fun ds i wr => ∃ k : Nat, k ≤ R.length ∧ i = .int .i64 k ∧ ∃ S, LfSt J W.heap.size w2 (exP m la f R k).length ds S wr) (fun i => R.length - (intOf i).toNat) ?h0 ?round
      case h0 =>
        simp only [LoopD, Fr, List.set_cons_zero, List.set_cons_succ, List.getD_cons_succ, List.getD_cons_zero]
        refine ⟨[], ?_⟩
        repeat apply Exists.intro
        refine ⟨?_, rfl⟩
        exact ⟨0, by omega, rfl, _, by simpa [exP] using HS0.out⟩
      case round =>
        simp only [LoopD, Fr, List.set_cons_zero, List.set_cons_succ, List.getD_cons_succ, List.getD_cons_zero]
        intro _ wr hinv
        obtain ⟨ds, u7, u23, u24, u25, u26, u27, u28, u29, u30, u36, hrel, ha⟩ := hinv
        subst ha
        try dsimp only
        clear HS0
        obtain ⟨wo, rfl⟩ : ∃ wo : World, wo = wr := ⟨_, rfl⟩
        obtain ⟨k, hk, rfl, S, hs⟩ := hrel
        have HS := Lib.hid hs
        have hLo := (HU.out _ _ _ hs.j).1
        have hzo : W.heap.size < wo.heap.size := hs.lt _ (hs.kp W.heap.size (Nat.le_refl _) (by omega)).1
        have c4o : wo.cell? ⟨W.heap.size, 0, none⟩ = some (.func (.yield l) #[] #[]) := (cellK (hs.kp W.heap.size (Nat.le_refl _) (by omega)).2).trans c42.out
        clear hs
        by_cases hlt : k < R.length
        · as_aux_lemma =>
            have hltI : (k : Int) < (R.length : Int) := by omega
            have hi0 : (0 : Int) ≤ (k : Int) := by omega
            obtain ⟨g, cg, eg⟩ := ownsRow_pos HO.out (by omega)
            simp only [Value.slice.injEq, true_and] at eg
            obtain ⟨rfl, rfl⟩ := eg
            have hgl := HO.out.lt g rfl
            have hcr := ownsRow_capL HO.out
            have hcg : wo.cell? ⟨g, k, none⟩ = some (.int .i64 R[k]) := (cellK (HS.out.kp g (by omega) hgl.2).2).trans ((HO.out.cellAt k (by omega)).trans (by simp [nums, hlt]))
            obtain ⟨q, eq, hq, HSeq⟩ := HSq.out R[k] (List.getElem_mem hlt)
            have HSeq := Lib.hid HSeq
            have HAt := Lib.hid (fun j (hj : j < (exF m la f R[k]).length) => exP_at m la f R (v : Int) hlt hj)
            have HSu : Hid ((exP m la f R (k + 1)).length = (exP m la f R k).length + (exF m la f R[k]).length) := Lib.hid (by rw [exP_succ m la f R hlt, List.length_append])
            rw [eq] at hcg HSeq HAt HSu
            have x1 := hLo.xs
            have x2 := hLo.xc
            have x3 := hLo.xd
            have HM3 := lf_made (a2 := a2) (c2 := c2) (ll := ll) q hLo.set hLo.row
            have hb3 : Below wo.heap.size wo (((wo.alloc (.cells #[.pointer (some ⟨SB, 0, none⟩)] 44)).alloc (.cells #[.slice (some ⟨b1, o1, none⟩) la.length c1, .slice a2 ll.length c2] 31)).alloc (.cells #[.int .i64 q] 3)) := (((Below.refl _ wo).alloc (Nat.le_refl _) _).alloc (by simp) _).alloc (by simp; omega) _
            have hz3 : (((wo.alloc (.cells #[.pointer (some ⟨SB, 0, none⟩)] 44)).alloc (.cells #[.slice (some ⟨b1, o1, none⟩) la.length c1, .slice a2 ll.length c2] 31)).alloc (.cells #[.int .i64 q] 3)).heap.size = wo.heap.size + 3 := by simp
            have HLf := Lib.hid (left_any SB (.agg #[.slice (some ⟨b1, o1, none⟩) la.length c1, .slice a2 ll.length c2]) (q : Int) wo _ _ rfl)
            clear hLo eq
            go_wp2_with fail
            (with_reducible refine (HLf.out).mono ?_)
            rintro e w3 ⟨rfl, hw3⟩
            rw [hw3] at HM3 hb3 hz3
            have HM := Lib.hid HM3
            have HB3 := Lib.hid hb3
            clear hw3 HM3 hb3 x1 x2 x3 HLf hcg
            have hS0 : ∀ b, S b ∨ (wo.heap.size ≤ b ∧ b < w3.heap.size) → b < w3.heap.size := fun b hb => hb.elim (fun h => by have := HS.out.lt b h; omega) (fun h => h.2)
            have c43 : w3.cell? ⟨W.heap.size, 0, none⟩ = some (.func (.yield l) #[] #[]) := (HB3.out.cell (p := ⟨W.heap.size, 0, none⟩) hzo).trans c4o
            have hSW := (HS.out.kp W.heap.size (Nat.le_refl _) (by omega)).1
            go_wp2_with fail
            refine wp_rangeB_to (p := 31) (q := 8) (gf := 44) (lb := #[.pointer (some ⟨wo.heap.size + 1, 0, none⟩), .pointer (some ⟨wo.heap.size + 1 + 1, 0, none⟩), .pointer (some ⟨wo.heap.size, 0, none⟩)]) rfl (fun _ _ => ?eg) (exF m la f q) _ (HSeq.out _ _ _) (fun j S' W' => LfIn (fun i => J ((exP m la f R k).length + i)) (fun b => S b ∨ (wo.heap.size ≤ b ∧ b < w3.heap.size)) w3 j S' W') (fun W' => Jx W' ∧ (∀ b, S b ∨ (wo.heap.size ≤ b ∧ b < w3.heap.size) → W'.heap[b]? = w3.heap[b]?) ∧ w3.heap.size ≤ W'.heap.size) ?hU ?hI ?hIx ?h0 ?hassign ?hbody ?hdone ?hstop
            case eg => first | rfl | simp [go_sem]
            case hU => exact fun j S' W' h => lf_keep (HU.out _ _ _ h.j).1 HM.out fun b hb => h.kp b (.inr (by omega))
            case hI =>
              rintro j S' W' S'' W'' h t g
              exact ⟨HSt.out _ _ _ _ _ h.j (t.mono (by omega)) (fun b hb => hb.elim (fun h => .inl (.inl h)) (fun h => (g b h).elim (fun h => .inl (.inr h)) .inr)), fun b hb => (t.old b (hS0 b hb)).trans (h.kp b hb), Nat.le_trans h.sz t.size⟩
            case hIx =>
              rintro W' W'' ⟨hx, kp, sz⟩ t
              exact ⟨HSx.out _ _ hx (t.mono (by omega)), fun b hb => (t.old b (hS0 b hb)).trans (kp b hb), Nat.le_trans sz t.size⟩
            case h0 => exact ⟨HSt.out _ _ _ _ _ HS.out.j (Turn0.of_below HB3.out (by omega)) (fun b hb => hb.elim (fun h => h) False.elim), fun _ _ => rfl, Nat.le_refl _⟩
            case hassign =>
              intro l x W K hK
              simp only [List.setIfInBounds_toArray, List.set_cons_succ, List.set_cons_zero] at hK ⊢
              gi_wp2
              exact hK
            case hbody =>
              intro l2 j S' W2 hj hS' hi
              have hyy := HY.out ((exP m la f R k).length + j) (fun b => (S b ∨ (wo.heap.size ≤ b ∧ b < w3.heap.size)) ∨ S' b) W2 (HAt.out j hj).1 hi.j (fun b hb => hb.elim (fun h => by have := hS0 b h; have := hi.sz; omega) (hS' b))
              rw [(HAt.out j hj).2] at hyy
              have c4i : W2.cell? ⟨W.heap.size, 0, none⟩ = some (.func (.yield l) #[] #[]) := (cellK (hi.kp W.heap.size (.inl hSW))).trans c43
              have HI := Lib.hid hi
              have hsz : ∀ W4 : World, (∀ b, (S b ∨ (wo.heap.size ≤ b ∧ b < w3.heap.size)) ∨ S' b → W4.heap[b]? = W2.heap[b]?) → w3.heap.size ≤ W4.heap.size := fun W4 h => by
                have := size_keep (h (wo.heap.size + 2) (.inl (.inr (by omega)))) (by have := HI.out.sz; omega)
                omega
              have HSz := Lib.hid hsz
              clear hsz hi
              obtain ⟨fn, tmps, assign, body, hy, hR⟩ := hyy
              generalize (exF m la f q)[j] = x at *
              simp only [List.setIfInBounds_toArray, List.set_cons_succ, List.set_cons_zero]
              gi_wp2
              refine (roundIn_wide hR).mono ?_
              rintro e W4 ⟨hk4, (⟨rfl, hj4⟩ | ⟨rfl, hx4⟩)⟩
              · have HK4 := Lib.hid hk4
                have HJ4 := Lib.hid hj4
                clear hk4 hj4 hy hR
                gi_wp2
                exact ⟨fun b hb => HK4.out b (.inr hb), HJ4.out, fun b hb => (HK4.out b (.inl hb)).trans (HI.out.kp b hb), HSz.out _ HK4.out⟩
              · have HK4 := Lib.hid hk4
                have HX4 := Lib.hid hx4
                clear hk4 hx4 hy hR
                gi_wp2
                exact ⟨fun b hb => HK4.out b (.inr hb), HX4.out, fun b hb => (HK4.out b (.inl hb)).trans (HI.out.kp b hb), HSz.out _ HK4.out⟩
            case hdone =>
              intro D S' W2 hDl hSD hSl hi hK
              try dsimp only at hDl hSD hSl hi
              have HI := Lib.hid hi
              have HM1 : Hid (Marked W.heap.size (D :: ds) W2) := HS.out.mkd.cons hK (by omega) (by omega) fun D' hD' => by
                have hSD' := HS.out.sd D' hD'
                exact (HI.out.kp D' (.inl hSD')).trans (HB3.out.block D' (HS.out.lt D' hSD'))
              have HS1 : Hid (LfSt J W.heap.size w2 (exP m la f R (k + 1)).length (D :: ds) (fun b => (S b ∨ (wo.heap.size ≤ b ∧ b < w3.heap.size)) ∨ (S' b ∧ b < W2.heap.size)) W2) := Lib.hid ⟨by
                rw [HSu.out]
                exact HSt.out _ _ _ _ _ HI.out.j (Turn0.refl _ _) (fun b hb => .inl (hb.imp id And.left)), HM1.out, fun D' hD' => by
                rcases List.mem_cons.1 hD' with rfl | h
                · exact .inr ⟨hSD, (Array.getElem?_eq_some_iff.1 hK).1⟩
                · exact .inl (.inl (HS.out.sd D' h)), fun b h1 h2 => ⟨.inl (.inl (HS.out.kp b h1 h2).1), (HI.out.kp b (.inl (HS.out.kp b h1 h2).1)).trans ((HB3.out.block b (HS.out.lt b (HS.out.kp b h1 h2).1)).trans (HS.out.kp b h1 h2).2)⟩, fun b hb => hb.elim (fun h => by have := hS0 b h; have := HI.out.sz; omega) And.right⟩
              clear hi hK
              go_wp2_with fail
              refine ⟨⟨D :: ds, _, _, _, _, _, _, _, _, _, _, ?rel, rfl⟩, ?measure⟩
              case rel => exact ⟨k + 1, by omega, by go_num, _, HS1.out⟩
              case measure => simp [intOf] <;> omega
            case hstop =>
              rintro D W2 hDl ⟨hx, kp, sz⟩ hK
              try dsimp only at hDl
              have HM1 : Hid (Marked W.heap.size (D :: ds) W2) := HS.out.mkd.cons hK (by omega) (by omega) fun D' hD' => by
                have hSD' := HS.out.sd D' hD'
                exact (kp D' (.inl hSD')).trans (HB3.out.block D' (HS.out.lt D' hSD'))
              exact post_ret (ds := D :: ds) HM1.out (v := .tuple #[]) (by simp [results, Tryd.results44, go_sem]) ⟨⟨_, rfl⟩, .inr (HSx.out _ _ hx (shut_turn HM1.out))⟩
        · obtain rfl : k = R.length := by omega
          have hltI : ¬ ((R.length : Int) < (R.length : Int)) := by omega
          have HEn := Lib.hid (exP_end m la f R (v : Int))
          have hyy := HY.out (exP m la f R R.length).length S wo HEn.out.1 HS.out.j HS.out.lt
          rw [HEn.out.2] at hyy
          have HLn : Hid ((exP m la f R R.length).length + 1 = (R.flatMap (exF m la f) ++ [(v : Int)]).length) := Lib.hid (by rw [exP_all]; simp)
          obtain ⟨fn, tmps, assign, body, hy, hR⟩ := hyy
          clear hlt HSq hLo HEn
          refine (wpIn_wide (n := 8)).1 ?_
          gi_wp2
          refine (wpIn_wide (n := 8)).1 ?_
          gi_wp2
          refine (roundIn_any hR).mono ?_
          rintro e W4 ⟨hk4, (⟨rfl, hj4⟩ | ⟨rfl, hx4⟩)⟩
          · have HM4 : Hid (Marked W.heap.size ds W4) := Lib.hid (HS.out.mkd.keep fun D hD => hk4 D (HS.out.sd D hD))
            rw [HLn.out] at hj4
            have HJ4 := Lib.hid hj4
            clear hk4 hj4 hy hR
            gi_wp2
            exact leaves_marks ds _ HM4.out (v := .tuple #[]) (by simp [results, Tryd.results44, go_sem]) ⟨⟨_, rfl⟩, .inl ⟨_, by rw [HRe.out]; exact HSt.out _ _ _ _ _ HJ4.out (shut_turn HM4.out) (Grow.same _ _ _)⟩⟩
          · have HM4 : Hid (Marked W.heap.size ds W4) := Lib.hid (HS.out.mkd.keep fun D hD => hk4 D (HS.out.sd D hD))
            have HX4 := Lib.hid hx4
            clear hk4 hx4 hy hR
            gi_wp2
            exact leaves_marks ds _ HM4.out (v := .tuple #[]) (by simp [results, Tryd.results44, go_sem]) ⟨⟨_, rfl⟩, .inr (HSx.out _ _ HX4.out (shut_turn HM4.out))⟩
end Go.Proofs
