/- Walks of the document's Show, of same and ref, over rows of tokens wherever they lie. -/
import Derived.Test.YtblccelfkffggaaDoorLexF
namespace Go.Proofs
open Go.RowKit Go.Lx

/-- A value is a slice of these tokens. -/
def SlTok (w : World) (v : Value) (l : List ITok) : Prop :=
  (v = .slice none 0 0 ∧ l = []) ∨ ∃ b off cap, v = .slice (some ⟨b, off, none⟩) l.length cap ∧ b < w.heap.size ∧ IToksAt w b off l
theorem IToksAt.below {w w' : World} {b off : Nat} {l : List ITok} (h : IToksAt w b off l) {B : Nat} (hb : Below B w w') (hB : b < B) : IToksAt w' b off l := fun i hi => by
  obtain ⟨h0, h1, h2⟩ := h i hi
  exact ⟨(hb.cell (p := ⟨b, off + i * 3, none⟩) hB).trans h0, (hb.cell (p := ⟨b, off + i * 3 + 1, none⟩) hB).trans h1, (hb.cell (p := ⟨b, off + i * 3 + 2, none⟩) hB).trans h2⟩
theorem SlTok.below {w w' : World} {v : Value} {l : List ITok} (h : SlTok w v l) (hb : Below w.heap.size w w') : SlTok w' v l := by
  rcases h with h | ⟨b, off, cap, rfl, h1, h2⟩
  · exact .inl h
  · exact .inr ⟨b, off, cap, rfl, Nat.lt_of_lt_of_le h1 hb.size, h2.below hb h1⟩
def itC (t : ITok) : List Value := [.int .u8 t.1, .string t.2.1, .int .i64 t.2.2]
def flatI (l : List ITok) : List Value := l.flatMap itC
theorem flatI_snoc (l : List ITok) (t : ITok) : flatI (l ++ [t]) = flatI l ++ itC t := by simp [flatI, itC]
theorem flatI_at : ∀ (l : List ITok) (i : Nat) (h : i < l.length), (flatI l)[i * 3]? = some (.int .u8 l[i].1) ∧ (flatI l)[i * 3 + 1]? = some (.string l[i].2.1) ∧ (flatI l)[i * 3 + 2]? = some (.int .i64 l[i].2.2)
  | a :: t, 0, _ => by simp [flatI, itC]
  | a :: t, i + 1, h => by
    have := flatI_at t i (by simpa using h)
    have e : ∀ j, (flatI (a :: t))[j + 3]? = (flatI t)[j]? := fun j => by simp [flatI, itC]
    rw [show (i + 1) * 3 = i * 3 + 3 by omega, show i * 3 + 3 + 1 = i * 3 + 1 + 3 by omega, show i * 3 + 3 + 2 = i * 3 + 2 + 3 by omega, e, e, e]
    simpa using this
theorem add_zero' (g j : Nat) : (⟨g, 0, none⟩ : Addr).add j = ⟨g, 0 + j, none⟩ := by unfold Addr.add; split <;> simp_all
theorem SlTok.of_own {w : World} {base : Nat} {T : TypeId} {v : Value} {l : List ITok} {n : Nat} (h : w.ownsRow base T 3 v n (flatI l)) (hn : n = l.length) : SlTok w v l := by
  subst hn
  rcases h.2 with ⟨rfl, h0⟩ | ⟨g, cap, cur, rfl, hb, hg, _⟩
  · exact .inl ⟨rfl, List.length_eq_zero_iff.1 h0⟩
  · refine .inr ⟨g, 0, cap, rfl, lt_of_block hg, fun i hi => ?_⟩
    obtain ⟨h0, h1, h2⟩ := flatI_at l i hi
    have hc := h.cells (g := g) rfl
    rw [Nat.add_assoc 0 (i * 3) 1, Nat.add_assoc 0 (i * 3) 2, ← add_zero', ← add_zero', ← add_zero']
    exact ⟨hc _ _ h0, hc _ _ h1, hc _ _ h2⟩
def ofTok (t : Tok) : ITok := (t.1, ⟨t.2.1.toArray⟩, (t.2.2 : Int))
theorem flat_eq (l : List Tok) : flat l = flatI (l.map ofTok) := by
  unfold flat flatI
  rw [List.flatMap_map]; rfl

set_option maxHeartbeats 1000000 in
/-- 'same', of a row with itself. -/
theorem same_any (v u : Value) (l : List ITok) (w : World) (hl : l.length ≤ 100000) (hv : SlTok w v l) (hu : SlTok w u l) :
    Calls Tryd.prog 12 #[v, u] w fun e w' => e = .returned (.bool true) ∧ Below w.heap.size w w' := by
  by_cases h0 : l = []
  · subst h0
    rcases hv with ⟨rfl, _⟩ | ⟨b, off, cap, rfl, _, _⟩ <;> rcases hu with ⟨rfl, _⟩ | ⟨b', off', cap', rfl, _, _⟩
    all_goals
      try simp only [List.length_nil]
      go_enter Tryd.func12, Tryd.ntmps12
      go_wp2_with fail
      refine wp_loop_rounds 1 ?_
      rw [rounds_succ]
      go_wp2_with fail
      go_ret
      exact ⟨rfl, Below.refl _ _⟩
  · rcases hv with ⟨_, h⟩ | ⟨b, off, cap, rfl, hb, hv⟩
    · exact absurd h h0
    rcases hu with ⟨_, h⟩ | ⟨b', off', cap', rfl, hb', hu⟩
    · exact absurd h h0
    have HV := Lib.hid hv
    have HU := Lib.hid hu
    clear hv hu h0
    go_enter Tryd.func12, Tryd.ntmps12
    go_wp2_with fail
    go_loopw [5] (fun i wr => ∃ k : Nat, k ≤ l.length ∧ i = .int .i64 k ∧ Below w.heap.size w wr) (fun i _ => l.length - (intOf i).toNat)
    case atStart => exact ⟨0, by omega, rfl, Below.refl _ _⟩
    case round =>
      obtain ⟨k, hk, rfl, hg⟩ := hrel
      by_cases hlt : k < l.length
      · obtain ⟨c0, c1, c2⟩ := HV.out.below hg hb k hlt
        obtain ⟨d0, d1, d2⟩ := HU.out.below hg hb' k hlt
        generalize l[k] = t at *
        obtain ⟨kd, tx, pl⟩ := t
        simp only at c0 c1 c2 d0 d1 d2
        have hi0 : (0 : Int) ≤ (k : Int) := by omega
        have hi1 : (k : Int) < (l.length : Int) := by omega
        go_wp2_with fail
        go_quiet (fail)
        go_wp2_with fail
        go_roundw
        case rel => exact ⟨k + 1, by omega, by go_num, below_drewN hg _⟩
        case measure => simp [intOf] <;> omega
      · go_wp2_with fail
        go_ret
        exact ⟨rfl, hg⟩

/-- The text so far. -/
def soFar (l : List ITok) (k : Nat) : ByteArray := ⟨(Lib.join ((l.take k).map fun t => t.2.1.data.toList) [32]).toArray⟩
theorem join_snoc (sep : List UInt8) : ∀ (xs : List (List UInt8)) (x : List UInt8), Lib.join (xs ++ [x]) sep = if xs = [] then x else Lib.join xs sep ++ sep ++ x
  | [], x => by simp [Lib.join, List.intercalate]
  | [a], x => by simp [Lib.join, List.intercalate]
  | a :: b :: t, x => by
    have ih := join_snoc sep (b :: t) x
    rw [if_neg (by simp)] at ih
    rw [if_neg (by simp)]
    have e : ∀ c (u : List (List UInt8)), Lib.join (a :: c :: u) sep = a ++ sep ++ Lib.join (c :: u) sep := fun c u => by simp [Lib.join, List.intercalate]
    rw [List.cons_append, List.cons_append, e, e, ← List.cons_append, ih]
    simp
theorem soFar_one (l : List ITok) (h : 0 < l.length) : soFar l 1 = l[0].2.1 := by
  unfold soFar
  rw [List.take_succ_eq_append_getElem h, List.map_append, List.map_singleton, join_snoc]
  simp
theorem soFar_step (l : List ITok) (k : Nat) (h : k < l.length) (hk : 0 < k) : soFar l (k + 1) = soFar l k ++ ⟨#[32]⟩ ++ l[k].2.1 := by
  apply ba_ext
  unfold soFar
  rw [List.take_succ_eq_append_getElem h, List.map_append, List.map_singleton, join_snoc, if_neg ?_, app_data, app_data]
  intro e
  have := congrArg List.length e
  rw [List.length_map, List.length_take, List.length_nil] at this
  omega
theorem soFar_len (l : List ITok) (k : Nat) (hl : l.length ≤ 1000) (hs : ∀ t ∈ l, t.2.1.size ≤ 1000) : (soFar l k).size ≤ 2000000 := by
  have hj := join_len [32] 1000 ((l.take k).map fun t => t.2.1.data.toList) (fun x hx => by
      obtain ⟨t, ht, rfl⟩ := List.mem_map.1 hx
      rw [size_eq]; exact hs t (List.mem_of_mem_take ht))
  rw [List.length_map, List.length_take] at hj
  rw [← size_eq]
  unfold soFar
  simp only [List.length_cons, List.length_nil] at hj
  have : min k l.length * (1000 + (0 + 1)) ≤ 1000 * 1001 := Nat.mul_le_mul (by omega) (by omega)
  simp only; omega

set_option maxHeartbeats 1000000 in
/-- The document's 'Show'. -/
theorem rshow_any (v : Value) (l : List ITok) (w : World) (hl : l.length ≤ 1000) (hv : SlTok w v l) (hs : ∀ t ∈ l, t.2.1.size ≤ 1000) :
    Calls Tryd.prog 15 #[v] w (ShowRet l w) := by
  by_cases h0 : l = []
  · subst h0
    rcases hv with ⟨rfl, _⟩ | ⟨b, off, cap, rfl, _, _⟩
    all_goals
      try simp only [List.length_nil]
      go_enter Tryd.func15, Tryd.ntmps15
      go_wp2_with fail
      refine wp_loop_rounds 1 ?_
      rw [rounds_succ]
      go_wp2_with fail
      go_ret2
      exact ⟨.inl ⟨rfl, rfl⟩, Below.refl _ _⟩
  · rcases hv with ⟨_, h⟩ | ⟨b, off, cap, rfl, hb, hv⟩
    · exact absurd h h0
    have HV := Lib.hid hv
    have HS := Lib.hid hs
    have HL0 := Lib.hid h0
    clear hv hs h0
    go_enter Tryd.func15, Tryd.ntmps15
    go_wp2_with fail
    go_loopw [4, 5] (fun x i wr => ∃ k : Nat, k ≤ l.length ∧ i = .int .i64 k ∧ x = .string (soFar l k) ∧ Below w.heap.size w wr ∧ Hid (showE l = showE (l.drop k))) (fun _ i _ => l.length - (intOf i).toNat)
    case atStart => exact ⟨0, by omega, rfl, rfl, Below.refl _ _, rfl⟩
    case round =>
      obtain ⟨k, hk, rfl, rfl, hg, hE⟩ := hrel
      by_cases hlt : k < l.length
      · obtain ⟨c0, c1, c2⟩ := HV.out.below hg hb k hlt
        have hd := Lib.hid (List.drop_eq_getElem_cons hlt)
        have hsz := HS.out _ (List.getElem_mem hlt)
        have hsf := soFar_len l k hl HS.out
        have h1 : k = 0 → Hid (soFar l (k + 1) = l[k].2.1) := fun e => by subst e; exact soFar_one l hlt
        have h2 : 0 < k → Hid (soFar l (k + 1) = soFar l k ++ ⟨#[32]⟩ ++ l[k].2.1) := fun e => soFar_step l k hlt e
        have H1 := Lib.hid h1
        have H2 := Lib.hid h2
        clear h1 h2
        generalize hgt : l[k] = t at *
        obtain ⟨kd, tx, pl⟩ := t
        simp only at c0 c1 c2 hsz
        have hi0 : (0 : Int) ≤ (k : Int) := by omega
        have hi1 : (k : Int) < (l.length : Int) := by omega
        clear hgt c2
        by_cases hz : kd = 0
        · have hx : Hid (showE l = false) := by unfold Hid; rw [hE.out, hd.out]; unfold showE; rw [List.all_cons, hz]; rfl
          subst hz
          go_wp2_with fail
          go_quiet (fail)
          go_wp2_with fail
          go_ret2
          exact ⟨.inr ⟨hx.out, rfl⟩, below_drewN hg _⟩
        · have hbz : ((kd : Int) == 0) = false := by simp; omega
          have hx : Hid (showE l = ((isT tx.data.toList == kd) && showE (l.drop (k + 1)))) := by
            unfold Hid; rw [hE.out, hd.out]; unfold showE; rw [List.all_cons]
            have : (kd == 0) = false := by simpa using hz
            simp only [this]; rfl
          obtain ⟨q, hq⟩ : ∃ q, q = isT tx.data.toList := ⟨_, rfl⟩
          rw [← hq] at hx
          have HQ := Lib.hid hq
          clear hq hz
          have hbr : b < wr.heap.size := Nat.lt_of_lt_of_le hb hg.size
          go_wp2_with fail
          go_region_held3 (fun w' => w'.cell? ⟨b, off + k * 3, none⟩ = some (.int .u8 (kd : Int)) ∧ w'.cell? ⟨b, off + k * 3 + 1, none⟩ = some (.string tx))
            (first
              | go_keep
              | exact ⟨(hbi.cell (p := ⟨b, off + k * 3, none⟩) hbr).trans c0, (hbi.cell (p := ⟨b, off + k * 3 + 1, none⟩) hbr).trans c1⟩)
            (first
              | (go_at_call 17; refine (ris_any tx _ (by omega)).mono ?_; rintro e w3 ⟨rfl, hbi⟩; rw [← HQ.out]))
          have hb3 := hg.drew.trans (hbi.mono hg.size)
          have e1 : w3.cell? ⟨b, off + k * 3 + 1, none⟩ = some (.string tx) := (hbi.cell (p := ⟨b, off + k * 3 + 1, none⟩) hbr).trans c1
          clear c0 c1 hbi hbr
          by_cases hqk : q = kd
          · have hx2 : Hid (showE l = showE (l.drop (k + 1))) := by unfold Hid; rw [hx.out, hqk]; simp
            have hbq : ((q : Int) != kd) = false := by rw [hqk]; simp
            clear hx hqk
            by_cases hk0 : k = 0
            · have hs1 := H1.out hk0
              subst hk0
              go_wp2_with fail
              go_roundw
              case rel => exact ⟨1, by omega, rfl, by rw [hs1.out]; rfl, hb3, hx2.out⟩
              case measure => simp [intOf] <;> omega
            · have hs1 := H2.out (by omega)
              have hk1 : 0 < k := by omega
              clear hk0
              have hc1 : (ByteArray.mk #[32]).size = 1 := rfl
              go_wp2_with fail
              go_roundw
              case rel => exact ⟨k + 1, by omega, by go_num, by rw [hs1.out], hb3, hx2.out⟩
              case measure => simp [intOf] <;> omega
          · have hx2 : Hid (showE l = false) := by
              unfold Hid; rw [hx.out]
              have : (q == kd) = false := by simpa using hqk
              rw [this]; rfl
            have hbq : ((q : Int) != kd) = true := by rw [bne_iff_ne]; omega
            clear hx hqk
            go_wp2_with fail
            go_ret2
            exact ⟨.inr ⟨hx2.out, rfl⟩, hb3⟩
      · obtain rfl : k = l.length := by omega
        have hx : Hid (showE l = true) := by unfold Hid; rw [hE.out, List.drop_eq_nil_of_le (Nat.le_refl _)]; rfl
        have hf : Hid (soFar l l.length = ⟨(Lib.join (l.map fun t => t.2.1.data.toList) [32]).toArray⟩) := by
          unfold Hid soFar; rw [List.take_of_length_le (Nat.le_refl _)]
        go_wp2_with fail
        go_ret2
        exact ⟨.inl ⟨hx.out, by rw [← hf.out]; rfl⟩, hg⟩
end Go.Proofs
