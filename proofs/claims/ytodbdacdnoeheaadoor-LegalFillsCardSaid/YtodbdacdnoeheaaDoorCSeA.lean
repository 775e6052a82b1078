/- Walks: a configuration's clone; may a vertex be entered or left; is it active; a vertex is left. -/
import Derived.Test.YtodbdacdnoeheaaDoorCLgAE
import Derived.Test.YtodbdacdnoeheaaDoorCSeP
import Derived.OneCell

namespace Go.Proofs
open Go.RowKit Go.Lx Go.Md Go.Shelf Go.BigFrame Go.Rgi
set_option linter.unusedVariables false
theorem any_no {P : Int → Bool} {l : List Int} (h : ∀ j (hj : j < l.length), P l[j] = false) : l.any P = false := by
  rw [List.any_eq_false]; intro y hy
  obtain ⟨j, hj, rfl⟩ := List.getElem_of_mem hy
  rw [h j hj]; simp
theorem any_yes {P : Int → Bool} {l : List Int} {j : Nat} (hj : j < l.length) (h : P l[j] = true) : l.any P = true := by
  rw [List.any_eq_true]; exact ⟨_, List.getElem_mem hj, h⟩
def IdxP (P : Int → Bool) (l : List Int) (w : World) (e : Ending) (w' : World) : Prop := ∃ i : Int, e = .returned (.int .i64 i) ∧ decide (0 ≤ i) = l.any P ∧ Below w.heap.size w w'
--IF (*sets.Sets).Leave$1
set_option maxHeartbeats 1000000 in
theorem indexLv_any (P : Int → Bool) (l : List Int) (v : Value) (B4 : Nat) (w : World) (h : RowIn w v l) (hl : l.length ≤ 100000)
    (hK : ∀ wx, Below w.heap.size w wx → ∀ x ∈ l, Calls Tryd.prog 32 #[.int .i64 x, .pointer (some (.mk B4 0 none))] wx fun e w' => e = .returned (.bool (P x)) ∧ Below wx.heap.size wx w') :
    Calls Tryd.prog 22 #[v, .func (.func 32) #[] #[.pointer (some (.mk B4 0 none))]] w (IdxP P l w) := by
  have HK := Lib.hid hK
  have HR := Lib.hid (fun (wx : World) (g : Below w.heap.size w wx) => (h.below g).len)
  obtain ⟨a, c, rfl, hc, _⟩ := h.len
  obtain ⟨n, hn⟩ : ∃ n, l.length = n := ⟨_, rfl⟩
  have HN := Lib.hid hn
  rw [hn] at hl hc ⊢
  clear h hK hn
  go_enter Tryd.func22, Tryd.ntmps22
  go_wp2_with fail
  go_loopw [8] (fun i wr => ∃ k' : Nat, k' ≤ n ∧ i = .int .i64 k' ∧ Below w.heap.size w wr ∧ ∀ j (hj : j < l.length), j < k' → P l[j] = false) (fun i _ => n - (intOf i).toNat)
  case atStart => exact ⟨0, by omega, rfl, Below.refl _ _, fun j _ hj => by omega⟩
  case round =>
    obtain ⟨wo, rfl⟩ : ∃ wo : World, wo = wr := ⟨_, rfl⟩
    obtain ⟨i, hi, rfl, hb, hno⟩ := hrel
    have HB := Lib.hid hb
    have HNo := Lib.hid hno
    clear hb hno
    by_cases hlt : i < n
    · have hil : i < l.length := by rw [HN.out]; exact hlt
      obtain ⟨a', c', e, _, q⟩ := HR.out wo HB.out
      obtain ⟨b1, o1, ea, hbl, hcl⟩ := q i hil
      simp only [Value.slice.injEq] at e
      obtain ⟨rfl, e', rfl⟩ := e
      clear e'
      subst ea
      have hI : (i : Int) < (n : Int) := by omega
      have hI0 : (0 : Int) ≤ (i : Int) := by omega
      have HKv := Lib.hid (HK.out wo HB.out (l[i]'hil) (List.getElem_mem hil))
      have HS : Hid (∀ b, P (l[i]'hil) = b → (b = true → l.any P = true) ∧ (b = false → ∀ j (hj : j < l.length), j < i + 1 → P l[j] = false)) := fun b hb => ⟨fun ht => any_yes hil (by rw [hb, ht]), fun hf j hj hji => by
        by_cases e : j = i
        · subst e; rw [hb, hf]
        · exact HNo.out j hj (by omega)⟩
      obtain ⟨y, hy⟩ : ∃ y, l[i]'hil = y := ⟨_, rfl⟩
      rw [hy] at hcl HKv HS
      obtain ⟨b, hb⟩ : ∃ b, P y = b := ⟨_, rfl⟩
      rw [hb] at HKv
      have HSb := Lib.hid (HS.out b hb)
      clear q hb HS hy
      cases b with
      | true =>
        go_wp2_with fail
        (with_reducible refine (HKv.out).mono ?_)
        rintro e w5 ⟨rfl, g5⟩
        go_wp2_with fail
        go_ret
        exact ⟨_, rfl, by rw [HSb.out.1 (by trivial)]; simp, below_ch HB.out g5⟩
      | false =>
        go_wp2_with fail
        (with_reducible refine (HKv.out).mono ?_)
        rintro e w5 ⟨rfl, g5⟩
        go_wp2_with fail
        go_roundw
        case rel => exact ⟨i + 1, by omega, by go_num, below_ch HB.out g5, HSb.out.2 (by trivial)⟩
        case measure => simp [intOf] <;> omega
    · have hA : Hid (l.any P = false) := Lib.hid (any_no fun j hj => HNo.out j hj (by have := HN.out; omega))
      go_wp2_with fail
      go_ret
      exact ⟨-1, rfl, by rw [hA.out]; rfl, HB.out⟩
theorem containsLv_any (P : Int → Bool) (l : List Int) (v : Value) (B4 : Nat) (w : World) (h : RowIn w v l) (hl : l.length ≤ 100000)
    (hK : ∀ wx, Below w.heap.size w wx → ∀ x ∈ l, Calls Tryd.prog 32 #[.int .i64 x, .pointer (some (.mk B4 0 none))] wx fun e w' => e = .returned (.bool (P x)) ∧ Below wx.heap.size wx w') :
    Calls Tryd.prog 31 #[v, .func (.func 32) #[] #[.pointer (some (.mk B4 0 none))]] w fun e w' => e = .returned (.bool (l.any P)) ∧ Below w.heap.size w w' := by
  have HC := Lib.hid (indexLv_any P l v B4 w h hl hK)
  clear h hK
  go_enter Tryd.func31, Tryd.ntmps31
  go_wp2_with ((with_reducible refine (HC.out).mono ?_); rintro e w' ⟨i, rfl, hi, hb⟩)
  go_ret
  exact ⟨by rw [← hi]; rfl, hb⟩
--FI
/-- A configuration's box. -/
structure Cb (la ll : List Int) (a1 a2 : Option Addr) (c1 c2 H : Nat) (w : World) : Prop where
  d0 : w.cell? ⟨H, 0, none⟩ = some (.slice a1 la.length c1)
  d1 : w.cell? ⟨H, 1, none⟩ = some (.slice a2 ll.length c2)
  r1 : RowIn w (.slice a1 la.length c1) la
  r2 : RowIn w (.slice a2 ll.length c2) ll
  lt : H < w.heap.size
theorem Cb.below {la ll : List Int} {a1 a2 : Option Addr} {c1 c2 H : Nat} {w w' : World} (h : Cb la ll a1 a2 c1 c2 H w) (g : Below w.heap.size w w') : Cb la ll a1 a2 c1 c2 H w' :=
  ⟨(g.cell (p := ⟨H, 0, none⟩) h.lt).trans h.d0, (g.cell (p := ⟨H, 1, none⟩) h.lt).trans h.d1, h.r1.below g, h.r2.below g, Nat.lt_of_lt_of_le h.lt g.size⟩
theorem Cb.made {la ll : List Int} {a1 a2 : Option Addr} {c1 c2 : Nat} {w : World} (h1 : RowIn w (.slice a1 la.length c1) la) (h2 : RowIn w (.slice a2 ll.length c2) ll) : Cb la ll a1 a2 c1 c2 w.heap.size (w.alloc (.cells #[.slice a1 la.length c1, .slice a2 ll.length c2] 31)) :=
  ⟨by simp, by simp, h1.below (below_al1 w _), h2.below (below_al1 w _), by simp⟩
theorem Cb.at {la ll : List Int} {a1 a2 : Option Addr} {c1 c2 H : Nat} {w : World} (h : Cb la ll a1 a2 c1 c2 H w) {r : Nat} (hr : r < la.length) : ∃ b o, a1 = some ⟨b, o, none⟩ ∧ b < w.heap.size ∧ la.length ≤ c1 ∧ w.cell? ⟨b, o + r, none⟩ = some (.int .i64 (atL la r)) := by
  obtain ⟨a', c', e, hc, q⟩ := h.r1.len
  obtain ⟨b1, o1, ea, hbl, hcl⟩ := q r hr
  simp only [Value.slice.injEq] at e
  obtain ⟨e1, _, e2⟩ := e
  refine ⟨b1, o1, e1.trans ea, hbl, by omega, ?_⟩
  rw [hcl]
  unfold atL; rw [Int.toNat_natCast, List.getD_eq_getElem?_getD, List.getElem?_eq_getElem hr]; rfl
--IF (*sets.Sets).Leave$1
theorem leave1_any {la ll : List Int} {a1 a2 : Option Addr} {c1 c2 H : Nat} {w : World} (h : Cb la ll a1 a2 c1 c2 H w) {r : Nat} (hr : r < la.length) :
    Calls Tryd.prog 32 #[.int .i64 (r : Int), .pointer (some ⟨H, 0, none⟩)] w fun e w' => e = .returned (.bool (decide (0 ≤ atL la r))) ∧ Below w.heap.size w w' := by
  obtain ⟨b, o, ea, hb, hc, hcl⟩ := h.at hr
  subst ea
  have d0 := h.d0
  have hI : (r : Int) < (la.length : Int) := by omega
  have hI0 : (0 : Int) ≤ (r : Int) := by omega
  generalize atL la r = y at *
  clear h
  go_enter Tryd.func32, Tryd.ntmps32
  go_wp2_with fail
  go_ret
  exact ⟨rfl, Below.refl _ _⟩
--FI
end Go.Proofs
