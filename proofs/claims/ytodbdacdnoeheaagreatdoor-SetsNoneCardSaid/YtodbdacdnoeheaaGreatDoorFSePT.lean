/- Texts put together. -/
import Derived.Test.YtodbdacdnoeheaaGreatDoorFLgP
import Derived.Test.YtodbdacdnoeheaaGreatDoorFGHiP
/- What is left with a region, and filled again: plain. No program is in sight. -/
namespace Go.Md
open Go.RowKit Go.Lx Go.Proofs
set_option linter.unusedVariables false

/-- What is left with a region: what lies below it first. -/
def exF (m : MdlD) (c : List Int) : Nat → Int → List Int
  | 0, _ => []
  | f + 1, r => if atL c r < 0 then [] else (ownM m (atL c r)).flatMap (exF m c f) ++ [atL c r]
def exM (m : MdlD) (c : List Int) (r : Int) : List Int := exF m c 66 r
structure Fit (m : MdlD) (c : List Int) : Prop where
  h0 : riM m = (0, 0, 0)
  hl : c.length = m.regs.length
  hf : fitRow m c = true
theorem own_at {m : MdlD} {s q : Int} (h : q ∈ ownM m s) : ∃ j : Nat, ∃ hj : j < m.regs.length, q = j ∧ m.regs[j].own = s := by
  obtain ⟨j, hj, e, hp⟩ := (sel_mem _ _ _).1 h
  exact ⟨j, hj, e, by simpa [isOwn] using hp⟩
/-- What stands in a region of a state lies in that state. -/
theorem below_own {m : MdlD} {c : List Int} (F : Fit m c) {j v k : Nat} (hj : j < m.regs.length) (ho : m.regs[j].own = (v : Int)) (hv : v < m.vers.length) (hk : k < m.vers.length) (ha : atL c j = k) (hg : m.vers[k].rg = j) (hd : m.vers[k].kd = 1 ∨ m.vers[k].kd = 2) : arM m k = v ∧ deM m k = deM m v + 1 := by
  have hst : stands m k = true := by rw [stands_at hk]; simpa using hd
  obtain ⟨k', hk', ek, r, hr, e1, e2, e3, e4, e5⟩ := stands_in F.h0 hst
  obtain rfl : k = k' := by omega
  obtain rfl : j = r := by omega
  have e : arM m k = v := by rw [e5, ho]
  exact ⟨e, dp_succ F.h0 hk hv e⟩
theorem ex_in {m : MdlD} {c : List Int} (F : Fit m c) : ∀ (f r : Nat) (hr : r < m.regs.length) (x : Int), x ∈ exF m c f r → ∃ k v : Nat, x = k ∧ k < m.vers.length ∧ isA m c k = true ∧ v < m.vers.length ∧ atL c r = v ∧ (v : Int) ∈ upsM m k
  | 0, _, _, _, h => by cases h
  | f + 1, r, hr, x, h => by
    unfold exF at h
    split at h
    · cases h
    · rename_i hn
      obtain ⟨v, hv, e, hg, hd, ha⟩ := fit_in F.hl F.hf hr (by omega)
      rw [List.mem_append, List.mem_singleton, List.mem_flatMap] at h
      rcases h with ⟨q, hq, hx⟩ | rfl
      · rw [e] at hq
        obtain ⟨j, hj, rfl, ho⟩ := own_at hq
        obtain ⟨k, y, ex, hk, hka, hy, hjy, hup⟩ := ex_in F f j hj x hx
        obtain ⟨y', hy', ey, gy, dy, _⟩ := fit_in F.hl F.hf hj (by omega)
        obtain rfl : y = y' := by omega
        obtain ⟨ar, _⟩ := below_own F hj ho hv hy hjy gy dy
        exact ⟨k, v, ex, hk, hka, hv, e, ups_trans F.h0 hk hup ar hv⟩
      · exact ⟨v, v, e, hv, ha, hv, e, ups_self⟩
theorem ex_nodup {m : MdlD} {c : List Int} (F : Fit m c) : ∀ (f r : Nat) (hr : r < m.regs.length), (exF m c f r).Nodup
  | 0, _, _ => List.nodup_nil
  | f + 1, r, hr => by
    unfold exF
    split
    · exact List.nodup_nil
    · rename_i hn
      obtain ⟨v, hv, e, hg, hd, ha⟩ := fit_in F.hl F.hf hr (by omega)
      rw [e]
      have key : ∀ q ∈ ownM m (v : Int), ∀ x ∈ exF m c f q, ∃ j : Nat, ∃ hj : j < m.regs.length, ∃ k y : Nat, q = j ∧ x = k ∧ ∃ hk : k < m.vers.length, ∃ hy : y < m.vers.length, m.vers[y].rg = j ∧ (y : Int) ∈ upsM m k ∧ deM m y = deM m v + 1 := by
        intro q hq x hx
        obtain ⟨j, hj, rfl, ho⟩ := own_at hq
        obtain ⟨k, y, ex, hk, hka, hy, hjy, hup⟩ := ex_in F f j hj x hx
        obtain ⟨y', hy', ey, gy, dy, _⟩ := fit_in F.hl F.hf hj (by omega)
        obtain rfl : y = y' := by omega
        exact ⟨j, hj, k, y, rfl, ex, hk, hy, gy, hup, (below_own F hj ho hv hy hjy gy dy).2⟩
      rw [List.nodup_append]
      refine ⟨nodup_flatMap (sel_nodup _ _) (fun q hq => ?_) (fun a ha' b hb hab x hxa hxb => ?_), by simp, fun x hx y hy => ?_⟩
      · obtain ⟨j, hj, rfl, _⟩ := own_at hq
        exact ex_nodup F f j hj
      · obtain ⟨j, hj, k, y, rfl, rfl, hk, hy, gy, hu, hdy⟩ := key a ha' x hxa
        obtain ⟨j2, hj2, k2, y2, rfl, ek, hk2, hy2, gy2, hu2, hdy2⟩ := key b hb _ hxb
        obtain rfl : k = k2 := by omega
        obtain rfl : y = y2 := up_one F.h0 hk hu hu2 (by omega)
        exact hab (by omega)
      · rw [List.mem_singleton] at hy
        rw [List.mem_flatMap] at hx
        obtain ⟨q, hq, hx⟩ := hx
        obtain ⟨j, hj, k, y', rfl, rfl, hk, hy', gy, hu, hdy⟩ := key q hq x hx
        rintro rfl
        obtain rfl : k = v := by omega
        have := (ups_at F.h0 hk hu).2.1
        omega
/-- What is left in such an order that nothing is left ahead of what lies in it. -/
def Post (m : MdlD) (c : List Int) : List Int → List Int → Prop
  | _, [] => True
  | done, x :: t => (∀ q ∈ ownM m x, atL c q < 0 ∨ atL c q ∈ done) ∧ Post m c (done ++ [x]) t
theorem Post.mono {m : MdlD} {c : List Int} : ∀ (l d d' : List Int), Post m c d l → (∀ x ∈ d, x ∈ d') → Post m c d' l
  | [], _, _, _, _ => trivial
  | x :: t, d, d', h, hs => ⟨fun q hq => (h.1 q hq).imp id (hs _), Post.mono t _ _ h.2 (fun y hy => by
      rw [List.mem_append] at hy ⊢; exact hy.imp (hs _) id)⟩
theorem Post.app {m : MdlD} {c : List Int} : ∀ (a b d : List Int), Post m c d a → Post m c (d ++ a) b → Post m c d (a ++ b)
  | [], b, d, _, h => by simpa using h
  | x :: t, b, d, h, k => ⟨h.1, Post.app t b _ h.2 (by simpa using k)⟩
theorem Post.closed {m : MdlD} {c : List Int} : ∀ (l d : List Int), Post m c d l → ∀ s ∈ l, ∀ q ∈ ownM m s, atL c q < 0 ∨ atL c q ∈ d ++ l
  | [], _, _, _, h, _, _ => by cases h
  | x :: t, d, h, s, hs, q, hq => by
    rcases List.mem_cons.1 hs with rfl | hs
    · exact (h.1 q hq).imp id fun h => List.mem_append_left _ h
    · have := Post.closed t _ h.2 s hs q hq
      simpa using this
theorem Post.at {m : MdlD} {c : List Int} : ∀ (l d : List Int), Post m c d l → ∀ (i : Nat) (hi : i < l.length), ∀ q ∈ ownM m l[i], atL c q < 0 ∨ atL c q ∈ d ++ l.take i
  | x :: t, d, h, 0, _, q, hq => by simpa using h.1 q hq
  | x :: t, d, h, i + 1, hi, q, hq => by
    have := Post.at t _ h.2 i (by simpa using hi) q (by simpa using hq)
    simpa using this
theorem exM_nodup {m : MdlD} {c : List Int} (F : Fit m c) {r : Nat} (hr : r < m.regs.length) : (exM m c r).Nodup := ex_nodup F 66 r hr
theorem exM_act {m : MdlD} {c : List Int} (F : Fit m c) {r : Nat} (hr : r < m.regs.length) {x : Int} (h : x ∈ exM m c r) : ∃ k : Nat, x = k ∧ k < m.vers.length ∧ isA m c k = true := by
  obtain ⟨k, _, e, hk, ha, _⟩ := ex_in F 66 r hr x h
  exact ⟨k, e, hk, ha⟩
/-- May a vertex be left? -/
def leaveOk (m : MdlD) (d : List Int) (v : Int) : Bool := !((ownM m v).any fun q => decide (0 ≤ atL d q)) && isA m d v
end Go.Md

/- Configurations that are reached by entries and exits: plain. No program is in sight. -/
namespace Go.Md
open Go.RowKit Go.Lx Go.Proofs
set_option linter.unusedVariables false

end Go.Md

/- What is entered from a region to an end: plain. No program is in sight. -/
namespace Go.Md
open Go.RowKit Go.Lx Go.Proofs
set_option linter.unusedVariables false

/-- What is entered from a region to an end. -/
def entM (m : MdlD) (r e : Int) : List Int := if inM m e r then (chainM m e).filter (fun v => inM m v r) ++ (if stands m e then [e] else []) else []
/-- A way down: states in one another. -/
inductive Pth (m : MdlD) : Nat → List Nat → Prop
  | one {r p : Nat} : p < m.vers.length → r < m.regs.length → stands m p = true → rgA m p = r → arM m p = ownA m r → Pth m r [p]
  | cons {r p q : Nat} {L : List Nat} : p < m.vers.length → r < m.regs.length → stands m p = true → rgA m p = r → arM m p = ownA m r → (q : Int) ∈ ownM m p → Pth m q L → Pth m r (p :: L)
theorem Pth.first {m : MdlD} {r : Nat} {L : List Nat} (h : Pth m r L) : ∃ p L', L = p :: L' ∧ p < m.vers.length ∧ r < m.regs.length ∧ stands m p = true ∧ rgA m p = r ∧ arM m p = ownA m r := by
  cases h with
  | one a b c d e => exact ⟨_, [], rfl, a, b, c, d, e⟩
  | cons a b c d e _ _ => exact ⟨_, _, rfl, a, b, c, d, e⟩
/-- May a vertex be entered? -/
def enterOk (m : MdlD) (c : List Int) (v : Int) : Bool := decide (atL c (rgA m v) < 0) && (upsM m (arM m v)).all (isA m c)
end Go.Md

/- Configurations that are reached by entries and exits; a region left, a way entered: plain. No program is in sight. -/
namespace Go.Md
open Go.RowKit Go.Lx Go.Proofs
set_option linter.unusedVariables false

end Go.Md

/- All that is active, in order; what is entered, left, complete: plain. No program is in sight. -/
namespace Go.Md
open Go.RowKit Go.Lx Go.Proofs
set_option linter.unusedVariables false

/-- The vertices' home. -/
def homeL (m : MdlD) : List Int → Int
  | [] => -1
  | a :: t => commonM m a (a :: t)
/-- What is entered, whatever the region. -/
def entX (m : MdlD) (r e : Int) : List Int := if r < 0 then [] else entM m r e
/-- Is a state's part complete? -/
def finM (m : MdlD) (v : Int) : Bool := hasV m v && kdA m v == 2
def stA (m : MdlD) (v : Int) : Bool := hasV m v && kdA m v == 1
def cmpM (m : MdlD) (la ll : List Int) (v : Int) (fits : Bool) : Bool := fits && stA m v && isA m la v && !((ownM m v).any fun q => !finM m (atL la q))
end Go.Md
