/- The walk of lex.Tokens. -/
import Derived.Test.YtblccelfkffggaaDoorLexB
import Derived.WalkSmall
import Derived.OwnWalk
namespace Go.Proofs
open Go.RowKit Go.Lx

theorem info_tok : (Tryd.prog.info? 32).map (fun i => (i.zero, i.size, i.bytes)) = some (some (.agg #[.int .u8 0, .string ⟨#[]⟩, .int .i64 0]), 3, 32) := by kernel_rfl
/-- A token's cells. -/
def tokC (t : Tok) : List Value := [.int .u8 t.1, .string ⟨t.2.1.toArray⟩, .int .i64 t.2.2]
def flat (l : List Tok) : List Value := l.flatMap tokC
theorem flat_length (l : List Tok) : (flat l).length = l.length * 3 := by
  unfold flat
  induction l with
  | nil => rfl
  | cons a t ih => simp only [List.flatMap_cons, List.length_append, ih, tokC, List.length_cons, List.length_nil]; omega
theorem flat_snoc (l : List Tok) (t : Tok) : flat (l ++ [t]) = flat l ++ tokC t := by simp [flat, tokC]
theorem cell_three_new (w : World) (a b c : Value) (t : TypeId) : ∀ j u, [a, b, c][j]? = some u → (w.alloc (.cells #[a, b, c] t)).cell? ((⟨w.heap.size, 0, none⟩ : Addr).add j) = some u := by
  intro j u hj
  match j, hj with
  | 0, hj => simp at hj; subst hj; simp [Addr.add]
  | 1, hj => simp at hj; subst hj; simp [Addr.add]
  | 2, hj => simp at hj; subst hj; simp [Addr.add]
  | j + 3, hj => simp at hj

theorem ownsRow_below {w w' : World} {base : Nat} {e : TypeId} {size : Nat} {v : Value} {n : Nat} {xs : List Value} (h : w.ownsRow base e size v n xs) (hb : Below w.heap.size w w') : w'.ownsRow base e size v n xs := by
  refine ⟨h.1, ?_⟩
  rcases h.2 with hn | ⟨g, cap, cur, rfl, hb', hgg, rest⟩
  · exact .inl hn
  · exact .inr ⟨g, cap, cur, rfl, hb', (hb.block g (lt_of_block hgg)).trans hgg, rest⟩

def TokRet (T : TypeId) (l : List UInt8) (w : World) (e : Ending) (w' : World) : Prop :=
  ((∃ v, (toks l).1 = none ∧ e = .returned (.tuple #[v, .int .i64 0, .int .i64 0]) ∧ w'.ownsRow w.heap.size T 3 v (toks l).2.length (flat (toks l).2)) ∨
   (∃ p : Nat, (toks l).1 = some p ∧ e = .returned (.tuple #[.slice none 0 0, .int .i64 p, .int .i64 70]))) ∧ Below w.heap.size w w'

/-- The tokens so far. -/
def Sofar (s : List UInt8) (k : Nat) (done : List Tok) : Prop := toks s = ((toksAt k (s.drop k)).1, done ++ (toksAt k (s.drop k)).2)
theorem Sofar.zero (s : List UInt8) : Sofar s (blk false s) [] := by unfold Sofar toks; simp
theorem Sofar.bad {s : List UInt8} {k : Nat} {done : List Tok} (h : Sofar s k done) (hk : k < s.length) (hb : (first (s.drop k)).1 = 0 ∨ 64 < (first (s.drop k)).1) : (toks s).1 = some k := by
  have hl : s.drop k ≠ [] := fun e => by have := congrArg List.length e; rw [List.length_drop, List.length_nil] at this; omega
  rw [h, toksAt_bad hl hb]
theorem Sofar.step {s : List UInt8} {k : Nat} {done : List Tok} (h : Sofar s k done) (hb : ¬ ((first (s.drop k)).1 = 0 ∨ 64 < (first (s.drop k)).1)) :
    Sofar s (k + (first (s.drop k)).1 + blk false (s.drop (k + (first (s.drop k)).1))) (done ++ [((first (s.drop k)).2, (s.drop k).take (first (s.drop k)).1, k)]) := by
  unfold Sofar at h ⊢
  rw [h, toksAt_good hb, List.drop_drop, List.drop_drop, List.append_assoc, ← Nat.add_assoc]
  rfl
theorem Sofar.done {s : List UInt8} {k : Nat} {done : List Tok} (h : Sofar s k done) (hk : s.length ≤ k) : toks s = (none, done) := by
  unfold Sofar at h
  rw [h, List.drop_eq_nil_of_le hk, toksAt_nil, List.append_nil]

theorem tokens_long (s : ByteArray) (w : World) (h : 65536 < s.size) :
    Calls Tryd.prog 11 #[.string s] w fun e w' => e = .returned (.tuple #[.slice none 0 0, .int .i64 0, .int .i64 3]) ∧ w = w' := by
  go_enter Tryd.func11, Tryd.ntmps11
  go_wp2_with fail
  go_ret3
  exact ⟨rfl, rfl⟩

set_option maxHeartbeats 1000000 in
theorem tokens_any (s : ByteArray) (w : World) (hT : Tab w) (hs : s.size ≤ 65536) :
    Calls Tryd.prog 11 #[.string s] w (TokRet 32 s.data.toList w) := by
  obtain ⟨i0, hi, hz0, hz1, hz2⟩ := info_parts info_tok
  have hM : Hid (s.size ≤ maxLen) := by unfold Hid maxLen; omega
  obtain ⟨b0, hb0⟩ : ∃ b0, b0 = blk false s.data.toList := ⟨_, rfl⟩
  have hbl := blk_le false s.data.toList
  rw [size_eq, ← hb0] at hbl
  have hS0 : Hid (Sofar s.data.toList b0 []) := by unfold Hid; rw [hb0]; exact Sofar.zero _
  have HB0 := Lib.hid hb0
  clear hb0
  go_enter Tryd.func11, Tryd.ntmps11
  go_wp2_with fail
  refine (blanks_any _ _ hM.out).mono ?_
  rintro e w' ⟨rfl, rfl⟩
  rw [← HB0.out]
  go_wp2_with fail
  go_loopw [2, 3, 5, 6] (fun v i _ _ wr => ∃ (k : Nat) (done : List Tok), k ≤ s.size ∧ i = .int .i64 k ∧ wr.ownsRow w.heap.size 32 3 v done.length (flat done) ∧ done.length ≤ k ∧ Below w.heap.size w wr ∧ Hid (Sofar s.data.toList k done)) (fun _ i _ _ _ => s.size - (intOf i).toNat)
  case atStart => exact ⟨b0, [], hbl, rfl, World.ownsRow_nil _ _ _ _, Nat.zero_le _, Below.refl _ _, hS0.out⟩
  case round =>
    obtain ⟨k, done, hk, rfl, hown, hdl, hb, hS⟩ := hrel
    by_cases hlt : k < s.size
    · have hx := Lib.hid (ext_end s k)
      have hz : Hid ((s.extract k s.size).size ≤ 100000) := by unfold Hid; rw [ByteArray.size_extract]; omega
      obtain ⟨n, kd, hF⟩ : ∃ n kd, first (s.data.toList.drop k) = (n, kd) := ⟨_, _, rfl⟩
      have hle := first_le (s.data.toList.drop k)
      rw [hF, List.length_drop, size_eq] at hle
      simp only at hle
      have hkd := (first_kind (s.data.toList.drop k)).1
      rw [hF] at hkd
      simp only at hkd
      have HF := Lib.hid hF
      clear hF
      have HO := Lib.hid hown
      clear hown
      go_wp2_with fail
      refine (first_any _ _ (hT.next hb) hz.out).mono ?_
      rintro e w1 ⟨rfl, hb1⟩
      rw [hx.out, HF.out]
      simp only
      have hown1 := ownsRow_below HO.out hb1
      have hb2 := hb.trans (hb1.mono hb.size)
      have hsz1 := hb2.size
      clear hb1 HO
      by_cases hbad : n = 0 ∨ 64 < n
      · have hp : Hid ((toks s.data.toList).1 = some k) := hS.out.bad (by rw [size_eq]; exact hlt) (by rw [HF.out]; exact hbad)
        clear hown1
        rcases hbad with rfl | hbad
        · go_wp2_with fail
          go_ret3
          exact ⟨.inr ⟨k, hp.out, rfl⟩, hb2⟩
        · have hb0 : ((n : Int) == 0) = false := by simp; omega
          go_wp2_with fail
          go_ret3
          exact ⟨.inr ⟨k, hp.out, rfl⟩, hb2⟩
      · have hn0 : ¬ n = 0 := fun h => hbad (.inl h)
        have hn64 : n ≤ 64 := by omega
        have hbn : ((n : Int) == 0) = false := by simp; omega
        have hst := hS.out.step (by rw [HF.out]; exact hbad)
        rw [HF.out] at hst
        simp only at hst
        obtain ⟨b2, hb2e⟩ : ∃ b2, b2 = blk false (s.data.toList.drop (k + n)) := ⟨_, rfl⟩
        rw [← hb2e] at hst
        have hb2l : k + n + b2 ≤ s.size := by have := blk_le false (s.data.toList.drop (k + n)); rw [← hb2e, List.length_drop, size_eq] at this; omega
        have HST := Lib.hid hst
        have HB2 := Lib.hid hb2e
        have hx2 := Lib.hid (ext_end s (k + n))
        have hzb : Hid ((s.extract (k + n) s.size).size ≤ maxLen) := by unfold Hid maxLen; rw [ByteArray.size_extract]; omega
        have hxm : Hid ((ByteArray.mk ((s.data.toList.drop k).take n).toArray) = s.extract k (k + n)) := by
          apply ba_ext; rw [ext_mid]
        have hkn : (k : Int) + n ≤ s.size := by omega
        clear hbad hst hb2e hS
        go_wp2_with (at_builtin; refine wpList_append_own _ rfl _ _ 27 rfl w.heap.size 32 i0 (.agg #[.int .u8 0, .string ⟨#[]⟩, .int .i64 0]) 3 32 Tryd.underlying27 hi hz0 hz1 hz2 rfl (by decide) _ _ _ rfl (hown1.alloc _) ⟨w1.heap.size, 0, none⟩ 1 1 [.int .u8 (kd : Int), .string (s.extract k (k + n)), .int .i64 (k : Int)] rfl rfl (cell_three_new _ _ _ _ _) (fun x hx => by simp at hx; rcases hx with rfl | rfl | rfl <;> rfl) (by unfold maxLen; omega) (by omega) (by simp; omega) ?_; intro v' w3 hown' hgrow3 hnil3)
        have hb3 : Below w.heap.size w w3 := Below.grown (hb2.alloc hsz1 _) hgrow3 (by simp; omega) (fun j hj => (hown1.lt _ hj).1)
        have hown3 : w3.ownsRow w.heap.size 32 3 v' (done ++ [(kd, (s.data.toList.drop k).take n, k)]).length (flat (done ++ [(kd, (s.data.toList.drop k).take n, k)])) := by
          rw [flat_snoc, List.length_append]
          simp only [tokC, hxm.out, List.length_cons, List.length_nil]
          exact hown'
        have HO3 := Lib.hid hown3
        clear hown' hgrow3 hnil3 hown3 hown1
        refine (blanks_any _ _ hzb.out).mono ?_
        rintro e w4 ⟨rfl, rfl⟩
        rw [hx2.out, ← HB2.out]
        go_wp2_with fail
        go_roundw
        case rel => exact ⟨k + n + b2, _, by omega, by first | (congr 1; omega) | congr 1, HO3.out, by simp; omega, hb3, HST.out⟩
        case measure => simp [intOf] <;> omega
    · have hd : Hid (toks s.data.toList = (none, done)) := hS.out.done (by rw [size_eq]; omega)
      have HO := Lib.hid hown
      clear hown
      go_wp2_with fail
      go_ret3
      exact ⟨.inl ⟨_, by rw [hd.out], rfl, by rw [hd.out]; exact HO.out⟩, hb⟩
end Go.Proofs
