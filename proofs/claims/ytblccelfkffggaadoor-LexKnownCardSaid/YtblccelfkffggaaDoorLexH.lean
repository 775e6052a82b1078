/- Walks of ref and works; the contract of Tokens by what a text has. -/
import Derived.Test.YtblccelfkffggaaDoorLexG
namespace Go.Proofs
open Go.RowKit Go.Lx

/-- Tokens: there are these. -/
def TokGood (l : List Tok) (T : TypeId) (w : World) (e : Ending) (w' : World) : Prop :=
  ∃ v, e = .returned (.tuple #[v, .int .i64 0, .int .i64 0]) ∧ w'.ownsRow w.heap.size T 3 v (l.map ofTok).length (flatI (l.map ofTok)) ∧ SlTok w' v (l.map ofTok) ∧ Below w.heap.size w w'
def TokBad (p : Nat) (w : World) (e : Ending) (w' : World) : Prop :=
  e = .returned (.tuple #[.slice none 0 0, .int .i64 p, .int .i64 70]) ∧ Below w.heap.size w w'
theorem TokRet.good {T : TypeId} {s : List UInt8} {l : List Tok} {w : World} {e : Ending} {w' : World} (h : TokRet T s w e w') (ht : toks s = (none, l)) : TokGood l T w e w' := by
  obtain ⟨⟨v, _, he, ho⟩ | ⟨p, hp, _⟩, hb⟩ := h
  · rw [ht] at ho
    simp only at ho
    rw [flat_eq] at ho
    have hlen : l.length = (l.map ofTok).length := by simp
    rw [hlen] at ho
    exact ⟨v, he, ho, SlTok.of_own ho rfl, hb⟩
  · rw [ht] at hp; cases hp
theorem TokRet.bad {T : TypeId} {s : List UInt8} {p : Nat} {w : World} {e : Ending} {w' : World} (h : TokRet T s w e w') (ht : (toks s).1 = some p) : TokBad p w e w' := by
  obtain ⟨⟨v, h0, he, ho⟩ | ⟨q, hq, he⟩, hb⟩ := h
  · rw [ht] at h0; cases h0
  · rw [ht] at hq; cases hq; exact ⟨he, hb⟩
theorem tok_good (s : ByteArray) (l : List Tok) (w : World) (hT : Tab w) (hs : s.size ≤ 65536) (h : toks s.data.toList = (none, l)) :
    Calls Tryd.prog 11 #[.string s] w (TokGood l 32 w) := (tokens_any s w hT hs).mono fun _ _ hr => hr.good h
theorem tok_bad (s : ByteArray) (p : Nat) (w : World) (hT : Tab w) (hs : s.size ≤ 65536) (h : (toks s.data.toList).1 = some p) :
    Calls Tryd.prog 11 #[.string s] w (TokBad p w) := (tokens_any s w hT hs).mono fun _ _ hr => hr.bad h
theorem rtok_good (s : ByteArray) (l : List Tok) (w : World) (hs : s.size ≤ 65536) (h : toks s.data.toList = (none, l)) :
    Calls Tryd.prog 10 #[.string s] w (TokGood l 44 w) := (rtokens_any s w hs).mono fun _ _ hr => hr.good h
theorem rtok_bad (s : ByteArray) (p : Nat) (w : World) (hs : s.size ≤ 65536) (h : (toks s.data.toList).1 = some p) :
    Calls Tryd.prog 10 #[.string s] w (TokBad p w) := (rtokens_any s w hs).mono fun _ _ hr => hr.bad h
theorem lis_at (s : ByteArray) (k : Nat) (w : World) (hT : Tab w) (hs : s.size ≤ 1000) (h : isT s.data.toList = k) :
    Calls Tryd.prog 13 #[.string s] w fun e w' => e = .returned (.int .u8 (k : Nat)) ∧ Below w.heap.size w w' :=
  (lis_any s w hT (by omega)).mono fun _ _ ⟨he, hb⟩ => ⟨by rw [he, h], hb⟩
theorem eq_tok (w : World) : (binOp .eql 32 (.agg #[.int .u8 4, .string ⟨#[58, 61]⟩, .int .i64 1]) (.agg #[.int .u8 4, .string ⟨#[58, 61]⟩, .int .i64 1])).run Tryd.prog w = .ok (.bool true) w := by kernel_rfl

def tA : List Tok := [(2, [120], 0), (4, [58, 61], 1), (2, [120], 3), (4, [43], 4), (1, [49], 5)]
def tB : List Tok := [(2, [97], 0), (4, [60, 61], 1), (4, [62], 3), (2, [98], 4)]
def tD : List Tok := [(1, [49], 0), (2, [97], 1)]

set_option maxHeartbeats 1000000 in
theorem works_any (w : World) (hT : Tab w) : Calls Tryd.prog 9 #[] w fun e w' => e = .returned (.bool true) ∧ Below w.heap.size w w' := by
  have G0 := Below.refl w.heap.size w
  have t0 := hT
  have hq := eq_tok
  go_enter Tryd.func9, Tryd.ntmps9
  go_wp2_with fail
  refine (tok_good _ tA _ hT (by decide) (by decide +kernel)).mono ?_
  rintro e w1 ⟨va, rfl, _, ha, g1⟩
  have G1 := G0.trans (g1.mono G0.size)
  have t1 := hT.next G1
  clear g1 G0 t0
  rcases ha with ⟨_, h⟩ | ⟨ba, oa, ca, rfl, hA, ha⟩
  · cases h
  have HA := Lib.hid ha
  clear ha
  simp only [tA, List.map_cons, List.map_nil, List.length_cons, List.length_nil]
  go_wp2_with fail
  refine (tok_good _ tB _ t1 (by decide) (by decide +kernel)).mono ?_
  rintro e w2 ⟨vb, rfl, _, hb, g2⟩
  replace HA := Lib.hid (HA.out.below g2 hA)
  replace hA := Nat.lt_of_lt_of_le hA g2.size
  have G2 := G1.trans (g2.mono G1.size)
  have t2 := hT.next G2
  clear g2 G1 t1
  rcases hb with ⟨_, h⟩ | ⟨bb, ob, cb, rfl, hB, hb⟩
  · cases h
  have HB := Lib.hid hb
  clear hb
  simp only [tB, List.map_cons, List.map_nil, List.length_cons, List.length_nil]
  go_wp2_with fail
  refine (tok_bad _ 2 _ t2 (by decide) (by decide +kernel)).mono ?_
  rintro e w3 ⟨rfl, g3⟩
  replace HA := Lib.hid (HA.out.below g3 hA)
  replace hA := Nat.lt_of_lt_of_le hA g3.size
  replace HB := Lib.hid (HB.out.below g3 hB)
  replace hB := Nat.lt_of_lt_of_le hB g3.size
  have G3 := G2.trans (g3.mono G2.size)
  have t3 := hT.next G3
  clear g3 G2 t2
  go_wp2_with fail
  refine (tok_good _ tD _ t3 (by decide) (by decide +kernel)).mono ?_
  rintro e w4 ⟨vd, rfl, _, hd, g4⟩
  replace HA := Lib.hid (HA.out.below g4 hA)
  replace hA := Nat.lt_of_lt_of_le hA g4.size
  replace HB := Lib.hid (HB.out.below g4 hB)
  replace hB := Nat.lt_of_lt_of_le hB g4.size
  have G4 := G3.trans (g4.mono G3.size)
  have t4 := hT.next G4
  clear g4 G3 t3
  rcases hd with ⟨_, h⟩ | ⟨bd, od, cd, rfl, hD, hd⟩
  · cases h
  have HD := Lib.hid hd
  clear hd
  simp only [tD, List.map_cons, List.map_nil, List.length_cons, List.length_nil]
  obtain ⟨a0, a1, a2⟩ := HA.out 1 (by decide)
  obtain ⟨_, b1, _⟩ := HB.out 1 (by decide)
  obtain ⟨d0, _, _⟩ := HD.out 1 (by decide)
  simp only [tA, tB, tD, List.map_cons, List.map_nil, List.getElem_cons_succ, List.getElem_cons_zero, ofTok] at a0 a1 a2 b1 d0
  go_wp2_with fail
  refine (lis_at _ 3 _ t4 (by decide) (by decide +kernel)).mono ?_
  rintro e w5 ⟨rfl, g5⟩
  have G5 := G4.trans (g5.mono G4.size)
  have t5 := hT.next G5
  clear g5 G4 t4
  go_wp2_with fail
  refine (lis_at _ 2 _ t5 (by decide) (by decide +kernel)).mono ?_
  rintro e w6 ⟨rfl, g6⟩
  have G6 := G5.trans (g6.mono G5.size)
  have t6 := hT.next G6
  clear g6 G5 t5
  go_wp2_with fail
  refine (lis_at _ 0 _ t6 (by decide) (by decide +kernel)).mono ?_
  rintro e w7 ⟨rfl, g7⟩
  have G7 := G6.trans (g7.mono G6.size)
  have t7 := hT.next G7
  clear g7 G6 t6
  go_wp2_with fail
  go_ret
  exact ⟨rfl, G7⟩
end Go.Proofs
