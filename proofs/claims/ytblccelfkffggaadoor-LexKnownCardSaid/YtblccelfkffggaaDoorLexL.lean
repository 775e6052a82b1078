/- Walks of ref, and of the law LexIs. -/
import Derived.Test.YtblccelfkffggaaDoorLexK
namespace Go.Proofs
open Go.RowKit Go.Lx

set_option maxHeartbeats 1000000 in
/-- 'ref'. -/
theorem ref_any (v : Value) (l : List ITok) (w : World) (hl : l.length ≤ 1000) (hv : SlTok w v l) :
    Calls Tryd.prog 16 #[v] w fun e w' => ∃ u, e = .returned u ∧ SlTok w' u l ∧ Below w.heap.size w w' := by
  obtain ⟨i0, hi, hz0, hz1, hz2⟩ := info_parts info_rtok
  by_cases h0 : l = []
  · subst h0
    rcases hv with ⟨rfl, _⟩ | ⟨b, off, cap, rfl, _, _⟩
    all_goals
      try simp only [List.length_nil]
      go_enter Tryd.func16, Tryd.ntmps16
      go_wp2_with fail
      refine wp_loop_rounds 1 ?_
      rw [rounds_succ]
      go_wp2_with fail
      go_ret
      exact ⟨_, rfl, .inl ⟨rfl, rfl⟩, Below.refl _ _⟩
  · rcases hv with ⟨_, h⟩ | ⟨b, off, cap, rfl, hb, hv⟩
    · exact absurd h h0
    have HV := Lib.hid hv
    clear hv h0
    go_enter Tryd.func16, Tryd.ntmps16
    go_wp2_with fail
    go_loopw [3, 4] (fun x i wr => ∃ k : Nat, k ≤ l.length ∧ i = .int .i64 k ∧ wr.ownsRow w.heap.size 44 3 x k (flatI (l.take k)) ∧ Below w.heap.size w wr) (fun _ i _ => l.length - (intOf i).toNat)
    case atStart => exact ⟨0, by omega, rfl, World.ownsRow_nil _ _ _ _, Below.refl _ _⟩
    case round =>
      obtain ⟨k, hk, rfl, hown, hg⟩ := hrel
      have hsr := hg.size
      by_cases hlt : k < l.length
      · obtain ⟨c0, c1, c2⟩ := HV.out.below hg hb k hlt
        have htk : Hid (flatI (l.take (k + 1)) = flatI (l.take k) ++ itC l[k]) := by
          unfold Hid; rw [List.take_succ_eq_append_getElem hlt, flatI_snoc]
        generalize l[k] = t at *
        obtain ⟨kd, tx, pl⟩ := t
        simp only [itC] at c0 c1 c2 htk
        have hi0 : (0 : Int) ≤ (k : Int) := by omega
        have hi1 : (k : Int) < (l.length : Int) := by omega
        have hbr : b < wr.heap.size := by omega
        go_wp2_with fail
        go_region_held3 (fun w' => w'.cell? ⟨b, off + k * 3, none⟩ = some (.int .u8 (kd : Int)) ∧ w'.cell? ⟨b, off + k * 3 + 1, none⟩ = some (.string tx) ∧ w'.cell? ⟨b, off + k * 3 + 2, none⟩ = some (.int .i64 pl))
          (first
            | go_keep
            | (go_split_ands
               refine ⟨?_, ?_, ?_⟩
               · (rw [hgrow4.cell_far _ (by simp; omega) (fun e => by have := (hown.lt _ e.symm).1; simp at this; omega)]; assumption)
               · (rw [hgrow4.cell_far _ (by simp; omega) (fun e => by have := (hown.lt _ e.symm).1; simp at this; omega)]; assumption)
               · (rw [hgrow4.cell_far _ (by simp; omega) (fun e => by have := (hown.lt _ e.symm).1; simp at this; omega)]; assumption)))
          ((refine step_append_lies _ (by rfl) _ _ _ (by rfl) w.heap.size 44 i0 _ 3 32 Tryd.underlying23 hi hz0 hz1 hz2 rfl (by omega) _ k (flatI (l.take k)) (by rfl) ((hown.alloc _).drew) ⟨wr.heap.size, 0, none⟩ 1 1 [.int .u8 (kd : Int), .string tx, .int .i64 pl] (by rfl) (by rfl) (World.news_of_block (cs := #[.int .u8 (kd : Int), .string tx, .int .i64 pl]) (t := 44) (fr := (0, 0)) (heap_alloc_new wr _)) (by simp [Value.oneCell']) (by omega) (by unfold maxLen; omega) (by omega) (by simp; omega) (wr.heap.size + 1) (by simp) ?_; intro gg cap2 w4 hown4 hgrow4 hat4 hlt4))
        have hg4 : Below w.heap.size w w4 := Below.grown ((hg.alloc hsr _).drew) hgrow4 (by simp; omega) (fun j hj => (hown.lt _ hj).1)
        rw [← htk.out] at hown4
        have HO4 := Lib.hid hown4
        clear hown4 hgrow4 hat4 hlt4 hown c0 c1 c2
        go_wp2_with fail
        go_roundw
        case rel => exact ⟨k + 1, by omega, by go_num, HO4.out, hg4⟩
        case measure => simp [intOf] <;> omega
      · obtain rfl : k = l.length := by omega
        rw [List.take_of_length_le (Nat.le_refl _)] at hown
        have HS := Lib.hid (SlTok.of_own hown rfl)
        clear hown
        go_wp2_with fail
        go_ret
        exact ⟨_, rfl, HS.out, hg⟩

theorem show_nil (w : World) : Calls Tryd.prog 14 #[.slice none 0 0] w (ShowRet [] w) := by
  have HJ := Lib.hid (Tryd.strings_Join_none none 0 ⟨#[32]⟩)
  go_enter Tryd.func14, Tryd.ntmps14
  go_wp2_with fail
  refine wp_loop_rounds 1 ?_
  rw [rounds_succ]
  go_wp2_with fail
  refine (HJ.out w).mono ?_
  rintro e w1 ⟨rfl, rfl⟩
  go_wp2_with fail
  go_ret2
  exact ⟨.inl ⟨rfl, rfl⟩, Below.refl _ _⟩
theorem show_sl (v : Value) (l : List ITok) (w : World) (hT : Tab w) (hl : l.length ≤ 1000) (hv : SlTok w v l) (hs : ∀ t ∈ l, t.2.1.size ≤ 1000) (hk : ∀ t ∈ l, t.1 < 256) :
    Calls Tryd.prog 14 #[v] w (ShowRet l w) := by
  rcases hv with ⟨rfl, rfl⟩ | ⟨b, off, cap, rfl, hb, hv⟩
  · exact show_nil w
  · exact show_any l b off cap w hT hl hb hv hs hk

set_option maxRecDepth 100000 in
set_option maxHeartbeats 1000000 in
/-- The law 'LexIs'. -/
theorem lexIs_any (s : ByteArray) (v : Value) (l : List ITok) (w : World) (hT : Tab w) (hs : s.size ≤ maxLen) (hl : l.length ≤ maxLen) (hv : SlTok w v l) (hts : ∀ t ∈ l, t.2.1.size ≤ maxLen) (hk : ∀ t ∈ l, t.1 < 256) :
    Calls Tryd.prog 6 #[.string s, v] w fun e w' => e = .returned (.bool true) ∧ Below w.heap.size w w' := by
  unfold maxLen at hs hl
  obtain ⟨a, c, hvs⟩ : ∃ a c, v = .slice a l.length c := by
    rcases hv with ⟨rfl, rfl⟩ | ⟨b, o, c, rfl, _⟩
    · exact ⟨none, 0, rfl⟩
    · exact ⟨_, _, rfl⟩
  subst hvs
  by_cases h : 100 < s.size
  · go_enter Tryd.func6, Tryd.ntmps6
    go_wp2_with fail
    refine (works_any _ hT).mono ?_
    rintro e w1 ⟨rfl, g1⟩
    go_wp2_with fail
    go_ret
    exact ⟨rfl, g1⟩
  by_cases h' : 40 < l.length
  · go_enter Tryd.func6, Tryd.ntmps6
    go_wp2_with fail
    refine (works_any _ hT).mono ?_
    rintro e w1 ⟨rfl, g1⟩
    go_wp2_with fail
    go_ret
    exact ⟨rfl, g1⟩
  have hs1 : s.size ≤ 100 := by omega
  have hl1 : l.length ≤ 40 := by omega
  have HV := Lib.hid hv
  have HTS := Lib.hid hts
  have HK := Lib.hid hk
  clear h h' hv hts hk
  obtain ⟨n, hn⟩ : ∃ n, n = l.length := ⟨_, rfl⟩
  rw [← hn] at hl1 HV hl ⊢
  have HN := Lib.hid hn
  clear hn
  go_enter Tryd.func6, Tryd.ntmps6
  go_wp2_with fail
  go_loop [5] (fun i => ∃ k : Nat, k ≤ n ∧ i = .int .i64 k ∧ Hid (∀ j (h : j < l.length), j < k → l[j].2.1.size ≤ 100)) (fun i => n - (intOf i).toNat)
  case atStart => exact ⟨0, by omega, rfl, fun j _ h => by omega⟩
  case round =>
    obtain ⟨k, hkn, rfl, hP⟩ := hrel
    by_cases hlt : k < n
    · have hkl : k < l.length := by rw [← HN.out]; exact hlt
      obtain ⟨b, o, rfl, hb, c0, c1, c2⟩ := HV.out.get hkl
      have hsz := HTS.out _ (List.getElem_mem hkl)
      unfold maxLen at hsz
      have hstep : l[k].2.1.size ≤ 100 → Hid (∀ j (h : j < l.length), j < k + 1 → l[j].2.1.size ≤ 100) := fun h j hj hjk => by
        rcases Nat.lt_or_ge j k with h2 | h2
        · exact hP.out j hj h2
        · obtain rfl : j = k := by omega
          exact h
      have HST := Lib.hid hstep
      clear hstep c0 c2
      generalize l[k] = t at *
      obtain ⟨kd, tx, pl⟩ := t
      simp only at c1 hsz HST
      have hi0 : (0 : Int) ≤ (k : Int) := by omega
      have hi1 : (k : Int) < (n : Int) := by omega
      by_cases hx : 100 < tx.size
      · go_wp2_with fail
        refine (works_any _ hT).mono ?_
        rintro e w1 ⟨rfl, g1⟩
        go_wp2_with fail
        go_ret
        exact ⟨rfl, g1⟩
      · have hst := Lib.hid (HST.out (by omega))
        go_wp2_with fail
        go_round
        case rel => exact ⟨k + 1, by omega, by go_num, hst.out.out⟩
        case measure => simp [intOf] <;> omega
    · have hall : Hid (∀ t ∈ l, t.2.1.size ≤ 1000) := fun t ht => by
        obtain ⟨j, hj, rfl⟩ := List.getElem_of_mem ht
        have := hP.out j hj (by have := HN.out; omega)
        omega
      have hl100 : l.length ≤ 1000 := by rw [← HN.out]; omega
      have HL := Lib.hid hl100
      clear hl100
      go_wp2_with fail
      refine (show_sl _ l _ hT HL.out HV.out hall.out HK.out).mono ?_
      rintro e w1 ⟨hr1, g1⟩
      have HR1 := Lib.hid hr1
      have hV1 := Lib.hid (HV.out.below g1)
      clear hr1
      have key : ∃ (x : ByteArray) (f : Nat), e = .returned (.tuple #[.string x, .int .i64 f]) ∧ ∀ e2, ((showE l = true ∧ e2 = Ending.returned (.tuple #[.string ⟨(Lib.join (l.map fun t => t.2.1.data.toList) [32]).toArray⟩, .int .i64 0])) ∨ (showE l = false ∧ e2 = .returned (.tuple #[.string ⟨#[]⟩, .int .i64 2]))) → e2 = .returned (.tuple #[.string x, .int .i64 f]) := by
        rcases HR1.out with ⟨h1, h2⟩ | ⟨h1, h2⟩
        · refine ⟨_, 0, h2, fun e2 h => ?_⟩
          rcases h with ⟨_, h⟩ | ⟨h, _⟩
          · exact h
          · rw [h1] at h; cases h
        · refine ⟨_, 2, h2, fun e2 h => ?_⟩
          rcases h with ⟨h, _⟩ | ⟨_, h⟩
          · rw [h1] at h; cases h
          · exact h
      obtain ⟨x, f, rfl, hkey⟩ := key
      have HKEY := Lib.hid hkey
      clear hkey HR1
      go_wp2_with fail
      refine (ref_any _ l _ HL.out hV1.out).mono ?_
      rintro e w2 ⟨u, rfl, hu, g2⟩
      have HU := Lib.hid hu
      replace g2 := g1.trans (g2.mono g1.size)
      clear hu g1
      go_wp2_with fail
      refine (rshow_any _ l _ HL.out HU.out hall.out).mono ?_
      rintro e w3 ⟨hr3, g3⟩
      have he := HKEY.out _ hr3
      subst he
      replace g3 := g2.trans (g3.mono g2.size)
      clear hr3 g2 HKEY
      go_wp2_with fail
      refine (lis_any _ _ (hT.next g3) (by omega)).mono ?_
      rintro e w4 ⟨rfl, g4⟩
      replace g4 := g3.trans (g4.mono g3.size)
      clear g3
      go_wp2_with fail
      refine (ris_any _ _ (by omega)).mono ?_
      rintro e w5 ⟨rfl, g5⟩
      replace g5 := g4.trans (g5.mono g4.size)
      clear g4
      go_wp2_with fail
      refine (works_any _ (hT.next g5)).mono ?_
      rintro e w6 ⟨rfl, g6⟩
      go_wp2_with fail
      go_ret
      exact ⟨rfl, g5.trans (g6.mono g5.size)⟩
end Go.Proofs
