/- Walks of lex.Show, of the document's Show, of same and ref. -/
import Derived.Test.YtblccelfkffggaaDoorLexE
namespace Go.Proofs
open Go.RowKit Go.Lx

theorem info_str : (Tryd.prog.info? 9).map (fun i => (i.zero, i.size, i.bytes)) = some (some (.string ⟨#[]⟩), 1, 16) := by kernel_rfl
/-- A row of tokens lies at a place. -/
def ToksAt (w : World) (b off : Nat) (l : List Tok) : Prop :=
  ∀ i (h : i < l.length), w.cell? ⟨b, off + i * 3, none⟩ = some (.int .u8 l[i].1) ∧ w.cell? ⟨b, off + i * 3 + 1, none⟩ = some (.string ⟨l[i].2.1.toArray⟩) ∧ w.cell? ⟨b, off + i * 3 + 2, none⟩ = some (.int .i64 l[i].2.2)
/-- Tokens whose places are any numbers. -/
abbrev ITok := Nat × ByteArray × Int
def IToksAt (w : World) (b off : Nat) (l : List ITok) : Prop :=
  ∀ i (h : i < l.length), w.cell? ⟨b, off + i * 3, none⟩ = some (.int .u8 l[i].1) ∧ w.cell? ⟨b, off + i * 3 + 1, none⟩ = some (.string l[i].2.1) ∧ w.cell? ⟨b, off + i * 3 + 2, none⟩ = some (.int .i64 l[i].2.2)
/-- What tokens are shown as. -/
def showE (l : List ITok) : Bool := l.all fun t => !(t.1 == 0) && (isT t.2.1.data.toList == t.1)

theorem join_len (sep : List UInt8) (M : Nat) : ∀ xs : List (List UInt8), (∀ x ∈ xs, x.length ≤ M) → (Lib.join xs sep).length ≤ xs.length * (M + sep.length)
  | [], _ => by simp [Lib.join, List.intercalate]
  | [a], h => by
    have := h a (List.mem_cons_self ..)
    simp [Lib.join, List.intercalate]; omega
  | a :: b :: t, h => by
    have h1 := h a (List.mem_cons_self ..)
    have ih := join_len sep M (b :: t) (fun x hx => h x (List.mem_cons_of_mem _ hx))
    have e : (Lib.join (a :: b :: t) sep).length = a.length + sep.length + (Lib.join (b :: t) sep).length := by
      simp [Lib.join, List.intercalate]; omega
    rw [e, List.length_cons, Nat.succ_mul]; omega
theorem own_nil {w : World} {base : Nat} {e : TypeId} {size n : Nat} {xs : List Value} (h : w.ownsRow base e size (.slice none 0 0) n xs) : n = 0 := by
  rcases h.2 with ⟨_, h0⟩ | ⟨g, cap, cur, hv, _⟩
  · exact h0
  · cases hv
/-- 'strings.Join' of what Show has collected. -/
theorem join_own (l : List ITok) (hl : l.length ≤ 1000) (hs : ∀ t ∈ l, t.2.1.size ≤ 1000) {w : World} {base : Nat} {v : Value} (h : w.ownsRow base 9 1 v l.length (l.map fun t => Value.string t.2.1)) :
    Calls Tryd.prog 23 #[v, .string ⟨#[32]⟩] w fun e w' => e = .returned (.string ⟨(Lib.join (l.map fun t => t.2.1.data.toList) [32]).toArray⟩) ∧ Below w.heap.size w w' := by
  rcases h.2 with ⟨rfl, h0⟩ | ⟨g, cap, cur, rfl, hb, hg, hnc, hcm, hsz, htk⟩
  · have : l = [] := List.length_eq_zero_iff.1 h0
    subst this
    refine (Tryd.strings_Join_none none 0 ⟨#[32]⟩ w).mono fun e w' ⟨he, hw⟩ => ⟨by rw [he]; rfl, by rw [hw]; exact Below.refl _ _⟩
  · have hcells := h.cells (g := g) rfl
    have hj := join_len [32] 1000 (l.map fun t => t.2.1.data.toList) (fun x hx => by
      obtain ⟨t, ht, rfl⟩ := List.mem_map.1 hx
      rw [size_eq]; exact hs t ht)
    rw [List.length_map] at hj
    have := Tryd.strings_Join g 0 cap (l.map fun t => t.2.1) ⟨#[32]⟩ w (fun j x hx => by
      have := hcells j (.string x) (by rw [List.getElem?_map] at hx ⊢; rw [Option.map_eq_some_iff] at hx ⊢; obtain ⟨t, ht, rfl⟩ := hx; exact ⟨t, ht, rfl⟩)
      have ha : (⟨g, 0, none⟩ : Addr).add j = ⟨g, 0 + j, none⟩ := by unfold Addr.add; split <;> simp_all
      rw [← ha]; exact this) (lt_of_block hg) (by rw [List.length_map]; omega) (by rw [List.length_map]; exact hnc) (by rw [List.map_map]; exact Nat.le_trans hj (by simp only [List.length_cons, List.length_nil]; omega))
    rw [List.length_map, List.map_map] at this
    exact this
/-- What showing tells. -/
def ShowRet (l : List ITok) (w : World) (e : Ending) (w' : World) : Prop :=
  ((showE l = true ∧ e = .returned (.tuple #[.string ⟨(Lib.join (l.map fun t => t.2.1.data.toList) [32]).toArray⟩, .int .i64 0])) ∨ (showE l = false ∧ e = .returned (.tuple #[.string ⟨#[]⟩, .int .i64 2]))) ∧ Below w.heap.size w w'

set_option maxHeartbeats 1000000 in
theorem show_any (l : List ITok) (b off cap : Nat) (w : World) (hT : Tab w) (hl : l.length ≤ 1000) (hb0 : b < w.heap.size) (ht : IToksAt w b off l) (hs : ∀ t ∈ l, t.2.1.size ≤ 1000) (hk : ∀ t ∈ l, t.1 < 256) :
    Calls Tryd.prog 14 #[.slice (some ⟨b, off, none⟩) l.length cap] w (ShowRet l w) := by
  obtain ⟨i0, hi, hz0, hz1, hz2⟩ := info_parts info_str
  have HT := Lib.hid ht
  have HS := Lib.hid hs
  have HK := Lib.hid hk
  clear ht hs hk
  go_enter Tryd.func14, Tryd.ntmps14
  go_wp2_with fail
  go_loopw [4, 9, 6] (fun v i _ wr => ∃ k : Nat, k ≤ l.length ∧ i = .int .i64 k ∧ wr.ownsRow w.heap.size 9 1 v k ((l.take k).map fun t => Value.string t.2.1) ∧ Below w.heap.size w wr ∧ Hid (showE l = showE (l.drop k))) (fun _ i _ _ => l.length - (intOf i).toNat)
  case atStart => exact ⟨0, by omega, rfl, World.ownsRow_nil _ _ _ _, Below.refl _ _, rfl⟩
  case round =>
    obtain ⟨k, hk, rfl, hown, hb, hE⟩ := hrel
    by_cases hlt : k < l.length
    · obtain ⟨c0, c1, c2⟩ := HT.out k hlt
      have hd := Lib.hid (List.drop_eq_getElem_cons hlt)
      have hsz := HS.out _ (List.getElem_mem hlt)
      have hkd := HK.out _ (List.getElem_mem hlt)
      have htk : Hid ((l.take (k + 1)).map (fun t => Value.string t.2.1) = (l.take k).map (fun t => Value.string t.2.1) ++ [Value.string l[k].2.1]) := by
        unfold Hid; rw [List.take_succ_eq_append_getElem hlt, List.map_append]; rfl
      generalize hg : l[k] = t at *
      obtain ⟨kd, tx, pl⟩ := t
      simp only at c0 c1 c2 hsz hkd
      rw [← hb.cell (p := ⟨b, off + k * 3, none⟩) hb0] at c0
      rw [← hb.cell (p := ⟨b, off + k * 3 + 1, none⟩) hb0] at c1
      rw [← hb.cell (p := ⟨b, off + k * 3 + 2, none⟩) hb0] at c2
      clear hg
      go_wp2_with fail
      have hbW := hb.alloc hb.size (.cells #[.int .u8 (kd : Int), .string tx, .int .i64 pl] 32)
      have d0 : (wr.alloc (.cells #[.int .u8 (kd : Int), .string tx, .int .i64 pl] 32)).cell? ⟨wr.heap.size, 0, none⟩ = some (.int .u8 (kd : Int)) := World.cell?_alloc_new _ _ _ _
      have d1 : (wr.alloc (.cells #[.int .u8 (kd : Int), .string tx, .int .i64 pl] 32)).cell? ⟨wr.heap.size, 1, none⟩ = some (.string tx) := World.cell?_alloc_new _ _ _ _
      have hownW := hown.alloc (.cells #[.int .u8 (kd : Int), .string tx, .int .i64 pl] 32)
      have hTW := hT.next hbW
      have hsW : wr.heap.size < (wr.alloc (.cells #[.int .u8 (kd : Int), .string tx, .int .i64 pl] 32)).heap.size := by rw [World.size_alloc]; omega
      have hsr := hb.size
      generalize hW : wr.alloc (.cells #[.int .u8 (kd : Int), .string tx, .int .i64 pl] 32) = W1 at *
      generalize hB : wr.heap.size = B at *
      clear hW hB hown hb c0 c1 c2
      by_cases h0 : kd = 0
      · have hx : Hid (showE l = false) := by unfold Hid; rw [hE.out, hd.out]; unfold showE; rw [List.all_cons, h0]; rfl
        subst h0
        clear hownW
        go_quiet (fail)
        go_wp2_with fail
        go_ret2
        exact ⟨.inr ⟨hx.out, rfl⟩, below_drewN hbW _⟩
      · have hb0 : ((kd : Int) == 0) = false := by simp; omega
        have hx : Hid (showE l = ((isT tx.data.toList == kd) && showE (l.drop (k + 1)))) := by
          unfold Hid; rw [hE.out, hd.out]; unfold showE; rw [List.all_cons]
          have : (kd == 0) = false := by simpa using h0
          simp only [this]; rfl
        obtain ⟨q, hq⟩ : ∃ q, q = isT tx.data.toList := ⟨_, rfl⟩
        rw [← hq] at hx
        have HQ := Lib.hid hq
        clear hq h0
        have HO := Lib.hid hownW
        clear hownW
        go_region_held3 (fun w' => w'.cell? ⟨B, 0, none⟩ = some (.int .u8 (kd : Int)) ∧ w'.cell? ⟨B, 1, none⟩ = some (.string tx))
          (first
            | go_keep
            | exact ⟨(hbi.cell (p := ⟨B, 0, none⟩) hsW).trans d0, (hbi.cell (p := ⟨B, 1, none⟩) hsW).trans d1⟩)
          (first
            | (go_at_call 13; refine (lis_any tx _ (show Tab W1.drew from hTW) (by omega)).mono ?_; rintro e w3 ⟨rfl, hbi⟩; rw [← HQ.out]))
        have hb3 := hbW.drew.trans (hbi.mono hbW.size)
        have e0 : w3.cell? ⟨B, 0, none⟩ = some (.int .u8 (kd : Int)) := (hbi.cell (p := ⟨B, 0, none⟩) hsW).trans d0
        have e1 : w3.cell? ⟨B, 1, none⟩ = some (.string tx) := (hbi.cell (p := ⟨B, 1, none⟩) hsW).trans d1
        have hown3 := ownsRow_below (HO.out.drew) hbi
        have hs3 : w.heap.size ≤ w3.heap.size := hb3.size
        clear d0 d1 HO hbi hsW
        by_cases hqk : q = kd
        · have hx2 : Hid (showE l = showE (l.drop (k + 1))) := by unfold Hid; rw [hx.out, hqk]; simp
          have hbq : ((q : Int) != kd) = false := by rw [hqk]; simp
          clear hx hqk
          go_wp2_with (at_builtin; refine wpList_append_own _ rfl _ _ 41 rfl w.heap.size 9 i0 (.string ⟨#[]⟩) 1 16 Tryd.underlying41 hi hz0 hz1 hz2 rfl (by decide) _ _ _ rfl (hown3.alloc _) ⟨w3.heap.size, 0, none⟩ 1 1 [.string tx] rfl rfl (cell_one_new _ _ _) (fun x hx => by simp at hx; rcases hx with rfl; rfl) (by unfold maxLen; omega) (by omega) (by simp; omega) ?_; intro v' w4 hown4 hgrow4 hnil4)
          have hb4 : Below w.heap.size w w4 := Below.grown (hb3.alloc hs3 _) hgrow4 (by simp; omega) (fun j hj => (hown3.lt _ hj).1)
          rw [← htk.out] at hown4
          have HO4 := Lib.hid hown4
          clear hown4 hgrow4 hnil4 hown3 e0 e1
          go_roundw
          case rel => exact ⟨k + 1, by omega, by go_num, HO4.out, hb4, hx2.out⟩
          case measure => simp [intOf] <;> omega
        · have hx2 : Hid (showE l = false) := by
            unfold Hid; rw [hx.out]
            have : (q == kd) = false := by simpa using hqk
            rw [this]; rfl
          have hbq : ((q : Int) != kd) = true := by rw [bne_iff_ne]; omega
          clear hx hqk hown3
          go_wp2_with fail
          go_ret2
          exact ⟨.inr ⟨hx2.out, rfl⟩, hb3⟩
    · obtain rfl : k = l.length := by omega
      have hx : Hid (showE l = true) := by unfold Hid; rw [hE.out, List.drop_eq_nil_of_le (Nat.le_refl _)]; rfl
      rw [List.take_of_length_le (Nat.le_refl _)] at hown
      have hJ := join_own l hl HS.out hown
      rcases hown.2 with ⟨hv, _⟩ | ⟨g, cp, cur, hv, _⟩
      · rw [hv] at hJ
        have hl0 : l.length = 0 := (own_nil (by rw [← hv]; exact hown)).symm ▸ rfl
        have HJ := Lib.hid hJ
        have HV := Lib.hid hv
        have HL0 := Lib.hid hl0
        clear hown hJ hl0
        rw [HV.out]
        go_wp2_with fail
        refine HJ.out.mono ?_
        rintro e w4 ⟨rfl, hb4⟩
        go_wp2_with fail
        go_ret2
        exact ⟨.inl ⟨hx.out, rfl⟩, hb.trans (hb4.mono hb.size)⟩
      · rw [hv] at hJ
        have HJ := Lib.hid hJ
        have HV := Lib.hid hv
        clear hown hJ
        rw [HV.out]
        go_wp2_with fail
        refine HJ.out.mono ?_
        rintro e w4 ⟨rfl, hb4⟩
        go_wp2_with fail
        go_ret2
        exact ⟨.inl ⟨hx.out, rfl⟩, hb.trans (hb4.mono hb.size)⟩
end Go.Proofs
