/- Walks: what 'Right' leans on, the small ones. -/
import Derived.Test.YtckflfkfjpjkjaaDoorCMdPR
import Derived.Test.YtckflfkfjpjkjaaDoorCMdJ
import Derived.Test.YtckflfkfjpjkjaaDoorCMdB
namespace Go.Proofs
open Go.RowKit Go.Lx Go.Md Go.Shelf
set_option linter.unusedVariables false

theorem nat_is (n m : Nat) : ((n : Int) == (m : Int)) = (n == m) := by rw [Bool.eq_iff_iff]; simp; omega
theorem nat_is2 (n : Nat) : ((n : Int) == 2) = (n == 2) := nat_is n 2
theorem nmd_is (s : ByteArray) : nmd s = (s.toList.isEmpty || (isT s.data.toList == 2)) := by
  unfold nmd isNm
  rw [show (s.size == 0) = s.toList.isEmpty by
    rw [toList_eq', Bool.eq_iff_iff, beq_iff_eq, List.isEmpty_iff, ← List.length_eq_zero_iff]; simp]
/-- 'named'. -/
theorem named_any (s : ByteArray) (w : World) (hT : Tab w) (hs : s.size ≤ 140737488355328) :
    Calls Tryd.prog 103 #[.string s] w fun e w' => e = .returned (.bool (nmd s)) ∧ Below w.heap.size w w' := by
  have HN : Hid (nmd s = (s.toList.isEmpty || (isT s.data.toList == 2))) := nmd_is s
  have HT := Lib.hid hT
  clear hT
  cases he : s.toList.isEmpty with
  | true =>
    go_enter Tryd.func103, Tryd.ntmps103
    go_wp2_with fail
    go_ret
    exact ⟨ret_bool (by rw [HN.out, he]; rfl), Below.refl _ _⟩
  | false =>
    go_enter Tryd.func103, Tryd.ntmps103
    go_wp2_with fail
    refine (lis_any s _ HT.out hs).mono ?_
    rintro e w' ⟨rfl, hb⟩
    go_wp2_with fail
    go_ret
    exact ⟨ret_bool (by rw [HN.out, he, nat_is2]; rfl), hb⟩
/-- The place of a text in a row, or -1. -/
def idxI (l : List ByteArray) (s : ByteArray) : Int := match l.findIdx? (eqS s) with | some i => (i : Int) | none => -1
theorem index_any {Q : BP} (a : Option Addr) (c : Nat) (l : List ByteArray) (s : ByteArray) (w : World) (h : SlS Q w (.slice a l.length c) l) (hl : l.length ≤ 140737488355328) :
    Calls Tryd.prog 125 #[.slice a l.length c, .string s] w fun e w' => e = .returned (.int .i64 (idxI l s)) ∧ w = w' := by
  have H1 := Lib.hid h
  clear h
  go_enter Tryd.func125, Tryd.ntmps125
  go_wp2_with fail
  go_loop [8] (fun i => ∃ k : Nat, k ≤ l.length ∧ i = .int .i64 k ∧ Hid (∀ j (hj : j < k) (hl : j < l.length), eqS s l[j] = false)) (fun i => l.length - (intOf i).toNat)
  case atStart => exact ⟨0, by omega, rfl, fun j hj => by omega⟩
  case round =>
    obtain ⟨k, hk, rfl, HE⟩ := hrel
    by_cases hlt : k < l.length
    · have hltI : (k : Int) < (l.length : Int) := by omega
      have hi0 : (0 : Int) ≤ (k : Int) := by omega
      obtain ⟨b1, o1, ha1, hb1, hc1⟩ := H1.out.get hlt
      obtain ⟨x, hx⟩ : ∃ x, x = l[k] := ⟨_, rfl⟩
      rw [← hx] at hc1
      have HX := Lib.hid hx
      subst ha1
      clear hx
      cases hxy : eqS s x with
      | true =>
        have hxy' : (s.toList == x.toList) = true := hxy
        have HF : Hid (idxI l s = k) := by
          unfold Hid idxI
          rw [show l.findIdx? (eqS s) = some k from ?_]
          rw [List.findIdx?_eq_some_iff_getElem]
          exact ⟨hlt, by rw [← HX.out]; exact hxy, fun j hj => by rw [HE.out j hj (by omega)]; decide⟩
        clear hxy
        go_wp2_with fail
        go_ret
        exact ⟨ret_int (by rw [HF.out]), rfl⟩
      | false =>
        have hxy' : (s.toList == x.toList) = false := hxy
        have HF : Hid (∀ j (hj : j < k + 1) (hl : j < l.length), eqS s l[j] = false) := fun j hj hl => by
          by_cases e : j = k
          · subst e; rw [← HX.out]; exact hxy
          · exact HE.out j (by omega) hl
        clear hxy
        go_wp2_with fail
        go_round
        case rel => exact ⟨k + 1, by omega, by go_num, HF⟩
        case measure => simp [intOf] <;> omega
    · have HF : Hid (idxI l s = -1) := by
        unfold Hid idxI
        rw [show l.findIdx? (eqS s) = none from ?_]
        rw [List.findIdx?_eq_none_iff]
        intro x hx
        obtain ⟨j, hj, rfl⟩ := List.getElem_of_mem hx
        exact HE.out j (by omega) hj
      go_wp2_with fail
      go_ret
      exact ⟨ret_int (by rw [HF.out]), rfl⟩
theorem inL_find (l : List ByteArray) (s : ByteArray) : inL l s = (l.findIdx? (eqS s)).isSome := by
  unfold inL
  induction l with
  | nil => rfl
  | cons x t ih =>
    rw [List.any_cons, List.findIdx?_cons, ih]
    cases eqS s x <;> simp
/-- 'slices.Contains' of texts. -/
theorem slCont_any {Q : BP} (a : Option Addr) (c : Nat) (l : List ByteArray) (s : ByteArray) (w : World) (h : SlS Q w (.slice a l.length c) l) (hl : l.length ≤ 140737488355328) :
    Calls Tryd.prog 100 #[.slice a l.length c, .string s] w fun e w' => e = .returned (.bool (inL l s)) ∧ w = w' := by
  have HI := Lib.hid (index_any a c l s w h hl)
  have HX := Lib.hid (inL_find l s)
  clear h
  unfold idxI at HI
  cases hf : l.findIdx? (eqS s) with
  | none =>
    rw [hf] at HI HX
    go_enter Tryd.func100, Tryd.ntmps100
    go_wp2_with (go_at_call 125; refine HI.out.mono ?_; rintro e w' ⟨rfl, rfl⟩)
    go_ret
    exact ⟨ret_bool (by rw [HX.out]; rfl), rfl⟩
  | some k =>
    rw [hf] at HI HX
    have hk0 : (0 : Int) ≤ (k : Int) := by omega
    go_enter Tryd.func100, Tryd.ntmps100
    go_wp2_with (go_at_call 125; refine HI.out.mono ?_; rintro e w' ⟨rfl, rfl⟩)
    go_ret
    exact ⟨ret_bool (by rw [HX.out]; rfl), rfl⟩

/-- A model's value, in a box: the parts. -/
theorem evs_drop0 (ev l : List ByteArray) : evsG ev [] l = evsG ev (l.take 0) (l.drop 0) := rfl
set_option maxHeartbeats 1000000 in
/-- 'events'. -/
theorem events_any {Q : Nat → BP} {Q' : BP} (m : MdlD) (p : Ph) (a : Option Addr) (c : Nat) (l : List ByteArray) (w : World) (h : Mod Q w m p) (hm : m.evs.length ≤ 140737488355328) (h1 : SlS Q' w (.slice a l.length c) l) (hl : l.length ≤ 140737488355328) :
    Calls Tryd.prog 108 #[mdV m p, .slice a l.length c] w fun e w' => e = .returned (.bool (evsG m.evs [] l)) ∧ Below w.heap.size w w' := by
  unfold mdV
  have HB : Hid (Below w.heap.size w (w.alloc (.cells #[.string m.nm, .slice p.a1 m.vars.length p.c1, .slice p.a2 m.evs.length p.c2, .slice p.a3 m.regs.length p.c3, .slice p.a4 m.vers.length p.c4, .slice p.a5 m.trns.length p.c5] 28))) := (Below.refl _ w).alloc (Nat.le_refl _) _
  have HC := Lib.hid (fun s => slCont_any p.a2 p.c2 m.evs s _ (h.evs.kept (Kept.of_below HB.out)) hm)
  have H1 := Lib.hid (h1.kept (Kept.of_below HB.out))
  have HCap : Hid (∀ {k : Nat}, k < l.length → l.length ≤ c) := fun hk => h1.cap (by omega)
  clear h h1
  go_enter Tryd.func108, Tryd.ntmps108
  go_wp2_with fail
  go_loop [9] (fun i => ∃ k : Nat, k ≤ l.length ∧ i = .int .i64 k ∧ Hid (evsG m.evs [] l = evsG m.evs (l.take k) (l.drop k))) (fun i => l.length - (intOf i).toNat)
  case atStart => exact ⟨0, by omega, rfl, (show Hid _ from rfl)⟩
  case round =>
    obtain ⟨k, hk, rfl, HE⟩ := hrel
    by_cases hlt : k < l.length
    · have hltI : (k : Int) < (l.length : Int) := by omega
      have hi0 : (0 : Int) ≤ (k : Int) := by omega
      have hleI : (k : Int) ≤ (l.length : Int) := by omega
      obtain ⟨b1, o1, ha1, hb1, hc1⟩ := H1.out.get hlt
      have HD := Lib.hid (evsG_drop (ev := m.evs) hlt)
      obtain ⟨x, hx⟩ : ∃ x, x = l[k] := ⟨_, rfl⟩
      rw [← hx] at hc1 HD
      have HC2 := Lib.hid (slCont_any a c (l.take k) x _ (H1.out.take hk) (by rw [List.length_take_of_le hk]; omega))
      subst ha1
      clear hx
      have hcapI : (k : Int) ≤ (c : Int) := by have := HCap.out hlt; omega
      rw [List.length_take_of_le hk] at HC2
      cases hi : inL m.evs x with
      | false =>
        go_wp2_with fail
        refine (HC.out x).mono ?_
        rintro e w' ⟨rfl, rfl⟩
        rw [hi]
        go_wp2_with fail
        go_ret
        exact ⟨ret_bool (by rw [HE.out, HD.out, hi]; rfl), HB.out⟩
      | true =>
        go_wp2_with fail
        refine (HC.out x).mono ?_
        rintro e w' ⟨rfl, rfl⟩
        rw [hi]
        go_wp2_with fail
        refine HC2.out.mono ?_
        rintro e w' ⟨rfl, rfl⟩
        cases hj : inL (l.take k) x with
        | false =>
          go_wp2_with fail
          go_round
          case rel => exact ⟨k + 1, by omega, by go_num, (show Hid _ from by unfold Hid; rw [HE.out, HD.out, hi, hj]; rfl)⟩
          case measure => simp [intOf] <;> omega
        | true =>
          go_wp2_with fail
          go_ret
          exact ⟨ret_bool (by rw [HE.out, HD.out, hi, hj]; rfl), HB.out⟩
    · go_wp2_with fail
      go_ret
      exact ⟨ret_bool (by rw [HE.out, List.drop_eq_nil_of_le (by omega)]; rfl), HB.out⟩
set_option maxHeartbeats 1000000 in
/-- 'state'. -/
theorem state_any {Q : Nat → BP} (m : MdlD) (p : Ph) (v : Int) (w : World) (h : Mod Q w m p) (hm : m.vers.length ≤ 140737488355328) :
    Calls Tryd.prog 104 #[mdV m p, .int .i64 v] w fun e w' => e = .returned (.bool (stM m v)) ∧ Below w.heap.size w w' := by
  unfold mdV
  by_cases h0 : 0 ≤ v
  · by_cases h1 : v < m.vers.length
    · obtain ⟨k, rfl⟩ : ∃ k : Nat, v = k := ⟨v.toNat, by omega⟩
      have hlt : k < m.vers.length := by omega
      obtain ⟨b, o, ha, hb, dv, hs, hc⟩ := h.vers.get hlt
      have HS : Hid (stM m k = (m.vers[k].kd == 1)) := by
        unfold Hid Md.stM
        simp [hlt]
      have hk1 := hc.2.1
      generalize m.vers[k].kd = kd at hk1 HS
      clear hs hc h
      rw [ha]
      clear ha
      go_enter Tryd.func104, Tryd.ntmps104
      go_wp2_with fail
      go_ret
      exact ⟨ret_bool (by rw [HS.out]; exact nat_is kd 1), (Below.refl _ _).alloc (Nat.le_refl _) _⟩
    · have HS : Hid (stM m v = false) := by
        unfold Hid Md.stM
        rw [show m.vers[v.toNat]? = none from List.getElem?_eq_none (by omega)]
        simp
      clear h
      go_enter Tryd.func104, Tryd.ntmps104
      go_wp2_with fail
      go_ret
      exact ⟨ret_bool (by rw [HS.out]), (Below.refl _ _).alloc (Nat.le_refl _) _⟩
  · have HS : Hid (stM m v = false) := by
      unfold Hid Md.stM
      simp [h0]
    clear h
    go_enter Tryd.func104, Tryd.ntmps104
    go_wp2_with fail
    go_ret
    exact ⟨ret_bool (by rw [HS.out]), (Below.refl _ _).alloc (Nat.le_refl _) _⟩
set_option maxHeartbeats 1000000 in
/-- 'around'. -/
theorem around_any {Q : Nat → BP} (m : MdlD) (p : Ph) (k : Nat) (w : World) (h : Mod Q w m p) (hU : UpOk m) (hlt : k < m.vers.length) (hm : m.vers.length ≤ 140737488355328) (hm2 : m.regs.length ≤ 140737488355328) :
    Calls Tryd.prog 122 #[mdV m p, .int .i64 k] w fun e w' => e = .returned (.int .i64 (arM m k)) ∧ Below w.heap.size w w' := by
  unfold mdV
  have hltI : (k : Int) < (m.vers.length : Int) := by omega
  have hi0 : (0 : Int) ≤ (k : Int) := by omega
  obtain ⟨b, o, ha, hb, dv, hs, r0, r1, r2, r3, r4, r5, r6, r7⟩ := h.vers.get hlt
  obtain ⟨da, dc, rfl⟩ := hs.len
  have hu := hU.rg m.vers[k] (List.getElem_mem hlt)
  have HA : Hid (arM m k = if 0 ≤ m.vers[k].ofv then m.vers[k].ofv else match m.regs[m.vers[k].rg.toNat]? with | some r => r.own | none => -1) := by
    unfold Hid arM
    rw [show m.vers[(k : Int).toNat]? = some m.vers[k] by simp [hlt]]
    rfl
  have HR := Lib.hid (fun (j : Nat) (hj : j < m.regs.length) => h.regs.get hj)
  generalize m.vers[k] = x at r0 r1 r2 r3 r4 r5 r6 r7 hu HA hs
  generalize hdl : x.df.length = dn at r6
  clear hs
  by_cases hof : 0 ≤ x.ofv
  · have HA2 : Hid (arM m k = x.ofv) := HA.out.trans (if_pos hof)
    clear hu HA h
    rw [ha]
    clear ha
    go_enter Tryd.func122, Tryd.ntmps122
    go_wp2_with fail
    go_ret
    exact ⟨ret_int (by rw [HA2.out]), ((Below.refl _ _).alloc (Nat.le_refl _) _).alloc (by simp) _⟩
  · rcases hu with hu | ⟨_, hr0, hr1⟩
    · omega
    · obtain ⟨j, hj⟩ : ∃ j : Nat, x.rg = j := ⟨x.rg.toNat, by omega⟩
      have hjl : j < m.regs.length := by omega
      obtain ⟨b2, o2, ha2, hb2, s0, s1⟩ := HR.out j hjl
      have HA2 : Hid (arM m k = m.regs[j].own) := by
        refine HA.out.trans ((if_neg hof).trans ?_)
        rw [hj]
        simp [hjl]
      generalize m.regs[j] = y at s0 s1 HA2
      rw [hj] at r2
      have hj0 : (0 : Int) ≤ (j : Int) := by omega
      have hj1 : (j : Int) < (m.regs.length : Int) := by omega
      clear hj hr0 hr1 HA h HR
      rw [ha, ha2]
      clear ha ha2
      go_enter Tryd.func122, Tryd.ntmps122
      go_wp2_with fail
      go_quiet (fail)
      go_wp2_with fail
      go_ret
      exact ⟨ret_int (by rw [HA2.out]), below_drewN (((Below.refl _ _).alloc (Nat.le_refl _) _).alloc (by simp) _) _⟩

/-- Up once more. -/
theorem dpM_up {m : MdlD} {f : Nat} {v : Int} (h : 0 ≤ v) : dpM m (f + 1) v = dpM m f (arM m v) + 1 := by
  rw [dpM, if_neg (by omega)]
theorem dpM_end {m : MdlD} {f : Nat} {v : Int} (h : v < 0) : dpM m f v = 0 := by
  cases f with
  | zero => rfl
  | succ f => rw [dpM, if_pos h]
set_option maxRecDepth 100000 in
set_option maxHeartbeats 1000000 in
/-- 'depth'. -/
theorem depth_any {Q : Nat → BP} (m : MdlD) (p : Ph) (k : Nat) (w : World) (h : Mod Q w m p) (hU : UpOk m) (hlt : k < m.vers.length) (hm : m.vers.length ≤ 140737488355328) (hm2 : m.regs.length ≤ 140737488355328) :
    Calls Tryd.prog 92 #[mdV m p, .int .i64 k] w fun e w' => e = .returned (.int .i64 (deM m k : Nat)) ∧ Below w.heap.size w w' := by
  have HC := Lib.hid (fun wx (hb : Below w.heap.size w wx) (j : Nat) (hj : j < m.vers.length) => around_any m p j wx (h.below hb) hU hj hm hm2)
  have HL := Lib.hid (arM_lt hU)
  have HD : Hid (deM m k = dpM m 65 (arM m k)) := by unfold Hid; rfl
  have HB0 := Lib.hid (box6 w m p)
  unfold mdV at HC ⊢
  clear h hU
  go_enter Tryd.func92, Tryd.ntmps92
  go_wp2_with fail
  refine (HC.out _ ((Below.refl _ w).alloc (Nat.le_refl _) _) k hlt).mono ?_
  rintro e w1 ⟨rfl, g1⟩
  have G1 : Below w.heap.size w w1 := ((Below.refl _ w).alloc (Nat.le_refl _) _).trans (g1.mono (by simp))
  have HB1 := Lib.hid (HB0.out.below g1 (by simp))
  clear HB0
  go_wp2_with fail
  go_loopw [1, 5] (fun v i wr => ∃ (j : Nat) (u : Int), j ≤ 65 ∧ v = .int .i64 u ∧ i = .int .i64 j ∧ u < m.vers.length ∧ Hid (deM m k = j + dpM m (65 - j) u) ∧ Below w.heap.size w wr ∧ Box wr w.heap.size (.string m.nm) (.slice p.a1 m.vars.length p.c1) (.slice p.a2 m.evs.length p.c2) (.slice p.a3 m.regs.length p.c3) (.slice p.a4 m.vers.length p.c4) (.slice p.a5 m.trns.length p.c5)) (fun _ i _ => 65 - (intOf i).toNat)
  case atStart => exact ⟨0, _, by omega, rfl, rfl, HL.out _, (show Hid _ from by unfold Hid; rw [HD.out]; simp), G1, HB1.out⟩
  case round =>
    obtain ⟨wo, rfl⟩ : ∃ wo : World, wo = wr := ⟨_, rfl⟩
    obtain ⟨j, u, hj, rfl, rfl, hu, HE, hg, hbx⟩ := hrel
    have HX := Lib.hid hbx
    obtain ⟨b0, b1, b2, b3, b4, b5, f0, f1, f2, f3, f4, f5⟩ := hbx
    by_cases h0 : 0 ≤ u
    · by_cases h1 : j ≤ 64
      · obtain ⟨n, rfl⟩ : ∃ n : Nat, u = n := ⟨u.toNat, by omega⟩
        have h1I : (j : Int) ≤ 64 := by omega
        have hE2 : Hid (deM m k = (j + 1 : Nat) + dpM m (65 - (j + 1)) (arM m n)) := by
          unfold Hid
          rw [HE.out, show 65 - j = (65 - (j + 1)) + 1 by omega, dpM_up h0]
          omega
        clear HE
        go_wp2_with fail
        refine (HC.out _ hg n (by omega)).mono ?_
        rintro e w2 ⟨rfl, g2⟩
        go_wp2_with fail
        go_roundw
        case rel => exact ⟨j + 1, _, by omega, rfl, by go_num, HL.out _, hE2, hg.trans (g2.mono hg.size), HX.out.below g2 (by have := HX.out.sl; omega)⟩
        case measure => simp [intOf] <;> omega
      · obtain rfl : j = 65 := by omega
        go_wp2_with fail
        go_ret
        exact ⟨ret_int (by rw [HE.out]; simp [dpM]), hg⟩
    · have h0' : decide (0 ≤ u) = false := by simpa using h0
      go_wp2_with fail
      go_ret
      exact ⟨ret_int (by rw [HE.out, dpM_end (by omega)]; simp), hg⟩
end Go.Proofs
