/- Walks of the document's functions on tokens. -/
import Derived.Test.YtblccelfkffggaaDoorLexC
import Derived.Test.YtblccelfkffggaaDoorLexP2
import Derived.Deep.RegionHeld3
import Derived.Deep.AppendLies
import Derived.Deep.QuietTactic
import Derived.BigQuiet
namespace Go.Proofs
open Go.RowKit Go.Lx

def signV : Array Value := #[.string ⟨#[58, 61]⟩, .string ⟨#[60, 62]⟩, .string ⟨#[60, 61]⟩, .string ⟨#[62, 61]⟩, .string ⟨#[60]⟩, .string ⟨#[62]⟩, .string ⟨#[61]⟩, .string ⟨#[43]⟩, .string ⟨#[45]⟩, .string ⟨#[42]⟩, .string ⟨#[40]⟩, .string ⟨#[41]⟩, .string ⟨#[44]⟩, .string ⟨#[59]⟩]
def wordV : Array Value := #[.string ⟨#[97, 110, 100]⟩, .string ⟨#[100, 105, 118]⟩, .string ⟨#[101, 108, 115, 101]⟩, .string ⟨#[101, 109, 105, 116]⟩, .string ⟨#[101, 110, 100, 105, 102]⟩, .string ⟨#[102, 97, 108, 115, 101]⟩, .string ⟨#[105, 102]⟩, .string ⟨#[105, 109, 112, 108, 105, 101, 115]⟩, .string ⟨#[109, 111, 100]⟩, .string ⟨#[110, 111, 116]⟩, .string ⟨#[111, 114]⟩, .string ⟨#[116, 104, 101, 110]⟩, .string ⟨#[116, 114, 117, 101]⟩, .string ⟨#[120, 111, 114]⟩]
theorem signV_eq : signV = (signL.map fun l => Value.string ⟨l.toArray⟩).toArray := rfl
theorem wordV_eq : wordV = (wordL.map fun l => Value.string ⟨l.toArray⟩).toArray := rfl
theorem beq_comm' (a b : List UInt8) : (a == b) = (b == a) := by
  rw [Bool.eq_iff_iff, beq_iff_eq, beq_iff_eq]; exact ⟨Eq.symm, Eq.symm⟩

/-- Is a text one of a row? -/
def amg (L : List (List UInt8)) (l : List UInt8) : Bool := L.contains l
theorem whole_eq (l : List UInt8) : whole l = if amg signL l then 4 else if amg wordL l then 3 else if l = [] then 0 else if l.all isDig then 1
    else if (match l with | [] => false | c :: _ => isLet c) && l.all isLD then 2 else 0 := rfl
/-- 'among', over a row of texts. -/
theorem among_any (s : ByteArray) (L : List (List UInt8)) (b n : Nat) (w : World) (hn : L.length = n) (hlen : n ≤ 100) (hc : ∀ j (h : j < L.length), w.cell? ⟨b, j, none⟩ = some (.string ⟨L[j].toArray⟩)) :
    Calls Tryd.prog 25 #[.string s, .slice (some ⟨b, 0, none⟩) n n] w fun e w' => e = .returned (.bool (amg L s.data.toList)) ∧ w = w' := by
  subst hn
  have HC := Lib.hid hc
  clear hc
  go_enter Tryd.func25, Tryd.ntmps25
  go_wp2_with fail
  go_loop [5] (fun i => ∃ k : Nat, k ≤ L.length ∧ i = .int .i64 k ∧ amg L s.data.toList = amg (L.drop k) s.data.toList) (fun i => L.length - (intOf i).toNat)
  case atStart => exact ⟨0, by omega, rfl, rfl⟩
  case round =>
    obtain ⟨k, hk, rfl, hr0⟩ := hrel
    have hr := Lib.hid hr0
    clear hr0
    by_cases hlt : k < L.length
    · have hcell := HC.out k hlt
      have hd := Lib.hid (List.drop_eq_getElem_cons hlt)
      have hcc := Lib.hid (show amg (L[k] :: L.drop (k + 1)) s.data.toList = (s.data.toList == L[k] || amg (L.drop (k + 1)) s.data.toList) from List.contains_cons)
      have hq : Hid (((ByteArray.mk L[k].toArray).toList == s.toList) = (s.data.toList == L[k])) := by
        unfold Hid; rw [toList_eq', toList_eq', beq_comm']
      generalize hg : ByteArray.mk L[k].toArray = t at *
      clear hg
      go_wp2_with fail
      · have h : (t.toList == s.toList) = true := by assumption
        rw [hq.out] at h
        go_ret
        exact ⟨ret_bool (by rw [hr.out, hd.out, hcc.out, h]; rfl), rfl⟩
      · have h : (t.toList == s.toList) = false := by assumption
        rw [hq.out] at h
        go_round
        case rel => exact ⟨k + 1, by omega, by go_num, by rw [hr.out, hd.out, hcc.out, h]; rfl⟩
        case measure => simp [intOf] <;> omega
    · have hx : Hid (amg (L.drop k) s.data.toList = false) := by unfold Hid; rw [List.drop_eq_nil_of_le (by omega)]; rfl
      go_wp2_with fail
      go_ret
      exact ⟨ret_bool (by rw [hr.out, hx.out]), rfl⟩
theorem getE {L : List (List UInt8)} {V : Array Value} (h : V = (L.map fun l => Value.string ⟨l.toArray⟩).toArray) (j : Nat) (hj : j < L.length) : V[j]? = some (.string ⟨L[j].toArray⟩) := by
  rw [h, List.getElem?_toArray, List.getElem?_map, List.getElem?_eq_getElem hj]; rfl
theorem among_sign (s : ByteArray) (w : World) :
    Calls Tryd.prog 25 #[.string s, .slice (some ⟨w.heap.size, 0, none⟩) 14 14] (w.alloc (.cells signV 9)) fun e w' => e = .returned (.bool (amg signL s.data.toList)) ∧ w.alloc (.cells signV 9) = w' :=
  among_any s signL _ 14 _ rfl (by omega) fun j hj => by rw [World.cell?_alloc_new]; exact getE signV_eq j hj
theorem among_word (s : ByteArray) (b : Nat) (w : World) (hb : w.heap.size = b) :
    Calls Tryd.prog 25 #[.string s, .slice (some ⟨b, 0, none⟩) 14 14] (w.alloc (.cells wordV 9)) fun e w' => e = .returned (.bool (amg wordL s.data.toList)) ∧ w.alloc (.cells wordV 9) = w' :=
  among_any s wordL _ 14 _ rfl (by omega) fun j hj => by subst hb; rw [World.cell?_alloc_new]; exact getE wordV_eq j hj

theorem whole_sign (s : ByteArray) (w : World) (h4 : amg signL s.data.toList = true) :
    Calls Tryd.prog 20 #[.string s] w fun e w' => e = .returned (.int .u8 (whole s.data.toList : Nat)) ∧ Below w.heap.size w w' := by
  have hw : Hid (whole s.data.toList = 4) := by unfold Hid; rw [whole_eq, h4]; rfl
  have h4 := Lib.hid h4
  go_enter Tryd.func20, Tryd.ntmps20
  go_wp2_with fail
  refine (among_sign _ _).mono ?_
  rintro e w' ⟨rfl, rfl⟩
  rw [h4.out]
  go_wp2_with fail
  go_ret
  exact ⟨ret_int (by rw [hw.out]; rfl), (Below.refl _ _).alloc (Nat.le_refl _) _⟩
theorem whole_word (s : ByteArray) (w : World) (h4 : amg signL s.data.toList = false) (h3 : amg wordL s.data.toList = true) :
    Calls Tryd.prog 20 #[.string s] w fun e w' => e = .returned (.int .u8 (whole s.data.toList : Nat)) ∧ Below w.heap.size w w' := by
  have h4 := Lib.hid h4
  have hw : Hid (whole s.data.toList = 3) := by unfold Hid; rw [whole_eq, h4.out, h3]; rfl
  have h3 := Lib.hid h3
  go_enter Tryd.func20, Tryd.ntmps20
  go_wp2_with fail
  refine (among_sign _ _).mono ?_
  rintro e w' ⟨rfl, rfl⟩
  rw [h4.out]
  go_wp2_with fail
  refine (among_word _ _ _ (World.size_alloc _ _)).mono ?_
  rintro e w' ⟨rfl, rfl⟩
  rw [h3.out]
  go_wp2_with fail
  go_ret
  exact ⟨ret_int (by rw [hw.out]; rfl), ((Below.refl _ _).alloc (Nat.le_refl _) _).alloc (by simp) _⟩
theorem whole_nil (s : ByteArray) (w : World) (h4 : amg signL s.data.toList = false) (h3 : amg wordL s.data.toList = false) (h0 : s.size = 0) :
    Calls Tryd.prog 20 #[.string s] w fun e w' => e = .returned (.int .u8 (whole s.data.toList : Nat)) ∧ Below w.heap.size w w' := by
  have h4 := Lib.hid h4
  have h3 := Lib.hid h3
  have hl : s.data.toList = [] := List.length_eq_zero_iff.1 (by rw [size_eq]; exact h0)
  have hw : Hid (whole s.data.toList = 0) := by unfold Hid; rw [hl]; decide
  have hb0 : s.toList = [] := by rw [toList_eq', hl]
  clear hl h0
  go_enter Tryd.func20, Tryd.ntmps20
  go_wp2_with fail
  refine (among_sign _ _).mono ?_
  rintro e w' ⟨rfl, rfl⟩
  rw [h4.out]
  go_wp2_with fail
  refine (among_word _ _ _ (World.size_alloc _ _)).mono ?_
  rintro e w' ⟨rfl, rfl⟩
  rw [h3.out]
  go_wp2_with fail
  go_ret
  exact ⟨ret_int (by rw [hw.out]; rfl), ((Below.refl _ _).alloc (Nat.le_refl _) _).alloc (by simp) _⟩
set_option maxHeartbeats 1000000 in
theorem whole_rest (s : ByteArray) (w : World) (hs : s.size ≤ maxLen) (h4 : amg signL s.data.toList = false) (h3 : amg wordL s.data.toList = false) (h0 : ¬ s.size = 0) :
    Calls Tryd.prog 20 #[.string s] w fun e w' => e = .returned (.int .u8 (whole s.data.toList : Nat)) ∧ Below w.heap.size w w' := by
  unfold maxLen at hs
  have h4 := Lib.hid h4
  have h3 := Lib.hid h3
  have h1 : 0 < s.size := by omega
  have hb0 := isEmpty_of h1
  have hd := get_drop h1
  rw [List.drop_zero] at hd
  have hw : Hid (whole s.data.toList = if s.data.toList.all isDig then 1 else if isLet s[0] && s.data.toList.all isLD then 2 else 0) := by
    unfold Hid; rw [whole_eq, h4.out, h3.out, if_neg (ne_of_size h1)]
    rw [hd]; rfl
  have hD := Lib.hid hd
  clear hd h0
  go_enter Tryd.func20, Tryd.ntmps20
  go_wp2_with fail
  refine (among_sign _ _).mono ?_
  rintro e w' ⟨rfl, rfl⟩
  rw [h4.out]
  go_wp2_with fail
  refine (among_word _ _ _ (World.size_alloc _ _)).mono ?_
  rintro e w' ⟨rfl, rfl⟩
  rw [h3.out]
  go_wp2_with fail
  refine (rletter_any _ _).mono ?_
  rintro e w' ⟨rfl, rfl⟩
  go_wp2_with fail
  go_loop [3, 4, 5] (fun a c i => ∃ (k : Nat) (x y : Bool), k ≤ s.size ∧ a = .bool x ∧ c = .bool y ∧ i = .int .i64 k ∧ Hid ((s.data.toList.all isDig = (x && (s.data.toList.drop k).all isDig)) ∧ ((isLet s[0] && s.data.toList.all isLD) = (y && (s.data.toList.drop k).all isLD)))) (fun _ _ i => s.size - (intOf i).toNat)
  case atStart => exact ⟨0, true, _, by omega, rfl, rfl, rfl, by unfold Hid; rw [List.drop_zero]; exact ⟨rfl, rfl⟩⟩
  case round =>
    obtain ⟨k, x, y, hk, rfl, rfl, rfl, hR⟩ := hrel
    by_cases hlt : k < s.size
    · have hdk := Lib.hid (get_drop hlt)
      have hR2 : ∀ p q r : Bool, p = isDig s[k] → q = isLet s[k] → Hid ((s.data.toList.all isDig = ((x && p) && (s.data.toList.drop (k + 1)).all isDig)) ∧ ((isLet s[0] && s.data.toList.all isLD) = ((y && (q || p)) && (s.data.toList.drop (k + 1)).all isLD))) := by
        rintro p q r rfl rfl
        obtain ⟨a1, a2⟩ := hR.out
        unfold Hid
        rw [a1, a2, hdk.out, List.all_cons, List.all_cons]
        refine ⟨by rw [Bool.and_assoc], ?_⟩
        unfold isLD; rw [Bool.and_assoc]
      have HR2 := Lib.hid hR2
      clear hR2 hR
      generalize hp : isDig s[k] = p
      generalize hq : isLet s[k] = q
      have HP := Lib.hid hp
      have HQ := Lib.hid hq
      clear hp hq
      have hfin := HR2.out p q true HP.out.symm HQ.out.symm
      clear HR2
      have hcd : ∀ wx : World, Calls Tryd.prog 27 #[.int .u8 (s[k].toNat : Int)] wx fun e w' => e = .returned (.bool p) ∧ wx = w' := fun wx => by rw [← HP.out]; exact rdigit_any _ _
      have hcl : ∀ wx : World, Calls Tryd.prog 26 #[.int .u8 (s[k].toNat : Int)] wx fun e w' => e = .returned (.bool q) ∧ wx = w' := fun wx => by rw [← HQ.out]; exact rletter_any _ _
      have HCD := Lib.hid hcd
      have HCL := Lib.hid hcl
      clear hcd hcl
      cases x <;> cases y <;> cases q
      all_goals
        go_wp2_with (first | (go_at_call 27; refine (HCD.out _).mono ?_; rintro e w' ⟨rfl, rfl⟩) | (go_at_call 26; refine (HCL.out _).mono ?_; rintro e w' ⟨rfl, rfl⟩))
        go_round
        case rel => exact ⟨k + 1, _, _, by omega, rfl, rfl, by go_num, hfin⟩
        case measure => simp [intOf] <;> omega
    · have hx : Hid (s.data.toList.drop k = []) := List.drop_eq_nil_of_le (by rw [size_eq]; omega)
      obtain ⟨a1, a2⟩ := hR.out
      rw [hx.out, List.all_nil, Bool.and_true] at a1 a2
      rw [a1, a2] at hw
      clear a1 a2 hR
      cases x
      · cases y
        · go_wp2_with fail
          go_ret
          exact ⟨ret_int (by rw [hw.out]; rfl), ((Below.refl _ _).alloc (Nat.le_refl _) _).alloc (by simp) _⟩
        · go_wp2_with fail
          go_ret
          exact ⟨ret_int (by rw [hw.out]; rfl), ((Below.refl _ _).alloc (Nat.le_refl _) _).alloc (by simp) _⟩
      · go_wp2_with fail
        go_ret
        exact ⟨ret_int (by rw [hw.out]; rfl), ((Below.refl _ _).alloc (Nat.le_refl _) _).alloc (by simp) _⟩
/-- 'Whole'. -/
theorem whole_any (s : ByteArray) (w : World) (hs : s.size ≤ maxLen) :
    Calls Tryd.prog 20 #[.string s] w fun e w' => e = .returned (.int .u8 (whole s.data.toList : Nat)) ∧ Below w.heap.size w w' := by
  cases h4 : amg signL s.data.toList with
  | true => exact whole_sign s w h4
  | false =>
    cases h3 : amg wordL s.data.toList with
    | true => exact whole_word s w h4 h3
    | false =>
      by_cases h0 : s.size = 0
      · exact whole_nil s w h4 h3 h0
      · exact whole_rest s w hs h4 h3 h0

/-- 'remark'. -/
theorem remark_any (s : ByteArray) (k : Nat) (w : World) (hs : s.size ≤ maxLen) (hk : k < s.size) :
    Calls Tryd.prog 24 #[.string s, .int .i64 k] w fun e w' => e = .returned (.bool (rem (s.data.toList.drop k))) ∧ w = w' := by
  unfold maxLen at hs
  by_cases h1 : k + 1 < s.size
  · have hd1 := get_drop hk
    rw [get_drop h1] at hd1
    have hr : rem (s.data.toList.drop k) = (s[k] == 45 && s[k + 1] == 45) := by rw [hd1, rem_two]
    have e1 : (s[k] == 45) = ((s[k].toNat : Int) == 45) := by
      rw [Bool.eq_iff_iff, beq_iff_eq, beq_iff_eq, ← u45]; omega
    have e2 : (s[k + 1] == 45) = ((s[k + 1].toNat : Int) == 45) := by
      rw [Bool.eq_iff_iff, beq_iff_eq, beq_iff_eq, ← u45]; omega
    rw [e1, e2] at hr
    have HR := Lib.hid hr
    clear hr hd1 e1 e2
    cases h45 : ((s[k].toNat : Int) == 45) with
    | true =>
      rw [h45] at HR
      have H := Lib.hid h45
      go_enter Tryd.func24, Tryd.ntmps24
      go_wp2_with fail
      go_ret
      exact ⟨ret_bool (by rw [HR.out]; rfl), rfl⟩
    | false =>
      rw [h45] at HR
      go_enter Tryd.func24, Tryd.ntmps24
      go_wp2_with fail
      go_ret
      exact ⟨ret_bool (by rw [HR.out]; rfl), rfl⟩
  · have hr : Hid (rem (s.data.toList.drop k) = false) := by
      unfold Hid; rw [get_drop hk, List.drop_eq_nil_of_le (by rw [size_eq]; omega), rem_one]
    go_enter Tryd.func24, Tryd.ntmps24
    go_wp2_with fail
    go_ret
    exact ⟨ret_bool (by rw [hr.out]), rfl⟩

set_option maxHeartbeats 1000000 in
/-- 'blank'. -/
theorem blank_any (s : ByteArray) (a : Nat) (w : World) (hs : s.size ≤ maxLen) (ha : a ≤ s.size) :
    Calls Tryd.prog 18 #[.string s, .int .i64 a] w fun e w' => e = .returned (.int .i64 (a + blk false (s.data.toList.drop a) : Nat)) ∧ w = w' := by
  have hM := Lib.hid hs
  unfold maxLen at hs
  obtain ⟨r, hr⟩ : ∃ r, r = a + blk false (s.data.toList.drop a) := ⟨_, rfl⟩
  have HRR := Lib.hid hr
  rw [← hr]
  clear hr
  go_enter Tryd.func18, Tryd.ntmps18
  go_wp2_with fail
  go_loop [1] (fun i => ∃ k : Nat, k ≤ s.size ∧ i = .int .i64 k ∧ Hid (r = k + blk false (s.data.toList.drop k))) (fun i => s.size - (intOf i).toNat)
  case atStart => exact ⟨a, ha, rfl, HRR.out⟩
  case round =>
    obtain ⟨k, hk, rfl, hS⟩ := hrel
    by_cases hlt : k < s.size
    · have hd := Lib.hid (get_drop hlt)
      cases hb : isBl s[k] with
      | true =>
        have hx : Hid (r = k + 1 + blk false (s.data.toList.drop (k + 1))) := by
          unfold Hid; rw [hS.out, hd.out, blk_bl hb]; omega
        rw [isBl_iff] at hb
        have hb' : (s[k].toNat : Int) = 9 ∨ (s[k].toNat : Int) = 10 ∨ (s[k].toNat : Int) = 13 ∨ (s[k].toNat : Int) = 32 := by omega
        clear hb
        rcases hb' with hz | hz | hz | hz
        · have b0 : ((s[k].toNat : Int) == 9) = true := by rw [beq_iff_eq]; exact hz
          clear hz
          go_wp2_with fail
          go_round
          case rel => exact ⟨k + 1, by omega, by go_num, hx.out⟩
          case measure => simp [intOf] <;> omega
        · have b0 : ((s[k].toNat : Int) == 9) = false := by rw [beq_eq_false_iff_ne]; omega
          have b1 : ((s[k].toNat : Int) == 10) = true := by rw [beq_iff_eq]; exact hz
          clear hz
          go_wp2_with fail
          go_round
          case rel => exact ⟨k + 1, by omega, by go_num, hx.out⟩
          case measure => simp [intOf] <;> omega
        · have b0 : ((s[k].toNat : Int) == 9) = false := by rw [beq_eq_false_iff_ne]; omega
          have b1 : ((s[k].toNat : Int) == 10) = false := by rw [beq_eq_false_iff_ne]; omega
          have b2 : ((s[k].toNat : Int) == 13) = true := by rw [beq_iff_eq]; exact hz
          clear hz
          go_wp2_with fail
          go_round
          case rel => exact ⟨k + 1, by omega, by go_num, hx.out⟩
          case measure => simp [intOf] <;> omega
        · have b0 : ((s[k].toNat : Int) == 9) = false := by rw [beq_eq_false_iff_ne]; omega
          have b1 : ((s[k].toNat : Int) == 10) = false := by rw [beq_eq_false_iff_ne]; omega
          have b2 : ((s[k].toNat : Int) == 13) = false := by rw [beq_eq_false_iff_ne]; omega
          have b3 : ((s[k].toNat : Int) == 32) = true := by rw [beq_iff_eq]; exact hz
          clear hz
          go_wp2_with fail
          go_round
          case rel => exact ⟨k + 1, by omega, by go_num, hx.out⟩
          case measure => simp [intOf] <;> omega
      | false =>
        have hnb : ¬ ((s[k].toNat : Int) = 9 ∨ (s[k].toNat : Int) = 10 ∨ (s[k].toNat : Int) = 13 ∨ (s[k].toNat : Int) = 32) := by
          intro h; have : isBl s[k] = true := by rw [isBl_iff]; omega
          rw [this] at hb; cases hb
        have b1 : ((s[k].toNat : Int) == 9) = false := by rw [beq_eq_false_iff_ne]; omega
        have b2 : ((s[k].toNat : Int) == 10) = false := by rw [beq_eq_false_iff_ne]; omega
        have b3 : ((s[k].toNat : Int) == 13) = false := by rw [beq_eq_false_iff_ne]; omega
        have b4 : ((s[k].toNat : Int) == 32) = false := by rw [beq_eq_false_iff_ne]; omega
        clear hnb
        have HB := Lib.hid hb
        clear hb
        go_wp2_with fail
        refine (remark_any _ _ _ hM.out hlt).mono ?_
        rintro e w' ⟨rfl, rfl⟩
        cases hrm : rem (s.data.toList.drop k) with
        | false =>
          have hx : Hid (r = k) := by
            unfold Hid; rw [hS.out, hd.out, blk_none HB.out (by rw [← hd.out]; exact hrm)]; rfl
          clear hrm
          go_wp2_with fail
          go_ret
          exact ⟨ret_int (by rw [hx.out]), rfl⟩
        | true =>
          have hx : Hid (r = k + blk true (s.data.toList.drop k)) := by
            unfold Hid; rw [hS.out, blk_rem hrm]
          have hk0 : Hid (isTx s[k] = true) := by
            unfold Hid isTx
            have : ¬ s[k].toNat = 10 := by rw [beq_eq_false_iff_ne] at b2; omega
            simp [this]
          clear hrm b1 b2 b3 b4
          go_wp2_with fail
          go_loop [1] (fun i => ∃ j : Nat, k ≤ j ∧ j ≤ s.size ∧ i = .int .i64 j ∧ Hid (r = j + blk true (s.data.toList.drop j)) ∧ (k < j ∨ j = k)) (fun i => s.size - (intOf i).toNat)
          case atStart => exact ⟨k, by omega, hk, rfl, hx.out, .inr rfl⟩
          case round =>
            obtain ⟨j, hkj, hj, rfl, hT, hor⟩ := hrel
            by_cases hlj : j < s.size
            · have hdj := Lib.hid (get_drop hlj)
              cases ht : isTx s[j] with
              | true =>
                have hy : Hid (r = j + 1 + blk true (s.data.toList.drop (j + 1))) := by
                  unfold Hid; rw [hT.out, hdj.out, blk_tx ht]; omega
                have hne : ((s[j].toNat : Int) != 10) = true := by
                  rw [bne_iff_ne]; unfold isTx at ht; simp at ht; omega
                clear ht hor
                go_wp2_with fail
                go_round
                case rel => exact ⟨j + 1, by omega, by omega, by go_num, hy.out, .inl (by omega)⟩
                case measure => simp [intOf] <;> omega
              | false =>
                have hy : Hid (r = j + blk false (s.data.toList.drop j)) := by
                  unfold Hid; rw [hT.out, hdj.out, blk_nl ht]
                have hne : ((s[j].toNat : Int) != 10) = false := by
                  rw [bne_eq_false_iff_eq]; unfold isTx at ht; simp at ht; omega
                have hkj2 : k < j := by
                  rcases hor with h | h
                  · exact h
                  · subst h; rw [hk0.out] at ht; cases ht
                clear ht hor
                go_wp2_with fail
                go_round
                case rel => exact ⟨j, by omega, rfl, hy.out⟩
                case measure => simp [intOf] <;> omega
            · have hy : Hid (r = j + blk false (s.data.toList.drop j)) := by
                unfold Hid; rw [hT.out, List.drop_eq_nil_of_le (by rw [size_eq]; omega)]; simp [blk]
              have hkj2 : k < j := by omega
              clear hor
              go_wp2_with fail
              go_round
              case rel => exact ⟨j, by omega, rfl, hy.out⟩
              case measure => simp [intOf] <;> omega
    · have hx : Hid (r = k) := by
        unfold Hid; rw [hS.out, List.drop_eq_nil_of_le (by rw [size_eq]; omega)]; simp [blk]
      go_wp2_with fail
      go_ret
      exact ⟨ret_int (by rw [hx.out]), rfl⟩
end Go.Proofs
