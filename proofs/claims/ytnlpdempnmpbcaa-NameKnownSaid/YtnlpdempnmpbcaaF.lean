/- The walk of the closed law NameKnown. -/
import Derived.Test.YtnlpdempnmpbcaaE
namespace Go.Proofs
open Go.RowKit Go.Nm
theorem grown_cell {a b : World} (h : Grown a b) {p : Addr} (hp : p.block < a.heap.size) : b.cell? p = a.cell? p := by
  have h1 := h.1.2.2 p.block hp
  have hx : a.heap[p.block]? = some a.heap[p.block] := Array.getElem?_eq_getElem hp
  simp only [hx] at h1
  unfold World.cell?
  rw [hx]
  cases ho : a.heap[p.block] with
  | cells c t fr =>
    rw [ho] at h1
    cases hb : b.heap[p.block]? with
    | none => rw [hb] at h1; cases h1
    | some o =>
      rw [hb] at h1
      cases o with
      | cells c' t' fr' =>
        obtain ⟨_, _, _, h4⟩ := h1
        simp only [h4 p.off (fun f => f)]
      | _ => cases h1
  | _ =>
    rw [ho] at h1
    cases hb : b.heap[p.block]? with
    | none => (try rw [hb] at h1) <;> (try cases h1)
    | some o => rw [hb] at h1; cases o <;> first | rfl | cases h1
/-- The nine texts about a byte. -/
def nine (c : UInt8) : Array Value :=
  #[Value.string { data := #[c] }, Value.string ({ data := #[c] } ++ { data := #[97] }),
      Value.string ({ data := #[97] } ++ { data := #[c] }),
      Value.string ({ data := #[97] } ++ { data := #[c] } ++ { data := #[98] }),
      Value.string ({ data := #[97, 58] } ++ { data := #[c] }),
      Value.string ({ data := #[c] } ++ { data := #[58, 97] }),
      Value.string ({ data := #[97, 58, 98] } ++ { data := #[c] }),
      Value.string ({ data := #[97, 58, 98] } ++ { data := #[c] } ++ { data := #[99] }),
      Value.string ({ data := #[c] } ++ { data := #[c] })]
theorem nine_at (c : UInt8) (j : Nat) (h : j < 9) : ∃ x : ByteArray, (nine c)[j]? = some (.string x) ∧ x.size ≤ 100 := by
  have : j = 0 ∨ j = 1 ∨ j = 2 ∨ j = 3 ∨ j = 4 ∨ j = 5 ∨ j = 6 ∨ j = 7 ∨ j = 8 := by omega
  rcases this with rfl | rfl | rfl | rfl | rfl | rfl | rfl | rfl | rfl <;> exact ⟨_, rfl, by (try simp only [ByteArray.size_append]); exact Nat.le_of_ble_eq_true rfl⟩

set_option maxRecDepth 100000 in
set_option maxHeartbeats 3200000 in
theorem nameKnown_any (w : World) : Calls Try.prog 6 #[] w fun e w' => e = .returned (.bool true) ∧ Grown w w' := by
  go_enter Try.func6, Try.ntmps6
  go_wp2_with fail
  go_loopw [1] (fun i wr => ∃ k : Nat, k ≤ 256 ∧ i = .int .i64 k ∧ Grown w wr) (fun i _ => 256 - (intOf i).toNat)
  case atStart => exact ⟨0, by omega, rfl, Grown.refl w⟩
  case round =>
    obtain ⟨wq, rfl⟩ : ∃ wq : World, wq = wr := ⟨_, rfl⟩
    obtain ⟨k, hk, rfl, hg⟩ := hrel
    by_cases hlt : k < 256
    · obtain ⟨c, hc⟩ : ∃ c : UInt8, c.toNat = k := ⟨UInt8.ofNat k, by simp; omega⟩
      have hcv := fun wx : World => bytes_back wx c
      rw [hc] at hcv
      have HC := Lib.hid hc
      have hbk : decide ((k : Int) < 256) = true := by simp; omega
      clear hc
      go_wp2_with fail
      clear hcv
      change Code.wp _ _ _ _ ((wq.alloc (Obj.cells #[Value.int IntKind.u8 ↑k] 5)).alloc (Obj.cells (nine c) 9))
      obtain ⟨wo, hwo⟩ : ∃ wo, wo = (wq.alloc (Obj.cells #[Value.int IntKind.u8 ↑k] 5)).alloc (Obj.cells (nine c) 9) := ⟨_, rfl⟩
      rw [← hwo]
      have hgo : Grown w wo := by rw [hwo]; exact (hg.alloc _ _).alloc _ _
      have hcell : ∀ j, j < 9 → ∃ x : ByteArray, wo.cell? ⟨wq.heap.size + 1, j, none⟩ = some (.string x) ∧ x.size ≤ 100 := fun j hj => by
        obtain ⟨x, hx, hz⟩ := nine_at c j hj
        refine ⟨x, ?_, hz⟩
        rw [hwo, ← hx]
        have := World.cell?_alloc_new (wq.alloc (Obj.cells #[Value.int IntKind.u8 ↑k] 5)) (nine c) 9 j
        rw [World.size_alloc] at this
        exact this
      have hsz : wq.heap.size + 1 < wo.heap.size := by rw [hwo, World.size_alloc, World.size_alloc]; omega
      have HCell := Lib.hid hcell
      clear hcell hwo
      go_loopw [37] (fun i wr => ∃ j : Nat, j ≤ 9 ∧ i = .int .i64 j ∧ Grown wo wr) (fun i _ => 9 - (intOf i).toNat)
      case atStart => exact ⟨0, by omega, rfl, Grown.refl wo⟩
      case round =>
        obtain ⟨j, hj, rfl, hgl⟩ := hrel
        by_cases hlj : j < 9
        · obtain ⟨x, hx, hz⟩ := HCell.out j hlj
          have hxl : wr.cell? ⟨wq.heap.size + 1, j, none⟩ = some (.string x) := (grown_cell hgl hsz).trans hx
          have hX : Hid (x.size ≤ maxLen) := by unfold Hid maxLen; omega
          clear hx hz
          go_wp2_with fail
          refine (nameSplits_any _ _ hX.out).mono ?_
          rintro e w1 ⟨rfl, g1⟩
          go_wp2_with fail
          refine (nameBegins_any _ _ hX.out).mono ?_
          rintro e w2 ⟨rfl, g2⟩
          go_wp2_with fail
          rw [← HC.out]
          refine (nameBack_any _ _ c _ hX.out (by unfold maxLen; exact Nat.le_of_ble_eq_true rfl)).mono ?_
          rintro e w3 ⟨rfl, g3⟩
          rw [HC.out]
          go_wp2_with fail
          rw [← HC.out]
          refine (nameBack_any _ _ c _ (by unfold maxLen; exact Nat.le_of_ble_eq_true rfl) hX.out).mono ?_
          rintro e w4 ⟨rfl, g4⟩
          rw [HC.out]
          go_wp2_with fail
          go_roundw
          case rel => exact ⟨j + 1, by omega, by go_num, grown_trans hgl (grown_trans g1 (grown_trans g2 (grown_trans g3 g4)))⟩
          case measure => simp [intOf]; omega
        · go_wp2_with fail
          go_roundw
          case rel => exact ⟨k + 1, by omega, by go_num, grown_trans hgo hgl⟩
          case measure => simp [intOf]; omega
    · go_wp2_with fail
      go_loopw [6, 5] (fun i x wr => ∃ j : Nat, ∃ s : ByteArray, j ≤ 70 ∧ i = .int .i64 j ∧ x = .string s ∧ s.size ≤ j ∧ Grown w wr) (fun i _ _ => 70 - (intOf i).toNat)
      case atStart => exact ⟨0, ⟨#[]⟩, by omega, rfl, rfl, Nat.le_refl _, hg⟩
      case round =>
        obtain ⟨j, s, hj, rfl, rfl, hs, hgl⟩ := hrel
        by_cases hlj : j < 70
        · have z1 : ∀ a b : ByteArray, a.size + b.size ≤ 200 → (a ++ b).size ≤ maxLen := fun a b h => by rw [ByteArray.size_append]; unfold maxLen; omega
          have Z1 := Lib.hid z1
          clear z1
          go_wp2_with fail
          refine (nameSplits_any _ _ (by unfold maxLen; omega)).mono ?_
          rintro e w1 ⟨rfl, g1⟩
          go_wp2_with fail
          refine (nameSplits_any _ _ (Z1.out _ _ (by have : (ByteArray.mk #[97, 58]).size = 2 := rfl; omega))).mono ?_
          rintro e w2 ⟨rfl, g2⟩
          go_wp2_with fail
          refine (nameSplits_any _ _ (Z1.out _ _ (by have : (ByteArray.mk #[58, 98]).size = 2 := rfl; omega))).mono ?_
          rintro e w3 ⟨rfl, g3⟩
          go_wp2_with fail
          refine (nameBegins_any _ _ (by unfold maxLen; omega)).mono ?_
          rintro e w4 ⟨rfl, g4⟩
          go_wp2_with fail
          refine (nameBegins_any _ _ (Z1.out _ _ (by have : (ByteArray.mk #[58, 98, 58, 99]).size = 4 := rfl; omega))).mono ?_
          rintro e w5 ⟨rfl, g5⟩
          go_wp2_with fail
          refine (nameBack_any _ _ 32 _ (by unfold maxLen; omega) (by unfold maxLen; exact Nat.le_of_ble_eq_true rfl)).mono ?_
          rintro e w6 ⟨rfl, g6⟩
          go_wp2_with fail
          refine (nameBack_any _ _ 61 _ (by unfold maxLen; omega) (by unfold maxLen; omega)).mono ?_
          rintro e w7 ⟨rfl, g7⟩
          go_wp2_with fail
          go_roundw
          case rel => exact ⟨j + 1, _, by omega, by go_num, rfl, by rw [ByteArray.size_append]; have : (ByteArray.mk #[120]).size = 1 := rfl; omega, grown_trans hgl (grown_trans g1 (grown_trans g2 (grown_trans g3 (grown_trans g4 (grown_trans g5 (grown_trans g6 g7))))))⟩
          case measure => simp [intOf]; omega
        · go_wp2_with fail
          refine (works_any _).mono ?_
          rintro e w1 ⟨rfl, g1⟩
          go_wp2_with fail
          go_ret
          exact ⟨rfl, grown_trans hgl g1⟩
end Go.Proofs
