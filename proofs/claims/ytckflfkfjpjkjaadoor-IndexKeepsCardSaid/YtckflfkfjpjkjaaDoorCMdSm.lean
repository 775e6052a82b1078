/- Walks: 'Depth', 'Small'. -/
import Derived.Test.YtckflfkfjpjkjaaDoorCMdRi
namespace Go.Proofs
open Go.RowKit Go.Lx Go.Md Go.Shelf
set_option linter.unusedVariables false

set_option maxRecDepth 100000 in
set_option maxHeartbeats 1000000 in
theorem mdepth_any {Q : Nat → BP} (m : MdlD) (p : Ph) (v : Int) (w : World) (h : Mod Q w m p) (hT : Tab w) (hm : MdlOk m) :
    Calls Tryd.prog 47 #[mdV m p, .int .i64 v] w fun e w' => e = .returned (.int .i64 (depM m v)) ∧ Below w.heap.size w w' := by
  have HE : Hid (depM m v = if (riM m).2.2 = 0 ∧ 0 ≤ v ∧ v < m.vers.length then (deM m v : Int) else -1) := by unfold Hid; rfl
  have HR := Lib.hid (fun wx (hb : Below w.heap.size w wx) => right_any m p wx (h.below hb) (hT.next hb) hm)
  have HK : Hid ((riM m).2.2 = 0 → UpOk m) := fun h => by
    obtain ⟨_, _, _, h4, h5, _⟩ := riM_zero.1 (riM_ok h)
    exact upOk h4 h5
  have HD := Lib.hid (fun (hU : UpOk m) wx (hb : Below w.heap.size w wx) (k : Nat) (hk : k < m.vers.length) => depth_any m p k wx (h.below hb) hU hk hm.vers hm.regs)
  have HB := Lib.hid (MBox.made h)
  have l4 := hm.vers
  generalize depM m v = R at HE ⊢
  unfold mdV at HR HD ⊢
  generalize riM m = f at HE HR HK
  obtain ⟨a, b, c⟩ := f
  simp only at HE HR HK
  clear h hT hm
  by_cases hc : c = 0
  · subst hc
    by_cases h0 : 0 ≤ v
    · by_cases h1 : v < m.vers.length
      · obtain ⟨k, rfl⟩ : ∃ k : Nat, v = k := ⟨v.toNat, by omega⟩
        have hk : k < m.vers.length := by omega
        have HR2 : Hid (R = deM m k) := by unfold Hid; rw [HE.out, if_pos ⟨rfl, h0, h1⟩]
        have HD2 := Lib.hid (HD.out (HK.out rfl))
        clear HE HD HK
        go_enter Tryd.func47, Tryd.ntmps47
        go_wp2_with (first
          | (go_at_call 17; refine (HR.out _ (below_al1 w _)).mono ?_; rintro e w1 ⟨rfl, g1⟩; obtain ⟨b0, b1, b2, b3, b4, b5, f0, f1, f2, f3, f4, f5⟩ := (HB.out.below g1).box)
          | (go_at_call 92; refine (HD2.out _ (below_bx1 g1) k hk).mono ?_; rintro e w2 ⟨rfl, g2⟩))
        go_ret
        exact ⟨ret_int (by rw [HR2.out]), (below_bx1 g1).trans (g2.mono (below_bx1 g1).size)⟩
      · have HR2 : Hid (R = -1) := by unfold Hid; rw [HE.out, if_neg (fun h => h1 h.2.2)]
        clear HE HD HK
        go_enter Tryd.func47, Tryd.ntmps47
        go_wp2_with (first
          | (go_at_call 17; refine (HR.out _ (below_al1 w _)).mono ?_; rintro e w1 ⟨rfl, g1⟩; obtain ⟨b0, b1, b2, b3, b4, b5, f0, f1, f2, f3, f4, f5⟩ := (HB.out.below g1).box))
        go_ret
        exact ⟨ret_int (by rw [HR2.out]), below_bx1 g1⟩
    · have HR2 : Hid (R = -1) := by unfold Hid; rw [HE.out, if_neg (fun h => h0 h.2.1)]
      have h0' : v < 0 := by omega
      clear HE HD HK h0
      go_enter Tryd.func47, Tryd.ntmps47
      go_wp2_with (first
        | (go_at_call 17; refine (HR.out _ (below_al1 w _)).mono ?_; rintro e w1 ⟨rfl, g1⟩; obtain ⟨b0, b1, b2, b3, b4, b5, f0, f1, f2, f3, f4, f5⟩ := (HB.out.below g1).box))
      go_ret
      exact ⟨ret_int (by rw [HR2.out]), below_bx1 g1⟩
  · have HR2 : Hid (R = -1) := by unfold Hid; rw [HE.out, if_neg (fun h => hc h.1)]
    have ha1 : ((c : Int) == 0) = false := int_ne_lit (m := 0) hc
    have ha2 : ((c : Int) != 0) = true := by simp [bne, ha1]
    clear HE HD HK hc
    go_enter Tryd.func47, Tryd.ntmps47
    go_wp2_with (first
      | (go_at_call 17; refine (HR.out _ (below_al1 w _)).mono ?_; rintro e w1 ⟨rfl, g1⟩; obtain ⟨b0, b1, b2, b3, b4, b5, f0, f1, f2, f3, f4, f5⟩ := (HB.out.below g1).box))
    go_ret
    exact ⟨ret_int (by rw [HR2.out]), below_bx1 g1⟩
theorem cell_blk {w : World} {b : Nat} {cs : Array Value} {T : TypeId} {fr : Nat × Nat} (h : w.heap[b]? = some (.cells cs T fr)) (j : Nat) : w.cell? ⟨b, j, none⟩ = cs[j]? := by
  unfold World.cell?; simp only [h]; rfl
theorem at4_1 (w : World) (a b c d : Obj) : ((((w.alloc a).alloc b).alloc c).alloc d).heap[w.heap.size + 1]? = some b := by
  rw [Below.heap_alloc _ _ _ (by simp <;> omega), Below.heap_alloc _ _ _ (by simp)]; exact alloc2_at w a b
theorem at4_2 (w : World) (a b c d : Obj) : ((((w.alloc a).alloc b).alloc c).alloc d).heap[w.heap.size + 2]? = some c := by
  rw [Below.heap_alloc _ _ _ (by simp <;> omega)]
  have := alloc2_at (w.alloc a) b c
  simpa using this
theorem at4_3 (w : World) (a b c d : Obj) : ((((w.alloc a).alloc b).alloc c).alloc d).heap[w.heap.size + 3]? = some d := by
  have := alloc2_at ((w.alloc a).alloc b) c d
  simpa using this
/-- The small model. -/
def smallM : MdlD where
  nm := ⟨#[77]⟩
  vars := []
  evs := []
  regs := [⟨⟨#[]⟩, -1⟩]
  vers := [⟨⟨#[]⟩, 3, 0, -1, ⟨#[]⟩, ⟨#[]⟩, [], ⟨#[]⟩⟩, ⟨⟨#[115]⟩, 1, 0, -1, ⟨#[]⟩, ⟨#[]⟩, [], ⟨#[]⟩⟩]
  trns := [⟨⟨#[]⟩, 0, 1, [], 0, ⟨#[]⟩, ⟨#[]⟩, 1⟩]
/-- A model of the call's own. -/
def MadeP (m : MdlD) (w : World) (e : Ending) (w' : World) : Prop := ∃ p, e = .returned (mdV m p) ∧ Mod anyM w' m p ∧ Below w.heap.size w w'
set_option maxRecDepth 100000 in
set_option maxHeartbeats 1000000 in
theorem small_any (w : World) : Calls Tryd.prog 46 #[] w (MadeP smallM w) := by
  go_enter Tryd.func46, Tryd.ntmps46
  go_wp2_with fail
  refine bodyPost_ret (v := mdV smallM ⟨none, 0, none, 0, some ⟨w.heap.size + 1, 0, none⟩, 1, some ⟨w.heap.size + 2, 0, none⟩, 2, some ⟨w.heap.size + 3, 0, none⟩, 1⟩) (by simp [results, Tryd.results46, go_sem, mdV, smallM]) rfl ⟨_, rfl, ⟨.inl ⟨_, _, rfl, rfl⟩, .inl ⟨_, _, rfl, rfl⟩, ?_, ?_, ?_⟩, ?_⟩
  · refine .inr ⟨w.heap.size + 1, 0, 1, rfl, Nat.le_refl _, by simp <;> omega, trivial, fun i hi => ?_⟩
    obtain rfl : i = 0 := by have : i < 1 := hi; omega
    exact ⟨cell_blk (at4_1 _ _ _ _ _) _, cell_blk (at4_1 _ _ _ _ _) _⟩
  · refine .inr ⟨w.heap.size + 2, 0, 2, rfl, Nat.le_refl _, by simp <;> omega, trivial, fun i hi => ?_⟩
    have : i = 0 ∨ i = 1 := by have : i < 2 := hi; omega
    rcases this with rfl | rfl
    · exact ⟨.slice none 0 0, .inl ⟨_, _, rfl, rfl⟩, cell_blk (at4_2 _ _ _ _ _) _, cell_blk (at4_2 _ _ _ _ _) _, cell_blk (at4_2 _ _ _ _ _) _, cell_blk (at4_2 _ _ _ _ _) _, cell_blk (at4_2 _ _ _ _ _) _, cell_blk (at4_2 _ _ _ _ _) _, cell_blk (at4_2 _ _ _ _ _) _, cell_blk (at4_2 _ _ _ _ _) _⟩
    · exact ⟨.slice none 0 0, .inl ⟨_, _, rfl, rfl⟩, cell_blk (at4_2 _ _ _ _ _) _, cell_blk (at4_2 _ _ _ _ _) _, cell_blk (at4_2 _ _ _ _ _) _, cell_blk (at4_2 _ _ _ _ _) _, cell_blk (at4_2 _ _ _ _ _) _, cell_blk (at4_2 _ _ _ _ _) _, cell_blk (at4_2 _ _ _ _ _) _, cell_blk (at4_2 _ _ _ _ _) _⟩
  · refine .inr ⟨w.heap.size + 3, 0, 1, rfl, Nat.le_refl _, by simp <;> omega, trivial, fun i hi => ?_⟩
    obtain rfl : i = 0 := by have : i < 1 := hi; omega
    exact ⟨.slice none 0 0, .inl ⟨_, _, rfl, rfl⟩, cell_blk (at4_3 _ _ _ _ _) _, cell_blk (at4_3 _ _ _ _ _) _, cell_blk (at4_3 _ _ _ _ _) _, cell_blk (at4_3 _ _ _ _ _) _, cell_blk (at4_3 _ _ _ _ _) _, cell_blk (at4_3 _ _ _ _ _) _, cell_blk (at4_3 _ _ _ _ _) _, cell_blk (at4_3 _ _ _ _ _) _⟩
  · exact (((below_al1 w _).alloc (by simp) _).alloc (by simp; omega) _).alloc (by simp; omega) _
end Go.Proofs
