/- Walks: 'wrong', once for each closure that it is handed. -/
import Derived.Test.YtckflfkfjpjkjaaDoorCMdW
import Derived.Test.YtckflfkfjpjkjaaDoorCMdX
namespace Go.Proofs
open Go.RowKit Go.Lx Go.Md Go.Shelf
set_option linter.unusedVariables false

def fltV (f : Flt) : Value := .agg #[.int .u8 f.1, .int .i64 f.2.1, .int .i64 f.2.2]
def FltR (f : Flt) (w : World) (e : Ending) (w' : World) : Prop := e = .returned (fltV f) ∧ Below w.heap.size w w'

set_option maxRecDepth 100000 in
set_option maxHeartbeats 1000000 in
theorem wrVar_any {Q : Nat → BP} (m : MdlD) (p : Ph) (H : Nat) (w : World) (h : MBox Q w m p H) (hT : Tab w) (hm : MdlOk m) :
    Calls Tryd.prog 94 #[.int .u8 2, .slice p.a1 m.vars.length p.c1, .int .i64 64, .func (.func 95) #[] #[.pointer (some ⟨H, 0, none⟩)]] w (FltR (wrL 2 64 (rVar m) 0 m.vars) w) := by
  have hl := hm.vars
  have H1 := Lib.hid h.mod.vars
  have HM := Lib.hid hm
  have HC := Lib.hid (fun wx (hb : Below w.heap.size w wx) => (⟨h.below hb, hT.next hb⟩ : MBox Q wx m p H ∧ Tab wx))
  have HS0 : Hid (∀ k (hk : k < m.vars.length), wrL 2 64 (rVar m) k (m.vars.drop k) = if k = 64 then (2, 64, 3) else if (rVar m) k m.vars[k] then wrL 2 64 (rVar m) (k + 1) (m.vars.drop (k + 1)) else (2, k, 130)) := fun k hk => wrL_drop hk
  have HX0 : Hid (∀ k (hk : k < m.vars.length), m.vars[k].nm.size ≤ 140737488355328) := fun k hk => hm.varn _ (List.getElem_mem hk)
  clear h hm hT
  go_enter Tryd.func94, Tryd.ntmps94
  go_wp2_with fail
  go_loopw [13] (fun i wr => ∃ k : Nat, k ≤ m.vars.length ∧ i = .int .i64 k ∧ Below (w.heap.size + 1) (w.alloc (.cells #[.int .u8 0, .int .i64 0, .int .i64 0] 98)) wr ∧ Hid (wrL 2 64 (rVar m) 0 m.vars = wrL 2 64 (rVar m) k (m.vars.drop k))) (fun i _ => m.vars.length - (intOf i).toNat)
  case atStart => exact ⟨0, by omega, rfl, Below.refl _ _, (show Hid _ from rfl)⟩
  case round =>
    obtain ⟨wo, rfl⟩ : ∃ wo : World, wo = wr := ⟨_, rfl⟩
    obtain ⟨k, hk, rfl, hg, HE⟩ := hrel
    have hgw : Below w.heap.size w wo := (below_al1 w _).trans (hg.mono (by omega))
    have hzo : w.heap.size + 1 ≤ wo.heap.size := by have := hg.size; simpa using this
    have hzo' : w.heap.size < wo.heap.size := hzo
    have q0 : wo.cell? ⟨w.heap.size, 0, none⟩ = some (.int .u8 0) := (hg.cell (p := ⟨w.heap.size, 0, none⟩) (by simp)).trans (by simp)
    have q1 : wo.cell? ⟨w.heap.size, 1, none⟩ = some (.int .i64 0) := (hg.cell (p := ⟨w.heap.size, 1, none⟩) (by simp)).trans (by simp)
    have q2 : wo.cell? ⟨w.heap.size, 2, none⟩ = some (.int .i64 0) := (hg.cell (p := ⟨w.heap.size, 2, none⟩) (by simp)).trans (by simp)
    have y0 : wo.frozen? ⟨w.heap.size, 0, none⟩ = false := (hg.frozen (p := ⟨w.heap.size, 0, none⟩) (by simp)).trans (by simp)
    have y1 : wo.frozen? ⟨w.heap.size, 1, none⟩ = false := (hg.frozen (p := ⟨w.heap.size, 1, none⟩) (by simp)).trans (by simp)
    have y2 : wo.frozen? ⟨w.heap.size, 2, none⟩ = false := (hg.frozen (p := ⟨w.heap.size, 2, none⟩) (by simp)).trans (by simp)
    by_cases hlt : k < m.vars.length
    · have hltI : (k : Int) < (m.vars.length : Int) := by omega
      have hi0 : (0 : Int) ≤ (k : Int) := by omega
      obtain ⟨b1, o1, ha1, hb1, r0, r1⟩ := H1.out.get hlt
      have HS := Lib.hid (HS0.out k hlt)
      have HX := Lib.hid (HX0.out k hlt)
      generalize m.vars[k] = x at r0 r1 HS HX
      replace r0 := (hgw.cell (p := ⟨b1, o1 + k * 2, none⟩) hb1).trans r0
      replace r1 := (hgw.cell (p := ⟨b1, o1 + k * 2 + 1, none⟩) hb1).trans r1
      rw [ha1]
      have HA := Lib.hid ha1
      clear ha1
      by_cases h64 : k = 64
      · have HF : Hid (wrL 2 64 (rVar m) 0 m.vars = (2, 64, 3)) := by unfold Hid; rw [HE.out, HS.out, if_pos h64]
        subst h64
        go_wp2_with fail
        refine bodyPost_ret (v := fltV (2, 64, 3)) (by simp [results, Tryd.results94, go_sem, fltV, q0, q1, q2, hzo']) rfl ⟨by rw [HF.out], ?_⟩
        exact (((hgw.setCell (by simp) _).setCell (by simp) _).setCell (by simp) _).alloc (by simp; omega) _
      · have h64I : ((k : Int) == 64) = false := int_ne_lit (m := 64) h64
        have HS2 : Hid (wrL 2 64 (rVar m) 0 m.vars = if rVar m k x then wrL 2 64 (rVar m) (k + 1) (m.vars.drop (k + 1)) else (2, k, 130)) := by unfold Hid; rw [HE.out, HS.out, if_neg h64]
        have HD := Lib.hid (fun wx (hb : Below w.heap.size w wx) => vars1_any m p H k x wx (HC.out wx hb).1 (HC.out wx hb).2 HM.out hlt HX.out)
        unfold varA at HD
        have hb0 : Below w.heap.size w (wo.alloc (.cells #[.string x.nm, .int .i64 x.ini] 82)) := hgw.alloc (by omega) _
        generalize rVar m k x = bR at HS2 HD
        go_wp2_with fail
        refine (HD.out _ hb0).mono ?_
        rintro e w2 ⟨rfl, g2⟩
        have hzb : w.heap.size < ((wo.alloc (.cells #[.string x.nm, .int .i64 x.ini] 82))).heap.size := by simp; omega
        have g2' : Below (w.heap.size + 1) wo w2 := ((Below.refl _ wo).alloc hzo _).trans (g2.mono (by simp; omega))
        have q0' := (g2'.cell (p := ⟨w.heap.size, 0, none⟩) (by simp)).trans q0
        have q1' := (g2'.cell (p := ⟨w.heap.size, 1, none⟩) (by simp)).trans q1
        have q2' := (g2'.cell (p := ⟨w.heap.size, 2, none⟩) (by simp)).trans q2
        have y0' := (g2'.frozen (p := ⟨w.heap.size, 0, none⟩) (by simp)).trans y0
        have y1' := (g2'.frozen (p := ⟨w.heap.size, 1, none⟩) (by simp)).trans y1
        have y2' := (g2'.frozen (p := ⟨w.heap.size, 2, none⟩) (by simp)).trans y2
        cases bR with
        | true =>
          go_wp2_with fail
          go_roundw
          case rel => exact ⟨k + 1, by omega, by go_num, hg.trans g2', (show Hid _ from by unfold Hid; have := HS2.out; simpa using this)⟩
          case measure => simp [intOf] <;> omega
        | false =>
          have HS3 : Hid (wrL 2 64 (rVar m) 0 m.vars = (2, k, 130)) := by have := HS2.out; unfold Hid; simpa using this
          go_wp2_with fail
          refine bodyPost_ret (v := fltV (2, k, 130)) (by simp [results, Tryd.results94, go_sem, fltV, q0', q1', q2']) rfl ⟨by rw [HS3.out], ?_⟩
          exact (((hgw.trans (g2'.mono (by omega))).setCell (by simp) _).setCell (by simp) _).setCell (by simp) _
    · have HF : Hid (wrL 2 64 (rVar m) 0 m.vars = (0, 0, 0)) := by unfold Hid; rw [HE.out, List.drop_eq_nil_of_le (by omega)]; rfl
      go_wp2_with fail
      refine bodyPost_ret (v := fltV (0, 0, 0)) (by simp [results, Tryd.results94, go_sem, fltV, q0, q1, q2]) rfl ⟨by rw [HF.out], ?_⟩
      exact ((hgw.setCell (by simp) _).setCell (by simp) _).setCell (by simp) _

set_option maxRecDepth 100000 in
set_option maxHeartbeats 1000000 in
theorem wrEv_any {Q : Nat → BP} (m : MdlD) (p : Ph) (H : Nat) (w : World) (h : MBox Q w m p H) (hT : Tab w) (hm : MdlOk m) :
    Calls Tryd.prog 98 #[.int .u8 3, .slice p.a2 m.evs.length p.c2, .int .i64 64, .func (.func 99) #[] #[.pointer (some ⟨H, 0, none⟩)]] w (FltR (wrL 3 64 (rEv m) 0 m.evs) w) := by
  have hl := hm.evs
  have H1 := Lib.hid h.mod.evs
  have HM := Lib.hid hm
  have HC := Lib.hid (fun wx (hb : Below w.heap.size w wx) => (⟨h.below hb, hT.next hb⟩ : MBox Q wx m p H ∧ Tab wx))
  have HS0 : Hid (∀ k (hk : k < m.evs.length), wrL 3 64 (rEv m) k (m.evs.drop k) = if k = 64 then (3, 64, 3) else if (rEv m) k m.evs[k] then wrL 3 64 (rEv m) (k + 1) (m.evs.drop (k + 1)) else (3, k, 130)) := fun k hk => wrL_drop hk
  have HX0 : Hid (∀ k (hk : k < m.evs.length), m.evs[k].size ≤ 140737488355328) := fun k hk => hm.evn _ (List.getElem_mem hk)
  clear h hm hT
  go_enter Tryd.func98, Tryd.ntmps98
  go_wp2_with fail
  go_loopw [13] (fun i wr => ∃ k : Nat, k ≤ m.evs.length ∧ i = .int .i64 k ∧ Below (w.heap.size + 1) (w.alloc (.cells #[.int .u8 0, .int .i64 0, .int .i64 0] 98)) wr ∧ Hid (wrL 3 64 (rEv m) 0 m.evs = wrL 3 64 (rEv m) k (m.evs.drop k))) (fun i _ => m.evs.length - (intOf i).toNat)
  case atStart => exact ⟨0, by omega, rfl, Below.refl _ _, (show Hid _ from rfl)⟩
  case round =>
    obtain ⟨wo, rfl⟩ : ∃ wo : World, wo = wr := ⟨_, rfl⟩
    obtain ⟨k, hk, rfl, hg, HE⟩ := hrel
    have hgw : Below w.heap.size w wo := (below_al1 w _).trans (hg.mono (by omega))
    have hzo : w.heap.size + 1 ≤ wo.heap.size := by have := hg.size; simpa using this
    have hzo' : w.heap.size < wo.heap.size := hzo
    have q0 : wo.cell? ⟨w.heap.size, 0, none⟩ = some (.int .u8 0) := (hg.cell (p := ⟨w.heap.size, 0, none⟩) (by simp)).trans (by simp)
    have q1 : wo.cell? ⟨w.heap.size, 1, none⟩ = some (.int .i64 0) := (hg.cell (p := ⟨w.heap.size, 1, none⟩) (by simp)).trans (by simp)
    have q2 : wo.cell? ⟨w.heap.size, 2, none⟩ = some (.int .i64 0) := (hg.cell (p := ⟨w.heap.size, 2, none⟩) (by simp)).trans (by simp)
    have y0 : wo.frozen? ⟨w.heap.size, 0, none⟩ = false := (hg.frozen (p := ⟨w.heap.size, 0, none⟩) (by simp)).trans (by simp)
    have y1 : wo.frozen? ⟨w.heap.size, 1, none⟩ = false := (hg.frozen (p := ⟨w.heap.size, 1, none⟩) (by simp)).trans (by simp)
    have y2 : wo.frozen? ⟨w.heap.size, 2, none⟩ = false := (hg.frozen (p := ⟨w.heap.size, 2, none⟩) (by simp)).trans (by simp)
    by_cases hlt : k < m.evs.length
    · have hltI : (k : Int) < (m.evs.length : Int) := by omega
      have hi0 : (0 : Int) ≤ (k : Int) := by omega
      obtain ⟨b1, o1, ha1, hb1, r0⟩ := H1.out.get hlt
      have HS := Lib.hid (HS0.out k hlt)
      have HX := Lib.hid (HX0.out k hlt)
      generalize m.evs[k] = x at r0 HS HX
      replace r0 := (hgw.cell (p := ⟨b1, o1 + k, none⟩) hb1).trans r0
      rw [ha1]
      have HA := Lib.hid ha1
      clear ha1
      by_cases h64 : k = 64
      · have HF : Hid (wrL 3 64 (rEv m) 0 m.evs = (3, 64, 3)) := by unfold Hid; rw [HE.out, HS.out, if_pos h64]
        subst h64
        go_wp2_with fail
        refine bodyPost_ret (v := fltV (3, 64, 3)) (by simp [results, Tryd.results98, go_sem, fltV, q0, q1, q2]) rfl ⟨by rw [HF.out], ?_⟩
        exact ((hgw.setCell (by simp) _).setCell (by simp) _).setCell (by simp) _
      · have h64I : ((k : Int) == 64) = false := int_ne_lit (m := 64) h64
        have HS2 : Hid (wrL 3 64 (rEv m) 0 m.evs = if rEv m k x then wrL 3 64 (rEv m) (k + 1) (m.evs.drop (k + 1)) else (3, k, 130)) := by unfold Hid; rw [HE.out, HS.out, if_neg h64]
        have HD := Lib.hid (fun wx (hb : Below w.heap.size w wx) => signals1_any m p H k x wx (HC.out wx hb).1 (HC.out wx hb).2 HM.out hlt HX.out)
        
        have hb0 : Below w.heap.size w wo := hgw
        generalize rEv m k x = bR at HS2 HD
        go_wp2_with fail
        refine (HD.out _ hb0).mono ?_
        rintro e w2 ⟨rfl, g2⟩
        have hzb : w.heap.size < (wo).heap.size := by omega
        have g2' : Below (w.heap.size + 1) wo w2 := g2.mono hzo
        have q0' := (g2'.cell (p := ⟨w.heap.size, 0, none⟩) (by simp)).trans q0
        have q1' := (g2'.cell (p := ⟨w.heap.size, 1, none⟩) (by simp)).trans q1
        have q2' := (g2'.cell (p := ⟨w.heap.size, 2, none⟩) (by simp)).trans q2
        have y0' := (g2'.frozen (p := ⟨w.heap.size, 0, none⟩) (by simp)).trans y0
        have y1' := (g2'.frozen (p := ⟨w.heap.size, 1, none⟩) (by simp)).trans y1
        have y2' := (g2'.frozen (p := ⟨w.heap.size, 2, none⟩) (by simp)).trans y2
        cases bR with
        | true =>
          go_wp2_with fail
          go_roundw
          case rel => exact ⟨k + 1, by omega, by go_num, hg.trans g2', (show Hid _ from by unfold Hid; have := HS2.out; simpa using this)⟩
          case measure => simp [intOf] <;> omega
        | false =>
          have HS3 : Hid (wrL 3 64 (rEv m) 0 m.evs = (3, k, 130)) := by have := HS2.out; unfold Hid; simpa using this
          go_wp2_with fail
          refine bodyPost_ret (v := fltV (3, k, 130)) (by simp [results, Tryd.results98, go_sem, fltV, q0', q1', q2']) rfl ⟨by rw [HS3.out], ?_⟩
          exact (((hgw.trans (g2'.mono (by omega))).setCell (by simp) _).setCell (by simp) _).setCell (by simp) _
    · have HF : Hid (wrL 3 64 (rEv m) 0 m.evs = (0, 0, 0)) := by unfold Hid; rw [HE.out, List.drop_eq_nil_of_le (by omega)]; rfl
      go_wp2_with fail
      refine bodyPost_ret (v := fltV (0, 0, 0)) (by simp [results, Tryd.results98, go_sem, fltV, q0, q1, q2]) rfl ⟨by rw [HF.out], ?_⟩
      exact ((hgw.setCell (by simp) _).setCell (by simp) _).setCell (by simp) _

set_option maxRecDepth 100000 in
set_option maxHeartbeats 1000000 in
theorem wrReg_any {Q : Nat → BP} (m : MdlD) (p : Ph) (H : Nat) (w : World) (h : MBox Q w m p H) (hT : Tab w) (hm : MdlOk m) :
    Calls Tryd.prog 101 #[.int .u8 4, .slice p.a3 m.regs.length p.c3, .int .i64 512, .func (.func 102) #[] #[.pointer (some ⟨H, 0, none⟩)]] w (FltR (wrL 4 512 (rReg m) 0 m.regs) w) := by
  have hl := hm.regs
  have H1 := Lib.hid h.mod.regs
  have HM := Lib.hid hm
  have HC := Lib.hid (fun wx (hb : Below w.heap.size w wx) => (⟨h.below hb, hT.next hb⟩ : MBox Q wx m p H ∧ Tab wx))
  have HS0 : Hid (∀ k (hk : k < m.regs.length), wrL 4 512 (rReg m) k (m.regs.drop k) = if k = 512 then (4, 512, 3) else if (rReg m) k m.regs[k] then wrL 4 512 (rReg m) (k + 1) (m.regs.drop (k + 1)) else (4, k, 130)) := fun k hk => wrL_drop hk
  have HX0 : Hid (∀ k (hk : k < m.regs.length), m.regs[k].nm.size ≤ 140737488355328) := fun k hk => hm.regn _ (List.getElem_mem hk)
  clear h hm hT
  go_enter Tryd.func101, Tryd.ntmps101
  go_wp2_with fail
  go_loopw [13] (fun i wr => ∃ k : Nat, k ≤ m.regs.length ∧ i = .int .i64 k ∧ Below (w.heap.size + 1) (w.alloc (.cells #[.int .u8 0, .int .i64 0, .int .i64 0] 98)) wr ∧ Hid (wrL 4 512 (rReg m) 0 m.regs = wrL 4 512 (rReg m) k (m.regs.drop k))) (fun i _ => m.regs.length - (intOf i).toNat)
  case atStart => exact ⟨0, by omega, rfl, Below.refl _ _, (show Hid _ from rfl)⟩
  case round =>
    obtain ⟨wo, rfl⟩ : ∃ wo : World, wo = wr := ⟨_, rfl⟩
    obtain ⟨k, hk, rfl, hg, HE⟩ := hrel
    have hgw : Below w.heap.size w wo := (below_al1 w _).trans (hg.mono (by omega))
    have hzo : w.heap.size + 1 ≤ wo.heap.size := by have := hg.size; simpa using this
    have hzo' : w.heap.size < wo.heap.size := hzo
    have q0 : wo.cell? ⟨w.heap.size, 0, none⟩ = some (.int .u8 0) := (hg.cell (p := ⟨w.heap.size, 0, none⟩) (by simp)).trans (by simp)
    have q1 : wo.cell? ⟨w.heap.size, 1, none⟩ = some (.int .i64 0) := (hg.cell (p := ⟨w.heap.size, 1, none⟩) (by simp)).trans (by simp)
    have q2 : wo.cell? ⟨w.heap.size, 2, none⟩ = some (.int .i64 0) := (hg.cell (p := ⟨w.heap.size, 2, none⟩) (by simp)).trans (by simp)
    have y0 : wo.frozen? ⟨w.heap.size, 0, none⟩ = false := (hg.frozen (p := ⟨w.heap.size, 0, none⟩) (by simp)).trans (by simp)
    have y1 : wo.frozen? ⟨w.heap.size, 1, none⟩ = false := (hg.frozen (p := ⟨w.heap.size, 1, none⟩) (by simp)).trans (by simp)
    have y2 : wo.frozen? ⟨w.heap.size, 2, none⟩ = false := (hg.frozen (p := ⟨w.heap.size, 2, none⟩) (by simp)).trans (by simp)
    by_cases hlt : k < m.regs.length
    · have hltI : (k : Int) < (m.regs.length : Int) := by omega
      have hi0 : (0 : Int) ≤ (k : Int) := by omega
      obtain ⟨b1, o1, ha1, hb1, r0, r1⟩ := H1.out.get hlt
      have HS := Lib.hid (HS0.out k hlt)
      have HX := Lib.hid (HX0.out k hlt)
      generalize m.regs[k] = x at r0 r1 HS HX
      replace r0 := (hgw.cell (p := ⟨b1, o1 + k * 2, none⟩) hb1).trans r0
      replace r1 := (hgw.cell (p := ⟨b1, o1 + k * 2 + 1, none⟩) hb1).trans r1
      rw [ha1]
      have HA := Lib.hid ha1
      clear ha1
      by_cases h64 : k = 512
      · have HF : Hid (wrL 4 512 (rReg m) 0 m.regs = (4, 512, 3)) := by unfold Hid; rw [HE.out, HS.out, if_pos h64]
        subst h64
        go_wp2_with fail
        refine bodyPost_ret (v := fltV (4, 512, 3)) (by simp [results, Tryd.results101, go_sem, fltV, q0, q1, q2, hzo']) rfl ⟨by rw [HF.out], ?_⟩
        exact (((hgw.setCell (by simp) _).setCell (by simp) _).setCell (by simp) _).alloc (by simp; omega) _
      · have h64I : ((k : Int) == 512) = false := int_ne_lit (m := 512) h64
        have HS2 : Hid (wrL 4 512 (rReg m) 0 m.regs = if rReg m k x then wrL 4 512 (rReg m) (k + 1) (m.regs.drop (k + 1)) else (4, k, 130)) := by unfold Hid; rw [HE.out, HS.out, if_neg h64]
        have HD := Lib.hid (fun wx (hb : Below w.heap.size w wx) => regions1_any m p H k x wx (HC.out wx hb).1 (HC.out wx hb).2 HM.out hlt HX.out)
        unfold regA at HD
        have hb0 : Below w.heap.size w (wo.alloc (.cells #[.string x.nm, .int .i64 x.own] 75)) := hgw.alloc (by omega) _
        generalize rReg m k x = bR at HS2 HD
        go_wp2_with fail
        refine (HD.out _ hb0).mono ?_
        rintro e w2 ⟨rfl, g2⟩
        have hzb : w.heap.size < ((wo.alloc (.cells #[.string x.nm, .int .i64 x.own] 75))).heap.size := by simp; omega
        have g2' : Below (w.heap.size + 1) wo w2 := ((Below.refl _ wo).alloc hzo _).trans (g2.mono (by simp; omega))
        have q0' := (g2'.cell (p := ⟨w.heap.size, 0, none⟩) (by simp)).trans q0
        have q1' := (g2'.cell (p := ⟨w.heap.size, 1, none⟩) (by simp)).trans q1
        have q2' := (g2'.cell (p := ⟨w.heap.size, 2, none⟩) (by simp)).trans q2
        have y0' := (g2'.frozen (p := ⟨w.heap.size, 0, none⟩) (by simp)).trans y0
        have y1' := (g2'.frozen (p := ⟨w.heap.size, 1, none⟩) (by simp)).trans y1
        have y2' := (g2'.frozen (p := ⟨w.heap.size, 2, none⟩) (by simp)).trans y2
        cases bR with
        | true =>
          go_wp2_with fail
          go_roundw
          case rel => exact ⟨k + 1, by omega, by go_num, hg.trans g2', (show Hid _ from by unfold Hid; have := HS2.out; simpa using this)⟩
          case measure => simp [intOf] <;> omega
        | false =>
          have HS3 : Hid (wrL 4 512 (rReg m) 0 m.regs = (4, k, 130)) := by have := HS2.out; unfold Hid; simpa using this
          go_wp2_with fail
          refine bodyPost_ret (v := fltV (4, k, 130)) (by simp [results, Tryd.results101, go_sem, fltV, q0', q1', q2']) rfl ⟨by rw [HS3.out], ?_⟩
          exact (((hgw.trans (g2'.mono (by omega))).setCell (by simp) _).setCell (by simp) _).setCell (by simp) _
    · have HF : Hid (wrL 4 512 (rReg m) 0 m.regs = (0, 0, 0)) := by unfold Hid; rw [HE.out, List.drop_eq_nil_of_le (by omega)]; rfl
      go_wp2_with fail
      refine bodyPost_ret (v := fltV (0, 0, 0)) (by simp [results, Tryd.results101, go_sem, fltV, q0, q1, q2]) rfl ⟨by rw [HF.out], ?_⟩
      exact ((hgw.setCell (by simp) _).setCell (by simp) _).setCell (by simp) _

set_option maxRecDepth 100000 in
set_option maxHeartbeats 1000000 in
theorem wrVer_any {Q : Nat → BP} (m : MdlD) (p : Ph) (H : Nat) (w : World) (h : MBox Q w m p H) (hT : Tab w) (hm : MdlOk m) :
    Calls Tryd.prog 105 #[.int .u8 5, .slice p.a4 m.vers.length p.c4, .int .i64 512, .func (.func 106) #[] #[.pointer (some ⟨H, 0, none⟩)]] w (FltR (wrL 5 512 (fun _ => rVer m) 0 m.vers) w) := by
  have hl := hm.vers
  have H1 := Lib.hid h.mod.vers
  have HM := Lib.hid hm
  have HC := Lib.hid (fun wx (hb : Below w.heap.size w wx) => (⟨h.below hb, hT.next hb⟩ : MBox Q wx m p H ∧ Tab wx))
  have HS0 : Hid (∀ k (hk : k < m.vers.length), wrL 5 512 (fun _ => rVer m) k (m.vers.drop k) = if k = 512 then (5, 512, 3) else if (fun _ => rVer m) k m.vers[k] then wrL 5 512 (fun _ => rVer m) (k + 1) (m.vers.drop (k + 1)) else (5, k, 130)) := fun k hk => wrL_drop hk
  have HX0 : Hid (∀ k (hk : k < m.vers.length), VerOk m.vers[k]) := fun k hk => hm.verx _ (List.getElem_mem hk)
  clear h hm hT
  go_enter Tryd.func105, Tryd.ntmps105
  go_wp2_with fail
  go_loopw [13] (fun i wr => ∃ k : Nat, k ≤ m.vers.length ∧ i = .int .i64 k ∧ Below (w.heap.size + 1) (w.alloc (.cells #[.int .u8 0, .int .i64 0, .int .i64 0] 98)) wr ∧ Hid (wrL 5 512 (fun _ => rVer m) 0 m.vers = wrL 5 512 (fun _ => rVer m) k (m.vers.drop k))) (fun i _ => m.vers.length - (intOf i).toNat)
  case atStart => exact ⟨0, by omega, rfl, Below.refl _ _, (show Hid _ from rfl)⟩
  case round =>
    obtain ⟨wo, rfl⟩ : ∃ wo : World, wo = wr := ⟨_, rfl⟩
    obtain ⟨k, hk, rfl, hg, HE⟩ := hrel
    have hgw : Below w.heap.size w wo := (below_al1 w _).trans (hg.mono (by omega))
    have hzo : w.heap.size + 1 ≤ wo.heap.size := by have := hg.size; simpa using this
    have hzo' : w.heap.size < wo.heap.size := hzo
    have q0 : wo.cell? ⟨w.heap.size, 0, none⟩ = some (.int .u8 0) := (hg.cell (p := ⟨w.heap.size, 0, none⟩) (by simp)).trans (by simp)
    have q1 : wo.cell? ⟨w.heap.size, 1, none⟩ = some (.int .i64 0) := (hg.cell (p := ⟨w.heap.size, 1, none⟩) (by simp)).trans (by simp)
    have q2 : wo.cell? ⟨w.heap.size, 2, none⟩ = some (.int .i64 0) := (hg.cell (p := ⟨w.heap.size, 2, none⟩) (by simp)).trans (by simp)
    have y0 : wo.frozen? ⟨w.heap.size, 0, none⟩ = false := (hg.frozen (p := ⟨w.heap.size, 0, none⟩) (by simp)).trans (by simp)
    have y1 : wo.frozen? ⟨w.heap.size, 1, none⟩ = false := (hg.frozen (p := ⟨w.heap.size, 1, none⟩) (by simp)).trans (by simp)
    have y2 : wo.frozen? ⟨w.heap.size, 2, none⟩ = false := (hg.frozen (p := ⟨w.heap.size, 2, none⟩) (by simp)).trans (by simp)
    by_cases hlt : k < m.vers.length
    · have hltI : (k : Int) < (m.vers.length : Int) := by omega
      have hi0 : (0 : Int) ≤ (k : Int) := by omega
      obtain ⟨b1, o1, ha1, hb1, dv, hsd, r0, r1, r2, r3, r4, r5, r6, r7⟩ := H1.out.get hlt
      have HS := Lib.hid (HS0.out k hlt)
      have HX := Lib.hid (HX0.out k hlt)
      generalize m.vers[k] = x at r0 r1 r2 r3 r4 r5 r6 r7 hsd HS HX
      obtain ⟨da, dc, rfl⟩ := hsd.len
      replace r0 := (hgw.cell (p := ⟨b1, o1 + k * 8, none⟩) hb1).trans r0
      replace r1 := (hgw.cell (p := ⟨b1, o1 + k * 8 + 1, none⟩) hb1).trans r1
      replace r2 := (hgw.cell (p := ⟨b1, o1 + k * 8 + 2, none⟩) hb1).trans r2
      replace r3 := (hgw.cell (p := ⟨b1, o1 + k * 8 + 3, none⟩) hb1).trans r3
      replace r4 := (hgw.cell (p := ⟨b1, o1 + k * 8 + 4, none⟩) hb1).trans r4
      replace r5 := (hgw.cell (p := ⟨b1, o1 + k * 8 + 5, none⟩) hb1).trans r5
      replace r6 := (hgw.cell (p := ⟨b1, o1 + k * 8 + 6, none⟩) hb1).trans r6
      replace r7 := (hgw.cell (p := ⟨b1, o1 + k * 8 + 7, none⟩) hb1).trans r7
      rw [ha1]
      have HA := Lib.hid ha1
      clear ha1
      by_cases h64 : k = 512
      · have HF : Hid (wrL 5 512 (fun _ => rVer m) 0 m.vers = (5, 512, 3)) := by unfold Hid; rw [HE.out, HS.out, if_pos h64]
        subst h64
        go_wp2_with fail
        refine bodyPost_ret (v := fltV (5, 512, 3)) (by simp [results, Tryd.results105, go_sem, fltV, q0, q1, q2, hzo']) rfl ⟨by rw [HF.out], ?_⟩
        exact (((hgw.setCell (by simp) _).setCell (by simp) _).setCell (by simp) _).alloc (by simp; omega) _
      · have h64I : ((k : Int) == 512) = false := int_ne_lit (m := 512) h64
        have HS2 : Hid (wrL 5 512 (fun _ => rVer m) 0 m.vers = if rVer m x then wrL 5 512 (fun _ => rVer m) (k + 1) (m.vers.drop (k + 1)) else (5, k, 130)) := by unfold Hid; rw [HE.out, HS.out, if_neg h64]
        have HD := Lib.hid (fun wx (hb : Below w.heap.size w wx) => vertices1_any m p H k x da dc wx (HC.out wx hb).1 (HC.out wx hb).2 HM.out HX.out (hsd.kept (Kept.of_below hb)))
        unfold verA at HD
        have hb0 : Below w.heap.size w (wo.alloc (.cells #[.string x.nm, .int .u8 x.kd, .int .i64 x.rg, .int .i64 x.ofv, .string x.en, .string x.ex, .slice da x.df.length dc, .string x.sb] 65)) := hgw.alloc (by omega) _
        generalize rVer m x = bR at HS2 HD
        go_wp2_with fail
        refine (HD.out _ hb0).mono ?_
        rintro e w2 ⟨rfl, g2⟩
        have hzb : w.heap.size < ((wo.alloc (.cells #[.string x.nm, .int .u8 x.kd, .int .i64 x.rg, .int .i64 x.ofv, .string x.en, .string x.ex, .slice da x.df.length dc, .string x.sb] 65))).heap.size := by simp; omega
        have g2' : Below (w.heap.size + 1) wo w2 := ((Below.refl _ wo).alloc hzo _).trans (g2.mono (by simp; omega))
        have q0' := (g2'.cell (p := ⟨w.heap.size, 0, none⟩) (by simp)).trans q0
        have q1' := (g2'.cell (p := ⟨w.heap.size, 1, none⟩) (by simp)).trans q1
        have q2' := (g2'.cell (p := ⟨w.heap.size, 2, none⟩) (by simp)).trans q2
        have y0' := (g2'.frozen (p := ⟨w.heap.size, 0, none⟩) (by simp)).trans y0
        have y1' := (g2'.frozen (p := ⟨w.heap.size, 1, none⟩) (by simp)).trans y1
        have y2' := (g2'.frozen (p := ⟨w.heap.size, 2, none⟩) (by simp)).trans y2
        cases bR with
        | true =>
          go_wp2_with fail
          go_roundw
          case rel => exact ⟨k + 1, by omega, by go_num, hg.trans g2', (show Hid _ from by unfold Hid; have := HS2.out; simpa using this)⟩
          case measure => simp [intOf] <;> omega
        | false =>
          have HS3 : Hid (wrL 5 512 (fun _ => rVer m) 0 m.vers = (5, k, 130)) := by have := HS2.out; unfold Hid; simpa using this
          go_wp2_with fail
          refine bodyPost_ret (v := fltV (5, k, 130)) (by simp [results, Tryd.results105, go_sem, fltV, q0', q1', q2']) rfl ⟨by rw [HS3.out], ?_⟩
          exact (((hgw.trans (g2'.mono (by omega))).setCell (by simp) _).setCell (by simp) _).setCell (by simp) _
    · have HF : Hid (wrL 5 512 (fun _ => rVer m) 0 m.vers = (0, 0, 0)) := by unfold Hid; rw [HE.out, List.drop_eq_nil_of_le (by omega)]; rfl
      go_wp2_with fail
      refine bodyPost_ret (v := fltV (0, 0, 0)) (by simp [results, Tryd.results105, go_sem, fltV, q0, q1, q2]) rfl ⟨by rw [HF.out], ?_⟩
      exact ((hgw.setCell (by simp) _).setCell (by simp) _).setCell (by simp) _

set_option maxRecDepth 100000 in
set_option maxHeartbeats 1000000 in
theorem wrDeep_any {Q : Nat → BP} (m : MdlD) (p : Ph) (H : Nat) (w : World) (h : MBox Q w m p H) (hT : Tab w) (hm : MdlOk m) (hU : UpOk m) :
    Calls Tryd.prog 105 #[.int .u8 5, .slice p.a4 m.vers.length p.c4, .int .i64 512, .func (.func 109) #[] #[.pointer (some ⟨H, 0, none⟩)]] w (FltR (wrL 5 512 (fun i _ => rDeep m i) 0 m.vers) w) := by
  have hl := hm.vers
  have H1 := Lib.hid h.mod.vers
  have HM := Lib.hid hm
  have HC := Lib.hid (fun wx (hb : Below w.heap.size w wx) => (⟨h.below hb, hT.next hb⟩ : MBox Q wx m p H ∧ Tab wx))
  have HS0 : Hid (∀ k (hk : k < m.vers.length), wrL 5 512 (fun i _ => rDeep m i) k (m.vers.drop k) = if k = 512 then (5, 512, 3) else if (fun i _ => rDeep m i) k m.vers[k] then wrL 5 512 (fun i _ => rDeep m i) (k + 1) (m.vers.drop (k + 1)) else (5, k, 130)) := fun k hk => wrL_drop hk
  have HX0 : Hid (∀ k (hk : k < m.vers.length), VerOk m.vers[k]) := fun k hk => hm.verx _ (List.getElem_mem hk)
  clear h hm hT
  go_enter Tryd.func105, Tryd.ntmps105
  go_wp2_with fail
  go_loopw [13] (fun i wr => ∃ k : Nat, k ≤ m.vers.length ∧ i = .int .i64 k ∧ Below (w.heap.size + 1) (w.alloc (.cells #[.int .u8 0, .int .i64 0, .int .i64 0] 98)) wr ∧ Hid (wrL 5 512 (fun i _ => rDeep m i) 0 m.vers = wrL 5 512 (fun i _ => rDeep m i) k (m.vers.drop k))) (fun i _ => m.vers.length - (intOf i).toNat)
  case atStart => exact ⟨0, by omega, rfl, Below.refl _ _, (show Hid _ from rfl)⟩
  case round =>
    obtain ⟨wo, rfl⟩ : ∃ wo : World, wo = wr := ⟨_, rfl⟩
    obtain ⟨k, hk, rfl, hg, HE⟩ := hrel
    have hgw : Below w.heap.size w wo := (below_al1 w _).trans (hg.mono (by omega))
    have hzo : w.heap.size + 1 ≤ wo.heap.size := by have := hg.size; simpa using this
    have hzo' : w.heap.size < wo.heap.size := hzo
    have q0 : wo.cell? ⟨w.heap.size, 0, none⟩ = some (.int .u8 0) := (hg.cell (p := ⟨w.heap.size, 0, none⟩) (by simp)).trans (by simp)
    have q1 : wo.cell? ⟨w.heap.size, 1, none⟩ = some (.int .i64 0) := (hg.cell (p := ⟨w.heap.size, 1, none⟩) (by simp)).trans (by simp)
    have q2 : wo.cell? ⟨w.heap.size, 2, none⟩ = some (.int .i64 0) := (hg.cell (p := ⟨w.heap.size, 2, none⟩) (by simp)).trans (by simp)
    have y0 : wo.frozen? ⟨w.heap.size, 0, none⟩ = false := (hg.frozen (p := ⟨w.heap.size, 0, none⟩) (by simp)).trans (by simp)
    have y1 : wo.frozen? ⟨w.heap.size, 1, none⟩ = false := (hg.frozen (p := ⟨w.heap.size, 1, none⟩) (by simp)).trans (by simp)
    have y2 : wo.frozen? ⟨w.heap.size, 2, none⟩ = false := (hg.frozen (p := ⟨w.heap.size, 2, none⟩) (by simp)).trans (by simp)
    by_cases hlt : k < m.vers.length
    · have hltI : (k : Int) < (m.vers.length : Int) := by omega
      have hi0 : (0 : Int) ≤ (k : Int) := by omega
      obtain ⟨b1, o1, ha1, hb1, dv, hsd, r0, r1, r2, r3, r4, r5, r6, r7⟩ := H1.out.get hlt
      have HS := Lib.hid (HS0.out k hlt)
      have HX := Lib.hid (HX0.out k hlt)
      generalize m.vers[k] = x at r0 r1 r2 r3 r4 r5 r6 r7 hsd HS HX
      obtain ⟨da, dc, rfl⟩ := hsd.len
      replace r0 := (hgw.cell (p := ⟨b1, o1 + k * 8, none⟩) hb1).trans r0
      replace r1 := (hgw.cell (p := ⟨b1, o1 + k * 8 + 1, none⟩) hb1).trans r1
      replace r2 := (hgw.cell (p := ⟨b1, o1 + k * 8 + 2, none⟩) hb1).trans r2
      replace r3 := (hgw.cell (p := ⟨b1, o1 + k * 8 + 3, none⟩) hb1).trans r3
      replace r4 := (hgw.cell (p := ⟨b1, o1 + k * 8 + 4, none⟩) hb1).trans r4
      replace r5 := (hgw.cell (p := ⟨b1, o1 + k * 8 + 5, none⟩) hb1).trans r5
      replace r6 := (hgw.cell (p := ⟨b1, o1 + k * 8 + 6, none⟩) hb1).trans r6
      replace r7 := (hgw.cell (p := ⟨b1, o1 + k * 8 + 7, none⟩) hb1).trans r7
      rw [ha1]
      have HA := Lib.hid ha1
      clear ha1
      by_cases h64 : k = 512
      · have HF : Hid (wrL 5 512 (fun i _ => rDeep m i) 0 m.vers = (5, 512, 3)) := by unfold Hid; rw [HE.out, HS.out, if_pos h64]
        subst h64
        go_wp2_with fail
        refine bodyPost_ret (v := fltV (5, 512, 3)) (by simp [results, Tryd.results105, go_sem, fltV, q0, q1, q2, hzo']) rfl ⟨by rw [HF.out], ?_⟩
        exact (((hgw.setCell (by simp) _).setCell (by simp) _).setCell (by simp) _).alloc (by simp; omega) _
      · have h64I : ((k : Int) == 512) = false := int_ne_lit (m := 512) h64
        have HS2 : Hid (wrL 5 512 (fun i _ => rDeep m i) 0 m.vers = if rDeep m k then wrL 5 512 (fun i _ => rDeep m i) (k + 1) (m.vers.drop (k + 1)) else (5, k, 130)) := by unfold Hid; rw [HE.out, HS.out, if_neg h64]
        have HD := Lib.hid (fun wx (hb : Below w.heap.size w wx) => deep1_any m p H k x da dc wx (HC.out wx hb).1 hU HM.out hlt)
        unfold verA at HD
        have hb0 : Below w.heap.size w (wo.alloc (.cells #[.string x.nm, .int .u8 x.kd, .int .i64 x.rg, .int .i64 x.ofv, .string x.en, .string x.ex, .slice da x.df.length dc, .string x.sb] 65)) := hgw.alloc (by omega) _
        generalize rDeep m k = bR at HS2 HD
        go_wp2_with fail
        refine (HD.out _ hb0).mono ?_
        rintro e w2 ⟨rfl, g2⟩
        have hzb : w.heap.size < ((wo.alloc (.cells #[.string x.nm, .int .u8 x.kd, .int .i64 x.rg, .int .i64 x.ofv, .string x.en, .string x.ex, .slice da x.df.length dc, .string x.sb] 65))).heap.size := by simp; omega
        have g2' : Below (w.heap.size + 1) wo w2 := ((Below.refl _ wo).alloc hzo _).trans (g2.mono (by simp; omega))
        have q0' := (g2'.cell (p := ⟨w.heap.size, 0, none⟩) (by simp)).trans q0
        have q1' := (g2'.cell (p := ⟨w.heap.size, 1, none⟩) (by simp)).trans q1
        have q2' := (g2'.cell (p := ⟨w.heap.size, 2, none⟩) (by simp)).trans q2
        have y0' := (g2'.frozen (p := ⟨w.heap.size, 0, none⟩) (by simp)).trans y0
        have y1' := (g2'.frozen (p := ⟨w.heap.size, 1, none⟩) (by simp)).trans y1
        have y2' := (g2'.frozen (p := ⟨w.heap.size, 2, none⟩) (by simp)).trans y2
        cases bR with
        | true =>
          go_wp2_with fail
          go_roundw
          case rel => exact ⟨k + 1, by omega, by go_num, hg.trans g2', (show Hid _ from by unfold Hid; have := HS2.out; simpa using this)⟩
          case measure => simp [intOf] <;> omega
        | false =>
          have HS3 : Hid (wrL 5 512 (fun i _ => rDeep m i) 0 m.vers = (5, k, 130)) := by have := HS2.out; unfold Hid; simpa using this
          go_wp2_with fail
          refine bodyPost_ret (v := fltV (5, k, 130)) (by simp [results, Tryd.results105, go_sem, fltV, q0', q1', q2']) rfl ⟨by rw [HS3.out], ?_⟩
          exact (((hgw.trans (g2'.mono (by omega))).setCell (by simp) _).setCell (by simp) _).setCell (by simp) _
    · have HF : Hid (wrL 5 512 (fun i _ => rDeep m i) 0 m.vers = (0, 0, 0)) := by unfold Hid; rw [HE.out, List.drop_eq_nil_of_le (by omega)]; rfl
      go_wp2_with fail
      refine bodyPost_ret (v := fltV (0, 0, 0)) (by simp [results, Tryd.results105, go_sem, fltV, q0, q1, q2]) rfl ⟨by rw [HF.out], ?_⟩
      exact ((hgw.setCell (by simp) _).setCell (by simp) _).setCell (by simp) _

set_option maxRecDepth 100000 in
set_option maxHeartbeats 1000000 in
theorem wrWay_any {Q : Nat → BP} (m : MdlD) (p : Ph) (H V : Nat) (w : World) (h : MBox Q w m p H) (hT : Tab w) (hm : MdlOk m) (hV : w.cell? ⟨V, 0, none⟩ = some (.func (.func 110) #[] #[.pointer (some ⟨H, 0, none⟩)])) (hVs : V < w.heap.size) :
    Calls Tryd.prog 111 #[.int .u8 6, .slice p.a5 m.trns.length p.c5, .int .i64 512, .func (.func 112) #[] #[.pointer (some ⟨V, 0, none⟩), .pointer (some ⟨H, 0, none⟩)]] w (FltR (wrL 6 512 (fun _ => rWay m) 0 m.trns) w) := by
  have hl := hm.trns
  have H1 := Lib.hid h.mod.trns
  have HM := Lib.hid hm
  have HC := Lib.hid (fun wx (hb : Below w.heap.size w wx) => (⟨h.below hb, hT.next hb⟩ : MBox Q wx m p H ∧ Tab wx))
  have HS0 : Hid (∀ k (hk : k < m.trns.length), wrL 6 512 (fun _ => rWay m) k (m.trns.drop k) = if k = 512 then (6, 512, 3) else if (fun _ => rWay m) k m.trns[k] then wrL 6 512 (fun _ => rWay m) (k + 1) (m.trns.drop (k + 1)) else (6, k, 130)) := fun k hk => wrL_drop hk
  have HX0 : Hid (∀ k (hk : k < m.trns.length), TrnOk m.trns[k]) := fun k hk => hm.trnx _ (List.getElem_mem hk)
  have HVV := Lib.hid (fun wx (hb : Below w.heap.size w wx) => (⟨(hb.cell (p := ⟨V, 0, none⟩) hVs).trans hV, Nat.lt_of_lt_of_le hVs hb.size⟩ : wx.cell? ⟨V, 0, none⟩ = some (.func (.func 110) #[] #[.pointer (some ⟨H, 0, none⟩)]) ∧ V < wx.heap.size))
  clear hV hVs
  clear h hm hT
  go_enter Tryd.func111, Tryd.ntmps111
  go_wp2_with fail
  go_loopw [13] (fun i wr => ∃ k : Nat, k ≤ m.trns.length ∧ i = .int .i64 k ∧ Below (w.heap.size + 1) (w.alloc (.cells #[.int .u8 0, .int .i64 0, .int .i64 0] 98)) wr ∧ Hid (wrL 6 512 (fun _ => rWay m) 0 m.trns = wrL 6 512 (fun _ => rWay m) k (m.trns.drop k))) (fun i _ => m.trns.length - (intOf i).toNat)
  case atStart => exact ⟨0, by omega, rfl, Below.refl _ _, (show Hid _ from rfl)⟩
  case round =>
    obtain ⟨wo, rfl⟩ : ∃ wo : World, wo = wr := ⟨_, rfl⟩
    obtain ⟨k, hk, rfl, hg, HE⟩ := hrel
    have hgw : Below w.heap.size w wo := (below_al1 w _).trans (hg.mono (by omega))
    have hzo : w.heap.size + 1 ≤ wo.heap.size := by have := hg.size; simpa using this
    have hzo' : w.heap.size < wo.heap.size := hzo
    have q0 : wo.cell? ⟨w.heap.size, 0, none⟩ = some (.int .u8 0) := (hg.cell (p := ⟨w.heap.size, 0, none⟩) (by simp)).trans (by simp)
    have q1 : wo.cell? ⟨w.heap.size, 1, none⟩ = some (.int .i64 0) := (hg.cell (p := ⟨w.heap.size, 1, none⟩) (by simp)).trans (by simp)
    have q2 : wo.cell? ⟨w.heap.size, 2, none⟩ = some (.int .i64 0) := (hg.cell (p := ⟨w.heap.size, 2, none⟩) (by simp)).trans (by simp)
    have y0 : wo.frozen? ⟨w.heap.size, 0, none⟩ = false := (hg.frozen (p := ⟨w.heap.size, 0, none⟩) (by simp)).trans (by simp)
    have y1 : wo.frozen? ⟨w.heap.size, 1, none⟩ = false := (hg.frozen (p := ⟨w.heap.size, 1, none⟩) (by simp)).trans (by simp)
    have y2 : wo.frozen? ⟨w.heap.size, 2, none⟩ = false := (hg.frozen (p := ⟨w.heap.size, 2, none⟩) (by simp)).trans (by simp)
    by_cases hlt : k < m.trns.length
    · have hltI : (k : Int) < (m.trns.length : Int) := by omega
      have hi0 : (0 : Int) ≤ (k : Int) := by omega
      obtain ⟨b1, o1, ha1, hb1, dv, hsd, r0, r1, r2, r3, r4, r5, r6, r7⟩ := H1.out.get hlt
      have HS := Lib.hid (HS0.out k hlt)
      have HX := Lib.hid (HX0.out k hlt)
      generalize m.trns[k] = x at r0 r1 r2 r3 r4 r5 r6 r7 hsd HS HX
      obtain ⟨da, dc, rfl⟩ := hsd.len
      replace r0 := (hgw.cell (p := ⟨b1, o1 + k * 8, none⟩) hb1).trans r0
      replace r1 := (hgw.cell (p := ⟨b1, o1 + k * 8 + 1, none⟩) hb1).trans r1
      replace r2 := (hgw.cell (p := ⟨b1, o1 + k * 8 + 2, none⟩) hb1).trans r2
      replace r3 := (hgw.cell (p := ⟨b1, o1 + k * 8 + 3, none⟩) hb1).trans r3
      replace r4 := (hgw.cell (p := ⟨b1, o1 + k * 8 + 4, none⟩) hb1).trans r4
      replace r5 := (hgw.cell (p := ⟨b1, o1 + k * 8 + 5, none⟩) hb1).trans r5
      replace r6 := (hgw.cell (p := ⟨b1, o1 + k * 8 + 6, none⟩) hb1).trans r6
      replace r7 := (hgw.cell (p := ⟨b1, o1 + k * 8 + 7, none⟩) hb1).trans r7
      rw [ha1]
      have HA := Lib.hid ha1
      clear ha1
      by_cases h64 : k = 512
      · have HF : Hid (wrL 6 512 (fun _ => rWay m) 0 m.trns = (6, 512, 3)) := by unfold Hid; rw [HE.out, HS.out, if_pos h64]
        subst h64
        go_wp2_with fail
        refine bodyPost_ret (v := fltV (6, 512, 3)) (by simp [results, Tryd.results111, go_sem, fltV, q0, q1, q2, hzo']) rfl ⟨by rw [HF.out], ?_⟩
        exact (((hgw.setCell (by simp) _).setCell (by simp) _).setCell (by simp) _).alloc (by simp; omega) _
      · have h64I : ((k : Int) == 512) = false := int_ne_lit (m := 512) h64
        have HS2 : Hid (wrL 6 512 (fun _ => rWay m) 0 m.trns = if rWay m x then wrL 6 512 (fun _ => rWay m) (k + 1) (m.trns.drop (k + 1)) else (6, k, 130)) := by unfold Hid; rw [HE.out, HS.out, if_neg h64]
        have HD := Lib.hid (fun wx (hb : Below w.heap.size w wx) => ways2_any m p H V k x da dc wx (HC.out wx hb).1 (HC.out wx hb).2 HM.out HX.out (hsd.kept (Kept.of_below hb)) (HVV.out wx hb).1 (HVV.out wx hb).2)
        unfold trnA at HD
        have hb0 : Below w.heap.size w (wo.alloc (.cells #[.string x.nm, .int .i64 x.src, .int .i64 x.tgt, .slice da x.tr.length dc, .int .i64 x.af, .string x.gd, .string x.ef, .int .u8 x.kd] 46)) := hgw.alloc (by omega) _
        generalize rWay m x = bR at HS2 HD
        go_wp2_with fail
        refine (HD.out _ hb0).mono ?_
        rintro e w2 ⟨rfl, g2⟩
        have hzb : w.heap.size < ((wo.alloc (.cells #[.string x.nm, .int .i64 x.src, .int .i64 x.tgt, .slice da x.tr.length dc, .int .i64 x.af, .string x.gd, .string x.ef, .int .u8 x.kd] 46))).heap.size := by simp; omega
        have g2' : Below (w.heap.size + 1) wo w2 := ((Below.refl _ wo).alloc hzo _).trans (g2.mono (by simp; omega))
        have q0' := (g2'.cell (p := ⟨w.heap.size, 0, none⟩) (by simp)).trans q0
        have q1' := (g2'.cell (p := ⟨w.heap.size, 1, none⟩) (by simp)).trans q1
        have q2' := (g2'.cell (p := ⟨w.heap.size, 2, none⟩) (by simp)).trans q2
        have y0' := (g2'.frozen (p := ⟨w.heap.size, 0, none⟩) (by simp)).trans y0
        have y1' := (g2'.frozen (p := ⟨w.heap.size, 1, none⟩) (by simp)).trans y1
        have y2' := (g2'.frozen (p := ⟨w.heap.size, 2, none⟩) (by simp)).trans y2
        cases bR with
        | true =>
          go_wp2_with fail
          go_roundw
          case rel => exact ⟨k + 1, by omega, by go_num, hg.trans g2', (show Hid _ from by unfold Hid; have := HS2.out; simpa using this)⟩
          case measure => simp [intOf] <;> omega
        | false =>
          have HS3 : Hid (wrL 6 512 (fun _ => rWay m) 0 m.trns = (6, k, 130)) := by have := HS2.out; unfold Hid; simpa using this
          go_wp2_with fail
          refine bodyPost_ret (v := fltV (6, k, 130)) (by simp [results, Tryd.results111, go_sem, fltV, q0', q1', q2']) rfl ⟨by rw [HS3.out], ?_⟩
          exact (((hgw.trans (g2'.mono (by omega))).setCell (by simp) _).setCell (by simp) _).setCell (by simp) _
    · have HF : Hid (wrL 6 512 (fun _ => rWay m) 0 m.trns = (0, 0, 0)) := by unfold Hid; rw [HE.out, List.drop_eq_nil_of_le (by omega)]; rfl
      go_wp2_with fail
      refine bodyPost_ret (v := fltV (0, 0, 0)) (by simp [results, Tryd.results111, go_sem, fltV, q0, q1, q2]) rfl ⟨by rw [HF.out], ?_⟩
      exact ((hgw.setCell (by simp) _).setCell (by simp) _).setCell (by simp) _
end Go.Proofs
