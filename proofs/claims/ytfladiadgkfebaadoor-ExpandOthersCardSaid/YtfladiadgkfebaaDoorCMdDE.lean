/- Walks: the program's 'Same'. -/
import Derived.Test.YtfladiadgkfebaaDoorCMdC
import Derived.Deep.RegionHeld3
namespace Go.Proofs
open Go.RowKit Go.Lx Go.Md Go.Shelf

set_option maxRecDepth 100000 in
set_option maxHeartbeats 2000000 in
theorem same_any {Q Q':Nat→BP} (m n:MdlD) (p q:Ph) (w:World) (h1:Mod Q w m p) (h2:Mod Q' w n q) (hm:MdlOk m) :
   Calls Tryd.prog 9 #[mdV m p,mdV n q] w fun e w'=>e=.returned (.bool (sameM m n))∧Below w.heap.size w w':=by
 unfold mdV
 have HV:=Lib.hid (fun wx (hb:Below w.heap.size w wx)=>slEq_66 p.a1 q.a1 p.c1 q.c1 m.vars n.vars wx (h1.vars.kept (VarE.mono (R:=Q 0)) (Kept.of_below hb) (Kept.of_below hb)) (h2.vars.kept (VarE.mono (R:=Q' 0)) (Kept.of_below hb) (Kept.of_below hb)) hm.vars)
 have HE:=Lib.hid (fun wx (hb:Below w.heap.size w wx)=>slEqS_any p.a2 q.a2 p.c2 q.c2 m.evs n.evs wx (h1.evs.kept (Kept.of_below hb)) (h2.evs.kept (Kept.of_below hb)) hm.evs)
 have HR:=Lib.hid (fun wx (hb:Below w.heap.size w wx)=>slEq_46 p.a3 q.a3 p.c3 q.c3 m.regs n.regs wx (h1.regs.kept (RegE.mono (R:=Q 0)) (Kept.of_below hb) (Kept.of_below hb)) (h2.regs.kept (RegE.mono (R:=Q' 0)) (Kept.of_below hb) (Kept.of_below hb)) hm.regs)
 have HX:=Lib.hid (fun wx (hb:Below w.heap.size w wx)=>eqfVer p.a4 q.a4 p.c4 q.c4 m.vers n.vers wx (h1.vers.kept VerE.mono (Kept.of_below hb) (Kept.of_below hb)) (h2.vers.kept VerE.mono (Kept.of_below hb) (Kept.of_below hb)) hm.vers (fun x hx=>(hm.verx x hx).df))
 have HT:=Lib.hid (fun wx (hb:Below w.heap.size w wx)=>eqfTrn p.a5 q.a5 p.c5 q.c5 m.trns n.trns wx (h1.trns.kept TrnE.mono (Kept.of_below hb) (Kept.of_below hb)) (h2.trns.kept TrnE.mono (Kept.of_below hb) (Kept.of_below hb)) hm.trns (fun x hx=>(hm.trnx x hx).tr))
 have HS:Hid (sameM m n=(eqS m.nm n.nm && eqL eqVar m.vars n.vars && eqL eqS m.evs n.evs && eqL eqReg m.regs n.regs && eqL eqVer m.vers n.vers && eqL eqTrn m.trns n.trns)):=by unfold Hid;rfl
 have HF:Hid (∀ wx,Below ((w.alloc (.cells #[.string m.nm,.slice p.a1 m.vars.length p.c1,.slice p.a2 m.evs.length p.c2,.slice p.a3 m.regs.length p.c3,.slice p.a4 m.vers.length p.c4,.slice p.a5 m.trns.length p.c5] 31)).alloc (.cells #[.string n.nm,.slice q.a1 n.vars.length q.c1,.slice q.a2 n.evs.length q.c2,.slice q.a3 n.regs.length q.c3,.slice q.a4 n.vers.length q.c4,.slice q.a5 n.trns.length q.c5] 31)).heap.size ((w.alloc (.cells #[.string m.nm,.slice p.a1 m.vars.length p.c1,.slice p.a2 m.evs.length p.c2,.slice p.a3 m.regs.length p.c3,.slice p.a4 m.vers.length p.c4,.slice p.a5 m.trns.length p.c5] 31)).alloc (.cells #[.string n.nm,.slice q.a1 n.vars.length q.c1,.slice q.a2 n.evs.length q.c2,.slice q.a3 n.regs.length q.c3,.slice q.a4 n.vers.length q.c4,.slice q.a5 n.trns.length q.c5] 31)) wx→wx.cell? ⟨w.heap.size,0,none⟩=some (.string m.nm)∧wx.cell? ⟨w.heap.size+1,0,none⟩=some (.string n.nm)∧wx.cell? ⟨w.heap.size,1,none⟩=some (.slice p.a1 m.vars.length p.c1)∧wx.cell? ⟨w.heap.size+1,1,none⟩=some (.slice q.a1 n.vars.length q.c1)∧wx.cell? ⟨w.heap.size,2,none⟩=some (.slice p.a2 m.evs.length p.c2)∧wx.cell? ⟨w.heap.size+1,2,none⟩=some (.slice q.a2 n.evs.length q.c2)∧wx.cell? ⟨w.heap.size,3,none⟩=some (.slice p.a3 m.regs.length p.c3)∧wx.cell? ⟨w.heap.size+1,3,none⟩=some (.slice q.a3 n.regs.length q.c3)∧wx.cell? ⟨w.heap.size,4,none⟩=some (.slice p.a4 m.vers.length p.c4)∧wx.cell? ⟨w.heap.size+1,4,none⟩=some (.slice q.a4 n.vers.length q.c4)∧wx.cell? ⟨w.heap.size,5,none⟩=some (.slice p.a5 m.trns.length p.c5)∧wx.cell? ⟨w.heap.size+1,5,none⟩=some (.slice q.a5 n.trns.length q.c5)):=by
   intro wx G
   exact ⟨box2_0 G (by simp),box2_1 G (by simp),box2_0 G (by simp),box2_1 G (by simp),box2_0 G (by simp),box2_1 G (by simp),box2_0 G (by simp),box2_1 G (by simp),box2_0 G (by simp),box2_1 G (by simp),box2_0 G (by simp),box2_1 G (by simp)⟩
 generalize eqL eqVar m.vars n.vars=bV at HV HS
 generalize eqL eqS m.evs n.evs=bE at HE HS
 generalize eqL eqReg m.regs n.regs=bR at HR HS
 generalize eqL eqVer m.vers n.vers=bX at HX HS
 generalize eqL eqTrn m.trns n.trns=bT at HT HS
 generalize sameM m n=R at HS ⊢
 simp only [eqS] at HS
 clear h1 h2 hm
 go_enter Tryd.func9,Tryd.ntmps9
 go_wp2_with (first
   | (go_at_call 26;refine (HV.out _ (((Below.refl _ w).alloc (Nat.le_refl _) _).alloc (by simp) _)).mono ?_;rintro e w3 ⟨rfl,G3⟩;obtain ⟨p0,q0,p1,q1,p2,q2,p3,q3,p4,q4,p5,q5⟩:=HF.out _ G3)
   | (go_at_call 24;refine (HE.out _ (below_box2 G3)).mono ?_;rintro e w4 ⟨rfl,g4⟩;have G4:=G3.trans (g4.mono G3.size);obtain ⟨p0,q0,p1,q1,p2,q2,p3,q3,p4,q4,p5,q5⟩:=HF.out _ G4)
   | (go_at_call 27;refine (HR.out _ (below_box2 G4)).mono ?_;rintro e w5 ⟨rfl,g5⟩;have G5:=G4.trans (g5.mono G4.size);obtain ⟨p0,q0,p1,q1,p2,q2,p3,q3,p4,q4,p5,q5⟩:=HF.out _ G5)
   | (go_at_call 28;refine (HX.out _ (below_box2 G5)).mono ?_;rintro e w6 ⟨rfl,g6⟩;have G6:=G5.trans (g6.mono G5.size);obtain ⟨p0,q0,p1,q1,p2,q2,p3,q3,p4,q4,p5,q5⟩:=HF.out _ G6)
   | (go_at_call 29;refine (HT.out _ (below_box2 G6)).mono ?_;rintro e w7 ⟨rfl,g7⟩;have G7:=G6.trans (g7.mono G6.size)))
 all_goals
   go_ret
   refine ⟨ret_bool ?_,?_⟩
   · rw [HS.out]
     simp_all
   · first
     | exact below_box2 G7
     | exact below_box2 G6
     | exact below_box2 G5
     | exact below_box2 G4
     | exact below_box2 G3
     | exact (((Below.refl _ w).alloc (Nat.le_refl _) _).alloc (by simp) _)
end Go.Proofs


namespace Go.Proofs
open Go.RowKit Go.Lx Go.Md Go.Shelf

end Go.Proofs
