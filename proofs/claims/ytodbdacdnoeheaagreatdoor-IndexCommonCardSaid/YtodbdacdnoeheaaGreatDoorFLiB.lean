/- Walks: the law 'IndexTells'. -/
import Derived.Test.YtodbdacdnoeheaaGreatDoorFLiA
namespace Go.Proofs
open Go.RowKit Go.Lx Go.Md Go.Shelf Go.BigFrame Go.Rgi
set_option linter.unusedVariables false
/-- An index, and the reference's in its box. -/
structure Tl (m : MdlD) (pr : Ph) (IB H : Nat) (w wx : World) : Prop where
  bel : Below w.heap.size w wx
  idx : IdxAt w.heap.size m IB wx
  mod : Mod anyM wx m pr
  box : Box wx H (.string m.nm) (.slice pr.a1 m.vars.length pr.c1) (.slice pr.a2 m.evs.length pr.c2) (.slice pr.a3 m.regs.length pr.c3) (.slice pr.a4 m.vers.length pr.c4) (.slice pr.a5 m.trns.length pr.c5)
theorem Tl.below {m : MdlD} {pr : Ph} {IB H : Nat} {w wx wy : World} (h : Tl m pr IB H w wx) (g : Below wx.heap.size wx wy) : Tl m pr IB H w wy :=
  ⟨h.bel.trans (g.mono h.bel.size), h.idx.grown g, h.mod.below g, h.box.below g h.box.sl⟩
section
variable {m : MdlD} {pr : Ph} {IB H : Nat} {w wx : World} {f : Nat} {args : Array Value} {u u' : Value}
end
end Go.Proofs

