/- A model in its box; rows of numbers: helpers. No walk. -/
import Derived.Test.YtpihnjfomkiodaaGreatDoorCHiP
import Derived.Test.YtpihnjfomkiodaaGreatDoorCIxY
import Derived.Test.YtpihnjfomkiodaaGreatDoorCMdTU
import Derived.Test.YtpihnjfomkiodaaGreatDoorCMdJ
import Derived.Maps.AppendAt
namespace Go.Proofs
open Go.RowKit Go.Lx Go.Md Go.Shelf Go.BigFrame
set_option linter.unusedVariables false
/-- A model's box, of whatever type. -/
theorem boxT (w : World) (m : MdlD) (p : Ph) (T : TypeId) : Box (w.alloc (.cells #[.string m.nm, .slice p.a1 m.vars.length p.c1, .slice p.a2 m.evs.length p.c2, .slice p.a3 m.regs.length p.c3, .slice p.a4 m.vers.length p.c4, .slice p.a5 m.trns.length p.c5] T)) w.heap.size (.string m.nm) (.slice p.a1 m.vars.length p.c1) (.slice p.a2 m.evs.length p.c2) (.slice p.a3 m.regs.length p.c3) (.slice p.a4 m.vers.length p.c4) (.slice p.a5 m.trns.length p.c5) := by
  constructor <;> simp
/-- A model that came in, in its box at H. -/
structure Mb (m : MdlD) (p : Ph) (H : Nat) (w wx : World) : Prop where
  bel : Below w.heap.size w wx
  mod : Mod (fun _ => OldB w.heap.size) wx m p
  box : Box wx H (.string m.nm) (.slice p.a1 m.vars.length p.c1) (.slice p.a2 m.evs.length p.c2) (.slice p.a3 m.regs.length p.c3) (.slice p.a4 m.vers.length p.c4) (.slice p.a5 m.trns.length p.c5)
theorem Mb.below {m : MdlD} {p : Ph} {H : Nat} {w wx wy : World} (h : Mb m p H w wx) (g : Below wx.heap.size wx wy) : Mb m p H w wy := ⟨h.bel.trans (g.mono h.bel.size), h.mod.below g, h.box.below g h.box.sl⟩
theorem Mb.made {Q : Nat → BP} {m : MdlD} {p : Ph} {w : World} (h : Mod Q w m p) : Mb m p w.heap.size w (w.alloc (.cells #[.string m.nm, .slice p.a1 m.vars.length p.c1, .slice p.a2 m.evs.length p.c2, .slice p.a3 m.regs.length p.c3, .slice p.a4 m.vers.length p.c4, .slice p.a5 m.trns.length p.c5] 28)) :=
  ⟨below_al1 w _, (h.weaken fun _ _ h _ => h).below (below_al1 w _), box6 w m p⟩
/-- Its array is the old one, or a new one. -/
def Nxt (v v' : Value) (n : Nat) : Prop := v'.ownBlock = v.ownBlock ∨ ∀ g, v'.ownBlock = some g → n ≤ g
theorem Nxt.refl (v : Value) (n : Nat) : Nxt v v n := .inl rfl
theorem Nxt.trans {a b c : Value} {n n' : Nat} (h : Nxt a b n) (k : Nxt b c n') (hn : n ≤ n') : Nxt a c n := by
  rcases k with k | k
  · rcases h with h | h
    · exact .inl (k.trans h)
    · exact .inr fun g hg => h g (by rw [← k]; exact hg)
  · exact .inr fun g hg => Nat.le_trans hn (k g hg)
theorem Mb.set {m : MdlD} {p : Ph} {H g k : Nat} {w wx : World} (h : Mb m p H w wx) (hg : H < g) (hH : w.heap.size ≤ H) (u : Value) : Mb m p H w (wx.setCell ⟨g, k, none⟩ u) :=
  ⟨h.bel.setCell (p := ⟨g, k, none⟩) (by simp only; omega) u, h.mod.kept fun j => Kept.setCell fun o ho => by have : g < w.heap.size := ho; omega, h.box.far u (by simp only; omega)⟩
theorem ownsRow_slice {N T n : Nat} {w : World} {v : Value} {xs : List Value} (h : w.ownsRow N T 1 v n xs) : ∃ a c, v = .slice a n c := by
  rcases h.2 with ⟨e, h0⟩ | ⟨g, cap, _, e, _⟩
  · exact ⟨none, 0, by rw [e, h0]⟩
  · exact ⟨_, _, e⟩
end Go.Proofs

/- Rows of numbers: a row put behind a row. -/
namespace Go.Proofs
open Go.RowKit Go.Lx Go.Md Go.Shelf
set_option linter.unusedVariables false
section
variable {P : Program}
end
end Go.Proofs
