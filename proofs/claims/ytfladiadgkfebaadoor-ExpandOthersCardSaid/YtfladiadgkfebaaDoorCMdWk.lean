/- 'works' of the model's laws: the statement with three copies, by an invariant. No walk yet. -/
import Derived.Test.YtfladiadgkfebaaDoorCGen
import Derived.Test.YtfladiadgkfebaaDoorCMdRSm
import Derived.Test.YtfladiadgkfebaaDoorCMdRf
namespace Go.Proofs
open Go.RowKit Go.Lx Go.Md
set_option linter.unusedVariables false

theorem Mod.kept7 {Q:Nat→BP} {w w':World} {m:MdlD} {p:Ph} (h:Mod Q w m p) (hk:∀ j,j<7→Kept (Q j) w w'):Mod Q w' m p :=
 ⟨h.vars.kept (VarE.mono (R:=Q 0)) (hk 0 (by decide)) (hk 0 (by decide)),h.evs.kept (hk 1 (by decide)),h.regs.kept (RegE.mono (R:=Q 2)) (hk 2 (by decide)) (hk 2 (by decide)),h.vers.kept VerE.mono (hk 3 (by decide)) (hk 5 (by decide)),h.trns.kept TrnE.mono (hk 4 (by decide)) (hk 6 (by decide))⟩
structure CpyW (N:Nat) (w:World) (p:Ph) (q:Nat→Nat):Prop where
 mod:Mod (Lay q) w smallM p
 mono:∀ j,q j≤q (j+1)
 lo:N≤q 0
 hi:q 7≤w.heap.size
def Out (B:Nat) (q:Nat→Nat):Prop:=B<q 0∨q 7≤B
def BoxE (w:World) (B:Nat):Prop:=∃ v0 v1 v2 v3 v4 v5,Box w B v0 v1 v2 v3 v4 v5
structure BoxN (N:Nat) (w:World) (u:Value) (B:Nat):Prop where
 ptr:u=.pointer (some ⟨B,0,none⟩)
 lo:N≤B
 hi:B<w.heap.size
 has:BoxE w B
theorem q_le {q:Nat→Nat} (h:∀ j,q j≤q (j+1)) {i j:Nat} (hij:i≤j):q i≤q j:=by
 induction j with
 | zero =>
  have:i=0:=by omega
  rw [this];exact Nat.le_refl _
 | succ j ih =>
  by_cases e:i=j+1
  · rw [e];exact Nat.le_refl _
  · exact Nat.le_trans (ih (by omega)) (h j)
theorem CpyW.below {N:Nat} {w w':World} {p:Ph} {q:Nat→Nat} (h:CpyW N w p q) (hb:Below w.heap.size w w'):CpyW N w' p q:=⟨h.mod.below hb,h.mono,h.lo,Nat.le_trans h.hi hb.size⟩
theorem CpyW.far {N:Nat} {w w':World} {p:Ph} {q:Nat→Nat} {B:Nat} (h:CpyW N w p q) (hs:w.heap.size≤w'.heap.size) (hk:∀ b,b≠B→b<w.heap.size→w'.heap[b]? = w.heap[b]?) (hb:Out B q):CpyW N w' p q:=by
 refine ⟨h.mod.kept7 fun j hj=>⟨hs,fun b h1 hQ=>hk b (fun e=>?_) h1⟩,h.mono,h.lo,Nat.le_trans h.hi hs⟩
 have l1:=hQ.1
 have l2:=hQ.2.1
 have l3:=q_le h.mono (Nat.zero_le j)
 have l4:=q_le h.mono (show j+1≤7 by omega)
 rcases hb with hb | hb <;> omega
theorem BoxN.below {N:Nat} {w w':World} {u:Value} {B:Nat} (h:BoxN N w u B) (hb:Below w.heap.size w w'):BoxN N w' u B:=by
 obtain ⟨v0,v1,v2,v3,v4,v5,hx⟩:=h.has
 exact ⟨h.ptr,h.lo,Nat.lt_of_lt_of_le h.hi hb.size,⟨v0,v1,v2,v3,v4,v5,hx.below hb h.hi⟩⟩
theorem BoxE.any {w w':World} {B:Nat} (h:BoxE w B) (hb:w'.heap[B]? = w.heap[B]?):BoxE w' B:=by
 obtain ⟨v0,v1,v2,v3,v4,v5,hx⟩:=h
 exact ⟨v0,v1,v2,v3,v4,v5,hx.any hb⟩
theorem BoxN.far {N:Nat} {w w':World} {u:Value} {B B':Nat} (h:BoxN N w u B) (hs:w.heap.size≤w'.heap.size) (hk:∀ b,b≠B'→b<w.heap.size→w'.heap[b]? = w.heap[b]?) (hb:B≠B'):BoxN N w' u B :=
 ⟨h.ptr,h.lo,Nat.lt_of_lt_of_le h.hi hs,h.has.any (hk B hb h.hi)⟩
end Go.Proofs
