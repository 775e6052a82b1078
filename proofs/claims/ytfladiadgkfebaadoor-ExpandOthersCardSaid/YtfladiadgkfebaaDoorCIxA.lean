/- 'index.New': what holds while its blocks are laid, in whatever order. No walk yet. -/
import Derived.Test.YtfladiadgkfebaaDoorCMdWk
import Derived.Test.YtfladiadgkfebaaDoorCIxP
import Derived.Laws.MakeOwn
namespace Go.Proofs
open Go.RowKit Go.Lx Go.Md
set_option linter.unusedVariables false
structure Bk (N:Nat) (w:World) (u val:Value) (B:Nat) (ob:Obj):Prop where
 is:u=val
 lo:N≤B
 hi:B<w.heap.size
 ob:w.heap[B]? = some ob
theorem Bk.below {N:Nat} {w w':World} {u val:Value} {B:Nat} {ob:Obj} (h:Bk N w u val B ob) (g:Below w.heap.size w w'):Bk N w' u val B ob:=⟨h.is,h.lo,Nat.lt_of_lt_of_le h.hi g.size,(g.block B h.hi).trans h.ob⟩
theorem Bk.far {N:Nat} {w w':World} {u val:Value} {B B':Nat} {ob:Obj} (h:Bk N w u val B ob) (hs:w.heap.size≤w'.heap.size) (hk:∀ b,b≠B'→b<w.heap.size→w'.heap[b]? = w.heap[b]?) (hb:B≠B'):Bk N w' u val B ob:=⟨h.is,h.lo,Nat.lt_of_lt_of_le h.hi hs,(hk B hb h.hi).trans h.ob⟩
theorem Bk.new (N:Nat) (w:World) (val:Value) (ob:Obj) (h:N≤w.heap.size):Bk N (w.alloc ob) val val w.heap.size ob:=⟨rfl,h,by simp,alloc1_at w ob⟩
end Go.Proofs
