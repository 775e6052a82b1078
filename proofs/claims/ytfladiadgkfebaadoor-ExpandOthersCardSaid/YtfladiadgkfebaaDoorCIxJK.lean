/- Walks: Orthogonal. -/
import Derived.Test.YtfladiadgkfebaaDoorCIxGI
namespace Go.Proofs
open Go.RowKit Go.Lx Go.Md Go.Shelf Go.Rfu Go.Rgi Go.BigFrame
set_option linter.unusedVariables false
attribute [local go_sem] Oper.semAt_some
end Go.Proofs


namespace Go.Proofs
open Go.RowKit Go.Lx Go.Md Go.Shelf Go.Rfu Go.Rgi Go.BigFrame
set_option linter.unusedVariables false
attribute [local go_sem] Oper.semAt_some
def RowIn (w:World) (v:Value) (l:List Int):Prop:=(∃ a c,v=.slice a 0 c∧l=[])∨∃ b off c,v=.slice (some ⟨b,off,none⟩) l.length c∧l.length≤c∧b<w.heap.size∧∀ j u,(nums l)[j]? = some u→w.cell? ((⟨b,off,none⟩:Addr).add j)=some u
structure CmSt (IB:Nat) (b:Int) (l:List Int) (w W:World) (B9:Nat):Prop where
 bel:Below w.heap.size w W
 c4:W.cell? ⟨w.heap.size,0,none⟩=some (.pointer (some ⟨IB,0,none⟩))
 c8:W.cell? ⟨w.heap.size+1,0,none⟩=some (.int .i64 0)
 f8:W.frozen? ⟨w.heap.size+1,0,none⟩=false
 lo:w.heap.size+1+1≤B9
 row:∃ v9,W.cell? ⟨B9,0,none⟩=some v9∧W.ownsRow (w.heap.size+1+1) 3 1 v9 (b :: l).length (nums (b :: l))
theorem CmSt.made {IB:Nat} {b:Int} {l:List Int} {w w3 w1:World} {o:Obj} {v9:Value} (hB:Below w.heap.size w w3) (c4:w3.cell? ⟨w.heap.size,0,none⟩=some (.pointer (some ⟨IB,0,none⟩))) (c8:w3.cell? ⟨w.heap.size+1,0,none⟩=some (.int .i64 0)) (f8:w3.frozen? ⟨w.heap.size+1,0,none⟩=false) (hz:w3.heap.size=w.heap.size+1+1)
   (hg:(w3.alloc o).grownBy w1 (some w3.heap.size)) (ho:w1.ownsRow (w.heap.size+1+1) 3 1 v9 (b :: l).length (nums (b :: l))):CmSt IB b l w (w1.alloc (.cells #[v9] 83)) w1.heap.size:=by
 have h1:Below w3.heap.size w3 w1:=((Below.refl _ w3).alloc (Nat.le_refl _) o).grown hg (by simp) (fun k e=>by injection e with e;omega)
 have h2:Below w3.heap.size w3 (w1.alloc (.cells #[v9] 83)):=h1.alloc h1.size _
 exact ⟨hB.trans (h2.mono hB.size),(h2.cell (p:=⟨w.heap.size,0,none⟩) (by simp only;omega)).trans c4,(h2.cell (p:=⟨w.heap.size+1,0,none⟩) (by simp only;omega)).trans c8,(h2.frozen (p:=⟨w.heap.size+1,0,none⟩) (by simp only;omega)).trans f8,by have:=h1.size;omega,v9,by simp,ho.alloc _⟩
end Go.Proofs
