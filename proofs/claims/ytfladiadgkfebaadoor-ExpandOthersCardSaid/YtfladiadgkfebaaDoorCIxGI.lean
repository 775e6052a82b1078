/- What the index tells: plain. No program is in sight. -/
import Derived.Test.YtfladiadgkfebaaDoorCIxSE
import Derived.Deep.Onto
import Derived.Laws.OwnMore
import Derived.Maps.AppendAt
import Derived.RangeFuncBox
import Derived.BigRegion
import Derived.Deep.QuietTactic
import Derived.BigQuiet
namespace Go.Md
open Go.RowKit Go.Lx Go.Proofs
set_option linter.unusedVariables false

def upsM (m:MdlD) (v:Int):List Int:=upL m 66 v
end Go.Md


namespace Go.Proofs
open Go.RowKit Go.Lx Go.Md Go.Shelf Go.Rfu
set_option linter.unusedVariables false
def RowP (l:List Int) (w:World) (e:Ending) (w':World):Prop:=∃ v',e=.returned v'∧w'.ownsRow w.heap.size 3 1 v' l.length (nums l)∧Below w.heap.size w w'
section
variable {B:Nat} {m:MdlD} {IB:Nat} {w:World}
end
end Go.Proofs


namespace Go.Proofs
open Go.RowKit Go.Lx Go.Md Go.Shelf Go.Rfu
set_option linter.unusedVariables false
attribute [local go_sem] Oper.semAt_some

structure Rd (X:Nat→Prop) (w W:World):Prop where
 os:W.os=w.os
 tape:W.tape=w.tape
 output:W.output=w.output
 size:w.heap.size≤W.heap.size
 blk:∀ b,b<w.heap.size→¬ X b→W.heap[b]? = w.heap[b]?
 frz:∀ b,b<w.heap.size→X b→W.frozen? ⟨b,0,none⟩=w.frozen? ⟨b,0,none⟩
theorem Rd.refl (X:Nat→Prop) (w:World):Rd X w w:=⟨rfl,rfl,rfl,Nat.le_refl _,fun _ _ _=>rfl,fun _ _ _=>rfl⟩
theorem Rd.of_below {X:Nat→Prop} {w W:World} (h:Below w.heap.size w W):Rd X w W:=⟨h.os,h.tape,h.output,h.size,fun b hb _=>h.block b hb,fun b hb _=>h.frozen (p:=⟨b,0,none⟩) hb⟩
theorem Rd.trans {X:Nat→Prop} {a b c:World} (h:Rd X a b) (k:Rd X b c):Rd X a c :=
 ⟨k.os.trans h.os,k.tape.trans h.tape,k.output.trans h.output,Nat.le_trans h.size k.size,fun i hi hx=>(k.blk i (Nat.lt_of_lt_of_le hi h.size) hx).trans (h.blk i hi hx),fun i hi hx=>(k.frz i (Nat.lt_of_lt_of_le hi h.size) hx).trans (h.frz i hi hx)⟩
theorem Rd.weaken {X Y:Nat→Prop} {a b:World} (h:Rd X a b) (hxy:∀ i,X i→Y i):Rd Y a b :=
 ⟨h.os,h.tape,h.output,h.size,fun i hi hx=>h.blk i hi fun hx'=>hx (hxy i hx'),fun i hi _=>by
   by_cases hx:X i
   · exact h.frz i hi hx
   · exact World.frozen?_of_block (w:=a) (h.blk i hi hx)⟩
theorem Rd.below {X:Nat→Prop} {w W:World} (h:Rd X w W) {B:Nat} (hB:B≤w.heap.size) (hx:∀ b,X b→B≤b):Below B w W :=
 ⟨h.os,h.tape,h.output,h.size,fun b hb=>h.blk b (Nat.lt_of_lt_of_le hb hB) fun h'=>by have:=hx b h';omega⟩
theorem Rd.set {X:Nat→Prop} {w W:World} (h:Rd X w W) {b k:Nat} (hX:X b∨w.heap.size≤b) (u:Value):Rd X w (W.setCell ⟨b,k,none⟩ u) :=
 ⟨h.os,h.tape,h.output,by simpa using h.size,fun i hi hx=>(Below.heap_setCell W ⟨b,k,none⟩ u i (fun e=>by
     rcases hX with hX | hX
     · exact hx (by simp only at e;rw [e];exact hX)
     · simp only at e;omega)).trans (h.blk i hi hx),fun i hi hx=>by rw [World.frozen?_setCell];exact h.frz i hi hx⟩
theorem Rd.grown {X:Nat→Prop} {w W W':World} {row:Option Nat} (h:Rd X w W) (g:W.grownBy W' row) (hr:∀ k,row=some k→w.heap.size≤k):Rd X w W':=by
 have hb:Below w.heap.size W W':=(Below.refl _ W).grown g h.size hr
 exact ⟨hb.os.trans h.os,hb.tape.trans h.tape,hb.output.trans h.output,Nat.le_trans h.size hb.size,fun i hi hx=>(hb.block i hi).trans (h.blk i hi hx),fun i hi hx=>(hb.frozen (p:=⟨i,0,none⟩) hi).trans (h.frz i hi hx)⟩
theorem Rd.bel {X:Nat→Prop} {w W W':World} (h:Rd X w W) (g:Below w.heap.size W W'):Rd X w W' :=
 ⟨g.os.trans h.os,g.tape.trans h.tape,g.output.trans h.output,Nat.le_trans h.size g.size,fun b hb hx=>(g.block b hb).trans (h.blk b hb hx),fun b hb hx=>(g.frozen (p:=⟨b,0,none⟩) hb).trans (h.frz b hb hx)⟩
theorem Rd.back {w w1 W:World} {Bv H:Nat} (h:Rd (fun b=>b=Bv∨b=H) w1 W) (g:Below w.heap.size w w1) (hH:w.heap.size≤H):Rd (fun b=>b=Bv) w W :=
 ⟨h.os.trans g.os,h.tape.trans g.tape,h.output.trans g.output,Nat.le_trans g.size h.size,fun b hb hx=>(h.blk b (Nat.lt_of_lt_of_le hb g.size) (by omega)).trans (g.block b hb),fun b hb hx=>(h.frz b (Nat.lt_of_lt_of_le hb g.size) (.inl hx)).trans (g.frozen (p:=⟨b,0,none⟩) hb)⟩
theorem Rd.cell {X:Nat→Prop} {w W:World} (h:Rd X w W) {b k:Nat} (hb:b<w.heap.size) (hx:¬ X b):W.cell? ⟨b,k,none⟩=w.cell? ⟨b,k,none⟩:=World.cell?_of_block (w:=w) (h.blk b hb hx)
structure ApSt (m:MdlD) (v:Int) (Bv:Nat) (w1:World) (H:Nat) (k:Nat) (W:World):Prop where
 rd:Rd (fun b=>b=Bv∨b=H) w1 W
 row:∃ v',W.cell? ⟨H,0,none⟩=some v'∧W.ownsRow (H+1) 3 1 v' k (nums ((upsM m v).take k))
theorem ApSt.push {m:MdlD} {v:Int} {Bv:Nat} {w1:World} {H k:Nat} {W w2:World} {v':Value} {o:Obj} {g2 cap2:Nat} (h:ApSt m v Bv w1 H k W) (hB:Bv<H) (hH1:w1.heap.size=H+1)
   (hc:W.cell? ⟨H,0,none⟩=some v') (hrow:W.ownsRow (H+1) 3 1 v' k (nums ((upsM m v).take k))) (hg:(W.alloc o).grownBy w2 v'.ownBlock) (ho:w2.ownsRow (H+1) 3 1 (.slice (some ⟨g2,0,none⟩) (k+1) cap2) (k+1) (nums ((upsM m v).take (k+1)))) :
   w2.cell? ⟨H,0,none⟩=some v'∧w2.frozen? ⟨H,0,none⟩=w1.frozen? ⟨H,0,none⟩∧KeepsB w1.heap.size W (w2.setCell ⟨H,0,none⟩ (.slice (some ⟨g2,0,none⟩) (k+1) cap2))∧(w2.setCell ⟨H,0,none⟩ (.slice (some ⟨g2,0,none⟩) (k+1) cap2)).cell? ⟨Bv,0,none⟩=W.cell? ⟨Bv,0,none⟩∧ApSt m v Bv w1 H (k+1) (w2.setCell ⟨H,0,none⟩ (.slice (some ⟨g2,0,none⟩) (k+1) cap2)):=by
 have hz:=h.rd.size
 have hH:H<w1.heap.size:=by omega
 have hlt:=fun q hq=>hrow.lt q hq
 have hbk:∀ b,b<W.heap.size→v'.ownBlock≠some b→w2.heap[b]? = W.heap[b]? := fun b hb hn=>(hg.block b (by simp;omega) (fun e=>hn e.symm)).trans (Below.heap_alloc W o b hb)
 have hnH:∀ b,b≤H→v'.ownBlock≠some b:=fun b hb e=>by have:=(hlt b e).1;omega
 have hcH:w2.cell? ⟨H,0,none⟩=some v':=(World.cell?_of_block (w:=W) (hbk H (by omega) (hnH H (Nat.le_refl _)))).trans hc
 refine ⟨hcH,(World.frozen?_of_block (w:=W) (hbk H (by omega) (hnH H (Nat.le_refl _)))).trans (h.rd.frz H hH (.inr rfl)),?_,?_,?_,?_⟩
 · intro b ob hb hob hk
   refine KeepsB.set (n0:=w1.heap.size) hcH b ob hb ?_ hk
   refine (hbk b (Array.getElem?_eq_some_iff.1 hob).1 fun e=>?_).trans hob
   obtain ⟨_,⟨rfl,_⟩ | ⟨g,cap,cur,rfl,_,hgc,_⟩⟩:=hrow
   · cases e
   · simp only [Value.ownBlock,Option.some.injEq] at e
     subst e
     rw [hgc] at hob;cases hob;cases hk
 · rw [World.cell?_setCell_far _ _ _ _ (by simp only;omega)]
   exact World.cell?_of_block (w:=W) (hbk Bv (by omega) (hnH Bv (by omega)))
 · refine Rd.set ?_ (.inl (.inr rfl)) _
   have g1:Rd (fun b=>b=Bv∨b=H) w1 (W.alloc o):=h.rd.trans (Rd.of_below (below_al1 W o))
   refine ⟨hg.os.trans g1.os,hg.tape.trans g1.tape,hg.output.trans g1.output,Nat.le_trans g1.size hg.size,fun b hb hx=>(hg.block b (by simp;omega) (fun e=>?_)).trans (g1.blk b hb hx),fun b hb hx=>(World.frozen?_of_block (w:=W.alloc o) (hg.block b (by simp;omega) (fun e=>?_))).trans (g1.frz b hb hx)⟩
   · exact hnH b (by omega) e.symm
   · exact hnH b (by omega) e.symm
 · exact ⟨_,World.cell?_setCell_same _ _ _ hcH,ownsRow_setCell_below (a:=⟨H,0,none⟩) ho (by simp only;omega) _⟩
end Go.Proofs


namespace Go.Proofs
open Go.RowKit Go.Lx Go.Md Go.Shelf Go.Rfu Go.BigFrame
set_option linter.unusedVariables false
attribute [local go_sem] Oper.semAt_some
end Go.Proofs
