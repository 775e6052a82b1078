/- Walks: SameInts; small of law 16. -/
import Derived.Test.YtfladiadgkfebaaDoorCIxJK
import Derived.Test.YtfladiadgkfebaaDoorCMdFGH
namespace Go.Proofs
open Go.RowKit Go.Lx Go.Md Go.Shelf Go.BigFrame
set_option linter.unusedVariables false
theorem addr_add (b off j:Nat):(⟨b,off,none⟩:Addr).add j=⟨b,off+j,none⟩:=by
 unfold Addr.add;split <;> simp_all
theorem RowIn.below {w w':World} {v:Value} {l:List Int} (h:RowIn w v l) (g:Below w.heap.size w w'):RowIn w' v l:=by
 rcases h with h | ⟨b,off,c,e,hc,hb,hcs⟩
 · exact .inl h
 · refine .inr ⟨b,off,c,e,hc,Nat.lt_of_lt_of_le hb g.size,fun j u hj=>?_⟩
   rw [addr_add]
   have:=hcs j u hj
   rw [addr_add] at this
   exact (g.cell (p:=⟨b,off+j,none⟩) hb).trans this
theorem RowIn.own {N:Nat} {w:World} {v:Value} {l:List Int} (h:w.ownsRow N 3 1 v l.length (nums l)):RowIn w v l:=by
 have hc:=fun g hg=>World.ownsRow.cells h (g:=g) hg
 rcases h.2 with ⟨e,h0⟩ | ⟨g,cap,cur,e,hN,hg,hcap,_⟩
 · exact .inl ⟨none,0,by rw [e],List.eq_nil_of_length_eq_zero h0⟩
 · exact .inr ⟨g,0,cap,e,hcap,(Array.getElem?_eq_some_iff.1 hg).1,hc g (by rw [e];rfl)⟩
theorem RowIn.len {w:World} {v:Value} {l:List Int} (h:RowIn w v l):∃ a c,v=.slice a l.length c∧l.length≤c∧∀ k (hk:k<l.length),∃ b off,a=some ⟨b,off,none⟩∧b<w.heap.size∧w.cell? ⟨b,off+k,none⟩=some (.int .i64 l[k]):=by
 rcases h with ⟨a,c,rfl,rfl⟩ | ⟨b,off,c,rfl,hc,hb,hcs⟩
 · exact ⟨a,c,rfl,Nat.zero_le _,fun k hk=>absurd hk (by simp)⟩
 · refine ⟨_,c,rfl,hc,fun k hk=>⟨b,off,rfl,hb,?_⟩⟩
   have:=hcs k (.int .i64 l[k]) (by simp [nums,hk])
   rwa [addr_add] at this
end Go.Proofs
