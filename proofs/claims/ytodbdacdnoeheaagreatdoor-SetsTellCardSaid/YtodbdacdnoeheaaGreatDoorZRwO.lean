/- Rows of numbers as they came in: the opener. -/
import Derived.Test.YtodbdacdnoeheaaGreatDoorZMdOp
import Derived.Test.YtodbdacdnoeheaaGreatDoorZIxY
namespace Go.Proofs
open Go.RowKit Go.Lx Go.Md
set_option linter.unusedVariables false
def IntE (w:World) (b o:Nat) (x:Int):Prop:=w.cell? ⟨b,o,none⟩=some (.int .i64 x)
theorem Sl.row {w:World} {a:Option Addr} {n c:Nat} {l:List Int} (h:Sl anyB 1 IntE w (.slice a n c) l):RowIn w (.slice a n c) l:=by
 rcases h with ⟨a',c',e,rfl⟩ | ⟨b,off,cap,e,h0,h1,_,h3⟩
 · exact .inl ⟨a',c',e,rfl⟩
 · refine .inr ⟨b,off,cap,e,h0,h1,fun j u hj=>?_⟩
   rw [addr_add]
   simp only [nums,List.getElem?_map] at hj
   cases hl:l[j]? with
   | none=>rw [hl] at hj;cases hj
   | some x =>
    rw [hl] at hj
    obtain ⟨hjl,rfl⟩:=List.getElem?_eq_some_iff.1 hl
    simp only [Option.map_some,Option.some.injEq] at hj
    have:=h3 j hjl
    unfold IntE at this
    rw [Nat.mul_one] at this
    rw [this,← hj]
end Go.Proofs
