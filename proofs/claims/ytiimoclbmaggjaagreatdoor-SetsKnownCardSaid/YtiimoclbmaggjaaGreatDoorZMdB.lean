/- Walks: when two vertices, two transitions are the same. -/
import Derived.Test.YtiimoclbmaggjaaGreatDoorZLexAB
import Derived.Test.YtiimoclbmaggjaaGreatDoorZMdM
import Derived.Laws.StructEq
import Derived.Shelf.SlicesE.Equal
namespace Go.Proofs
open Go.RowKit Go.Lx Go.Md Go.Shelf

def verA (x:VerD) (a:Option Addr) (c:Nat):Value:=.agg #[.string x.nm,.int .u8 x.kd,.int .i64 x.rg,.int .i64 x.ofv,.string x.en,.string x.ex,.slice a x.df.length c,.string x.sb]
def trnA (x:TrnD) (a:Option Addr) (c:Nat):Value:=.agg #[.string x.nm,.int .i64 x.src,.int .i64 x.tgt,.slice a x.tr.length c,.int .i64 x.af,.string x.gd,.string x.ef,.int .u8 x.kd]
theorem yy {w w3:World} {o1 o2:Obj} {k:Nat} {u:Value} (g:Below ((w.alloc o1).alloc o2).heap.size ((w.alloc o1).alloc o2) w3) (h:((w.alloc o1).alloc o2).cell? ⟨w.heap.size+1,k,none⟩=some u):w3.cell? ⟨w.heap.size+1,k,none⟩=some u :=
 (g.cell (p:=⟨w.heap.size+1,k,none⟩) (by simp <;> omega)).trans h
theorem zP {w w3:World} {o1 o2:Obj} (g:Below ((w.alloc o1).alloc o2).heap.size ((w.alloc o1).alloc o2) w3):Bl w w3 :=
 (((Below.refl _ w).alloc (Nat.le_refl _) _).alloc (by simp) _).trans (g.mono (by simp <;> omega))

end Go.Proofs
