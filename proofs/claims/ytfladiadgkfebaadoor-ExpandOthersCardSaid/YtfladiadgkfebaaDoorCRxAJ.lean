/- Walks: which text is a name, the document's answer (from LexD, LexE). -/
import Derived.Test.YtfladiadgkfebaaDoorCRwM
namespace Go.Proofs
open Go.RowKit Go.Lx

end Go.Proofs


namespace Go.Proofs
open Go.RowKit Go.Lx Go.Md Go.Shelf
set_option linter.unusedVariables false

end Go.Proofs


namespace Go.Proofs
open Go.RowKit Go.Lx Go.Md Go.Shelf Go.BigFrame
set_option linter.unusedVariables false
end Go.Proofs


namespace Go.Proofs
open Go.RowKit Go.Lx Go.Md Go.Shelf Go.BigFrame
set_option linter.unusedVariables false
end Go.Proofs


namespace Go.Proofs
open Go.RowKit Go.Lx Go.Md Go.Shelf Go.BigFrame
set_option linter.unusedVariables false
end Go.Proofs


namespace Go.Proofs
open Go.RowKit Go.Lx Go.Md Go.Shelf Go.BigFrame
set_option linter.unusedVariables false
end Go.Proofs


namespace Go.Proofs
open Go.RowKit Go.Lx Go.Md Go.Shelf Go.BigFrame
set_option linter.unusedVariables false
end Go.Proofs


namespace Go.Proofs
open Go.RowKit Go.Lx Go.Md Go.Shelf Go.BigFrame Go.Rgi
set_option linter.unusedVariables false
end Go.Proofs


namespace Go.Md
open Go.Lx
set_option linter.unusedVariables false
def manyR (m:MdlD) (r:Nat):Nat:=if r=2 then m.vars.length else if r=3 then m.evs.length else if r=4 then m.regs.length else if r=5 then m.vers.length else if r=6 then m.vers.length else m.trns.length
def mostR (r:Nat):Nat:=if r=2 then 64 else if r=3 then 64 else 512
def partR (r:Nat):Nat:=if r=2 then 2 else if r=3 then 3 else if r=4 then 4 else if r=5 then 5 else if r=6 then 5 else 6
def okR (m:MdlD) (r i:Nat):Bool :=
 if r=2 then (match m.vars[i]? with | some x=>rVar m i x | none=>true)
 else if r=3 then (match m.evs[i]? with | some x=>rEv m i x | none=>true)
 else if r=4 then (match m.regs[i]? with | some x=>rReg m i x | none=>true)
 else if r=5 then (match m.vers[i]? with | some x=>rVer m x | none=>true)
 else if r=6 then rDeep m i
 else (match m.trns[i]? with | some x=>rWay m x | none=>true)
def fAt (m:MdlD) (r i:Nat):Flt:=wrL (partR r) (mostR r) (fun j _=>okR m r j) i ((List.range (manyR m r)).drop i)
def fR (m:MdlD) (r:Nat):Flt:=if r=4∧m.regs.length=0 then (4,0,130) else fAt m r 0
end Go.Md


namespace Go.Proofs
open Go.RowKit Go.Lx Go.Md Go.Shelf Go.BigFrame
set_option linter.unusedVariables false
end Go.Proofs
