/- Where a history leads: plain. No program is in sight. -/
import Derived.Test.YtfladiadgkfebaaDoorCIxGI
namespace Go.Md
open Go.RowKit Go.Lx Go.Proofs
set_option linter.unusedVariables false

theorem lies_at {m:MdlD} (h0:riM m=(0,0,0)) {k:Nat} (hk:k<m.vers.length):liesM m m.vers[k]=true:=by
 have h5:=(riM_zero.1 h0).2.2.2.2.1
 have hr:=((wrL_zero (by decide)).1 h5 k hk).1
 unfold rVer at hr
 simp only [Bool.and_eq_true] at hr
 exact hr.1.1.1.1.1.2
theorem point_at {m:MdlD} (h0:riM m=(0,0,0)) {k:Nat} (hk:k<m.vers.length) (h:0≤m.vers[k].ofv):m.vers[k].rg=-1∧(m.vers[k].kd=10∨m.vers[k].kd=11):=by
 have hl:=lies_at h0 hk
 unfold liesM at hl
 split at hl
 · rename_i hq
   simp only [Bool.and_eq_true,beq_iff_eq] at hl
   exact ⟨hl.1,hq⟩
 · simp only [Bool.and_eq_true,beq_iff_eq] at hl
   have:=hl.1.1;omega
end Go.Md
