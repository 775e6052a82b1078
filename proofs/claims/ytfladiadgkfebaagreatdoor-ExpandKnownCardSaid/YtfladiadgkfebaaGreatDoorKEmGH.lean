/- Walks: 'shifted' of the program's expand (its closure so far). -/
import Derived.Test.YtfladiadgkfebaaGreatDoorKEmCD
namespace Go.Proofs
open Go.RowKit Go.Lx Go.Md Go.Maps Go.BigFrame
open Lib(hid)
set_option maxRecDepth 100000
set_option maxHeartbeats 0
set_option linter.unusedVariables false
def shB (v x:Int):Int:=if x<0 then x else x+v
theorem shifted1_any (x v:Int) (B:Nat) (w:World) (h:w.cell? ⟨B,0,none⟩=some (.int .i64 v)) (h1:-9223372036854775808<=x+v) (h2:x+v<=9223372036854775807):Calls Tryz.prog 91 #[.int .i64 x,.pointer (some ⟨B,0,none⟩)] w fun e w'=>e=.returned (.int .i64 (shB v x))/\w'=w:=by
 have hw:IntKind.i64.wrap (x+v)=x+v:=IntWalk.i64_in _ ⟨h1,h2⟩
 have HS:Hid (∀ b:Bool,decide (x<0)=b->shB v x=if b then x else x+v):=hid fun b hb=>by unfold shB;subst hb;simp
 by_cases hx:x<0
 . have hs:Hid (shB v x=x):=hid (by unfold shB;rw [if_pos hx])
   clear HS
   rw [hs.o]
   go_enter Tryz.func91,Tryz.ntmps91
   go_wp2_with fail
   go_ret
   exact ⟨rfl,rfl⟩
 . have hs:Hid (shB v x=x+v):=hid (by unfold shB;rw [if_neg hx])
   clear HS
   rw [hs.o]
   go_enter Tryz.func91,Tryz.ntmps91
   go_wp2_with fail
   go_ret
   exact ⟨rfl,rfl⟩
def sizV (s:Siz):Value:=.agg #[.int .i64 (s.1:Nat),.int .i64 (s.2.1:Nat),.int .i64 (s.2.2:Nat)]
theorem sizMany_any (s:Siz) (w:World):Calls Tryz.prog 49 #[sizV s] w fun e w'=>e=.returned (.bool (manyS s))/\Bl w w':=by
 unfold sizV
 go_enter Tryz.func49,Tryz.ntmps49
 go_wp2_with fail
 all_goals
   go_ret
   refine ⟨ret_bool ?_,below_al1 w _⟩
   unfold manyS
   rw [Bool.eq_iff_iff]
   simp only [Bool.or_eq_true,decide_eq_true_eq] at *
   first
     | omega
     | (split at * <;> omega)
def szK (l:List MdlD) (n k:Nat):Siz:=(List.range k).foldl (sizS l (sizF l l.length) (l.getD n ⟨⟨#[]⟩,[],[],[],[],[]⟩)) (lens (l.getD n ⟨⟨#[]⟩,[],[],[],[],[]⟩))
theorem szK_succ (l:List MdlD) (n k:Nat):szK l n (k+1)=sizS l (sizF l l.length) (l.getD n ⟨⟨#[]⟩,[],[],[],[],[]⟩) (szK l n k) k:=by
 unfold szK
 rw [List.range_succ,List.foldl_append];rfl
theorem szK_all {l:List MdlD} {n:Nat} (hno:∀ i,¬ Rch l i i) (hn:n<l.length):szK l n (l.getD n ⟨⟨#[]⟩,[],[],[],[],[]⟩).vers.length=sizF l l.length n:=by
 rw [<- siz_stable (dpt_all hno hn)];rfl
theorem sizS_many {l:List MdlD} {sz:Nat->Siz} {m:MdlD} {s:Siz} {v:Nat} (h:manyS s=true):sizS l sz m s v=s:=by
 unfold sizS
 cases m.vers[v]? with
 | none=>rfl
 | some x=>simp [h]
theorem szK_many {l:List MdlD} {n k:Nat} (h:manyS (szK l n k)=true):∀ j,szK l n (k+j)=szK l n k
 | 0=>rfl
 | j+1=>by rw [show k+(j+1)=k+j+1 by omega,szK_succ,szK_many h j,sizS_many h]
theorem szK_skip {l:List MdlD} {n k:Nat} {m:MdlD} (hm:l.getD n ⟨⟨#[]⟩,[],[],[],[],[]⟩=m) (hk:k<m.vers.length) (h0:m.vers[k].sb.size=0):szK l n (k+1)=szK l n k:=by
 rw [szK_succ,hm]
 unfold sizS
 simp [hk,h0]
theorem szK_add {l:List MdlD} {n k q:Nat} {m:MdlD} (hm:l.getD n ⟨⟨#[]⟩,[],[],[],[],[]⟩=m) (hk:k<m.vers.length) (h0:0<m.vers[k].sb.size) (hq:fnd l m.vers[k].sb=some q) (hn:manyS (szK l n k)=false):szK l n (k+1)=addS (szK l n k) (sizF l l.length q) (ptsM m k).length:=by
 rw [szK_succ,hm]
 unfold sizS
 rw [List.getElem?_eq_getElem hk]
 simp only [hn,hq]
 have hz:(m.vers[k].sb.size == 0)=false:=beq_eq_false_iff_ne.2 (by omega)
 rw [if_neg (by rw [hz];decide)]
structure Fr2 (S T:Nat) (w w':World):Prop where
 os:w'.os=w.os
 tape:w'.tape=w.tape
 output:w'.output=w.output
 size:w.heap.size<=w'.heap.size
 block:∀ b,b<w.heap.size->b≠S->b≠T->w'.heap[b]? = w.heap[b]?
theorem Fr2.refl (S T:Nat) (w:World):Fr2 S T w w:=⟨rfl,rfl,rfl,Nat.le_refl _,fun _ _ _ _=>rfl⟩
theorem Fr2.trans {S T:Nat} {a b c:World} (h:Fr2 S T a b) (k:Fr2 S T b c):Fr2 S T a c :=
 ⟨k.os.trans h.os,k.tape.trans h.tape,k.output.trans h.output,Nat.le_trans h.size k.size,fun b hb h1 h2=>(k.block b (Nat.lt_of_lt_of_le hb h.size) h1 h2).trans (h.block b hb h1 h2)⟩
theorem Fr2.of_grown {S T:Nat} {w w':World} (h:w.grownBy w' (some S)):Fr2 S T w w' :=
 ⟨h.os,h.tape,h.output,h.size,fun b hb h1 _=>h.block b hb (by intro e;injection e with e;exact h1 e)⟩
theorem Fr2.of_below {S T:Nat} {w w':World} (h:Bl w w'):Fr2 S T w w':=⟨h.os,h.tape,h.output,h.size,fun b hb _ _=>h.block b hb⟩
theorem Fr2.cell {S T:Nat} {w w':World} (h:Fr2 S T w w') {b o:Nat} {u:Value} (hu:w.cell? ⟨b,o,none⟩=some u) (h1:b≠S) (h2:b≠T):w'.cell? ⟨b,o,none⟩=some u:=by
 have hb:=World.block_lt_of_cell? w _ hu
 have:=h.block b hb h1 h2
 unfold World.cell? at hu |-
 simp only [this]
 exact hu
end Go.Proofs
