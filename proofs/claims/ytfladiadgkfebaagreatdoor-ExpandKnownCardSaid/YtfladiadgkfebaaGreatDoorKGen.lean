/- A region that draws its order, by an invariant: one step an operation, whatever the orders. -/
import Derived.Orders
import Derived.RegionTactic
import Derived.Deep.RegionHeld3
import Derived.KernelRfl
import Derived.RangeFuncNested
import Derived.RangeFuncLeaves
import Derived.RangeFuncRecord
import Derived.WalkKit
import Derived.Deep.Quiet
import Derived.OrdersIn
namespace Go.Rgi
open Go
theorem ready_mem {md:Region.Mode} {ops:Array Oper} {l:Array Bool} {i:Nat} (h:i ∈ Region.ready md ops l) :
   l.getD i true=false/\∃ o,ops[i]? = some o/\∀ e ∈ o.after,Region.binds md e=true->l.getD e.on false=true:=by
 unfold Region.ready at h
 rw [List.mem_filter] at h
 obtain ⟨h1,h2⟩:=h
 rw [Bool.and_eq_true] at h2
 refine ⟨by simpa using h2.1,?_⟩
 have h3:=h2.2
 cases ho:ops[i]? with
 | none=>rw [ho] at h3;simp at h3
 | some o =>
  rw [ho] at h3
  simp only [Option.map_some,Option.getD_some,Array.all_eq_true',Bool.or_eq_true,Bool.not_eq_true'] at h3
  refine ⟨o,rfl,fun e he hb=>?_⟩
  rcases h3 e he with h | h
  . rw [hb] at h;cases h
  . exact h
theorem mem_ready {md:Region.Mode} {ops:Array Oper} {l:Array Bool} {i:Nat} {o:Oper} (ho:ops[i]? = some o) (hl:l.getD i true=false) (he:∀ e ∈ o.after,Region.binds md e=true->l.getD e.on false=true):i ∈ Region.ready md ops l:=by
 unfold Region.ready
 rw [List.mem_filter]
 refine ⟨List.mem_range.2 (Array.getElem?_eq_some_iff.1 ho).1,?_⟩
 rw [hl,ho]
 simp only [Bool.not_false,Bool.true_and,Option.map_some,Option.getD_some,Array.all_eq_true',Bool.or_eq_true,Bool.not_eq_true']
 intro e h
 cases hb:Region.binds md e with
 | false=>exact .inl rfl
 | true=>exact .inr (he e h hb)
def backB (md:Region.Mode) (ops:Array Oper):Bool:=(List.range ops.size).all fun i=>match ops[i]? with | some o=>o.after.all fun e=>!Region.binds md e || decide (e.on<i) | none=>true
theorem back_of {md:Region.Mode} {ops:Array Oper} (hb:backB md ops=true) {i:Nat} {o:Oper} (ho:ops[i]? = some o):∀ e ∈ o.after,Region.binds md e=true->e.on<i:=by
 unfold backB at hb
 rw [List.all_eq_true] at hb
 have:=hb i (List.mem_range.2 (Array.getElem?_eq_some_iff.1 ho).1)
 rw [ho] at this
 simp only [Array.all_eq_true',Bool.or_eq_true,Bool.not_eq_true',decide_eq_true_iff] at this
 intro e he hbd
 rcases this e he with h | h
 . rw [hbd] at h;cases h
 . exact h
theorem getD_flip {l:Array Bool} {i:Nat} (hi:i<l.size):l.getD i true=l.getD i false:=by simp [Array.getD,hi]
theorem all_listed {md:Region.Mode} {ops:Array Oper} {l:Array Bool} (hb:backB md ops=true) (hs:l.size=ops.size) (h:Region.ready md ops l=[]):∀ i,i<ops.size->l.getD i false=true:=by
 intro i
 induction i using Nat.strongRecOn with
 | _ i ih =>
  intro hi
  cases hl:l.getD i false with
  | true=>rfl
  | false =>
   have ho:ops[i]? = some ops[i]:=Array.getElem?_eq_getElem hi
   have:i ∈ Region.ready md ops l:=mem_ready ho (by rw [getD_flip (by omega)];exact hl) fun e he hbd=>by
     have hlt:=back_of hb ho e he hbd
     exact ih e.on hlt (by omega)
   rw [h] at this
   cases this
theorem set_size {l:Array Bool} {i:Nat}:(l.setIfInBounds i true).size=l.size:=by simp
theorem count_set {l:Array Bool} {i:Nat} (hi:i<l.size) (hl:l.getD i true=false):(l.setIfInBounds i true).toList.count false+1=l.toList.count false:=by
 have hi':i<l.toList.length:=by simpa using hi
 have hv:l.toList[i]=false:=by simpa [Array.getD,hi] using hl
 rw [Array.toList_setIfInBounds,List.count_set hi',hv]
 show l.toList.count false - (if (false == false)=true then 1 else 0)+(if (true == false)=true then 1 else 0)+1=_
 rw [if_pos (show (false == false)=true from rfl),if_neg (show ¬ (true == false)=true by decide)]
 have:0<l.toList.count false:=List.count_pos_iff.2 (by rw [<- hv];exact List.getElem_mem hi')
 omega
theorem ready_nil {md:Region.Mode} {ops:Array Oper} {l:Array Bool} (hs:l.size=ops.size) (h:l.toList.count false=0):Region.ready md ops l=[]:=by
 cases hr:Region.ready md ops l with
 | nil=>rfl
 | cons i t =>
  have hm:i ∈ Region.ready md ops l:=by rw [hr];exact List.mem_cons_self
  obtain ⟨hl,o,ho,_⟩:=ready_mem hm
  have hi:i<l.size:=by rw [hs];exact (Array.getElem?_eq_some_iff.1 ho).1
  have hv:l.toList[i]'(by simpa using hi)=false:=by simpa [Array.getD,hi] using hl
  have:0<l.toList.count false:=List.count_pos_iff.2 (by rw [<- hv];exact List.getElem_mem _)
  omega
theorem wpAny_inv {P:Program} {ops:Array Oper} {Q:Exit->Act->World->Prop} {md:Region.Mode} (I:Array Bool->Act->World->Prop) (hb:backB md ops=true)
   (hstep:∀ l a w,l.size=ops.size->I l a w->∀ i o,ops[i]? = some o->l.getD i true=false->(∀ e ∈ o.after,Region.binds md e=true->l.getD e.on false=true)->wpOp P ops Q i (I (l.setIfInBounds i true)) a w)
   (hend:∀ l a w,I l a w->(∀ i,i<ops.size->l.getD i false=true)->Q .normal a w) :
   ∀ fuel l a w,l.size=ops.size->l.toList.count false<=fuel->I l a w->wpAny P md ops Q fuel l a w
 | 0,l,a,w,hs,hc,hI=>by
   have hr:Region.ready md ops l=[]:=ready_nil hs (by omega)
   exact ⟨hr,hend l a w hI (all_listed hb hs hr)⟩
 | f+1,l,a,w,hs,hc,hI=>by
   refine ⟨fun hr=>hend l a w hI (all_listed hb hs hr),fun i hi=>?_⟩
   obtain ⟨hl,o,ho,he⟩:=ready_mem hi
   refine wpOp_mono (fun a' w' h=>?_) (hstep l a w hs hI i o ho hl he)
   have hi':i<l.size:=by rw [hs];exact (Array.getElem?_eq_some_iff.1 ho).1
   refine wpAny_inv I hb hstep hend f _ a' w' (set_size.trans hs) ?_ h
   have:=count_set hi' hl
   omega
theorem step_of {P:Program} {ops:Array Oper} {Q:Exit->Act->World->Prop} {i:Nat} {o:Oper} {a:Act} {w:World} {K:Act->World->Prop} (ho:ops[i]? = some o)
   (h:∀ K':Act->World->Prop,(∀ a w,K a w->K' a w)->if Region.wanted o (yielded ops a.tmps)=true then Oper.wp P o a w K' Q else K' (a.put o.dst undef) w):wpOp P ops Q i K a w :=
 wpOp_step ho h
theorem getD_set {l:Array Bool} {i k:Nat} (hi:i<l.size):(l.setIfInBounds i true).getD k false=if i=k then true else l.getD k false:=by
 by_cases h:i=k
 . subst h;simp [Array.getD,hi]
 . rw [if_neg h]
   simp only [Array.getD,Array.size_setIfInBounds]
   by_cases hk:k<l.size
   . simp [hk,h]
   . simp [hk]
end Go.Rgi

namespace Go.Rgi
open Go
set_option linter.unusedVariables false
def sinkQ (P:Program) (o:Oper) (Q:Exit->Act->World->Prop):Exit->Act->World->Prop
 | .normal,a,w=>o.wp P a w (fun a w=>Q .normal a w) Q
 | e,a,w=>Q e a w
theorem sinkQ_of {P:Program} {o:Oper} {Q:Exit->Act->World->Prop} {a:Act} {w:World} (h:∀ K:Act->World->Prop,(∀ a w,Q .normal a w->K a w)->o.wp P a w K Q):sinkQ P o Q .normal a w:=h _ fun _ _ h=>h
theorem sinkQ_lets {P:Program} {o:Oper} {Q:Exit->Act->World->Prop} (h:LetsOut (sinkQ P o Q)):LetsOut Q:=h
theorem wp_unsink {P:Program} {o o':Oper} {Q:Exit->Act->World->Prop} {a:Act} {w:World} {K:Act->World->Prop} (h:o'.wp P a w K (sinkQ P o Q)):o'.wp P a w K Q:=by
 unfold Oper.wp at *
 generalize (execOp a.eval o').run P w=r at *
 cases r with
 | ok n w' =>
  cases n <;> simp only [Oper.upon] at h |- <;>
    first
      | exact h
      | exact Calls.mono h (fun e w'' he=>by cases e <;> exact he)
 | halt x w'=>cases x <;> simp only [Oper.upon] at h |- <;> exact h
def waitsOn (ops:Array Oper) (j i:Nat):Bool:=match ops[j]? with | some o=>o.after.any (fun e=>Region.binds .any e && e.on == i) | none=>false
def reachGo (ops:Array Oper):Nat->List Nat->List Nat
 | 0,R=>R
 | i+1,R=>reachGo ops i (if R.any (fun j=>waitsOn ops j i) then i :: R else R)
def guardB (ops:Array Oper) (n:Nat):Bool:=(List.range n).all fun i=>match ops[i]? with | some o=>(match o.guard with | some (g,_)=>decide (g<n) | none=>true) | none=>true
theorem reach_ok {ops:Array Oper} {G L:Nat->Prop} (h1:∀ j,G j->∀ i,waitsOn ops j i=true->L i) (h2:∀ i,L i->G i):∀ (i:Nat) (R:List Nat),(∀ j ∈ R,G j)->∀ j ∈ reachGo ops i R,G j
 | 0,R,h=>h
 | i+1,R,h=>by
   unfold reachGo
   refine reach_ok h1 h2 i _ ?_
   split
   . rename_i hc
     obtain ⟨j,hj,hw⟩:=List.any_eq_true.1 hc
     intro k hk
     rcases List.mem_cons.1 hk with rfl | hk
     . exact h2 _ (h1 j (h j hj) _ hw)
     . exact h k hk
   . exact h
theorem waitsOn_of {ops:Array Oper} {j i:Nat} (h:waitsOn ops j i=true):∃ o,ops[j]? = some o/\∃ e ∈ o.after,Region.binds .any e=true/\e.on=i:=by
 unfold waitsOn at h
 split at h
 . rename_i o ho
   obtain ⟨e,he,hb⟩:=Array.any_eq_true'.1 h
   rw [Bool.and_eq_true] at hb
   exact ⟨o,ho,e,he,hb.1,by simpa using hb.2⟩
 . cases h
def closedB (ops:Array Oper) (l:Array Bool):Bool:=(List.range ops.size).all fun j=>!l.getD j false || (match ops[j]? with | some o=>o.after.all (fun e=>!Region.binds .any e || l.getD e.on false) | none=>true)
def sinkB2 (ops:Array Oper) (n:Nat) (l:Array Bool):Bool :=
 (ops.size == n+1) && backB .any ops && guardB ops n && (match ops[n]? with | some o=>o.guard.isNone | none=>false) && (List.range n).all (fun i=>l.getD i false || (reachGo ops n [n]).contains i) && (l.size == n+1) && (!l.getD n true) && closedB ops l
theorem wpAny_sink {P:Program} {n fuel:Nat} {ops ops':Array Oper} {o:Oper} {Q:Exit->Act->World->Prop} {a:Act} {w:World} {l0:Array Bool} (hf:l0.toList.count false<=fuel) (hB:sinkB2 ops n l0=true) (ho:ops[n]? = some o) (hp:ops.pop=ops')
   (h:wpAny P .any ops' (sinkQ P o Q) n l0.pop a w):wpAny P .any ops Q fuel l0 a w:=by
 subst hp
 unfold sinkB2 at hB
 simp only [Bool.and_eq_true,beq_iff_eq] at hB
 obtain ⟨⟨⟨⟨⟨⟨⟨hn,hb⟩,hg⟩,hu⟩,hr⟩,hl0⟩,hln0⟩,hcl0⟩:=hB
 rw [ho] at hu
 have hps:ops.pop.size=n:=by simp [hn]
 have hpop:∀ i,i<n->ops.pop[i]? = ops[i]? := fun i hi=>by
   rw [Array.getElem?_pop,if_pos (by omega)]
 have hself:∀ (a:Act),Region.wanted o (yielded ops a.tmps)=true:=fun a=>by
   unfold Region.wanted
   rw [Option.isNone_iff_eq_none.1 hu]
 have hwant:∀ (i:Nat) (o':Oper) (a:Act),i<n->ops[i]? = some o'->Region.wanted o' (yielded ops.pop a.tmps)=Region.wanted o' (yielded ops a.tmps):=fun i o' a hi hi'=>by
   have:=List.all_eq_true.1 hg i (List.mem_range.2 hi)
   rw [hi'] at this
   unfold Region.wanted
   cases hgu:o'.guard with
   | none=>rfl
   | some gb =>
    obtain ⟨g,b⟩:=gb
    have hlt:g<n:=by simpa [hgu] using this
    have:yielded ops.pop a.tmps g=yielded ops a.tmps g:=by unfold yielded;rw [hpop g hlt]
    simp only [this]
 have hop:∀ (i:Nat) (K:Act->World->Prop) (a:Act) (w:World),i<n->wpOp P ops.pop (sinkQ P o Q) i K a w->wpOp P ops Q i K a w:=fun i K a w hi h=>by
   unfold wpOp at *
   rw [hpop i hi] at h
   cases ho':ops[i]? with
   | none=>rw [ho'] at h;exact h
   | some o' =>
    rw [ho'] at h
    simp only [hwant i o' a hi ho'] at h |-
    split
    . rename_i hw;simp only [hw,if_true] at h;exact h.imp wp_unsink fun x=>⟨x.1,sinkQ_lets x.2⟩
    . rename_i hw;simp only [hw] at h;exact h
 have hfar:∀ (l:Array Bool),(∀ j o',ops[j]? = some o'->l.getD j false=true->∀ e ∈ o'.after,Region.binds .any e=true->l.getD e.on false=true)->(∀ j,l0.getD j false=true->l.getD j false=true)->(∀ e ∈ o.after,Region.binds .any e=true->l.getD e.on false=true)->∀ k,k<n->l.getD k false=true:=by
   intro l hc hm he k hk
   have hG:=reach_ok (ops:=ops) (G:=fun j=>j=n\/l.getD j false=true) (L:=fun j=>l.getD j false=true) (fun j hj k hk=>by
     obtain ⟨o2,ho2,e,hee,hbe,hon⟩:=waitsOn_of hk
     subst hon
     rcases hj with rfl | hj
     . rw [ho] at ho2;cases ho2;exact he e hee hbe
     . exact hc j o2 ho2 hj e hee hbe) (fun _ h=>.inr h) n [n] (fun j hj=>.inl (by simpa using hj))
   have:=List.all_eq_true.1 hr k (List.mem_range.2 hk)
   rw [Bool.or_eq_true] at this
   rcases this with h1 | h1
   . exact hm k h1
   . rcases hG k (by simpa using h1) with rfl | h
     . omega
     . exact h
 refine wpAny_inv (fun l a w=>(∀ j o',ops[j]? = some o'->l.getD j false=true->∀ e ∈ o'.after,Region.binds .any e=true->l.getD e.on false=true)/\(∀ j,l0.getD j false=true->l.getD j false=true) /\
   ((l.getD n false=false/\∃ fuel l',l'.size=n/\(∀ i,i<n->l'.getD i false=l.getD i false)/\wpAny P .any ops.pop (sinkQ P o Q) fuel l' a w)\/(l.getD n false=true/\Q .normal a w))) hb ?_ ?_ fuel l0 a w (by omega) hf ?_
 . intro l a w hs hI i o' hi hl he
   obtain ⟨hc,hmono,hI⟩:=hI
   have hsz:l.size=n+1:=by omega
   have hin:i<n+1:=by have:=(Array.getElem?_eq_some_iff.1 hi).1;omega
   have hcl:∀ j o'',ops[j]? = some o''->(l.setIfInBounds i true).getD j false=true->∀ e ∈ o''.after,Region.binds .any e=true->(l.setIfInBounds i true).getD e.on false=true:=fun j o'' hj hlj e hee hbe=>by
     rw [getD_set (by omega)] at hlj |-
     by_cases hij:i=j
     . subst hij
       rw [hi] at hj;cases hj
       by_cases h':i=e.on
       . rw [if_pos h']
       . rw [if_neg h'];exact he e hee hbe
     . rw [if_neg hij] at hlj
       by_cases h':i=e.on
       . rw [if_pos h']
       . rw [if_neg h'];exact hc j o'' hj hlj e hee hbe
   have hmo:∀ j,l0.getD j false=true->(l.setIfInBounds i true).getD j false=true:=fun j hj=>by
     rw [getD_set (by omega)]
     split
     . rfl
     . exact hmono j hj
   by_cases hlast:i=n
   . subst hlast
     rcases hI with ⟨hln,fuel,l',hl's,hl',hany⟩ | ⟨hln,_⟩
     . rw [ho] at hi;cases hi
       have hall:=hfar l hc hmono he
       have hrd:Region.ready .any ops.pop l'=[]:=by
         cases hq:Region.ready .any ops.pop l' with
         | nil=>rfl
         | cons k t =>
          have hk:k ∈ Region.ready .any ops.pop l':=by rw [hq];exact List.mem_cons_self
          obtain ⟨hlk,o2,ho2,_⟩:=ready_mem hk
          have hkn:k<i:=by have:=(Array.getElem?_eq_some_iff.1 ho2).1;omega
          rw [getD_flip (by omega),hl' k hkn,hall k hkn] at hlk
          cases hlk
       have hQ:sinkQ P o Q .normal a w:=by
         cases fuel with
         | zero=>exact hany.2
         | succ f=>exact hany.1 hrd
       refine step_of ho fun K' hK'=>?_
       rw [if_pos (hself a)]
       refine Oper.wp_mono (fun a' w' h'=>hK' _ _ ⟨hcl,hmo,.inr ⟨?_,h'⟩⟩) hQ
       rw [getD_set (by omega),if_pos rfl]
     . rw [getD_flip (by omega)] at hl
       rw [hl] at hln;cases hln
   . have hi':i<n:=by omega
     rcases hI with ⟨hln,fuel,l',hl's,hl',hany⟩ | ⟨hln,hQ⟩
     . have hrd:i ∈ Region.ready .any ops.pop l':=mem_ready ((hpop i hi').trans hi) (by rw [getD_flip (by omega),hl' i hi',<- getD_flip (by omega)];exact hl) fun e hee hbe=>by
         have:=back_of hb hi e hee hbe
         rw [hl' _ (by omega)];exact he e hee hbe
       cases fuel with
       | zero=>rw [hany.1] at hrd;cases hrd
       | succ f =>
        refine wpOp_mono (fun a' w' h'=>⟨hcl,hmo,.inl ⟨?_,f,_,set_size.trans hl's,fun k hk=>?_,h'⟩⟩) (hop i _ a w hi' (hany.2 i hrd))
        . rw [getD_set (by omega),if_neg (by omega)];exact hln
        . rw [getD_set (by omega),getD_set (by omega),hl' k hk]
     . exfalso
       have:=hfar l hc hmono (hc n o ho hln) i hi'
       rw [getD_flip (by omega)] at hl
       rw [hl] at this;cases this
 . intro l a w hI hall
   rcases hI.2.2 with ⟨hln,_⟩ | ⟨_,hQ⟩
   . rw [hall n (by omega)] at hln;cases hln
   . exact hQ
 . refine ⟨fun j o' hj hlj e hee hbe=>?_,fun _ h=>h,.inl ⟨?_,n,l0.pop,by simp [hl0],fun i hi=>?_,h⟩⟩
   . have:=List.all_eq_true.1 hcl0 j (List.mem_range.2 (Array.getElem?_eq_some_iff.1 hj).1)
     rw [hlj,hj] at this
     simp only [Bool.not_true,Bool.false_or,Array.all_eq_true',Bool.or_eq_true,Bool.not_eq_true'] at this
     rcases this e hee with h1 | h1
     . rw [hbe] at h1;cases h1
     . exact h1
   . rw [<- getD_flip (by omega)];simpa using hln0
   . have h2:i<l0.size:=by omega
     have h3:i<l0.size - 1:=by omega
     simp [Array.getD,h2,h3]
theorem wpAny_of_heldS {P:Program} {S:World->Prop} {fuel:Nat} {ops:Array Oper} {Q:Exit->Act->World->Prop} {a:Act} {w:World} {l:Array Bool} (hS:S w) (h:S w->wpAnyH P .any ops Q S fuel l a w):wpAny P .any ops Q fuel l a w:=wpAny_of_held _ _ _ _ (h hS)
theorem tkH {P:Program} {ops:Array Oper} {Q:Exit->Act->World->Prop} {md:Region.Mode} {S:World->Prop} {i:Nat} {oi:Oper} {v:Value} {fuel:Nat} {listed:Array Bool} {a:Act} {w:World} (hi:ops[i]? = some oi)
   (hc:(Region.noSelect ops && (Region.free md ops listed i && (Region.ready md ops listed).contains i))=true)
   (hQ:∀ c a w,Q (.panic c) (a.put oi.dst v) w->Q (.panic c) a w) (hy:YieldsIf P ops S oi v a) (hS:S w)
   (h:wpAnyH P md ops Q S fuel (listed.setIfInBounds i true) (a.put oi.dst v) w):wpAnyH P md ops Q S (fuel+1) listed a w:=by
 simp only [Bool.and_eq_true] at hc
 exact wpAnyH_take hi hc.1 hc.2.1 hc.2.2 hQ hy hS h
theorem ops_at {ops:Array Oper} {i:Nat} {o:Oper} {r:List Oper} (h:ops.toList.drop i=o :: r):ops[i]? = some o:=by
 have:=congrArg List.head? h
 rw [List.head?_drop,Array.getElem?_toList] at this
 exact this
theorem lyA {α:Type} {l:List α} {i:Nat} {a:α}:l.toArray.setIfInBounds i a=(l.set i a).toArray:=List.setIfInBounds_toArray l i a
theorem lyZ {α:Type} {l:List α} {a b:α}:(a :: l).set 0 b=b :: l:=List.set_cons_zero
theorem lyS {α:Type} {l:List α} {n:Nat} {a b:α}:(a :: l).set (n+1) b=a :: l.set n b:=List.set_cons_succ
theorem tk {P:Program} {ops:Array Oper} {Q:Exit->Act->World->Prop} {md:Region.Mode} {S:World->Prop} {oi:Oper} {r:List Oper} {v:Value} {fuel:Nat} {listed:Array Bool} {a b:Act} {w:World} (i:Nat) (hi:ops.toList.drop i=oi :: r)
   (h:wpAnyH P md ops Q S fuel (listed.setIfInBounds i true) b w)
   (hw:Region.wanted oi (yielded ops a.tmps)=true:=by rfl)
   (hy:∀ w,S w->(execOp a.eval oi).run P w=.ok (.value v) w:=by (intro w hSw;(try dsimp only at hSw);go_simp <;> with_reducible rfl))
   (hb:a.put oi.dst v=b:=by (first | (simp only [Act.put,lyA,lyZ,lyS];exact rfl) | exact rfl))
   (hc:(Region.noSelect ops && (Region.free md ops listed i && (Region.ready md ops listed).contains i))=true:=by kernel_rfl)
   (hQ:∀ c a w,Q (.panic c) (a.put oi.dst v) w->Q (.panic c) a w:=by exact fun _ _ _ h=>h) (hS:S w:=by assumption):wpAnyH P md ops Q S (fuel+1) listed a w:=by
 subst hb
 exact tkH (ops_at hi) hc hQ (.inl ⟨hw,hy⟩) hS h
theorem tkP {P:Program} {ops:Array Oper} {Q:Exit->Act->World->Prop} {md:Region.Mode} {S:World->Prop} {oi:Oper} {r:List Oper} {fuel:Nat} {listed:Array Bool} {a b:Act} {w:World} (i:Nat) (hi:ops.toList.drop i=oi :: r)
   (h:wpAnyH P md ops Q S fuel (listed.setIfInBounds i true) b w)
   (hw:Region.wanted oi (yielded ops a.tmps)=false:=by rfl)
   (hb:a.put oi.dst undef=b:=by (first | (simp only [Act.put,lyA,lyZ,lyS];exact rfl) | exact rfl))
   (hc:(Region.noSelect ops && (Region.free md ops listed i && (Region.ready md ops listed).contains i))=true:=by kernel_rfl)
   (hQ:∀ c a w,Q (.panic c) (a.put oi.dst undef) w->Q (.panic c) a w:=by exact fun _ _ _ h=>h) (hS:S w:=by assumption):wpAnyH P md ops Q S (fuel+1) listed a w:=by
 subst hb
 exact tkH (ops_at hi) hc hQ (.inr ⟨hw,rfl⟩) hS h
theorem rdy {P:Program} {ops:Array Oper} {Q:Exit->Act->World->Prop} {md:Region.Mode} {S:World->Prop} {fuel:Nat} {listed:Array Bool} {a:Act} {w:World} (rs:List Nat) (h:AllReadyH P md ops Q S fuel listed a w rs) (hr:Region.ready md ops listed=rs:=by kernel_rfl) (hne:rs≠[]:=by simp):wpAnyH P md ops Q S (fuel+1) listed a w :=
 wpAnyH_ready hr hne h
theorem rdC {P:Program} {ops:Array Oper} {Q:Exit->Act->World->Prop} {md:Region.Mode} {S:World->Prop} {fuel:Nat} {listed:Array Bool} {a:Act} {w:World} {i:Nat} {o:Oper} {r:List Oper} {rs:List Nat} (ho:ops.toList.drop i=o :: r)
   (h:∀ K':Act->World->Prop,Shut (∀ a w,S w->(S w->wpAnyH P md ops Q S fuel (listed.setIfInBounds i true) a w)->K' a w)->if Region.wanted o (yielded ops a.tmps)=true then Oper.wp P o a w K' Q else K' (a.put o.dst undef) w)
   (hs:AllReadyH P md ops Q S fuel listed a w rs):AllReadyH P md ops Q S fuel listed a w (i :: rs):=AllReadyH.cons (ops_at ho) h hs
theorem rd1 {P:Program} {ops:Array Oper} {Q:Exit->Act->World->Prop} {md:Region.Mode} {S:World->Prop} {fuel:Nat} {listed:Array Bool} {a:Act} {w:World} {o:Oper} {r:List Oper} (i:Nat)
   (h:∀ K':Act->World->Prop,Shut (∀ a w,S w->(S w->wpAnyH P md ops Q S fuel (listed.setIfInBounds i true) a w)->K' a w)->if Region.wanted o (yielded ops a.tmps)=true then Oper.wp P o a w K' Q else K' (a.put o.dst undef) w)
   (ho:ops.toList.drop i=o :: r:=by rfl) (hr:Region.ready md ops listed=[i]:=by kernel_rfl):wpAnyH P md ops Q S (fuel+1) listed a w:=rdy [i] (rdC ho h AllReadyH.nil) hr (by simp)
theorem nx {P:Program} {ops:Array Oper} {Q:Exit->Act->World->Prop} {md:Region.Mode} {S:World->Prop} {fuel:Nat} {l:Array Bool} {a b:Act} {w:World} {K:Act->World->Prop} (hK:Shut (∀ a w,S w->(S w->wpAnyH P md ops Q S fuel l a w)->K a w)) (hS:S w) (h:S w->wpAnyH P md ops Q S fuel l b w)
   (hb:a=b:=by (first | (simp only [Act.put,lyA,lyZ,lyS];exact rfl) | exact rfl)):K a w:=by
 subst hb;exact hK.out _ _ hS h
theorem dn {P:Program} {ops:Array Oper} {Q:Exit->Act->World->Prop} {md:Region.Mode} {S:World->Prop} {fuel:Nat} {listed:Array Bool} {a:Act} {w:World} (h:Q .normal a w) (hc:Region.ready md ops listed=[]:=by kernel_rfl):wpAnyH P md ops Q S fuel listed a w:=wpAnyH_done hc h fuel
theorem hld {P:Program} {R S:World->Prop} {fuel:Nat} {ops:Array Oper} {Q:Exit->Act->World->Prop} {a:Act} {w:World} {l:Array Bool} (HS:∀ W',R W'->S W') (hB:R w) (h:S w->wpAnyH P .any ops Q S fuel l a w):wpAny P .any ops Q fuel l a w:=wpAny_of_heldS (HS _ hB) h
end Go.Rgi

namespace Go.Rfu
open Go Go.RowKit
variable {P:Program}
set_option linter.unusedVariables false
def isBook:Obj->Bool
 | .loop _=>true
 | .deferred _=>true
 | _=>false
structure Marked (n0:Nat) (ds:List Nat) (w:World):Prop where
 nd:ds.Nodup
 lo:∀ D ∈ ds,n0<=D
 at_:∀ D ∈ ds,w.heap[D]? = some (.deferred (some []))
theorem Marked.nil (n0:Nat) (w:World):Marked n0 [] w:=⟨List.nodup_nil,fun _ h=>absurd h (by simp),fun _ h=>absurd h (by simp)⟩
theorem Marked.cons {n0:Nat} {ds:List Nat} {w w':World} {D:Nat} (h:Marked n0 ds w) (hD:w'.heap[D]? = some (.deferred (some []))) (hl:n0<=D) (hn:w.heap.size<=D) (hk:∀ D ∈ ds,w'.heap[D]? = w.heap[D]?):Marked n0 (D :: ds) w':=by
 refine ⟨List.nodup_cons.2 ⟨fun hm=>?_,h.nd⟩,fun x hx=>?_,fun x hx=>?_⟩
 . have:=(Array.getElem?_eq_some_iff.1 (h.at_ D hm)).1;omega
 . rcases List.mem_cons.1 hx with rfl | hx
   . exact hl
   . exact h.lo x hx
 . rcases List.mem_cons.1 hx with rfl | hx
   . exact hD
   . exact (hk x hx).trans (h.at_ x hx)
theorem Marked.keep {n0:Nat} {ds:List Nat} {w w':World} (h:Marked n0 ds w) (hk:∀ D ∈ ds,w'.heap[D]? = w.heap[D]?):Marked n0 ds w':=⟨h.nd,h.lo,fun D hD=>(hk D hD).trans (h.at_ D hD)⟩
structure Turn (n0 Bv:Nat) (W W':World):Prop where
 os:W'.os=W.os
 tape:W'.tape=W.tape
 output:W'.output=W.output
 size:W.heap.size<=W'.heap.size
 old:∀ b,b<n0->b≠Bv->W'.heap[b]? = W.heap[b]?
 data:∀ b o,W.heap[b]? = some o->isBook o=false->b≠Bv->W'.heap[b]? = some o
 fv:Bv<n0->W'.frozen? ⟨Bv,0,none⟩=W.frozen? ⟨Bv,0,none⟩
theorem Turn.alloc {n0 Bv:Nat} (W:World) (o:Obj) (h:n0<=W.heap.size):Turn n0 Bv W (W.alloc o) :=
 ⟨rfl,rfl,rfl,by simp,fun b hb _=>Below.heap_alloc W o b (by omega),fun b o' hb _ _=>(Below.heap_alloc W o b (Array.getElem?_eq_some_iff.1 hb).1).trans hb,fun hb=>World.frozen?_of_block (w:=W) (Below.heap_alloc W o Bv (by omega))⟩
theorem Turn.put {n0 Bv:Nat} {W:World} {l:Nat} {o o':Obj} (hl:n0<=l) (h:W.heap[l]? = some o) (ho:isBook o=true):Turn n0 Bv W (W.putObj l o') :=
 ⟨rfl,rfl,rfl,by simp,fun b hb _=>World.putObj_heap_other (by omega),fun b o2 hb h2 _=>(World.putObj_heap_other (fun e=>by subst e;rw [h] at hb;injection hb with hb;subst hb;rw [ho] at h2;cases h2)).trans hb,fun hb=>World.frozen?_of_block (w:=W) (World.putObj_heap_other (by simp only;omega))⟩
theorem Turn.set {n0 Bv k:Nat} {W:World} {u:Value}:Turn n0 Bv W (W.setCell ⟨Bv,k,none⟩ u):=by
 have hb:=Below.setCell (B:=0) (Below.refl 0 W) (p:=⟨Bv,k,none⟩) (Nat.zero_le _) u
 exact ⟨hb.os,hb.tape,hb.output,hb.size,fun b _ hn=>Below.heap_setCell W ⟨Bv,k,none⟩ u b hn,fun b o h _ hn=>(Below.heap_setCell W ⟨Bv,k,none⟩ u b hn).trans h,fun _=>World.frozen?_setCell ..⟩
theorem Turn.drew {n0 Bv:Nat} (W:World):Turn n0 Bv W W.drew:=⟨rfl,rfl,rfl,Nat.le_refl _,fun _ _ _=>rfl,fun _ _ h _ _=>h,fun _=>rfl⟩
theorem Turn.refl {n0 Bv:Nat} (W:World):Turn n0 Bv W W:=⟨rfl,rfl,rfl,Nat.le_refl _,fun _ _ _=>rfl,fun _ _ h _ _=>h,fun _=>rfl⟩
def KeepsB (n0:Nat) (W W':World):Prop:=∀ b o,n0<=b->W.heap[b]? = some o->isBook o=true->W'.heap[b]? = some o
theorem KeepsB.refl (n0:Nat) (W:World):KeepsB n0 W W:=fun _ _ _ h _=>h
theorem KeepsB.trans {n0:Nat} {A B C:World} (h:KeepsB n0 A B) (k:KeepsB n0 B C):KeepsB n0 A C:=fun b o hb ho hk=>k b o hb (h b o hb ho hk) hk
theorem KeepsB.of_below {n0:Nat} {W W':World} (h:Below W.heap.size W W'):KeepsB n0 W W':=fun b o _ ho _=>(h.block b (Array.getElem?_eq_some_iff.1 ho).1).trans ho
theorem KeepsB.set {n0:Nat} {W:World} {p:Addr} {u v:Value} (hc:W.cell? p=some v):KeepsB n0 W (W.setCell p u):=fun b o _ ho hk=>by
 refine (Below.heap_setCell W p u b (fun e=>?_)).trans ho
 subst e
 unfold World.cell? at hc
 rw [ho] at hc
 cases o with
 | loop l=>simp only at hc;cases hc
 | deferred c=>simp only at hc;cases hc
 | _=>cases hk
variable {P:Program}
set_option linter.unusedVariables false
end Go.Rfu
