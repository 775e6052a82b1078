/- A region that draws its order, by an invariant: one step an operation, whatever the orders. -/
import Derived.Orders
import Derived.RegionTactic
import Derived.RangeFuncNested
import Derived.RangeFuncLeaves
import Derived.RangeFuncRecord
import Derived.WalkKit
import Derived.Deep.Quiet
import Derived.OrdersIn
import Derived.Deep.RegionHeld3
import Derived.KernelRfl
import Derived.LoopTactic
namespace Go.Rgi
open Go
theorem kl {md:Region.Mode} {ops:Array Oper} {l:Array Bool} {i:Nat} (h:i ∈ Region.ready md ops l) :
   l.getD i true=false/\∃ o,ops[i]? = some o/\∀ e ∈ o.after,Region.binds md e=true->l.getD e.on false=true:=by
 unfold Region.ready at h;rw [List.mem_filter] at h;obtain ⟨h1,h2⟩:=h;rw [Bool.and_eq_true] at h2;refine ⟨by simpa using h2.1,?_⟩;have h3:=h2.2
 cases ho:ops[i]? with
 | none=>rw [ho] at h3;simp at h3
 | some o =>
  rw [ho] at h3;simp only [Option.map_some,Option.getD_some,Array.all_eq_true',Bool.or_eq_true,Bool.not_eq_true'] at h3;refine ⟨o,rfl,fun e he hb=>?_⟩
  rcases h3 e he with h | h
  . rw [hb] at h;cases h
  . exact h
theorem zbm {md:Region.Mode} {ops:Array Oper} {l:Array Bool} {i:Nat} {o:Oper} (ho:ops[i]? = some o) (hl:l.getD i true=false) (he:∀ e ∈ o.after,Region.binds md e=true->l.getD e.on false=true):i ∈ Region.ready md ops l:=by
 unfold Region.ready;rw [List.mem_filter];refine ⟨List.mem_range.2 (Array.getElem?_eq_some_iff.1 ho).1,?_⟩;rw [hl,ho];simp only [Bool.not_false,Bool.true_and,Option.map_some,Option.getD_some,Array.all_eq_true',Bool.or_eq_true,Bool.not_eq_true'];intro e h
 cases hb:Region.binds md e with
 | false=>exact .inl rfl
 | true=>exact .inr (he e h hb)
def backB (md:Region.Mode) (ops:Array Oper):Bool:=(List.range ops.size).all fun i=>match ops[i]? with | some o=>o.after.all fun e=>!Region.binds md e || decide (e.on<i) | none=>true
theorem zet {md:Region.Mode} {ops:Array Oper} (hb:backB md ops=true) {i:Nat} {o:Oper} (ho:ops[i]? = some o):∀ e ∈ o.after,Region.binds md e=true->e.on<i:=by
 unfold backB at hb;rw [List.all_eq_true] at hb;have:=hb i (List.mem_range.2 (Array.getElem?_eq_some_iff.1 ho).1);rw [ho] at this;simp only [Array.all_eq_true',Bool.or_eq_true,Bool.not_eq_true',decide_eq_true_iff] at this;intro e he hbd
 rcases this e he with h | h
 . rw [hbd] at h;cases h
 . exact h
theorem yO {l:Array Bool} {i:Nat} (hi:i<l.size):l.getD i true=l.getD i false:=by simp [Array.getD,hi]
theorem zan {md:Region.Mode} {ops:Array Oper} {l:Array Bool} (hb:backB md ops=true) (hs:l.size=ops.size) (h:Region.ready md ops l=[]):∀ i,i<ops.size->l.getD i false=true:=by
 intro i
 induction i using Nat.strongRecOn with
 | _ i ih =>
  intro hi
  cases hl:l.getD i false with
  | true=>rfl
  | false =>
   have ho:ops[i]? = some ops[i]:=Array.getElem?_eq_getElem hi
   have:i ∈ Region.ready md ops l:=zbm ho (by rw [yO (by omega)];exact hl) fun e he hbd=>by
     have hlt:=zet hb ho e he hbd;exact ih e.on hlt (by omega)
   rw [h] at this
   cases this
theorem zcJ {l:Array Bool} {i:Nat}:(l.setIfInBounds i true).size=l.size:=by simp
theorem zbn {l:Array Bool} {i:Nat} (hi:i<l.size) (hl:l.getD i true=false):(l.setIfInBounds i true).toList.count false+1=l.toList.count false:=by
 have hi':i<l.toList.length:=by simpa using hi
 have hv:l.toList[i]=false:=by simpa [Array.getD,hi] using hl
 rw [Array.toList_setIfInBounds,List.count_set hi',hv]
 show l.toList.count false - (if (false == false)=true then 1 else 0)+(if (true == false)=true then 1 else 0)+1=_
 rw [if_pos (show (false == false)=true from rfl),if_neg (show ¬ (true == false)=true by decide)];have:0<l.toList.count false:=List.count_pos_iff.2 (by rw [<- hv];exact List.getElem_mem hi');omega
theorem ze6 {md:Region.Mode} {ops:Array Oper} {l:Array Bool} (hs:l.size=ops.size) (h:l.toList.count false=0):Region.ready md ops l=[]:=by
 cases hr:Region.ready md ops l with
 | nil=>rfl
 | cons i t =>
  have hm:i ∈ Region.ready md ops l:=by rw [hr];exact List.mem_cons_self
  obtain ⟨hl,o,ho,_⟩:=kl hm;have hi:i<l.size:=by rw [hs];exact (Array.getElem?_eq_some_iff.1 ho).1
  have hv:l.toList[i]'(by simpa using hi)=false:=by simpa [Array.getD,hi] using hl
  have:0<l.toList.count false:=List.count_pos_iff.2 (by rw [<- hv];exact List.getElem_mem _);omega
theorem km {P:Program} {ops:Array Oper} {Q:Exit->Act->World->Prop} {md:Region.Mode} (I:Array Bool->Act->World->Prop) (hb:backB md ops=true)
   (hstep:∀ l a w,l.size=ops.size->I l a w->∀ i o,ops[i]? = some o->l.getD i true=false->(∀ e ∈ o.after,Region.binds md e=true->l.getD e.on false=true)->wpOp P ops Q i (I (l.setIfInBounds i true)) a w)
   (hend:∀ l a w,I l a w->(∀ i,i<ops.size->l.getD i false=true)->Q .normal a w) :
   ∀ fuel l a w,l.size=ops.size->l.toList.count false<=fuel->I l a w->wpAny P md ops Q fuel l a w
 | 0,l,a,w,hs,hc,hI=>by
   have hr:Region.ready md ops l=[]:=ze6 hs (by omega);exact ⟨hr,hend l a w hI (zan hb hs hr)⟩
 | f+1,l,a,w,hs,hc,hI=>by
   refine ⟨fun hr=>hend l a w hI (zan hb hs hr),fun i hi=>?_⟩;obtain ⟨hl,o,ho,he⟩:=kl hi;refine wpOp_mono (fun a' w' h=>?_) (hstep l a w hs hI i o ho hl he);have hi':i<l.size:=by rw [hs];exact (Array.getElem?_eq_some_iff.1 ho).1
   refine km I hb hstep hend f _ a' w' (zcJ.trans hs) ?_ h;have:=zbn hi' hl;omega
theorem zaX {P:Program} {id:Nat} {ops:Array Oper} {Q:Exit->Act->World->Prop} {a:Act} {w:World} (hm:P.follows .mixedOrders=true) (I:Array Bool->Act->World->Prop) (hb:backB .any ops=true)
   (h0:I (Array.replicate ops.size false) a w.drew)
   (hstep:∀ l a w,l.size=ops.size->I l a w->∀ i o,ops[i]? = some o->l.getD i true=false->(∀ e ∈ o.after,Region.binds .any e=true->l.getD e.on false=true)->wpOp P ops Q i (I (l.setIfInBounds i true)) a w)
   (hend:∀ l a w,I l a w->(∀ i,i<ops.size->l.getD i false=true)->Q .normal a w):(Code.region id ops true).wp P Q a w :=
 wp_region_any hm (km I hb hstep hend ops.size _ a w.drew (by simp) (by simp) h0)
theorem yj {P:Program} {ops:Array Oper} {Q:Exit->Act->World->Prop} {i:Nat} {o:Oper} {a:Act} {w:World} {K:Act->World->Prop} (ho:ops[i]? = some o)
   (h:∀ K':Act->World->Prop,(∀ a w,K a w->K' a w)->if Region.wanted o (yielded ops a.tmps)=true then Oper.wp P o a w K' Q else K' (a.put o.dst undef) w):wpOp P ops Q i K a w :=
 wpOp_step ho h
theorem qy {l:Array Bool} {i k:Nat} (hi:i<l.size):(l.setIfInBounds i true).getD k false=if i=k then true else l.getD k false:=by
 by_cases h:i=k
 . subst h;simp [Array.getD,hi]
 . rw [if_neg h]
   simp only [Array.getD,Array.size_setIfInBounds]
   by_cases hk:k<l.size
   . simp [hk,h]
   . simp [hk]
end Go.Rgi

namespace Go.Rfu
open Go Go.RowKit
variable {P:Program}
set_option linter.unusedVariables false
def isBook:Obj->Bool
 | .loop _=>true
 | .deferred _=>true
 | _=>false
def marks (ds:List Nat):List Deferred:=ds.map fun D=>{ target:=.collected D,args:=#[] }
structure Marked (n0:Nat) (ds:List Nat) (w:World):Prop where
 nd:ds.Nodup
 lo:∀ D ∈ ds,n0<=D
 at_:∀ D ∈ ds,w.heap[D]? = some (.deferred (some []))
theorem Marked.nil (n0:Nat) (w:World):Marked n0 [] w:=⟨List.nodup_nil,fun _ h=>absurd h (by simp),fun _ h=>absurd h (by simp)⟩
theorem Marked.cons {n0:Nat} {ds:List Nat} {w w':World} {D:Nat} (h:Marked n0 ds w) (hD:w'.heap[D]? = some (.deferred (some []))) (hl:n0<=D) (hn:w.heap.size<=D) (hk:∀ D ∈ ds,w'.heap[D]? = w.heap[D]?):Marked n0 (D :: ds) w':=by
 refine ⟨List.nodup_cons.2 ⟨fun hm=>?_,h.nd⟩,fun x hx=>?_,fun x hx=>?_⟩
 . have:=(Array.getElem?_eq_some_iff.1 (h.at_ D hm)).1;omega
 . rcases List.mem_cons.1 hx with rfl | hx
   . exact hl
   . exact h.lo x hx
 . rcases List.mem_cons.1 hx with rfl | hx
   . exact hD
   . exact (hk x hx).trans (h.at_ x hx)
theorem Marked.keep {n0:Nat} {ds:List Nat} {w w':World} (h:Marked n0 ds w) (hk:∀ D ∈ ds,w'.heap[D]? = w.heap[D]?):Marked n0 ds w':=⟨h.nd,h.lo,fun D hD=>(hk D hD).trans (h.at_ D hD)⟩
def shut:List Nat->World->World
 | [],w=>w
 | D :: ds,w=>shut ds (w.putObj D (.deferred none))
theorem qC {b:Nat}:∀ (ds:List Nat) (w:World),b ∉ ds->(shut ds w).heap[b]? = w.heap[b]?
 | [],_,_=>rfl
 | D :: ds,w,h=>by
   unfold shut;rw [qC ds _ (fun hm=>h (List.mem_cons_of_mem _ hm)),World.putObj_heap_other (fun e=>h (by rw [e];exact List.mem_cons_self))]
theorem kn:∀ (ds:List Nat) (w:World),(shut ds w).heap.size=w.heap.size
 | [],_=>rfl
 | D :: ds,w=>by unfold shut;rw [kn ds];simp
theorem yP:∀ (ds:List Nat) (w:World),(shut ds w).os=w.os/\(shut ds w).tape=w.tape/\(shut ds w).output=w.output
 | [],_=>⟨rfl,rfl,rfl⟩
 | D :: ds,w=>by unfold shut;exact yP ds _
theorem zU {n0:Nat} {ds:List Nat} {w:World} (h:∀ D ∈ ds,n0<=D):Below n0 w (shut ds w) :=
 ⟨(yP ds w).1,(yP ds w).2.1,(yP ds w).2.2,by rw [kn];exact Nat.le_refl _,fun b hb=>qC ds w fun hm=>by have:=h b hm;omega⟩
theorem zbo {n0:Nat} {ds:List Nat} {w:World} (h:Marked n0 ds w) {b:Nat} {o:Obj} (hb:w.heap[b]? = some o) (ho:isBook o=false):(shut ds w).heap[b]? = some o:=by
 rw [qC ds w (fun hm=>by rw [h.at_ b hm] at hb;injection hb with hb;subst hb;cases ho)];exact hb
def postM (P:Program) (fn:Func) (R:Ending->World->Prop):Exit->Act->World->Prop
 | .normal,a,w=>LeavesInM Fence.wide 9 P fn a.tmps R a.defers .returning w
 | .ret,a,w=>LeavesInM Fence.wide 9 P fn a.tmps R a.defers .returning w
 | .outgrown,_,w=>R .outgrown w
 | _,_,_=>False
theorem zG {f:FuncId} {fn:Func} {c:Code} {args:Array Value} {w:World} {R:Ending->World->Prop} (hf:P.funcs[f]? = some fn) (hb:fn.body=some c)
   (h:c.wp P (postM P fn R) { tmps:=args ++ Array.replicate (fn.ntmps - args.size) undef,defers:=[] } w):Calls P f args w R:=by
 refine (callsIn_wide (n:=9)).1 (callsIn_of_wp_marks hf hb trivial (wpIn_wide.2 (wp_mono h fun e a w hq=>?_)))
 cases e with
 | normal=>exact hq
 | ret=>exact hq
 | outgrown=>exact hq
 | panic ch=>exact hq.elim
 | exit id=>exact hq.elim
 | goto l=>exact hq.elim
theorem yX {fn:Func} {tmps:Array Value} {R:Ending->World->Prop} {v:Value} {n0:Nat}:∀ (ds:List Nat) (w:World),Marked n0 ds w->(results fn tmps).run P (shut ds w)=.ok v (shut ds w)->R (.returned v) (shut ds w)->LeavesInM Fence.wide 9 P fn tmps R (marks ds) .returning w
 | [],_,_,hr,hR=>⟨v,hr,hR⟩
 | D :: ds,w,h,hr,hR=>by
   refine ⟨by simp,.inl ⟨D,_,rfl,run_takeDeferred (h.at_ D List.mem_cons_self),?_⟩⟩;refine yX ds _ ⟨(List.nodup_cons.1 h.nd).2,fun x hx=>h.lo x (List.mem_cons_of_mem _ hx),fun x hx=>?_⟩ hr hR;rw [World.putObj_heap_other (fun e=>(List.nodup_cons.1 h.nd).1 (by rw [<- e];exact hx))];exact h.at_ x (List.mem_cons_of_mem _ hx)
theorem yl {fn:Func} {tmps:Array Value} {R:Ending->World->Prop} {v:Value} {n0:Nat} {ds:List Nat} {w:World} (h:Marked n0 ds w) (hr:(results fn tmps).run P (shut ds w)=.ok v (shut ds w)) (hR:R (.returned v) (shut ds w)):postM P fn R .ret { tmps,defers:=marks ds } w :=
 yX ds w h hr hR
structure Turn (n0 Bv:Nat) (W W':World):Prop where
 os:W'.os=W.os
 tape:W'.tape=W.tape
 output:W'.output=W.output
 size:W.heap.size<=W'.heap.size
 old:∀ b,b<n0->b≠Bv->W'.heap[b]? = W.heap[b]?
 data:∀ b o,W.heap[b]? = some o->isBook o=false->b≠Bv->W'.heap[b]? = some o
 fv:Bv<n0->W'.frozen? ⟨Bv,0,none⟩=W.frozen? ⟨Bv,0,none⟩
theorem Turn.alloc {n0 Bv:Nat} (W:World) (o:Obj) (h:n0<=W.heap.size):Turn n0 Bv W (W.alloc o) :=
 ⟨rfl,rfl,rfl,by simp,fun b hb _=>Below.heap_alloc W o b (by omega),fun b o' hb _ _=>(Below.heap_alloc W o b (Array.getElem?_eq_some_iff.1 hb).1).trans hb,fun hb=>World.frozen?_of_block (w:=W) (Below.heap_alloc W o Bv (by omega))⟩
theorem Turn.put {n0 Bv:Nat} {W:World} {l:Nat} {o o':Obj} (hl:n0<=l) (h:W.heap[l]? = some o) (ho:isBook o=true):Turn n0 Bv W (W.putObj l o') :=
 ⟨rfl,rfl,rfl,by simp,fun b hb _=>World.putObj_heap_other (by omega),fun b o2 hb h2 _=>(World.putObj_heap_other (fun e=>by subst e;rw [h] at hb;injection hb with hb;subst hb;rw [ho] at h2;cases h2)).trans hb,fun hb=>World.frozen?_of_block (w:=W) (World.putObj_heap_other (by simp only;omega))⟩
theorem Turn.set {n0 Bv k:Nat} {W:World} {u:Value}:Turn n0 Bv W (W.setCell ⟨Bv,k,none⟩ u):=by
 have hb:=Below.setCell (B:=0) (Below.refl 0 W) (p:=⟨Bv,k,none⟩) (Nat.zero_le _) u;exact ⟨hb.os,hb.tape,hb.output,hb.size,fun b _ hn=>Below.heap_setCell W ⟨Bv,k,none⟩ u b hn,fun b o h _ hn=>(Below.heap_setCell W ⟨Bv,k,none⟩ u b hn).trans h,fun _=>World.frozen?_setCell ..⟩
theorem Turn.drew {n0 Bv:Nat} (W:World):Turn n0 Bv W W.drew:=⟨rfl,rfl,rfl,Nat.le_refl _,fun _ _ _=>rfl,fun _ _ h _ _=>h,fun _=>rfl⟩
theorem Turn.refl {n0 Bv:Nat} (W:World):Turn n0 Bv W W:=⟨rfl,rfl,rfl,Nat.le_refl _,fun _ _ _=>rfl,fun _ _ h _ _=>h,fun _=>rfl⟩
def KeepsB (n0:Nat) (W W':World):Prop:=∀ b o,n0<=b->W.heap[b]? = some o->isBook o=true->W'.heap[b]? = some o
theorem KeepsB.refl (n0:Nat) (W:World):KeepsB n0 W W:=fun _ _ _ h _=>h
theorem KeepsB.trans {n0:Nat} {A B C:World} (h:KeepsB n0 A B) (k:KeepsB n0 B C):KeepsB n0 A C:=fun b o hb ho hk=>k b o hb (h b o hb ho hk) hk
theorem KeepsB.of_below {n0:Nat} {W W':World} (h:Below W.heap.size W W'):KeepsB n0 W W':=fun b o _ ho _=>(h.block b (Array.getElem?_eq_some_iff.1 ho).1).trans ho
theorem KeepsB.set {n0:Nat} {W:World} {p:Addr} {u v:Value} (hc:W.cell? p=some v):KeepsB n0 W (W.setCell p u):=fun b o _ ho hk=>by
 refine (Below.heap_setCell W p u b (fun e=>?_)).trans ho;subst e;unfold World.cell? at hc;rw [ho] at hc
 cases o with
 | loop l=>simp only at hc;cases hc
 | deferred c=>simp only at hc;cases hc
 | _=>cases hk
def roundQ (n0 Bv:Nat) (v:Int) (I:World->Prop) (Ix:World->Prop) (W:World):Exit->Act->World->Prop
 | .normal,_,W'=>KeepsB n0 W W'/\W'.cell? ⟨Bv,0,none⟩=some (.int .i64 v)/\I W'
 | .ret,_,W'=>KeepsB n0 W W'/\Ix W'
 | _,_,_=>False
theorem zcK {g:Operand} {ps:Array Tmp} {assign body:Code} {Q:Exit->Act->World->Prop} {a:Act} {w:World} {gf:Nat} {lb:Array Value} (hg:a.eval g=.func (.func gf) #[] lb) (eg:∀ args w,(callFunc gf args).run P w=.ok (.enter gf args) w) (hps:ps.size=1)
   (U:World->Prop) (cur:Nat->Int) (n Bv:Nat) (hBv:Bv<w.heap.size)
   (hit:∀ (l:Nat) (J:Nat->World->Prop) (Jx:World->Prop) (W:World),(∀ k W,J k W->U W)->(∀ k W u,J k W->J k (W.setCell ⟨Bv,0,none⟩ u))->(∀ k W,J k W->J k W.drew) ->
     (∀ k W1,k<n->J k W1->W1.cell? ⟨Bv,0,none⟩=some (.int .i64 (cur k))->YieldAt Fence.wide 7 P l #[.int .i64 (cur k)] W1 fun e W'=>(e=.returned (.bool true)/\J (k+1) W'/\W'.cell? ⟨Bv,0,none⟩=some (.int .i64 (cur k)))\/(e=.returned (.bool false)/\Jx W')) ->
     J 0 W->W.cell? ⟨Bv,0,none⟩=some (.int .i64 (cur 0))->CallsIn Fence.wide 8 P gf (#[.func (.yield l) #[] #[]] ++ lb) W fun e W'=>(∃ v,e=.returned v)/\(J n W'\/Jx W'))
   (I:Nat->World->Prop) (Ix:World->Prop) (hU:∀ k W,I k W->U W) (hI:∀ k W W',I k W->Turn w.heap.size Bv W W'->I k W') (hIx:∀ W W',Ix W->Turn w.heap.size Bv W W'->Ix W') (h0:I 0 w) (hv0:w.cell? ⟨Bv,0,none⟩=some (.int .i64 (cur 0))) (a₁:Int->Act)
   (hassign:∀ (l:Nat) (x:Int) (W:World) (K:Act->World->Prop),K (a₁ x) W->assign.wpIn (Fence.wide.inRound l) 7 P (Exit.then K (fun _ _ _=>False)) { tmps:=(ps.zip #[.int .i64 x]).foldl (fun t (p,v)=>t.setIfInBounds p v) a.tmps,defers:=[] } W)
   (hbody:∀ (l k:Nat) (W:World),k<n->I k W->W.cell? ⟨Bv,0,none⟩=some (.int .i64 (cur k))->body.wpIn (Fence.wide.inRound l) 7 P (roundQ w.heap.size Bv (cur k) (I (k+1)) Ix W) (a₁ (cur k)) W)
   (hdone:∀ (D:Nat) (W:World),w.heap.size<=D->I n W->W.heap[D]? = some (.deferred (some []))->Q .normal { a with defers:={ target:=.collected D,args:=#[] } :: a.defers } W)
   (hstop:∀ (D:Nat) (W:World),w.heap.size<=D->Ix W->W.heap[D]? = some (.deferred (some []))->Q .ret { a with defers:={ target:=.collected D,args:=#[] } :: a.defers } W) :
   (Code.rangeFunc g ps assign body).wp P Q a w:=by
 refine (wpIn_wide (n:=9)).1 (wpIn_rangeFunc fun fn hfn=>?_);obtain ⟨rec,hrec⟩:∃ rec:LoopState->Option Code->Loop,rec=fun st pe=>{ state:=st,pending:=pe,fn,tmps:=a.tmps,params:=ps,assign,body,defers:=w.heap.size }:=⟨_,rfl⟩;obtain ⟨W1,hW1⟩:∃ W1,(w.alloc (.deferred (some []))).alloc (.loop (rec .ready none))=W1:=⟨_,rfl⟩;have t1:Turn w.heap.size Bv w (w.alloc (.deferred (some []))):=Turn.alloc w _ (Nat.le_refl _);have t2:Turn w.heap.size Bv (w.alloc (.deferred (some []))) W1:=by rw [<- hW1];exact Turn.alloc _ _ (by simp)
 have hL1:W1.heap[w.heap.size+1]? = some (.loop (rec .ready none)):=by
   rw [<- hW1];have:=World.alloc_heap_new (w.alloc (.deferred (some []))) (.loop (rec .ready none));rwa [World.size_alloc] at this
 have hK1:W1.heap[w.heap.size]? = some (.deferred (some [])):=by
   rw [<- hW1];exact (Below.heap_alloc _ _ _ (by simp)).trans (World.alloc_heap_new w _)
 have hv1:W1.cell? ⟨Bv,0,none⟩=some (.int .i64 (cur 0)):=by
   rw [<- hW1];have hb:Below w.heap.size w ((w.alloc (.deferred (some []))).alloc (.loop (rec .ready none))):=((Below.refl _ w).alloc (Nat.le_refl _) _).alloc (by simp) _;exact (hb.cell (p:=⟨Bv,0,none⟩) hBv).trans hv0
 refine ⟨w.heap.size+1,[{ target:=.collected w.heap.size,args:=#[] }],W1,{ target:=.fn (.func gf) lb,args:=#[.func (.yield (w.heap.size+1)) #[] #[]] },W1,gf,
   #[.func (.yield (w.heap.size+1)) #[] #[]] ++ lb,W1,?_,?_,?_,?_,fun _=>by decide,?_⟩
 . rw [<- hW1,hrec];exact run_enterLoop_outer _ _ _ _ _
 . simp only [resolve,hg];simp [go_sem]
 . intro f' _;trivial
 . simp [invoke,go_sem,eg]
 . refine (hit (w.heap.size+1) (fun k W=>I k W/\W.heap[w.heap.size+1]? = some (.loop (rec .ready none))/\W.heap[w.heap.size]? = some (.deferred (some [])))
     (fun W=>Ix W/\W.heap[w.heap.size+1]? = some (.loop (rec .done (some .ret)))/\W.heap[w.heap.size]? = some (.deferred (some []))) W1 (fun k W h=>hU k W h.1) ?_ ?_ ?_ ⟨hI _ _ _ (hI _ _ _ h0 t1) t2,hL1,hK1⟩ hv1).mono ?_
   . rintro k W u ⟨hi,hl,hk⟩
     exact ⟨hI _ _ _ hi Turn.set,(Below.heap_setCell W ⟨Bv,0,none⟩ u _ (by simp only;omega)).trans hl,(Below.heap_setCell W ⟨Bv,0,none⟩ u _ (by simp only;omega)).trans hk⟩
   . rintro k W ⟨hi,hl,hk⟩
     exact ⟨hI _ _ _ hi (Turn.drew W),hl,hk⟩
   . rintro k W hkn ⟨hi,hl,hk⟩ hv
     have hy:=run_yield (P:=P) (args:=#[.int .i64 (cur k)]) hl (by rw [hrec];exact hps.symm);rw [hrec] at hy;refine ⟨fn,_,assign,body,hy,roundIn_of_wpIn hfn (hassign _ (cur k) W _ ?_)⟩;clear hy;have hlt:w.heap.size+1<W.heap.size:=(Array.getElem?_eq_some_iff.1 hl).1;refine ⟨_,run_beginRound hl (by rw [hrec]),?_⟩;obtain ⟨W2,hW2⟩:∃ W2,W2=W.putObj (w.heap.size+1) (.loop { rec .ready none with state:=.busy }):=⟨_,rfl⟩;rw [<- hW2];have hl2:W2.heap[w.heap.size+1]? = some (.loop { rec .ready none with state:=.busy }):=by rw [hW2];exact World.putObj_heap_same hlt
     have hk2:W2.heap[w.heap.size]? = some (.deferred (some [])):=by rw [hW2];exact (World.putObj_heap_other (by omega)).trans hk
     have hi2:I k W2:=by rw [hW2];exact hI _ _ _ hi (Turn.put (by omega) hl rfl)
     have hv2:W2.cell? ⟨Bv,0,none⟩=some (.int .i64 (cur k)):=by
       rw [hW2];exact (World.cell?_of_block (w:=W) (World.putObj_heap_other (by simp only;omega))).trans hv
     refine wpIn_mono (hbody _ k W2 hkn hi2 hv2) ?_;rintro e a3 W3 hp
     cases e with
     | normal =>
      obtain ⟨hkb,hv3,hi3⟩:=hp;have hl3:=hkb _ _ (by omega) hl2 rfl;have hk3:=hkb _ _ (Nat.le_refl _) hk2 rfl;have hr:=run_endRound (P:=P) none hl3;rw [hrec] at hr hl3;refine ⟨_,_,hr,.inl ⟨rfl,⟨hI _ _ _ hi3 (Turn.put (by omega) hl3 rfl),?_,(World.putObj_heap_other (by omega)).trans hk3⟩,?_⟩⟩
      . rw [hrec];exact World.putObj_heap_same (Array.getElem?_eq_some_iff.1 hl3).1
      . exact (World.cell?_of_block (w:=W3) (World.putObj_heap_other (by simp only;omega))).trans hv3
     | ret =>
      obtain ⟨hkb,hi3⟩:=hp;have hl3:=hkb _ _ (by omega) hl2 rfl;have hk3:=hkb _ _ (Nat.le_refl _) hk2 rfl;have hr:=run_endRound (P:=P) (some .ret) hl3;rw [hrec] at hr hl3;refine ⟨_,_,hr,.inr ⟨rfl,hIx _ _ hi3 (Turn.put (by omega) hl3 rfl),?_,(World.putObj_heap_other (by omega)).trans hk3⟩⟩;rw [hrec];exact World.putObj_heap_same (Array.getElem?_eq_some_iff.1 hl3).1
     | exit id=>exact hp.elim
     | goto t=>exact hp.elim
     | panic ch=>exact hp.elim
     | outgrown=>exact hp.elim
   . rintro e W2 ⟨⟨v,rfl⟩,(⟨hi,hl,hk⟩ | ⟨hi,hl,hk⟩)⟩
     . have hr:=run_endLoop (P:=P) hl (by rw [hrec];simp)
       rw [hrec] at hr;exact ⟨none,_,hr,hdone _ _ (Nat.le_refl _) (hI _ _ _ hi (Turn.put (by omega) hl rfl)) ((World.putObj_heap_other (by omega)).trans hk)⟩
     . have hr:=run_endLoop (P:=P) hl (by rw [hrec];simp)
       rw [hrec] at hr;exact ⟨some .ret,_,hr,wpIn_ret (hstop _ _ (Nat.le_refl _) (hIx _ _ hi (Turn.put (by omega) hl rfl)) ((World.putObj_heap_other (by omega)).trans hk))⟩
theorem zaY {g:Operand} {p:Tmp} {body:Code} {Q:Exit->Act->World->Prop} {a:Act} {w:World} {gf:Nat} {lb:Array Value} (hg:a.eval g=.func (.func gf) #[] lb) (eg:∀ args w,(callFunc gf args).run P w=.ok (.enter gf args) w)
   (U:World->Prop) (cur:Nat->Int) (n Bv:Nat) (hBv:Bv<w.heap.size)
   (hit:∀ (l:Nat) (J:Nat->World->Prop) (Jx:World->Prop) (W:World),(∀ k W,J k W->U W)->(∀ k W u,J k W->J k (W.setCell ⟨Bv,0,none⟩ u))->(∀ k W,J k W->J k W.drew) ->
     (∀ k W1,k<n->J k W1->W1.cell? ⟨Bv,0,none⟩=some (.int .i64 (cur k))->YieldAt Fence.wide 7 P l #[.int .i64 (cur k)] W1 fun e W'=>(e=.returned (.bool true)/\J (k+1) W'/\W'.cell? ⟨Bv,0,none⟩=some (.int .i64 (cur k)))\/(e=.returned (.bool false)/\Jx W')) ->
     J 0 W->W.cell? ⟨Bv,0,none⟩=some (.int .i64 (cur 0))->CallsIn Fence.wide 8 P gf (#[.func (.yield l) #[] #[]] ++ lb) W fun e W'=>(∃ v,e=.returned v)/\(J n W'\/Jx W'))
   (I:Nat->World->Prop) (Ix:World->Prop) (hU:∀ k W,I k W->U W) (hI:∀ k W W',I k W->Turn w.heap.size Bv W W'->I k W') (hIx:∀ W W',Ix W->Turn w.heap.size Bv W W'->Ix W') (h0:I 0 w) (hv0:w.cell? ⟨Bv,0,none⟩=some (.int .i64 (cur 0)))
   (hbody:∀ (l k:Nat) (W:World),k<n->I k W->W.cell? ⟨Bv,0,none⟩=some (.int .i64 (cur k))->body.wpIn (Fence.wide.inRound l) 7 P (roundQ w.heap.size Bv (cur k) (I (k+1)) Ix W) { tmps:=a.tmps.setIfInBounds p (.int .i64 (cur k)),defers:=[] } W)
   (hdone:∀ (D:Nat) (W:World),w.heap.size<=D->I n W->W.heap[D]? = some (.deferred (some []))->Q .normal { a with defers:={ target:=.collected D,args:=#[] } :: a.defers } W)
   (hstop:∀ (D:Nat) (W:World),w.heap.size<=D->Ix W->W.heap[D]? = some (.deferred (some []))->Q .ret { a with defers:={ target:=.collected D,args:=#[] } :: a.defers } W) :
   (Code.rangeFunc g #[p] Code.skip body).wp P Q a w :=
 zcK hg eg rfl U cur n Bv hBv hit I Ix hU hI hIx h0 hv0 (fun x=>{ tmps:=a.tmps.setIfInBounds p (.int .i64 x),defers:=[] }) (fun l x W K h=>wpIn_skip (by show K _ W;simpa using h)) hbody hdone hstop
variable {P:Program}
set_option linter.unusedVariables false
def noDefer (o:Oper):Bool:=match o.op with | .defer _=>false | _=>true
theorem zaZ {o:Oper} (h:noDefer o=true) (ro:Option Nat) (ρ:Operand->Value):Oper.semAt ro ρ o=execOp ρ o :=
 Oper.semAt_eq ro ρ o fun c e=>by unfold noDefer at h;rw [e] at h;cases h
theorem za4 {o:Oper} {l n:Nat} {a:Act} {w:World} {K:Act->World->Prop} {Q:Exit->Act->World->Prop} (hd:noDefer o=true) (h:o.wp P a w K Q):o.wpIn (Fence.wide.inRound l) n P a w K Q:=by
 refine ⟨fun _ _=>trivial,?_⟩;rw [zaZ hd];unfold Oper.wp at h
 cases hr:(execOp a.eval o).run P w with
 | halt x w'=>rw [hr] at h;cases x <;> exact h
 | ok nx w' =>
  rw [hr] at h
  cases nx <;> first
    | exact h
    | exact (h:False).elim
    | exact ⟨fun hx=>(by cases hx),CallsIn.inRound l ((callsIn_wide (n:=n - 1)).2 h)⟩
    | exact ⟨fun hx=>(by cases hx),fun c cs _=>let ⟨v,w',r,s⟩:=h c cs;⟨v,w',r,stepsIn_wide.2 s⟩⟩
theorem yK {md:Region.Mode} {ops:Array Oper} {Q:Exit->Act->World->Prop} {l n:Nat} (hd:ops.all noDefer=true) (hL:¬ LetsOut Q):∀ (fuel:Nat) (li:Array Bool) (a:Act) (w:World),wpAny P md ops Q fuel li a w->wpAnyIn (Fence.wide.inRound l) n P md ops Q fuel li a w
 | 0,_,_,_,h=>h
 | fuel+1,li,a,w,h=>by
   refine ⟨h.1,fun i hi=>?_⟩;have hw:=h.2 i hi;unfold wpOp at hw;unfold wpOpIn
   cases ho:ops[i]? with
   | none=>rw [ho] at hw;exact yK hd hL fuel _ a w hw
   | some o =>
    rw [ho] at hw
    have hdo:noDefer o=true:=by
      obtain ⟨hi,e⟩:=Array.getElem?_eq_some_iff.1 ho;have:=(Array.all_eq_true.1 hd) i hi;rw [e] at this;exact this
    simp only at hw |-
    split
    . rename_i hq
      rw [if_pos hq] at hw
      rcases hw with hw | hw
      . exact za4 hdo (Oper.wp_mono (fun a' w' h'=>yK hd hL fuel _ a' w' h') hw)
      . exact absurd hw.2 hL
    . rename_i hq
      rw [if_neg hq] at hw;exact ⟨fun _ _=>trivial,yK hd hL fuel _ _ _ hw⟩
theorem ze7 {id:Nat} {ops:Array Oper} {Q:Exit->Act->World->Prop} {l n:Nat} {a:Act} {w:World} (hm:P.follows .mixedOrders=true) (hd:ops.all noDefer=true) (hL:¬ LetsOut Q) (h:wpAny P .any ops Q ops.size (Array.replicate ops.size false) a w.drew):(Code.region id ops true).wpIn (Fence.wide.inRound l) n P Q a w :=
 wpIn_region_any hm (yK hd hL _ _ _ _ h)
theorem kI {id:Nat} {Q:Exit->Act->World->Prop} {l n:Nat} {a:Act} {w:World} {ops:List Oper} (hm:P.follows .mixedOrders=true) (hd:ops.toArray.all noDefer=true) (hB:Region.lexB .any ops.toArray=true) (hL:¬ LetsOut Q)
   (h:wpQuiet P ops.toArray (fun w'=>∃ n,w'=w.drewN n) (fun a'=>∀ w',(∃ n,w'=w.drewN n)->Q .normal a' w') ops a):(Code.region id ops.toArray true).wpIn (Fence.wide.inRound l) n P Q a w:=by
 simp only [Region.lexB,Bool.and_eq_true] at hB;refine ze7 hm hd hL (wpAny_of_quiet (C:=fun w'=>∃ n,w'=w.drewN n) (Q:=fun a'=>∀ w',(∃ n,w'=w.drewN n)->Q .normal a' w') (fun _ w' hw' h=>h w' hw') _ _ _ _ ⟨1,rfl⟩ ?_);have:=wpAnyQ_lex (C:=fun w'=>∃ n,w'=w.drewN n) (md:=.any) hB.1 ops 0 (Array.replicate ops.toArray.size false) a (by simp) (by simpa using hB.2) h;simpa using this
end Go.Rfu

namespace Go.Rgi
open Go
set_option linter.unusedVariables false
def sinkQ (P:Program) (o:Oper) (Q:Exit->Act->World->Prop):Exit->Act->World->Prop
 | .normal,a,w=>o.wp P a w (fun a w=>Q .normal a w) Q
 | e,a,w=>Q e a w
theorem zI {P:Program} {o:Oper} {Q:Exit->Act->World->Prop} {a:Act} {w:World} (h:∀ K:Act->World->Prop,(∀ a w,Q .normal a w->K a w)->o.wp P a w K Q):sinkQ P o Q .normal a w:=h _ fun _ _ h=>h
theorem zdy {P:Program} {o:Oper} {Q:Exit->Act->World->Prop} (h:LetsOut (sinkQ P o Q)):LetsOut Q:=h
theorem ze8 {P:Program} {o o':Oper} {Q:Exit->Act->World->Prop} {a:Act} {w:World} {K:Act->World->Prop} (h:o'.wp P a w K (sinkQ P o Q)):o'.wp P a w K Q:=by
 unfold Oper.wp at *;generalize (execOp a.eval o').run P w=r at *
 cases r with
 | ok n w' =>
  cases n <;> simp only [Oper.upon] at h |- <;>
    first
      | exact h
      | exact Calls.mono h (fun e w'' he=>by cases e <;> exact he)
 | halt x w'=>cases x <;> simp only [Oper.upon] at h |- <;> exact h
def waitsOn (ops:Array Oper) (j i:Nat):Bool:=match ops[j]? with | some o=>o.after.any (fun e=>Region.binds .any e && e.on == i) | none=>false
def reachGo (ops:Array Oper):Nat->List Nat->List Nat
 | 0,R=>R
 | i+1,R=>reachGo ops i (if R.any (fun j=>waitsOn ops j i) then i :: R else R)
def guardB (ops:Array Oper) (n:Nat):Bool:=(List.range n).all fun i=>match ops[i]? with | some o=>(match o.guard with | some (g,_)=>decide (g<n) | none=>true) | none=>true
theorem zcL {ops:Array Oper} {G L:Nat->Prop} (h1:∀ j,G j->∀ i,waitsOn ops j i=true->L i) (h2:∀ i,L i->G i):∀ (i:Nat) (R:List Nat),(∀ j ∈ R,G j)->∀ j ∈ reachGo ops i R,G j
 | 0,R,h=>h
 | i+1,R,h=>by
   unfold reachGo;refine zcL h1 h2 i _ ?_
   split
   . rename_i hc
     obtain ⟨j,hj,hw⟩:=List.any_eq_true.1 hc;intro k hk
     rcases List.mem_cons.1 hk with rfl | hk
     . exact h2 _ (h1 j (h j hj) _ hw)
     . exact h k hk
   . exact h
theorem zdz {ops:Array Oper} {j i:Nat} (h:waitsOn ops j i=true):∃ o,ops[j]? = some o/\∃ e ∈ o.after,Region.binds .any e=true/\e.on=i:=by
 unfold waitsOn at h
 split at h
 . rename_i o ho
   obtain ⟨e,he,hb⟩:=Array.any_eq_true'.1 h;rw [Bool.and_eq_true] at hb;exact ⟨o,ho,e,he,hb.1,by simpa using hb.2⟩
 . cases h
def closedB (ops:Array Oper) (l:Array Bool):Bool:=(List.range ops.size).all fun j=>!l.getD j false || (match ops[j]? with | some o=>o.after.all (fun e=>!Region.binds .any e || l.getD e.on false) | none=>true)
def sinkB2 (ops:Array Oper) (n:Nat) (l:Array Bool):Bool :=
 (ops.size == n+1) && backB .any ops && guardB ops n && (match ops[n]? with | some o=>o.guard.isNone | none=>false) && (List.range n).all (fun i=>l.getD i false || (reachGo ops n [n]).contains i) && (l.size == n+1) && (!l.getD n true) && closedB ops l
theorem zz {P:Program} {n fuel:Nat} {ops ops':Array Oper} {o:Oper} {Q:Exit->Act->World->Prop} {a:Act} {w:World} {l0:Array Bool} (hf:l0.toList.count false<=fuel) (hB:sinkB2 ops n l0=true) (ho:ops[n]? = some o) (hp:ops.pop=ops')
   (h:wpAny P .any ops' (sinkQ P o Q) n l0.pop a w):wpAny P .any ops Q fuel l0 a w:=by
 subst hp;unfold sinkB2 at hB;simp only [Bool.and_eq_true,beq_iff_eq] at hB;obtain ⟨⟨⟨⟨⟨⟨⟨hn,hb⟩,hg⟩,hu⟩,hr⟩,hl0⟩,hln0⟩,hcl0⟩:=hB;rw [ho] at hu;have hps:ops.pop.size=n:=by simp [hn]
 have hpop:∀ i,i<n->ops.pop[i]? = ops[i]? := fun i hi=>by
   rw [Array.getElem?_pop,if_pos (by omega)]
 have hself:∀ (a:Act),Region.wanted o (yielded ops a.tmps)=true:=fun a=>by
   unfold Region.wanted;rw [Option.isNone_iff_eq_none.1 hu]
 have hwant:∀ (i:Nat) (o':Oper) (a:Act),i<n->ops[i]? = some o'->Region.wanted o' (yielded ops.pop a.tmps)=Region.wanted o' (yielded ops a.tmps):=fun i o' a hi hi'=>by
   have:=List.all_eq_true.1 hg i (List.mem_range.2 hi);rw [hi'] at this;unfold Region.wanted
   cases hgu:o'.guard with
   | none=>rfl
   | some gb =>
    obtain ⟨g,b⟩:=gb;have hlt:g<n:=by simpa [hgu] using this
    have:yielded ops.pop a.tmps g=yielded ops a.tmps g:=by unfold yielded;rw [hpop g hlt]
    simp only [this]
 have hop:∀ (i:Nat) (K:Act->World->Prop) (a:Act) (w:World),i<n->wpOp P ops.pop (sinkQ P o Q) i K a w->wpOp P ops Q i K a w:=fun i K a w hi h=>by
   unfold wpOp at *;rw [hpop i hi] at h
   cases ho':ops[i]? with
   | none=>rw [ho'] at h;exact h
   | some o' =>
    rw [ho'] at h;simp only [hwant i o' a hi ho'] at h |-
    split
    . rename_i hw;simp only [hw,if_true] at h;exact h.imp ze8 fun x=>⟨x.1,zdy x.2⟩
    . rename_i hw;simp only [hw] at h;exact h
 have hfar:∀ (l:Array Bool),(∀ j o',ops[j]? = some o'->l.getD j false=true->∀ e ∈ o'.after,Region.binds .any e=true->l.getD e.on false=true)->(∀ j,l0.getD j false=true->l.getD j false=true)->(∀ e ∈ o.after,Region.binds .any e=true->l.getD e.on false=true)->∀ k,k<n->l.getD k false=true:=by
   intro l hc hm he k hk
   have hG:=zcL (ops:=ops) (G:=fun j=>j=n\/l.getD j false=true) (L:=fun j=>l.getD j false=true) (fun j hj k hk=>by
     obtain ⟨o2,ho2,e,hee,hbe,hon⟩:=zdz hk;subst hon
     rcases hj with rfl | hj
     . rw [ho] at ho2;cases ho2;exact he e hee hbe
     . exact hc j o2 ho2 hj e hee hbe) (fun _ h=>.inr h) n [n] (fun j hj=>.inl (by simpa using hj))
   have:=List.all_eq_true.1 hr k (List.mem_range.2 hk);rw [Bool.or_eq_true] at this
   rcases this with h1 | h1
   . exact hm k h1
   . rcases hG k (by simpa using h1) with rfl | h
     . omega
     . exact h
 refine km (fun l a w=>(∀ j o',ops[j]? = some o'->l.getD j false=true->∀ e ∈ o'.after,Region.binds .any e=true->l.getD e.on false=true)/\(∀ j,l0.getD j false=true->l.getD j false=true) /\
   ((l.getD n false=false/\∃ fuel l',l'.size=n/\(∀ i,i<n->l'.getD i false=l.getD i false)/\wpAny P .any ops.pop (sinkQ P o Q) fuel l' a w)\/(l.getD n false=true/\Q .normal a w))) hb ?_ ?_ fuel l0 a w (by omega) hf ?_
 . intro l a w hs hI i o' hi hl he
   obtain ⟨hc,hmono,hI⟩:=hI;have hsz:l.size=n+1:=by omega
   have hin:i<n+1:=by have:=(Array.getElem?_eq_some_iff.1 hi).1;omega
   have hcl:∀ j o'',ops[j]? = some o''->(l.setIfInBounds i true).getD j false=true->∀ e ∈ o''.after,Region.binds .any e=true->(l.setIfInBounds i true).getD e.on false=true:=fun j o'' hj hlj e hee hbe=>by
     rw [qy (by omega)] at hlj |-
     by_cases hij:i=j
     . subst hij
       rw [hi] at hj;cases hj
       by_cases h':i=e.on
       . rw [if_pos h']
       . rw [if_neg h'];exact he e hee hbe
     . rw [if_neg hij] at hlj
       by_cases h':i=e.on
       . rw [if_pos h']
       . rw [if_neg h'];exact hc j o'' hj hlj e hee hbe
   have hmo:∀ j,l0.getD j false=true->(l.setIfInBounds i true).getD j false=true:=fun j hj=>by
     rw [qy (by omega)]
     split
     . rfl
     . exact hmono j hj
   by_cases hlast:i=n
   . subst hlast
     rcases hI with ⟨hln,fuel,l',hl's,hl',hany⟩ | ⟨hln,_⟩
     . rw [ho] at hi;cases hi
       have hall:=hfar l hc hmono he
       have hrd:Region.ready .any ops.pop l'=[]:=by
         cases hq:Region.ready .any ops.pop l' with
         | nil=>rfl
         | cons k t =>
          have hk:k ∈ Region.ready .any ops.pop l':=by rw [hq];exact List.mem_cons_self
          obtain ⟨hlk,o2,ho2,_⟩:=kl hk;have hkn:k<i:=by have:=(Array.getElem?_eq_some_iff.1 ho2).1;omega
          rw [yO (by omega),hl' k hkn,hall k hkn] at hlk
          cases hlk
       have hQ:sinkQ P o Q .normal a w:=by
         cases fuel with
         | zero=>exact hany.2
         | succ f=>exact hany.1 hrd
       refine yj ho fun K' hK'=>?_;rw [if_pos (hself a)];refine Oper.wp_mono (fun a' w' h'=>hK' _ _ ⟨hcl,hmo,.inr ⟨?_,h'⟩⟩) hQ;rw [qy (by omega),if_pos rfl]
     . rw [yO (by omega)] at hl
       rw [hl] at hln;cases hln
   . have hi':i<n:=by omega
     rcases hI with ⟨hln,fuel,l',hl's,hl',hany⟩ | ⟨hln,hQ⟩
     . have hrd:i ∈ Region.ready .any ops.pop l':=zbm ((hpop i hi').trans hi) (by rw [yO (by omega),hl' i hi',<- yO (by omega)];exact hl) fun e hee hbe=>by
         have:=zet hb hi e hee hbe;rw [hl' _ (by omega)];exact he e hee hbe
       cases fuel with
       | zero=>rw [hany.1] at hrd;cases hrd
       | succ f =>
        refine wpOp_mono (fun a' w' h'=>⟨hcl,hmo,.inl ⟨?_,f,_,zcJ.trans hl's,fun k hk=>?_,h'⟩⟩) (hop i _ a w hi' (hany.2 i hrd))
        . rw [qy (by omega),if_neg (by omega)];exact hln
        . rw [qy (by omega),qy (by omega),hl' k hk]
     . exfalso
       have:=hfar l hc hmono (hc n o ho hln) i hi';rw [yO (by omega)] at hl;rw [hl] at this;cases this
 . intro l a w hI hall
   rcases hI.2.2 with ⟨hln,_⟩ | ⟨_,hQ⟩
   . rw [hall n (by omega)] at hln;cases hln
   . exact hQ
 . refine ⟨fun j o' hj hlj e hee hbe=>?_,fun _ h=>h,.inl ⟨?_,n,l0.pop,by simp [hl0],fun i hi=>?_,h⟩⟩
   . have:=List.all_eq_true.1 hcl0 j (List.mem_range.2 (Array.getElem?_eq_some_iff.1 hj).1)
     rw [hlj,hj] at this;simp only [Bool.not_true,Bool.false_or,Array.all_eq_true',Bool.or_eq_true,Bool.not_eq_true'] at this
     rcases this e hee with h1 | h1
     . rw [hbe] at h1;cases h1
     . exact h1
   . rw [<- yO (by omega)];simpa using hln0
   . have h2:i<l0.size:=by omega
     have h3:i<l0.size - 1:=by omega
     simp [Array.getD,h2,h3]
theorem zL {P:Program} {S:World->Prop} {fuel:Nat} {ops:Array Oper} {Q:Exit->Act->World->Prop} {a:Act} {w:World} {l:Array Bool} (hS:S w) (h:S w->wpAnyH P .any ops Q S fuel l a w):wpAny P .any ops Q fuel l a w:=wpAny_of_held _ _ _ _ (h hS)
theorem tkH {P:Program} {ops:Array Oper} {Q:Exit->Act->World->Prop} {md:Region.Mode} {S:World->Prop} {i:Nat} {oi:Oper} {v:Value} {fuel:Nat} {listed:Array Bool} {a:Act} {w:World} (hi:ops[i]? = some oi)
   (hc:(Region.noSelect ops && (Region.free md ops listed i && (Region.ready md ops listed).contains i))=true)
   (hQ:∀ c a w,Q (.panic c) (a.put oi.dst v) w->Q (.panic c) a w) (hy:YieldsIf P ops S oi v a) (hS:S w)
   (h:wpAnyH P md ops Q S fuel (listed.setIfInBounds i true) (a.put oi.dst v) w):wpAnyH P md ops Q S (fuel+1) listed a w:=by
 simp only [Bool.and_eq_true] at hc;exact wpAnyH_take hi hc.1 hc.2.1 hc.2.2 hQ hy hS h
theorem zdA {ops:Array Oper} {i:Nat} {o:Oper} {r:List Oper} (h:ops.toList.drop i=o :: r):ops[i]? = some o:=by
 have:=congrArg List.head? h;rw [List.head?_drop,Array.getElem?_toList] at this;exact this
theorem lyA {α:Type} {l:List α} {i:Nat} {a:α}:l.toArray.setIfInBounds i a=(l.set i a).toArray:=List.setIfInBounds_toArray l i a
theorem lyZ {α:Type} {l:List α} {a b:α}:(a :: l).set 0 b=b :: l:=List.set_cons_zero
theorem lyS {α:Type} {l:List α} {n:Nat} {a b:α}:(a :: l).set (n+1) b=a :: l.set n b:=List.set_cons_succ
theorem tk {P:Program} {ops:Array Oper} {Q:Exit->Act->World->Prop} {md:Region.Mode} {S:World->Prop} {oi:Oper} {r:List Oper} {v:Value} {fuel:Nat} {listed:Array Bool} {a b:Act} {w:World} (i:Nat) (hi:ops.toList.drop i=oi :: r)
   (h:wpAnyH P md ops Q S fuel (listed.setIfInBounds i true) b w)
   (hw:Region.wanted oi (yielded ops a.tmps)=true:=by rfl)
   (hy:∀ w,S w->(execOp a.eval oi).run P w=.ok (.value v) w:=by (intro w hSw;(try dsimp only at hSw);go_simp <;> with_reducible rfl))
   (hb:a.put oi.dst v=b:=by (first | (simp only [Act.put,lyA,lyZ,lyS];exact rfl) | exact rfl))
   (hc:(Region.noSelect ops && (Region.free md ops listed i && (Region.ready md ops listed).contains i))=true:=by kernel_rfl)
   (hQ:∀ c a w,Q (.panic c) (a.put oi.dst v) w->Q (.panic c) a w:=by exact fun _ _ _ h=>h) (hS:S w:=by assumption):wpAnyH P md ops Q S (fuel+1) listed a w:=by
 subst hb;exact tkH (zdA hi) hc hQ (.inl ⟨hw,hy⟩) hS h
theorem tkP {P:Program} {ops:Array Oper} {Q:Exit->Act->World->Prop} {md:Region.Mode} {S:World->Prop} {oi:Oper} {r:List Oper} {fuel:Nat} {listed:Array Bool} {a b:Act} {w:World} (i:Nat) (hi:ops.toList.drop i=oi :: r)
   (h:wpAnyH P md ops Q S fuel (listed.setIfInBounds i true) b w)
   (hw:Region.wanted oi (yielded ops a.tmps)=false:=by rfl)
   (hb:a.put oi.dst undef=b:=by (first | (simp only [Act.put,lyA,lyZ,lyS];exact rfl) | exact rfl))
   (hc:(Region.noSelect ops && (Region.free md ops listed i && (Region.ready md ops listed).contains i))=true:=by kernel_rfl)
   (hQ:∀ c a w,Q (.panic c) (a.put oi.dst undef) w->Q (.panic c) a w:=by exact fun _ _ _ h=>h) (hS:S w:=by assumption):wpAnyH P md ops Q S (fuel+1) listed a w:=by
 subst hb;exact tkH (zdA hi) hc hQ (.inr ⟨hw,rfl⟩) hS h
theorem rdy {P:Program} {ops:Array Oper} {Q:Exit->Act->World->Prop} {md:Region.Mode} {S:World->Prop} {fuel:Nat} {listed:Array Bool} {a:Act} {w:World} (rs:List Nat) (h:AllReadyH P md ops Q S fuel listed a w rs) (hr:Region.ready md ops listed=rs:=by kernel_rfl) (hne:rs≠[]:=by simp):wpAnyH P md ops Q S (fuel+1) listed a w :=
 wpAnyH_ready hr hne h
theorem rdC {P:Program} {ops:Array Oper} {Q:Exit->Act->World->Prop} {md:Region.Mode} {S:World->Prop} {fuel:Nat} {listed:Array Bool} {a:Act} {w:World} {i:Nat} {o:Oper} {r:List Oper} {rs:List Nat} (ho:ops.toList.drop i=o :: r)
   (h:∀ K':Act->World->Prop,Shut (∀ a w,S w->(S w->wpAnyH P md ops Q S fuel (listed.setIfInBounds i true) a w)->K' a w)->if Region.wanted o (yielded ops a.tmps)=true then Oper.wp P o a w K' Q else K' (a.put o.dst undef) w)
   (hs:AllReadyH P md ops Q S fuel listed a w rs):AllReadyH P md ops Q S fuel listed a w (i :: rs):=AllReadyH.cons (zdA ho) h hs
theorem rd1 {P:Program} {ops:Array Oper} {Q:Exit->Act->World->Prop} {md:Region.Mode} {S:World->Prop} {fuel:Nat} {listed:Array Bool} {a:Act} {w:World} {o:Oper} {r:List Oper} (i:Nat)
   (h:∀ K':Act->World->Prop,Shut (∀ a w,S w->(S w->wpAnyH P md ops Q S fuel (listed.setIfInBounds i true) a w)->K' a w)->if Region.wanted o (yielded ops a.tmps)=true then Oper.wp P o a w K' Q else K' (a.put o.dst undef) w)
   (ho:ops.toList.drop i=o :: r:=by rfl) (hr:Region.ready md ops listed=[i]:=by kernel_rfl):wpAnyH P md ops Q S (fuel+1) listed a w:=rdy [i] (rdC ho h AllReadyH.nil) hr (by simp)
theorem nx {P:Program} {ops:Array Oper} {Q:Exit->Act->World->Prop} {md:Region.Mode} {S:World->Prop} {fuel:Nat} {l:Array Bool} {a b:Act} {w:World} {K:Act->World->Prop} (hK:Shut (∀ a w,S w->(S w->wpAnyH P md ops Q S fuel l a w)->K a w)) (hS:S w) (h:S w->wpAnyH P md ops Q S fuel l b w)
   (hb:a=b:=by (first | (simp only [Act.put,lyA,lyZ,lyS];exact rfl) | exact rfl)):K a w:=by
 subst hb;exact hK.out _ _ hS h
theorem dn {P:Program} {ops:Array Oper} {Q:Exit->Act->World->Prop} {md:Region.Mode} {S:World->Prop} {fuel:Nat} {listed:Array Bool} {a:Act} {w:World} (h:Q .normal a w) (hc:Region.ready md ops listed=[]:=by kernel_rfl):wpAnyH P md ops Q S fuel listed a w:=wpAnyH_done hc h fuel
theorem hld {P:Program} {R S:World->Prop} {fuel:Nat} {ops:Array Oper} {Q:Exit->Act->World->Prop} {a:Act} {w:World} {l:Array Bool} (HS:∀ W',R W'->S W') (hB:R w) (h:S w->wpAnyH P .any ops Q S fuel l a w):wpAny P .any ops Q fuel l a w:=zL (HS _ hB) h
end Go.Rgi

namespace Go.Rfu
open Go Go.RowKit
def Fr (R:List Value->Prop):List Nat->List Value->Prop
 | [],l=>R l
 | s :: ss,l=>∃ u:Value,Fr R ss (l.set s u)
def LoopD (rel:List Nat->Value->World->Prop) (n:Nat) (ss:List Nat) (l:List Value) (a:Act) (w:World):Prop :=
 ∃ ds:List Nat,Fr (fun l'=>rel ds (l'.getD n undef) w/\a={ tmps:=l'.toArray,defers:=marks ds }) ss l
theorem zcM {P:Program} {c:Code} {Q:Exit->Act->World->Prop} {l:List Value} {w:World} (ss:List Nat) (n:Nat) (rel:List Nat->Value->World->Prop) (mu:Value->Nat)
   (h0:LoopD rel n ss l { tmps:=l.toArray,defers:=[] } w)
   (round:∀ a wr,LoopD rel n ss l a wr->c.wp P (Exit.then (fun a' w'=>LoopD rel n ss l a' w'/\mu (a'.tmps.getD n undef)<mu (a.tmps.getD n undef)) Q) a wr):(Code.loop c).wp P Q { tmps:=l.toArray,defers:=[] } w :=
 wp_loop (LoopD rel n ss l) (fun a' _=>mu (a'.tmps.getD n undef)) h0 round
end Go.Rfu
