/- A range over a function whose iterator keeps blocks of its own between the rounds (and ranges over a function itself). -/
import Derived.Test.YtiimoclbmaggjaaGreatDoorZLgAE
import Derived.Test.YtiimoclbmaggjaaGreatDoorZSePT
import Derived.OneCell
import Derived.Test.YtiimoclbmaggjaaGreatDoorZRyCE
namespace Go.Rfu
open Go Go.RowKit
open Go.Lib(hid)
open Go.Proofs.Tryz
set_option maxRecDepth 100000
set_option maxHeartbeats 0
variable {P:Program}
set_option linter.unusedVariables false
structure Turn0 (n0:Nat) (W W':World):Prop where
 os:W'.os=W.os
 tape:W'.tape=W.tape
 output:W'.output=W.output
 size:W.heap.size<=W'.heap.size
 old:∀ b,b<n0->W'.heap[b]? = W.heap[b]?
 data:∀ (b:Nat) (o:Obj),W.heap[b]? = some o->isBook o=false->W'.heap[b]? = some o
theorem Turn0.refl (n0:Nat) (W:World):Turn0 n0 W W:=⟨rfl,rfl,rfl,Nat.le_refl _,fun _ _=>rfl,fun _ _ h _=>h⟩
theorem Turn0.trans {n0:Nat} {A B C:World} (h:Turn0 n0 A B) (k:Turn0 n0 B C):Turn0 n0 A C :=
 ⟨k.os.trans h.os,k.tape.trans h.tape,k.output.trans h.output,Nat.le_trans h.size k.size,fun b hb=>(k.old b hb).trans (h.old b hb),fun b o ho hk=>k.data b o (h.data b o ho hk) hk⟩
theorem Turn0.mono {n0 n1:Nat} {A B:World} (h:Turn0 n1 A B) (hn:n0<=n1):Turn0 n0 A B:=⟨h.os,h.tape,h.output,h.size,fun b hb=>h.old b (Nat.lt_of_lt_of_le hb hn),h.data⟩
theorem Turn0.of_below {n0:Nat} {W W':World} (h:Bl W W') (hn:n0<=W.heap.size):Turn0 n0 W W' :=
 ⟨h.os,h.tape,h.output,h.size,fun b hb=>h.block b (Nat.lt_of_lt_of_le hb hn),fun b o ho _=>(h.block b (Array.getElem?_eq_some_iff.1 ho).1).trans ho⟩
theorem Turn0.alloc {n0:Nat} (W:World) (o:Obj) (h:n0<=W.heap.size):Turn0 n0 W (W.alloc o):=Turn0.of_below ((Below.refl _ W).alloc (Nat.le_refl _) o) h
theorem Turn0.put {n0:Nat} {W:World} {l:Nat} {o o':Obj} (hl:n0<=l) (h:W.heap[l]? = some o) (ho:isBook o=true):Turn0 n0 W (W.putObj l o') :=
 ⟨rfl,rfl,rfl,by simp,fun b hb=>World.putObj_heap_other (by omega),fun b o2 hb h2=>(World.putObj_heap_other (fun e=>by subst e;rw [h] at hb;injection hb with hb;subst hb;rw [ho] at h2;cases h2)).trans hb⟩
theorem Turn0.drew {n0:Nat} (W:World):Turn0 n0 W W.drew:=⟨rfl,rfl,rfl,Nat.le_refl _,fun _ _=>rfl,fun _ _ h _=>h⟩
theorem Turn0.zf {n0 B:Nat} {w W W':World} (t:Turn0 n0 W W') (h:Below B w W) (hB:B<=n0):Below B w W' :=
 ⟨t.os.trans h.os,t.tape.trans h.tape,t.output.trans h.output,Nat.le_trans h.size t.size,fun b hb=>(t.old b (Nat.lt_of_lt_of_le hb hB)).trans (h.block b hb)⟩
def Grow (S S':Nat->Prop) (A B:World):Prop:=∀ b,S' b->S b\/(A.heap.size<=b/\b<B.heap.size)
theorem Grow.same (S:Nat->Prop) (A B:World):Grow S S A B:=fun _ h=>.inl h
def SeqB (P:Program) (gf:Nat) (lb:Array Value) (xs:List Int) (U:World->Prop):Prop :=
 ∀ (l:Nat) (J:Nat->(Nat->Prop)->World->Prop) (Jx:World->Prop) (W:World),
   (∀ k S A,J k S A->U A/\W.heap.size<=A.heap.size) ->
   (∀ k S A S' B,J k S A->Turn0 W.heap.size A B->Grow S S' A B->J k S' B) ->
   (∀ A B,Jx A->Turn0 W.heap.size A B->Jx B) ->
   (∀ (k:Nat) (S:Nat->Prop) (A:World) (hk:k<xs.length),J k S A->(∀ b,S b->b<A.heap.size)->YieldAt Fence.wide 7 P l #[.int .i64 xs[k]] A fun e B =>
     (∀ b,S b->B.heap[b]? = A.heap[b]?)/\((e=.returned (.bool true)/\J (k+1) S B)\/(e=.returned (.bool false)/\Jx B))) ->
   J 0 (fun _=>False) W ->
   CallsIn Fence.wide 8 P gf (#[.func (.yield l) #[] #[]] ++ lb) W fun e B=>(∃ v,e=.returned v)/\((∃ S,J xs.length S B)\/Jx B)
def roundB (S:Nat->Prop) (I':(Nat->Prop)->World->Prop) (Ix:World->Prop) (W:World):Exit->Act->World->Prop
 | .normal,_,W'=>(∀ b,S b->W'.heap[b]? = W.heap[b]?)/\I' S W'
 | .ret,_,W'=>(∀ b,S b->W'.heap[b]? = W.heap[b]?)/\Ix W'
 | _,_,_=>False
theorem zfx {g:Operand} {ps:Array Tmp} {assign body:Code} {Q:Exit->Act->World->Prop} {a:Act} {w:World} {gf:Nat} {lb:Array Value} (hg:a.eval g=.func (.func gf) #[] lb) (eg:∀ args w,(callFunc gf args).run P w=.ok (.enter gf args) w) (hps:ps.size=1)
   (xs:List Int) (U:World->Prop) (hseq:SeqB P gf lb xs U)
   (I:Nat->(Nat->Prop)->World->Prop) (Ix:World->Prop) (hU:∀ k S W,I k S W->U W)
   (hI:∀ k S W S' W',I k S W->Turn0 w.heap.size W W'->Grow S S' W W'->I k S' W') (hIx:∀ W W',Ix W->Turn0 w.heap.size W W'->Ix W') (h0:I 0 (fun _=>False) w) (a₁:Int->Act)
   (hassign:∀ (l:Nat) (x:Int) (W:World) (K:Act->World->Prop),K (a₁ x) W->assign.wpIn (Fence.wide.inRound l) 7 P (Exit.then K (fun _ _ _=>False)) { tmps:=(ps.zip #[.int .i64 x]).foldl (fun t (p,v)=>t.setIfInBounds p v) a.tmps,defers:=[] } W)
   (hbody:∀ (l k:Nat) (S:Nat->Prop) (W:World) (hk:k<xs.length),(∀ b,S b->b<W.heap.size)->I k S W->body.wpIn (Fence.wide.inRound l) 7 P (roundB S (I (k+1)) Ix W) (a₁ xs[k]) W)
   (hdone:∀ (D:Nat) (S:Nat->Prop) (W:World),w.heap.size<=D->S D->(∀ b,S b->w.heap.size<=b)->I xs.length S W->W.heap[D]? = some (.deferred (some []))->Q .normal { a with defers:={ target:=.collected D,args:=#[] } :: a.defers } W)
   (hstop:∀ (D:Nat) (W:World),w.heap.size<=D->Ix W->W.heap[D]? = some (.deferred (some []))->Q .ret { a with defers:={ target:=.collected D,args:=#[] } :: a.defers } W) :
   (Code.rangeFunc g ps assign body).wp P Q a w:=by
 refine (wpIn_wide (n:=9)).1 (wpIn_rangeFunc fun fn hfn=>?_);obtain ⟨rec,hrec⟩:∃ rec:LoopState->Option Code->Loop,rec=fun st pe=>{ state:=st,pending:=pe,fn,tmps:=a.tmps,params:=ps,assign,body,defers:=w.heap.size }:=⟨_,rfl⟩;obtain ⟨W1,hW1⟩:=ex2 ((w.alloc (.deferred (some []))).alloc (.loop (rec .ready none)));have t1:Turn0 w.heap.size w (w.alloc (.deferred (some []))):=Turn0.alloc w _ (Nat.le_refl _);have t2:Turn0 w.heap.size (w.alloc (.deferred (some []))) W1:=by rw [<- hW1];exact Turn0.alloc _ _ (by simp)
 have hz1:W1.heap.size=w.heap.size+2:=by rw [<- hW1];simp
 have hL1:W1.heap[w.heap.size+1]? = some (.loop (rec .ready none)):=by
   rw [<- hW1];have:=World.alloc_heap_new (w.alloc (.deferred (some []))) (.loop (rec .ready none));rwa [World.size_alloc] at this
 have hK1:W1.heap[w.heap.size]? = some (.deferred (some [])):=by
   rw [<- hW1];exact (Below.heap_alloc _ _ _ (by simp)).trans (World.alloc_heap_new w _)
 have hI0:I 0 (fun b=>b=w.heap.size+1\/b=w.heap.size) W1:=hI _ _ _ _ _ h0 (t1.trans t2) fun b hb=>.inr (by rcases hb with rfl | rfl <;> omega)
 refine ⟨w.heap.size+1,[{ target:=.collected w.heap.size,args:=#[] }],W1,{ target:=.fn (.func gf) lb,args:=#[.func (.yield (w.heap.size+1)) #[] #[]] },W1,gf,
   #[.func (.yield (w.heap.size+1)) #[] #[]] ++ lb,W1,?_,?_,?_,?_,fun _=>by decide,?_⟩
 . rw [<- hW1,hrec];exact run_enterLoop_outer _ _ _ _ _
 . simp only [resolve,hg];simp [go_sem]
 . intro f' _;trivial
 . simp [invoke,go_sem,eg]
 . refine (hseq (w.heap.size+1)
     (fun k S W=>I k (fun b=>S b\/b=w.heap.size+1\/b=w.heap.size) W/\W1.heap.size<=W.heap.size/\(∀ b,S b->W1.heap.size<=b)/\W.heap[w.heap.size+1]? = some (.loop (rec .ready none))/\W.heap[w.heap.size]? = some (.deferred (some [])))
     (fun W=>Ix W/\W.heap[w.heap.size+1]? = some (.loop (rec .done (some .ret)))/\W.heap[w.heap.size]? = some (.deferred (some []))) W1 (fun k S A h=>⟨hU _ _ _ h.1,h.2.1⟩) ?_ ?_ ?_ ⟨hI _ _ _ _ _ hI0 (Turn0.refl _ _) (fun b hb=>.inl (hb.resolve_left id)),Nat.le_refl _,fun _ h=>h.elim,hL1,hK1⟩).mono ?_
   . rintro k S A S' B ⟨hi,hz,hs,hl,hk⟩ t g
     refine ⟨hI _ _ _ _ _ hi (t.mono (by omega)) (fun b hb=>?_),Nat.le_trans hz t.size,(fun b hb=>(g b hb).elim (hs b) (fun h=>by omega)),(t.old _ (by omega)).trans hl,(t.old _ (by omega)).trans hk⟩
     rcases hb with hb | hb
     . rcases g b hb with h | h
       . exact .inl (.inl h)
       . exact .inr h
     . exact .inl (.inr hb)
   . rintro A B ⟨hi,hl,hk⟩ t
     exact ⟨hIx _ _ hi (t.mono (by omega)),(t.old _ (by omega)).trans hl,(t.old _ (by omega)).trans hk⟩
   . rintro k S A hkn ⟨hi,hz,hs,hl,hk⟩ hS
     have hy:=run_yield (P:=P) (args:=#[.int .i64 xs[k]]) hl (by rw [hrec];exact hps.symm);rw [hrec] at hy;refine ⟨fn,_,assign,body,hy,roundIn_of_wpIn hfn (hassign _ xs[k] A _ ?_)⟩;clear hy;have hlt:w.heap.size+1<A.heap.size:=(Array.getElem?_eq_some_iff.1 hl).1;refine ⟨_,run_beginRound hl (by rw [hrec]),?_⟩;obtain ⟨W2,hW2⟩:∃ W2,W2=A.putObj (w.heap.size+1) (.loop { rec .ready none with state:=.busy }):=⟨_,rfl⟩;rw [<- hW2];have hl2:W2.heap[w.heap.size+1]? = some (.loop { rec .ready none with state:=.busy }):=by rw [hW2];exact World.putObj_heap_same hlt
     have hk2:W2.heap[w.heap.size]? = some (.deferred (some [])):=by rw [hW2];exact (World.putObj_heap_other (by omega)).trans hk
     have hi2:I k (fun b=>S b\/b=w.heap.size+1\/b=w.heap.size) W2:=by rw [hW2];exact hI _ _ _ _ _ hi (Turn0.put (by omega) hl rfl) (Grow.same _ _ _)
     have hz2:W2.heap.size=A.heap.size:=by rw [hW2];simp
     have hne:∀ b,S b->b≠w.heap.size+1->W2.heap[b]? = A.heap[b]? := fun b _ hn=>by rw [hW2];exact World.putObj_heap_other hn
     refine wpIn_mono (hbody _ k _ W2 hkn (fun b hb=>?_) hi2) ?_
     . rw [hz2]
       rcases hb with hb | rfl | rfl
       . exact hS b hb
       . exact hlt
       . omega
     rintro e a3 W3 hp
     cases e with
     | normal =>
      obtain ⟨hkb,hi3⟩:=hp;have hl3:=(hkb _ (.inr (.inl rfl))).trans hl2;have hk3:=(hkb _ (.inr (.inr rfl))).trans hk2;have hr:=run_endRound (P:=P) none hl3;rw [hrec] at hr hl3;have hz3:=(Array.getElem?_eq_some_iff.1 hl3).1;refine ⟨_,_,hr,fun b hb=>?_,.inl ⟨rfl,hI _ _ _ _ _ hi3 (Turn0.put (by omega) hl3 rfl) (Grow.same _ _ _),by simp;omega,hs,?_,(World.putObj_heap_other (by omega)).trans hk3⟩⟩
      . have hb2:b≠w.heap.size+1:=by have:=hs b hb;omega
        exact (World.putObj_heap_other hb2).trans ((hkb b (.inl hb)).trans (hne b hb hb2))
      . rw [hrec];exact World.putObj_heap_same hz3
     | ret =>
      obtain ⟨hkb,hi3⟩:=hp;have hl3:=(hkb _ (.inr (.inl rfl))).trans hl2;have hk3:=(hkb _ (.inr (.inr rfl))).trans hk2;have hr:=run_endRound (P:=P) (some .ret) hl3;rw [hrec] at hr hl3;have hz3:=(Array.getElem?_eq_some_iff.1 hl3).1;refine ⟨_,_,hr,fun b hb=>?_,.inr ⟨rfl,hIx _ _ hi3 (Turn0.put (by omega) hl3 rfl),?_,(World.putObj_heap_other (by omega)).trans hk3⟩⟩
      . have hb2:b≠w.heap.size+1:=by have:=hs b hb;omega
        exact (World.putObj_heap_other hb2).trans ((hkb b (.inl hb)).trans (hne b hb hb2))
      . rw [hrec];exact World.putObj_heap_same hz3
     | exit id=>exact hp.elim
     | goto t=>exact hp.elim
     | panic ch=>exact hp.elim
     | outgrown=>exact hp.elim
   . rintro e W2 ⟨⟨v,rfl⟩,(⟨S,hi,hz,hs,hl,hk⟩ | ⟨hi,hl,hk⟩)⟩
     . have hr:=run_endLoop (P:=P) hl (by rw [hrec];simp)
       rw [hrec] at hr;exact ⟨none,_,hr,hdone _ _ _ (Nat.le_refl _) (.inr (.inr rfl)) (fun b hb=>by rcases hb with hb | rfl | rfl <;> first | omega | (have:=hs b hb;omega)) (hI _ _ _ _ _ hi (Turn0.put (by omega) hl rfl) (Grow.same _ _ _)) ((World.putObj_heap_other (by omega)).trans hk)⟩
     . have hr:=run_endLoop (P:=P) hl (by rw [hrec];simp)
       rw [hrec] at hr;exact ⟨some .ret,_,hr,wpIn_ret (hstop _ _ (Nat.le_refl _) (hIx _ _ hi (Turn0.put (by omega) hl rfl)) ((World.putObj_heap_other (by omega)).trans hk))⟩
theorem jY {g:Operand} {p q:Tmp} {assign body:Code} {Q:Exit->Act->World->Prop} {a:Act} {w:World} {gf:Nat} {lb:Array Value} (hg:a.eval g=.func (.func gf) #[] lb) (eg:∀ args w,(callFunc gf args).run P w=.ok (.enter gf args) w)
   (xs:List Int) (U:World->Prop) (hseq:SeqB P gf lb xs U)
   (I:Nat->(Nat->Prop)->World->Prop) (Ix:World->Prop) (hU:∀ k S W,I k S W->U W)
   (hI:∀ k S W S' W',I k S W->Turn0 w.heap.size W W'->Grow S S' W W'->I k S' W') (hIx:∀ W W',Ix W->Turn0 w.heap.size W W'->Ix W') (h0:I 0 (fun _=>False) w)
   (hassign:∀ (l:Nat) (x:Int) (W:World) (K:Act->World->Prop),K { tmps:=(a.tmps.setIfInBounds p (.int .i64 x)).setIfInBounds q (.int .i64 x),defers:=[] } W->assign.wpIn (Fence.wide.inRound l) 7 P (Exit.then K (fun _ _ _=>False)) { tmps:=a.tmps.setIfInBounds p (.int .i64 x),defers:=[] } W)
   (hbody:∀ (l k:Nat) (S:Nat->Prop) (W:World) (hk:k<xs.length),(∀ b,S b->b<W.heap.size)->I k S W->body.wpIn (Fence.wide.inRound l) 7 P (roundB S (I (k+1)) Ix W) { tmps:=(a.tmps.setIfInBounds p (.int .i64 xs[k])).setIfInBounds q (.int .i64 xs[k]),defers:=[] } W)
   (hdone:∀ (D:Nat) (S:Nat->Prop) (W:World),w.heap.size<=D->S D->(∀ b,S b->w.heap.size<=b)->I xs.length S W->W.heap[D]? = some (.deferred (some []))->Q .normal { a with defers:={ target:=.collected D,args:=#[] } :: a.defers } W)
   (hstop:∀ (D:Nat) (W:World),w.heap.size<=D->Ix W->W.heap[D]? = some (.deferred (some []))->Q .ret { a with defers:={ target:=.collected D,args:=#[] } :: a.defers } W) :
   (Code.rangeFunc g #[p] assign body).wp P Q a w :=
 zfx hg eg rfl xs U hseq I Ix hU hI hIx h0 (fun x=>{ tmps:=(a.tmps.setIfInBounds p (.int .i64 x)).setIfInBounds q (.int .i64 x),defers:=[] }) (fun l x W K h=>by simpa using hassign l x W K h) hbody hdone hstop
end Go.Rfu

namespace Go.Proofs
open Go.RowKit Go.Lx Go.Md Go.Shelf Go.Rfu
open Lib(hid)
open Go.Proofs.Tryz
set_option maxRecDepth 100000
set_option maxHeartbeats 0
set_option linter.unusedVariables false
attribute [local go_sem] Oper.semAt_some
theorem zcc {P:Program} {n n' l:Nat} {l2:Nat} {f:FuncId} {tmps:Array Value} {assign body:Code} {w:World} {R:Ending->World->Prop} (h:RoundIn Fence.wide n P l f tmps assign body w R):RoundIn (Fence.wide.inRound l2) n' P l f tmps assign body w R :=
 ⟨h.1,fun c cs _=>h.2 c cs (room_wide _)⟩
theorem zc1 {P:Program} {n n' l:Nat} {f:FuncId} {tmps:Array Value} {assign body:Code} {w:World} {R:Ending->World->Prop} (h:RoundIn Fence.wide n P l f tmps assign body w R):RoundIn Fence.wide n' P l f tmps assign body w R :=
 ⟨h.1,fun c cs _=>h.2 c cs (room_wide _)⟩
theorem kz {n0:Nat} {ds:List Nat} {W:World} (h:Marked n0 ds W):Turn0 n0 W (Rfu.shut ds W) :=
 ⟨(yP ds W).1,(yP ds W).2.1,(yP ds W).2.2,by rw [kn];exact Nat.le_refl _,fun b hb=>qC ds W fun hm=>by have:=h.lo b hm;omega,fun b o hb ho=>zbo h hb ho⟩
structure LfAt (m:MdlD) (B SB:Nat) (la ll:List Int) (a1 a2:Option Addr) (c1 c2:Nat) (r:Nat) (Bc Br Bs:Nat) (w:World):Prop where
 set:SetAt B m SB w
 row:RowIn w (.slice a1 la.length c1) la
 xs:w.cell? ⟨Bs,0,none⟩=some (.pointer (some ⟨SB,0,none⟩))
 xc:w.cell? ⟨Bc,0,none⟩=some (.slice a1 la.length c1)
 xd:w.cell? ⟨Bc,1,none⟩=some (.slice a2 ll.length c2)
 xr:w.cell? ⟨Br,0,none⟩=some (.int .i64 r)
theorem LfAt.zf {m:MdlD} {B SB:Nat} {la ll:List Int} {a1 a2:Option Addr} {c1 c2 r Bc Br Bs:Nat} {w w':World} (h:LfAt m B SB la ll a1 a2 c1 c2 r Bc Br Bs w) (g:Bl w w'):LfAt m B SB la ll a1 a2 c1 c2 r Bc Br Bs w' :=
 ⟨h.set.grown g,h.row.zf g,(g.cell (p:=⟨Bs,0,none⟩) (World.block_lt_of_cell? w _ h.xs)).trans h.xs,(g.cell (p:=⟨Bc,0,none⟩) (World.block_lt_of_cell? w _ h.xc)).trans h.xc,(g.cell (p:=⟨Bc,1,none⟩) (World.block_lt_of_cell? w _ h.xd)).trans h.xd,(g.cell (p:=⟨Br,0,none⟩) (World.block_lt_of_cell? w _ h.xr)).trans h.xr⟩
theorem zc2 (SB:Nat) (c:Value) (r:Int) (w:World) (v1 v2:Value) (hc:c=.agg #[v1,v2]) :
   Calls prog 219 #[.pointer (some ⟨SB,0,none⟩),c,.int .i64 r] w fun e w'=>e=.returned (.func (.func 265) #[] #[.pointer (some ⟨w.heap.size+1,0,none⟩),.pointer (some ⟨w.heap.size+1+1,0,none⟩),.pointer (some ⟨w.heap.size,0,none⟩)])/\((w.alloc (.cells #[.pointer (some ⟨SB,0,none⟩)] 77)).alloc (.cells #[v1,v2] 74)).alloc (.cells #[.int .i64 r] 3)=w':=by
 subst hc;go_enter func219,ntmps219;go_wp2_with fail;go_ret;exact ⟨rfl,rfl⟩
theorem zfy (w:World) (o0 o1 o2:Obj):(((w.alloc o0).alloc o1).alloc o2).heap[w.heap.size]? = some o0/\(((w.alloc o0).alloc o1).alloc o2).heap[w.heap.size+1]? = some o1/\(((w.alloc o0).alloc o1).alloc o2).heap[w.heap.size+1+1]? = some o2:=by
 have e1:=World.alloc_heap_new (w.alloc o0) o1;have e2:=World.alloc_heap_new ((w.alloc o0).alloc o1) o2;simp only [World.size_alloc] at e1 e2;exact ⟨(Below.heap_alloc _ _ _ (by simp;omega)).trans ((Below.heap_alloc _ _ _ (by simp)).trans (World.alloc_heap_new w o0)),(Below.heap_alloc _ _ _ (by simp)).trans e1,e2⟩
theorem zez {m:MdlD} {B SB:Nat} {la ll:List Int} {a1 a2:Option Addr} {c1 c2:Nat} {w:World} (r:Nat) (h:SetAt B m SB w) (hr:RowIn w (.slice a1 la.length c1) la) :
   LfAt m B SB la ll a1 a2 c1 c2 r (w.heap.size+1) (w.heap.size+1+1) w.heap.size (((w.alloc (.cells #[.pointer (some ⟨SB,0,none⟩)] 77)).alloc (.cells #[.slice a1 la.length c1,.slice a2 ll.length c2] 74)).alloc (.cells #[.int .i64 r] 3)):=by
 have hb:Bl w (((w.alloc (.cells #[.pointer (some ⟨SB,0,none⟩)] 77)).alloc (.cells #[.slice a1 la.length c1,.slice a2 ll.length c2] 74)).alloc (.cells #[.int .i64 r] 3)):=(((Below.refl _ w).alloc (Nat.le_refl _) _).alloc (by simp) _).alloc (by simp;omega) _;obtain ⟨e0,e1,e2⟩:=zfy w (.cells #[.pointer (some ⟨SB,0,none⟩)] 77) (.cells #[.slice a1 la.length c1,.slice a2 ll.length c2] 74) (.cells #[.int .i64 r] 3);exact ⟨h.grown hb,hr.zf hb,zh e0 0,zh e1 0,zh e1 1,zh e2 0⟩
def exP (m:MdlD) (c:List Int) (f:Nat) (R:List Int) (k:Nat):List Int:=(R.take k).flatMap (exF m c f)
theorem zc3 (m:MdlD) (c:List Int) (f:Nat) (R:List Int) {k:Nat} (hk:k<R.length):exP m c f R (k+1)=exP m c f R k ++ exF m c f R[k]:=by
 unfold exP;rw [List.take_succ_eq_append_getElem hk,List.flatMap_append];simp
theorem zeA (m:MdlD) (c:List Int) (f:Nat) (R:List Int):exP m c f R R.length=R.flatMap (exF m c f):=by unfold exP;rw [List.take_length]
theorem exP_at (m:MdlD) (c:List Int) (f:Nat) (R:List Int) (v:Int) {k j:Nat} (hk:k<R.length) (hj:j<(exF m c f R[k]).length):∃ h:(exP m c f R k).length+j<(R.flatMap (exF m c f) ++ [v]).length,(R.flatMap (exF m c f) ++ [v])[(exP m c f R k).length+j]=(exF m c f R[k])[j]:=by
 have e:R.flatMap (exF m c f) ++ [v]=exP m c f R k ++ exF m c f R[k] ++ ((R.drop (k+1)).flatMap (exF m c f) ++ [v]):=by
   have h1:R.flatMap (exF m c f)=exP m c f R (k+1) ++ (R.drop (k+1)).flatMap (exF m c f):=by
     unfold exP;rw [<- List.flatMap_append,List.take_append_drop]
   rw [h1,zc3 m c f R hk];simp
 refine ⟨by rw [e];simp;omega,?_⟩;simp only [e];rw [List.getElem_append_left (by simp;omega),List.getElem_append_right (by omega)]
 simp
theorem exP_end (m:MdlD) (c:List Int) (f:Nat) (R:List Int) (v:Int):∃ h:(exP m c f R R.length).length<(R.flatMap (exF m c f) ++ [v]).length,(R.flatMap (exF m c f) ++ [v])[(exP m c f R R.length).length]=v:=by
 rw [zeA];exact ⟨by simp,by simp⟩
theorem zJ {N T n c:Nat} {a:Option Addr} {w:World} {xs:List Value} (h:w.ownsRow N T 1 (.slice a n c) n xs):n<=c:=by
 rcases h.2 with ⟨e,h0⟩ | ⟨g',c',_,e,_,_,hc,_⟩
 . omega
 . simp only [Value.slice.injEq] at e;omega
theorem cellK {wa wb:World} {b k:Nat} (h:wb.heap[b]? = wa.heap[b]?):wb.cell? ⟨b,k,none⟩=wa.cell? ⟨b,k,none⟩:=World.cell?_of_block (w:=wa) h
structure LfSt (J:Nat->(Nat->Prop)->World->Prop) (n0:Nat) (w2:World) (j:Nat) (ds:List Nat) (S:Nat->Prop) (wr:World):Prop where
 j:J j S wr
 mkd:Marked n0 ds wr
 sd:∀ D ∈ ds,S D
 kp:∀ b,n0<=b->b<w2.heap.size->S b/\wr.heap[b]? = w2.heap[b]?
 lt:∀ b,S b->b<wr.heap.size
structure LfIn (J:Nat->(Nat->Prop)->World->Prop) (S0:Nat->Prop) (w3:World) (j:Nat) (S:Nat->Prop) (W:World):Prop where
 j:J j (fun b=>S0 b\/S b) W
 kp:∀ b,S0 b->W.heap[b]? = w3.heap[b]?
 sz:w3.heap.size<=W.heap.size
theorem lf_keep {m:MdlD} {B B' SB:Nat} {la ll:List Int} {a1 a2:Option Addr} {c1 c2 r q Bc Br Bs Bc' Br' Bs':Nat} {w w':World} (h:LfAt m B SB la ll a1 a2 c1 c2 r Bc Br Bs w') (g:LfAt m B' SB la ll a1 a2 c1 c2 q Bc' Br' Bs' w) (k:∀ b,b=Bc'\/b=Br'\/b=Bs'->w'.heap[b]? = w.heap[b]?):LfAt m B SB la ll a1 a2 c1 c2 q Bc' Br' Bs' w' :=
 ⟨h.set,h.row,(cellK (k _ (.inr (.inr rfl)))).trans g.xs,(cellK (k _ (.inl rfl))).trans g.xc,(cellK (k _ (.inl rfl))).trans g.xd,(cellK (k _ (.inr (.inl rfl)))).trans g.xr⟩
theorem zfz {A B:World} {b:Nat} (h:B.heap[b]? = A.heap[b]?) (hb:b<A.heap.size):b<B.heap.size:=(Array.getElem?_eq_some_iff.1 (h.trans (Array.getElem?_eq_getElem hb))).1
theorem zbD {m:MdlD} {B SB:Nat} {la ll:List Int} {a1 a2:Option Addr} {c1 c2:Nat} (F:Fit m la) (hm1:m.zb.length<=1000) (hm2:m.zc.length<=1000):∀ (f r Bc Br Bs:Nat),r<m.zb.length->(∀ k:Nat,atL la r=k->65<=deM m k+f) ->
   SeqB prog 265 #[.pointer (some ⟨Bc,0,none⟩),.pointer (some ⟨Br,0,none⟩),.pointer (some ⟨Bs,0,none⟩)] (exF m la f r) (fun A=>LfAt m B SB la ll a1 a2 c1 c2 r Bc Br Bs A)
 | f,r,Bc,Br,Bs,hr,hf=>by
   have hrl:r<la.length:=by rw [F.hl];exact hr
   have e0:atL la r=la[r]:=by unfold atL;rw [Int.toNat_natCast,List.getD_eq_getElem?_getD,List.getElem?_eq_getElem hrl];rfl
   by_cases hn:atL la r<0
   . have hnil:exF m la f r=[]:=by cases f <;> simp [exF,hn]
     rw [hnil];intro l J Jx W hU hst hsx hY h0;refine callsIn_wide.2 (zG func265 rfl ?_);simp only [ntmps265,List.size_toArray,List.length_cons,List.length_nil,Nat.reduceAdd,Nat.reduceSub,Array.replicate_succ,Array.replicate_zero,List.push_toArray,List.append_toArray,List.nil_append,List.cons_append];have hLW:=(hU _ _ _ h0).1;have hJ1:J 0 (fun _=>False) (W.alloc (.cells #[.func (.yield l) #[] #[]] 50)):=hst _ _ _ _ _ h0 (Turn0.alloc W _ (Nat.le_refl _)) (Grow.same _ _ _);go_upto_region 1 with fail;generalize W.alloc (.cells #[.func (.yield l) #[] #[]] 50)=W1 at *;have hL1:=(hU _ _ _ hJ1).1;obtain ⟨aa,cc,ev,hcap,q⟩:=hL1.row.len;obtain ⟨b1,o1,ea,hb1',hc1⟩:=q r hrl;simp only [Value.slice.injEq] at ev;obtain ⟨rfl,_,rfl⟩:=ev;subst ea;rw [<- e0] at hc1;have x2:=hL1.xc;have x4:=hL1.xr;have hr0:(0:Int)<=(r:Int):=by omega
     have hrI:(r:Int)<(la.length:Int):=by omega
     clear q e0;generalize atL la r=y at hc1 hn;go_wp2_with fail;exact yl (ds:=[]) (Marked.nil W.heap.size _) (v:=.tuple #[]) (by simp [results,results265,go_sem]) ⟨⟨_,rfl⟩,.inl ⟨_,hJ1⟩⟩
   . obtain ⟨v,hv,e,hg,hd,ha⟩:=yD F.hl F.hf hr (by omega)
     obtain ⟨f,rfl⟩:∃ g,f=g+1:=⟨f - 1,by have:=hf v e;have:=zO F.h0 hv;omega⟩
     have hxs:exF m la (f+1) r=(ownM m (v:Int)).flatMap (exF m la f) ++ [(v:Int)]:=by
       rw [exF,if_neg hn,e]
     have HSq:Hid (∀ q ∈ ownM m (v:Int),∃ qn:Nat,q=qn/\qn<m.zb.length/\∀ Bc Br Bs,SeqB prog 265 #[.pointer (some ⟨Bc,0,none⟩),.pointer (some ⟨Br,0,none⟩),.pointer (some ⟨Bs,0,none⟩)] (exF m la f q) (fun A=>LfAt m B SB la ll a1 a2 c1 c2 qn Bc Br Bs A)):=hid fun q hq=>by
       obtain ⟨j,hj,rfl,ho⟩:=yE hq;refine ⟨j,rfl,hj,fun Bc Br Bs=>zbD F hm1 hm2 f j Bc Br Bs hj fun k hk=>?_⟩;obtain ⟨y,hy,ey,gy,dy,_⟩:=yD F.hl F.hf hj (by omega);obtain rfl:k=y:=by omega
       have:=(qI F hj ho hv hy hk gy dy).2;have:=hf v e;omega
     rw [hxs];intro l J Jx W hU hst hsx hY h0;refine callsIn_wide.2 (zG func265 rfl ?_);simp only [ntmps265,List.size_toArray,List.length_cons,List.length_nil,Nat.reduceAdd,Nat.reduceSub,Array.replicate_succ,Array.replicate_zero,List.push_toArray,List.append_toArray,List.nil_append,List.cons_append];have hJ1:J 0 (fun b=>b=W.heap.size) (W.alloc (.cells #[.func (.yield l) #[] #[]] 50)):=hst _ _ _ _ _ h0 (Turn0.alloc W _ (Nat.le_refl _)) (fun b hb=>.inr ⟨by omega,by simp;omega⟩);have c4:(W.alloc (.cells #[.func (.yield l) #[] #[]] 50)).cell? ⟨W.heap.size,0,none⟩=some (.func (.yield l) #[] #[]):=by simp
     have hz1:(W.alloc (.cells #[.func (.yield l) #[] #[]] 50)).heap.size=W.heap.size+1:=by simp
     go_upto_region 1 with fail;generalize W.alloc (.cells #[.func (.yield l) #[] #[]] 50)=W1 at *;have hL1:=(hU _ _ _ hJ1).1;obtain ⟨aa,cc,ev,hcap,q⟩:=hL1.row.len;obtain ⟨b1,o1,ea,hb1',hc1⟩:=q r hrl;simp only [Value.slice.injEq] at ev;obtain ⟨rfl,_,rfl⟩:=ev;subst ea;rw [<- e0,e] at hc1;have x1:=hL1.xs;have x2:=hL1.xc;have x4:=hL1.xr;obtain ⟨IB,kv,hi,s0,s1,s2,hku,hz⟩:=hL1.set;have HRg:=hid (jg hi (v:Int) (WalkArith.wf_i64 ⟨by omega,by omega⟩) (by omega));have hr0:(0:Int)<=(r:Int):=by omega
     have hrI:(r:Int)<(la.length:Int):=by omega
     have hv0:¬ ((v:Int)<0):=by omega
     have HU:=hid hU;have HSt:=hid hst;have HSx:=hid hsx;have HY:=hid hY;have HJ1:=hid hJ1;clear q e0 hn hxs hi hL1 hku hU hst hsx hY hJ1 h0 hd ha hg e hf;have hRl:(ownM m (v:Int)).length<=1000:=by have:=zV (isOwn (v:Int)) m.zb;have e:(ownM m (v:Int)).length<=m.zb.length:=this;omega
     obtain ⟨R,hRe⟩:∃ R,ownM m (v:Int)=R:=⟨_,rfl⟩;have HRe:=hid hRe;rw [hRe] at HSq HY HRg hRl;clear hRe;go_wp2_with fail;(with_reducible refine (HRg.o).mono ?_);rintro e w2 ⟨rv,rfl,ho2,hb2⟩;obtain ⟨ra,rc,rfl⟩:=zj ho2;have HO:=hid ho2;have HB2:=hid hb2;have c42:Hid (w2.cell? ⟨W.heap.size,0,none⟩=some (.func (.yield l) #[] #[])):=hid ((hb2.cell (p:=⟨W.heap.size,0,none⟩) (by simp only;omega)).trans c4);have hz2:W1.heap.size<=w2.heap.size:=hb2.size;have HS0:Hid (LfSt J W.heap.size w2 0 [] (fun b=>W.heap.size<=b/\b<w2.heap.size) w2):=hid ⟨HSt.o _ _ _ _ _ HJ1.o (Turn0.of_below hb2 (by omega)) (fun b hb=>(Nat.lt_or_ge W.heap.size b).elim (fun h=>.inr ⟨by omega,hb.2⟩) (fun h=>.inl (by omega))),Marked.nil _ _,fun _ h=>absurd h (by simp),fun b h1 h2=>⟨⟨h1,h2⟩,rfl⟩,fun b h=>h.2⟩;clear ho2 hb2 c4 x1 x2 x4 s0 s1 s2 hc1 HRg;go_wp2_with fail;refine zcM [7,23,24,25,26,27,28,29,30,36] 23 (fun ds i wr=>∃ k:Nat,k<=R.length/\i=.int .i64 k/\∃ S,LfSt J W.heap.size w2 (exP m la f R k).length ds S wr) (fun i=>R.length - (intOf i).toNat) ?h0 ?round
     case h0 =>
      simp only [LoopD,Fr,List.set_cons_zero,List.set_cons_succ,List.getD_cons_succ,List.getD_cons_zero];refine ⟨[],?_⟩
      repeat apply Exists.intro
      refine ⟨?_,rfl⟩;exact ⟨0,by omega,rfl,_,by simpa [exP] using HS0.o⟩
     case round =>
      simp only [LoopD,Fr,List.set_cons_zero,List.set_cons_succ,List.getD_cons_succ,List.getD_cons_zero];intro _ wr hinv;obtain ⟨ds,u7,u23,u24,u25,u26,u27,u28,u29,u30,u36,hrel,ha⟩:=hinv;subst ha
      try dsimp only
      clear HS0;obtain ⟨wo,rfl⟩:=ex1 wr;obtain ⟨k,hk,rfl,S,hs⟩:=hrel;have HS:=hid hs;have hLo:=(HU.o _ _ _ hs.j).1;have hzo:W.heap.size<wo.heap.size:=hs.lt _ (hs.kp W.heap.size (Nat.le_refl _) (by omega)).1;have c4o:wo.cell? ⟨W.heap.size,0,none⟩=some (.func (.yield l) #[] #[]):=(cellK (hs.kp W.heap.size (Nat.le_refl _) (by omega)).2).trans c42.o;clear hs
      by_cases hlt:k<R.length
      . as_aux_lemma =>
          have hltI:(k:Int)<(R.length:Int):=by omega
          have hi0:(0:Int)<=(k:Int):=by omega
          obtain ⟨g,cg,eg⟩:=zF HO.o (by omega);simp only [Value.slice.injEq,true_and] at eg;obtain ⟨rfl,rfl⟩:=eg;have hgl:=HO.o.lt g rfl;have hcr:=zJ HO.o;have hcg:wo.cell? ⟨g,k,none⟩=some (.int .i64 R[k]):=(cellK (HS.o.kp g (by omega) hgl.2).2).trans ((HO.o.cellAt k (by omega)).trans (by simp [nums,hlt]));obtain ⟨q,eq,hq,HSeq⟩:=HSq.o R[k] (List.getElem_mem hlt);have HSeq:=hid HSeq;have HAt:=hid (fun j (hj:j<(exF m la f R[k]).length)=>exP_at m la f R (v:Int) hlt hj);have HSu:Hid ((exP m la f R (k+1)).length=(exP m la f R k).length+(exF m la f R[k]).length):=hid (by rw [zc3 m la f R hlt,List.length_append]);rw [eq] at hcg HSeq HAt HSu;have x1:=hLo.xs;have x2:=hLo.xc;have x3:=hLo.xd;have HM3:=zez (a2:=a2) (c2:=c2) (ll:=ll) q hLo.set hLo.row;have hb3:Bl wo (((wo.alloc (.cells #[.pointer (some ⟨SB,0,none⟩)] 77)).alloc (.cells #[.slice (some ⟨b1,o1,none⟩) la.length c1,.slice a2 ll.length c2] 74)).alloc (.cells #[.int .i64 q] 3)):=(((Below.refl _ wo).alloc (Nat.le_refl _) _).alloc (by simp) _).alloc (by simp;omega) _;have hz3:(((wo.alloc (.cells #[.pointer (some ⟨SB,0,none⟩)] 77)).alloc (.cells #[.slice (some ⟨b1,o1,none⟩) la.length c1,.slice a2 ll.length c2] 74)).alloc (.cells #[.int .i64 q] 3)).heap.size=wo.heap.size+3:=by simp
          have HLf:=hid (zc2 SB (.agg #[.slice (some ⟨b1,o1,none⟩) la.length c1,.slice a2 ll.length c2]) (q:Int) wo _ _ rfl);clear hLo eq;go_wp2_with fail;(with_reducible refine (HLf.o).mono ?_);rintro e w3 ⟨rfl,hw3⟩;rw [hw3] at HM3 hb3 hz3;have HM:=hid HM3;have HB3:=hid hb3;clear hw3 HM3 hb3 x1 x2 x3 HLf hcg;have hS0:∀ b,S b\/(wo.heap.size<=b/\b<w3.heap.size)->b<w3.heap.size:=fun b hb=>hb.elim (fun h=>by have:=HS.o.lt b h;omega) (fun h=>h.2)
          have c43:w3.cell? ⟨W.heap.size,0,none⟩=some (.func (.yield l) #[] #[]):=(HB3.o.cell (p:=⟨W.heap.size,0,none⟩) hzo).trans c4o;have hSW:=(HS.o.kp W.heap.size (Nat.le_refl _) (by omega)).1;go_wp2_with fail;refine jY (p:=31) (q:=8) (gf:=265) (lb:=#[.pointer (some ⟨wo.heap.size+1,0,none⟩),.pointer (some ⟨wo.heap.size+1+1,0,none⟩),.pointer (some ⟨wo.heap.size,0,none⟩)]) rfl (fun _ _=>?eg) (exF m la f q) _ (HSeq.o _ _ _) (fun j S' W'=>LfIn (fun i=>J ((exP m la f R k).length+i)) (fun b=>S b\/(wo.heap.size<=b/\b<w3.heap.size)) w3 j S' W') (fun W'=>Jx W'/\(∀ b,S b\/(wo.heap.size<=b/\b<w3.heap.size)->W'.heap[b]? = w3.heap[b]?)/\w3.heap.size<=W'.heap.size) ?hU ?hI ?hIx ?h0 ?hassign ?hbody ?hdone ?hstop
          case eg=>first | rfl | simp [go_sem]
          case hU=>exact fun j S' W' h=>lf_keep (HU.o _ _ _ h.j).1 HM.o fun b hb=>h.kp b (.inr (by omega))
          case hI =>
           rintro j S' W' S'' W'' h t g;exact ⟨HSt.o _ _ _ _ _ h.j (t.mono (by omega)) (fun b hb=>hb.elim (fun h=>.inl (.inl h)) (fun h=>(g b h).elim (fun h=>.inl (.inr h)) .inr)),fun b hb=>(t.old b (hS0 b hb)).trans (h.kp b hb),Nat.le_trans h.sz t.size⟩
          case hIx =>
           rintro W' W'' ⟨hx,kp,sz⟩ t;exact ⟨HSx.o _ _ hx (t.mono (by omega)),fun b hb=>(t.old b (hS0 b hb)).trans (kp b hb),Nat.le_trans sz t.size⟩
          case h0=>exact ⟨HSt.o _ _ _ _ _ HS.o.j (Turn0.of_below HB3.o (by omega)) (fun b hb=>hb.elim (fun h=>h) False.elim),fun _ _=>rfl,Nat.le_refl _⟩
          case hassign =>
           intro l x W K hK;simp only [List.setIfInBounds_toArray,List.set_cons_succ,List.set_cons_zero] at hK |-
           gi_wp2
           exact hK
          case hbody =>
           intro l2 j S' W2 hj hS' hi;have hyy:=HY.o ((exP m la f R k).length+j) (fun b=>(S b\/(wo.heap.size<=b/\b<w3.heap.size))\/S' b) W2 (HAt.o j hj).1 hi.j (fun b hb=>hb.elim (fun h=>by have:=hS0 b h;have:=hi.sz;omega) (hS' b));rw [(HAt.o j hj).2] at hyy;have c4i:W2.cell? ⟨W.heap.size,0,none⟩=some (.func (.yield l) #[] #[]):=(cellK (hi.kp W.heap.size (.inl hSW))).trans c43;have HI:=hid hi
           have hsz:∀ W4:World,(∀ b,(S b\/(wo.heap.size<=b/\b<w3.heap.size))\/S' b->W4.heap[b]? = W2.heap[b]?)->w3.heap.size<=W4.heap.size:=fun W4 h=>by
             have:=zfz (h (wo.heap.size+2) (.inl (.inr (by omega)))) (by have:=HI.o.sz;omega);omega
           have HSz:=hid hsz;clear hsz hi;obtain ⟨fn,tmps,assign,body,hy,hR⟩:=hyy;generalize (exF m la f q)[j]=x at *;simp only [List.setIfInBounds_toArray,List.set_cons_succ,List.set_cons_zero]
           gi_wp2
           refine (zcc hR).mono ?_;rintro e W4 ⟨hk4,(⟨rfl,hj4⟩ | ⟨rfl,hx4⟩)⟩
           . have HK4:=hid hk4
             have HJ4:=hid hj4;clear hk4 hj4 hy hR
             gi_wp2
             exact ⟨fun b hb=>HK4.o b (.inr hb),HJ4.o,fun b hb=>(HK4.o b (.inl hb)).trans (HI.o.kp b hb),HSz.o _ HK4.o⟩
           . have HK4:=hid hk4
             have HX4:=hid hx4;clear hk4 hx4 hy hR
             gi_wp2
             exact ⟨fun b hb=>HK4.o b (.inr hb),HX4.o,fun b hb=>(HK4.o b (.inl hb)).trans (HI.o.kp b hb),HSz.o _ HK4.o⟩
          case hdone =>
           intro D S' W2 hDl hSD hSl hi hK
           try dsimp only at hDl hSD hSl hi
           have HI:=hid hi
           have HM1:Hid (Marked W.heap.size (D :: ds) W2):=HS.o.mkd.cons hK (by omega) (by omega) fun D' hD'=>by
             have hSD':=HS.o.sd D' hD';exact (HI.o.kp D' (.inl hSD')).trans (HB3.o.block D' (HS.o.lt D' hSD'))
           have HS1:Hid (LfSt J W.heap.size w2 (exP m la f R (k+1)).length (D :: ds) (fun b=>(S b\/(wo.heap.size<=b/\b<w3.heap.size))\/(S' b/\b<W2.heap.size)) W2):=hid ⟨by
             rw [HSu.o];exact HSt.o _ _ _ _ _ HI.o.j (Turn0.refl _ _) (fun b hb=>.inl (hb.imp id And.left)),HM1.o,fun D' hD'=>by
             rcases List.mem_cons.1 hD' with rfl | h
             . exact .inr ⟨hSD,(Array.getElem?_eq_some_iff.1 hK).1⟩
             . exact .inl (.inl (HS.o.sd D' h)),fun b h1 h2=>⟨.inl (.inl (HS.o.kp b h1 h2).1),(HI.o.kp b (.inl (HS.o.kp b h1 h2).1)).trans ((HB3.o.block b (HS.o.lt b (HS.o.kp b h1 h2).1)).trans (HS.o.kp b h1 h2).2)⟩,fun b hb=>hb.elim (fun h=>by have:=hS0 b h;have:=HI.o.sz;omega) And.right⟩
           clear hi hK;go_wp2_with fail;refine ⟨⟨D :: ds,_,_,_,_,_,_,_,_,_,_,?rel,rfl⟩,?measure⟩
           case rel=>exact ⟨k+1,by omega,by go_num,_,HS1.o⟩
           case measure=>simp [intOf] <;> omega
          case hstop =>
           rintro D W2 hDl ⟨hx,kp,sz⟩ hK
           try dsimp only at hDl
           have HM1:Hid (Marked W.heap.size (D :: ds) W2):=HS.o.mkd.cons hK (by omega) (by omega) fun D' hD'=>by
             have hSD':=HS.o.sd D' hD';exact (kp D' (.inl hSD')).trans (HB3.o.block D' (HS.o.lt D' hSD'))
           exact yl (ds:=D :: ds) HM1.o (v:=.tuple #[]) (by simp [results,results265,go_sem]) ⟨⟨_,rfl⟩,.inr (HSx.o _ _ hx (kz HM1.o))⟩
      . obtain rfl:k=R.length:=by omega
        have hltI:¬ ((R.length:Int)<(R.length:Int)):=by omega
        have HEn:=hid (exP_end m la f R (v:Int));have hyy:=HY.o (exP m la f R R.length).length S wo HEn.o.1 HS.o.j HS.o.lt;rw [HEn.o.2] at hyy;have HLn:Hid ((exP m la f R R.length).length+1=(R.flatMap (exF m la f) ++ [(v:Int)]).length):=hid (by rw [zeA];simp);obtain ⟨fn,tmps,assign,body,hy,hR⟩:=hyy;clear hlt HSq hLo HEn;refine (wpIn_wide (n:=8)).1 ?_
        gi_wp2
        refine (wpIn_wide (n:=8)).1 ?_
        gi_wp2
        refine (zc1 hR).mono ?_;rintro e W4 ⟨hk4,(⟨rfl,hj4⟩ | ⟨rfl,hx4⟩)⟩
        . have HM4:Hid (Marked W.heap.size ds W4):=hid (HS.o.mkd.keep fun D hD=>hk4 D (HS.o.sd D hD))
          rw [HLn.o] at hj4;have HJ4:=hid hj4;clear hk4 hj4 hy hR
          gi_wp2
          exact yX ds _ HM4.o (v:=.tuple #[]) (by simp [results,results265,go_sem]) ⟨⟨_,rfl⟩,.inl ⟨_,by rw [HRe.o];exact HSt.o _ _ _ _ _ HJ4.o (kz HM4.o) (Grow.same _ _ _)⟩⟩
        . have HM4:Hid (Marked W.heap.size ds W4):=hid (HS.o.mkd.keep fun D hD=>hk4 D (HS.o.sd D hD))
          have HX4:=hid hx4;clear hk4 hx4 hy hR
          gi_wp2
          exact yX ds _ HM4.o (v:=.tuple #[]) (by simp [results,results265,go_sem]) ⟨⟨_,rfl⟩,.inr (HSx.o _ _ HX4.o (kz HM4.o))⟩
end Go.Proofs

namespace Go.Proofs
open Go.RowKit Go.Lx Go.Md Go.Shelf Go.BigFrame Go.Rgi
open Lib(hid)
open Go.Proofs.Tryz
set_option maxRecDepth 100000
set_option maxHeartbeats 0
set_option linter.unusedVariables false
theorem any_no {P:Int->Bool} {l:List Int} (h:∀ j (hj:j<l.length),P l[j]=false):l.any P=false:=by
 rw [List.any_eq_false];intro y hy;obtain ⟨j,hj,rfl⟩:=List.getElem_of_mem hy;rw [h j hj];simp
theorem zeB {P:Int->Bool} {l:List Int} {j:Nat} (hj:j<l.length) (h:P l[j]=true):l.any P=true:=by
 rw [List.any_eq_true];exact ⟨_,List.getElem_mem hj,h⟩
def IdxP (P:Int->Bool) (l:List Int) (w:World) (e:Ending) (w':World):Prop:=∃ i:Int,e=.returned (.int .i64 i)/\decide (0<=i)=l.any P/\Bl w w'
--IF (*sets.Sets).Leave$1
theorem zc4 (P:Int->Bool) (l:List Int) (v:Value) (B4:Nat) (w:World) (h:RowIn w v l) (hl:l.length<=100000)
   (hK:∀ wx,Bl w wx->∀ x ∈ l,Calls prog 221 #[.int .i64 x,.pointer (some (.mk B4 0 none))] wx fun e w'=>e=.returned (.bool (P x))/\Bl wx w') :
   Calls prog 171 #[v,.func (.func 221) #[] #[.pointer (some (.mk B4 0 none))]] w (IdxP P l w):=by
 have HK:=hid hK;have HR:=hid (fun (wx:World) (g:Bl w wx)=>(h.zf g).len);obtain ⟨a,c,rfl,hc,_⟩:=h.len;obtain ⟨n,hn⟩:=ex2 l.length;have HN:=hid hn;rw [hn] at hl hc |-;clear h hK hn;go_enter func171,ntmps171;go_wp2_with fail
 go_loopw [8] (fun i wr=>∃ k':Nat,k'<=n/\i=.int .i64 k'/\Bl w wr/\∀ j (hj:j<l.length),j<k'->P l[j]=false) (fun i _=>n - (intOf i).toNat)
 case atStart=>exact ⟨0,by omega,rfl,Below.refl _ _,fun j _ hj=>by omega⟩
 case round =>
  obtain ⟨wo,rfl⟩:=ex1 wr;obtain ⟨i,hi,rfl,hb,hno⟩:=hrel;have HB:=hid hb;have HNo:=hid hno;clear hb hno
  by_cases hlt:i<n
  . have hil:i<l.length:=by rw [HN.o];exact hlt
    obtain ⟨a',c',e,_,q⟩:=HR.o wo HB.o;obtain ⟨b1,o1,ea,hbl,hcl⟩:=q i hil;simp only [Value.slice.injEq] at e;obtain ⟨rfl,e',rfl⟩:=e;clear e';subst ea;have hI:(i:Int)<(n:Int):=by omega
    have hI0:(0:Int)<=(i:Int):=by omega
    have HKv:=hid (HK.o wo HB.o (l[i]'hil) (List.getElem_mem hil))
    have HS:Hid (∀ b,P (l[i]'hil)=b->(b=true->l.any P=true)/\(b=false->∀ j (hj:j<l.length),j<i+1->P l[j]=false)):=fun b hb=>⟨fun ht=>zeB hil (by rw [hb,ht]),fun hf j hj hji=>by
      by_cases e:j=i
      . subst e;rw [hb,hf]
      . exact HNo.o j hj (by omega)⟩
    obtain ⟨y,hy⟩:=ex2 (l[i]'hil);rw [hy] at hcl HKv HS;obtain ⟨b,hb⟩:=ex2 (P y);rw [hb] at HKv;have HSb:=hid (HS.o b hb);clear q hb HS hy
    cases b with
    | true =>
     go_wp2_with fail;(with_reducible refine (HKv.o).mono ?_);rintro e w5 ⟨rfl,g5⟩;go_wp2_with fail;go_ret;exact ⟨_,rfl,by rw [HSb.o.1 (by trivial)];simp,zi HB.o g5⟩
    | false =>
     go_wp2_with fail;(with_reducible refine (HKv.o).mono ?_);rintro e w5 ⟨rfl,g5⟩;go_wp2_with fail;go_roundw
     case rel=>exact ⟨i+1,by omega,by go_num,zi HB.o g5,HSb.o.2 (by trivial)⟩
     case measure=>simp [intOf] <;> omega
  . have hA:Hid (l.any P=false):=hid (any_no fun j hj=>HNo.o j hj (by have:=HN.o;omega))
    go_wp2_with fail;go_ret;exact ⟨-1,rfl,by rw [hA.o];rfl,HB.o⟩
theorem zay (P:Int->Bool) (l:List Int) (v:Value) (B4:Nat) (w:World) (h:RowIn w v l) (hl:l.length<=100000)
   (hK:∀ wx,Bl w wx->∀ x ∈ l,Calls prog 221 #[.int .i64 x,.pointer (some (.mk B4 0 none))] wx fun e w'=>e=.returned (.bool (P x))/\Bl wx w') :
   Calls prog 96 #[v,.func (.func 221) #[] #[.pointer (some (.mk B4 0 none))]] w fun e w'=>e=.returned (.bool (l.any P))/\Bl w w':=by
 have HC:=hid (zc4 P l v B4 w h hl hK);clear h hK;go_enter func96,ntmps96;go_wp2_with ((with_reducible refine (HC.o).mono ?_);rintro e w' ⟨i,rfl,hi,hb⟩);go_ret;exact ⟨by rw [<- hi];rfl,hb⟩
--FI
structure Cb (la ll:List Int) (a1 a2:Option Addr) (c1 c2 H:Nat) (w:World):Prop where
 d0:w.cell? ⟨H,0,none⟩=some (.slice a1 la.length c1)
 d1:w.cell? ⟨H,1,none⟩=some (.slice a2 ll.length c2)
 r1:RowIn w (.slice a1 la.length c1) la
 r2:RowIn w (.slice a2 ll.length c2) ll
 lt:H<w.heap.size
theorem Cb.zf {la ll:List Int} {a1 a2:Option Addr} {c1 c2 H:Nat} {w w':World} (h:Cb la ll a1 a2 c1 c2 H w) (g:Bl w w'):Cb la ll a1 a2 c1 c2 H w' :=
 ⟨(g.cell (p:=⟨H,0,none⟩) h.lt).trans h.d0,(g.cell (p:=⟨H,1,none⟩) h.lt).trans h.d1,h.r1.zf g,h.r2.zf g,Nat.lt_of_lt_of_le h.lt g.size⟩
theorem Cb.made {la ll:List Int} {a1 a2:Option Addr} {c1 c2:Nat} {w:World} (h1:RowIn w (.slice a1 la.length c1) la) (h2:RowIn w (.slice a2 ll.length c2) ll):Cb la ll a1 a2 c1 c2 w.heap.size (w.alloc (.cells #[.slice a1 la.length c1,.slice a2 ll.length c2] 74)) :=
 ⟨by simp,by simp,h1.zf (zg w _),h2.zf (zg w _),by simp⟩
theorem Cb.at {la ll:List Int} {a1 a2:Option Addr} {c1 c2 H:Nat} {w:World} (h:Cb la ll a1 a2 c1 c2 H w) {r:Nat} (hr:r<la.length):∃ b o,a1=some ⟨b,o,none⟩/\b<w.heap.size/\la.length<=c1/\w.cell? ⟨b,o+r,none⟩=some (.int .i64 (atL la r)):=by
 obtain ⟨a',c',e,hc,q⟩:=h.r1.len;obtain ⟨b1,o1,ea,hbl,hcl⟩:=q r hr;simp only [Value.slice.injEq] at e;obtain ⟨e1,_,e2⟩:=e;refine ⟨b1,o1,e1.trans ea,hbl,by omega,?_⟩;rw [hcl];unfold atL;rw [Int.toNat_natCast,List.getD_eq_getElem?_getD,List.getElem?_eq_getElem hr];rfl
--IF (*sets.Sets).Leave$1
theorem zdV {la ll:List Int} {a1 a2:Option Addr} {c1 c2 H:Nat} {w:World} (h:Cb la ll a1 a2 c1 c2 H w) {r:Nat} (hr:r<la.length) :
   Calls prog 221 #[.int .i64 (r:Int),.pointer (some ⟨H,0,none⟩)] w fun e w'=>e=.returned (.bool (decide (0<=atL la r)))/\Bl w w':=by
 obtain ⟨b,o,ea,hb,hc,hcl⟩:=h.at hr;subst ea;have d0:=h.d0;have hI:(r:Int)<(la.length:Int):=by omega
 have hI0:(0:Int)<=(r:Int):=by omega
 generalize atL la r=y at *;clear h;go_enter func221,ntmps221;go_wp2_with fail;go_ret;exact ⟨rfl,Below.refl _ _⟩
--FI
end Go.Proofs

namespace Go.Proofs
open Go.RowKit Go.Lx Go.Md Go.Shelf Go.Rfu
open Lib(hid)
open Go.Proofs.Tryz
set_option maxRecDepth 100000
set_option maxHeartbeats 0
set_option linter.unusedVariables false
attribute [local go_sem] Oper.semAt_some
theorem jz {F:Fence} {n:Nat} {P:Program} (w:World) {ops:Array Oper} {rest:List Oper} {o:Oper} {a:Act} {Q:Exit->Act->World->Prop} (hgd:o.guard=none) (s x:Operand) (t:TypeId)
   (ho:o.op=.call { callee:=.builtin .append,args:=#[s,x],argTypes:=#[t,t] }) (e:TypeId) (N:Nat) (i:TypeInfo) (z:Value) (ht:P.underlying t=some (.slice e)) (hi:P.info? e=some i) (hz:i.zero=some z) (hsize:i.size=1) (hby:i.bytes=8) (hzs:z.cells.size=1)
   (v:Value) (l:List Int) (hs:a.eval s=v) (hown:w.ownsRow N e 1 v l.length (nums l)) (xv:Value) (r:List Int) (hx:a.eval x=xv) (hr:RowIn w xv r) (h63:l.length+r.length<=1000000) (hN:N<=w.heap.size)
   (h:∀ v' w',w'.ownsRow N e 1 v' (l ++ r).length (nums (l ++ r))->w.grownBy w' v.ownBlock->Nxt v v' w.heap.size->wpListIn F n P ops Q rest (a.put o.dst v') w'):wpListIn F n P ops Q (o :: rest) a w:=by
 refine wpListIn_plain hgd fun K hK'=>?_;obtain ⟨v',w',h1,h2,h3,h4⟩:=qp (P:=P) w t o.type e N i z ht hi hz hsize hby hzs v l hown xv r hr h63 hN;unfold Oper.wpIn;refine ⟨?_,?_⟩
 . simp [Oper.about,ho,resolve,Target.leads,Sem.run_pure]
 . rw [Oper.semAt_plain F _ _ (by rw [ho];intro c hc';cases hc')]
   simp [execOp,ho,resolve,invoke,builtin,hs,hx,h1,Result.andThen]
   exact hK' _ _ (h v' w' h2 h3 h4)
structure CoSt (xs:List Int) (w:World) (k:Nat) (S:Nat->Prop) (W:World):Prop where
 bel:Bl w W
 sz:w.heap.size+1<=W.heap.size
 fr:W.frozen? ⟨w.heap.size,0,none⟩=false
 row:∃ v',W.cell? ⟨w.heap.size,0,none⟩=some v'/\W.ownsRow (w.heap.size+1) 3 1 v' (xs.take k).length (nums (xs.take k))/\∀ g,v'.ownBlock=some g->¬ S g
 lo:∀ b,S b->w.heap.size<b
theorem CoSt.turn {xs:List Int} {w:World} {k:Nat} {S S':Nat->Prop} {W W':World} (h:CoSt xs w k S W) (t:Turn0 (w.heap.size+1) W W') (g:Grow S S' W W'):CoSt xs w k S' W':=by
 obtain ⟨v',h1,h2,h3⟩:=h.row;have hz:=h.sz;refine ⟨t.zf h.bel (by omega),Nat.le_trans h.sz t.size,(World.frozen?_of_block (w:=W) (t.old _ (by simp only;omega))).trans h.fr,⟨v',(cellK (t.old w.heap.size (by omega))).trans h1,⟨h2.1,?_⟩,fun b hb hS=>?_⟩,fun b hb=>(g b hb).elim (h.lo b) (fun h=>by omega)⟩
 . rcases h2.2 with hn | ⟨g',cap,cur,e,hb,hg,r⟩
   . exact .inl hn
   . exact .inr ⟨g',cap,cur,e,hb,t.data g' _ hg rfl,r⟩
 . rcases g b hS with h | h
   . exact h3 b hb h
   . have:=(h2.lt b hb).2;omega
theorem CoSt.push {xs:List Int} {w:World} {k:Nat} {S:Nat->Prop} {W w2:World} {v' v2:Value} {o:Obj} (hS:∀ b,S b->b<W.heap.size) (h:CoSt xs w k S W) (hk:k<xs.length) (h1:W.cell? ⟨w.heap.size,0,none⟩=some v') (h2:W.ownsRow (w.heap.size+1) 3 1 v' (xs.take k).length (nums (xs.take k))) (h3:∀ g,v'.ownBlock=some g->¬ S g)
   (hown:w2.ownsRow (w.heap.size+1) 3 1 v2 (xs.take k ++ [xs[k]]).length (nums (xs.take k ++ [xs[k]]))) (hg:(W.alloc o).grownBy w2 v'.ownBlock) (hn:Nxt v' v2 (W.alloc o).heap.size) :
   w2.cell? ⟨w.heap.size,0,none⟩=some v'/\w2.frozen? ⟨w.heap.size,0,none⟩=false/\(∀ b,S b->(w2.setCell ⟨w.heap.size,0,none⟩ v2).heap[b]? = W.heap[b]?)/\CoSt xs w (k+1) S (w2.setCell ⟨w.heap.size,0,none⟩ v2):=by
 have hz:=h.sz;have hlt:=fun q hq=>h2.lt q hq;have hbk:∀ b,b<W.heap.size->v'.ownBlock≠some b->w2.heap[b]? = W.heap[b]? := fun b hb hn=>(hg.block b (by simp;omega) (fun e=>hn e.symm)).trans (Below.heap_alloc W o b hb)
 have hnH:∀ b,b<=w.heap.size->v'.ownBlock≠some b:=fun b hb e=>by have:=(hlt b e).1;omega
 have hcH:w2.cell? ⟨w.heap.size,0,none⟩=some v':=(cellK (hbk _ (by omega) (hnH _ (Nat.le_refl _)))).trans h1;have hfH:w2.frozen? ⟨w.heap.size,0,none⟩=false:=(World.frozen?_of_block (w:=W) (hbk w.heap.size (by omega) (hnH _ (Nat.le_refl _)))).trans h.fr;have hsz2:W.heap.size<=w2.heap.size:=by have:=hg.size;simp at this;omega
 have hB:Bl w w2:=h.bel.trans (((Below.refl w.heap.size W).alloc (by omega) o).grown hg (by simp;omega) (fun q hq=>by have:=(hlt q hq).1;omega));have hset:∀ b,b≠w.heap.size->(w2.setCell ⟨w.heap.size,0,none⟩ v2).heap[b]? = w2.heap[b]? := fun b hb=>Below.heap_setCell _ _ _ _ hb;refine ⟨hcH,hfH,fun b hb=>?_,⟨hB.setCell (p:=⟨w.heap.size,0,none⟩) (Nat.le_refl _) _,by simp;omega,by rw [World.frozen?_setCell];exact hfH,⟨v2,World.cell?_setCell_same _ _ _ hcH,?_,fun b hb hSb=>?_⟩,h.lo⟩⟩
 . exact (hset b (by have:=h.lo b hb;omega)).trans (hbk b (hS b hb) (fun e=>h3 b e hb))
 . rw [List.take_succ_eq_append_getElem hk]
   exact ownsRow_setCell_below (a:=⟨w.heap.size,0,none⟩) hown (by simp only;omega) _
 . rcases hn with hn | hn
   . exact h3 b (by rw [<- hn];exact hb) hSb
   . have:=hn b hb;have:=hS b hSb;simp at *;omega
theorem zc5 {xs:List Int} {U:World->Prop} {Bc Br Bs:Nat} (hseq:SeqB prog 265 #[.pointer (some ⟨Bc,0,none⟩),.pointer (some ⟨Br,0,none⟩),.pointer (some ⟨Bs,0,none⟩)] xs U) (w:World) (hU:∀ W,Bl w W->U W) (hl:xs.length<=100000) :
   Calls prog 169 #[.slice none 0 0,.func (.func 265) #[] #[.pointer (some ⟨Bc,0,none⟩),.pointer (some ⟨Br,0,none⟩),.pointer (some ⟨Bs,0,none⟩)]] w (RowP xs w):=by
 obtain ⟨iI,hiI,zI0,zI1,zI2⟩:=info_parts zS;have HSeq:=hid hseq;have HU:=hid hU;clear hseq hU;refine zG func169 rfl ?_;simp only [ntmps169,List.size_toArray,List.length_cons,List.length_nil,Nat.reduceAdd,Nat.reduceSub,Array.replicate_succ,Array.replicate_zero,List.push_toArray,List.append_toArray,List.nil_append,List.cons_append];go_wp2_with fail;have HSt:Hid (CoSt xs w 0 (fun _=>False) (w.alloc (.cells #[.slice none 0 0] 31))):=hid ⟨zg w _,by simp,by simp,⟨_,by simp,World.ownsRow_nil _ _ _ _,fun _ _ h=>h⟩,fun _ h=>h.elim⟩;have hz1:(w.alloc (.cells #[.slice none 0 0] 31)).heap.size=w.heap.size+1:=by simp
 generalize w.alloc (.cells #[.slice none 0 0] 31)=w1 at *
 refine jY (q:=5) (gf:=265) (lb:=#[.pointer (some ⟨Bc,0,none⟩),.pointer (some ⟨Br,0,none⟩),.pointer (some ⟨Bs,0,none⟩)]) rfl (fun _ _=>?eg) xs U HSeq.o (CoSt xs w) (fun _=>False)
   (fun k S W h=>HU.o W h.bel) (fun k S W S' W' h t g=>h.turn (t.mono (by omega)) g) (fun _ _ h _=>h) HSt.o ?hassign ?hbody ?hdone (fun _ _ _ h _=>h.elim)
 case eg=>first | rfl | simp [go_sem]
 case hassign =>
  intro l x W K hK;simp only [List.setIfInBounds_toArray,List.set_cons_succ,List.set_cons_zero] at hK |-
  gi_wp2
  exact hK
 case hbody =>
  intro l k S W hk hS hst;obtain ⟨v',hc,hrow,hnS⟩:=hst.row;have hsz:=hst.sz;have HP:=hid (fun (o:Obj) (w2:World) (v2:Value) (hown:w2.ownsRow (w.heap.size+1) 3 1 v2 (xs.take k ++ [xs[k]]).length (nums (xs.take k ++ [xs[k]]))) (hg:(W.alloc o).grownBy w2 v'.ownBlock) (hn:Nxt v' v2 (W.alloc o).heap.size)=>CoSt.push hS hst hk hc hrow hnS hown hg hn);have HR:=hid hrow;have hlk:(xs.take k).length<=100000:=by rw [List.length_take];omega
  generalize xs[k]=x at *;clear hst hrow hnS hS;simp only [List.setIfInBounds_toArray,List.set_cons_succ,List.set_cons_zero]
  gi_wp2_with (gi_at_builtin;refine jz _ rfl _ _ 31 rfl 3 (w.heap.size+1) iI (.int .i64 0) underlying31 hiI zI0 zI1 zI2 rfl v' (xs.take k) rfl (HR.o.alloc _) _ [x] rfl (row1 _ _ _) (by simp only [List.length_cons,List.length_nil];omega) (by simp;omega) ?_;intro v2 w2 hown2 hgrow2 hnxt2;obtain ⟨a2,cc2,rfl⟩:=zj hown2;obtain ⟨hc2,hf2,hk2,hs2⟩:=HP.o _ _ _ hown2 hgrow2 hnxt2;clear hown2 hgrow2 hnxt2;generalize (xs.take k ++ [x]).length=n2 at *)
  exact ⟨hk2,hs2⟩
 case hdone =>
  intro D S W hDl hSD _ hst hK
  try dsimp only at hst
  obtain ⟨v',hc,hrow,_⟩:=hst.row;have HM:Hid (Marked w1.heap.size [D] W):=yM hK hDl;have HB:=hid hst.bel;have HO:=hid hrow;clear hst hrow hK;go_wp2_with fail;refine yl (ds:=[D]) HM.o (v:=v') (by simp [results,results169,go_sem]) ⟨v',rfl,?_,?_⟩
  . have:=jU HO.o HM.o
    rw [List.take_length] at this;exact this.mono (by omega)
  . exact HB.o.trans ((zU HM.o.lo).mono (by omega))
theorem zcd {xs:List Int} {U:World->Prop} {Bc Br Bs:Nat} (hseq:SeqB prog 265 #[.pointer (some ⟨Bc,0,none⟩),.pointer (some ⟨Br,0,none⟩),.pointer (some ⟨Bs,0,none⟩)] xs U) (w:World) (hU:∀ W,Bl w W->U W) (hl:xs.length<=100000) :
   Calls prog 93 #[.func (.func 265) #[] #[.pointer (some ⟨Bc,0,none⟩),.pointer (some ⟨Br,0,none⟩),.pointer (some ⟨Bs,0,none⟩)]] w (RowP xs w):=by
 have HC:=hid (zc5 hseq w hU hl);clear hseq hU;go_enter func93,ntmps93;go_wp2_with ((with_reducible refine (HC.o).mono ?_);rintro e w' ⟨v',rfl,ho,hb⟩);go_ret;exact ⟨v',rfl,ho,hb⟩
theorem kA {m:MdlD} {la ll:List Int} (h0:riM m=(0,0,0)) (h:fit2 m la ll=true):Fit m la/\Fit m ll:=by
 unfold fit2 fit1 at h;simp only [Bool.and_eq_true,beq_iff_eq] at h;exact ⟨⟨h0,h.1.1,h.1.2⟩,⟨h0,h.2.1,h.2.2⟩⟩
def exitsM (m:MdlD) (la ll:List Int) (r:Int):List Int:=if fit2 m la ll && hasR m r then exM m la r else []
theorem zeC {m:MdlD} {c:List Int} (F:Fit m c) {r:Nat} (hr:r<m.zb.length):(exM m c r).length<=m.zc.length :=
 zc6 _ _ (zbK F hr) fun x hx=>by
   obtain ⟨k,e,hk,_⟩:=zcf F hr hx;exact ⟨k,e,hk⟩
theorem kB {m:MdlD} {la ll:List Int} (h0:riM m=(0,0,0)) (r:Int):(exitsM m la ll r).length<=m.zc.length:=by
 unfold exitsM
 split
 . rename_i h
   rw [Bool.and_eq_true] at h;have hr:=h.2;unfold hasR at hr;simp only [Bool.and_eq_true,decide_eq_true_eq] at hr;obtain ⟨k,rfl⟩:=Int.eq_ofNat_of_zero_le hr.1;exact zeC (kA h0 h.1).1 (by omega)
 . simp
theorem kC {B:Nat} {m:MdlD} {SB:Nat} {w:World} (h:SetAt B m SB w) (h0:riM m=(0,0,0)) (hm1:m.zb.length<=1000) (hm2:m.zc.length<=1000) (la ll:List Int) (a1 a2:Option Addr) (c1 c2:Nat) (h1:RowIn w (.slice a1 la.length c1) la) (h2:RowIn w (.slice a2 ll.length c2) ll) (b1:la.length<=140737488355328) (b2:ll.length<=140737488355328) (r:Int) :
   Calls prog 130 #[.pointer (some ⟨SB,0,none⟩),.agg #[.slice a1 la.length c1,.slice a2 ll.length c2],.int .i64 r] w (RowP (exitsM m la ll r) w):=by
 have HB1:Hid (Bl w (w.alloc (.cells #[.slice a1 la.length c1,.slice a2 ll.length c2] 74))):=hid (zg w _);have HC:=hid (Cb.made h1 h2);have FT:=hid (yx (h.grown HB1.o) h0 la ll a1 a2 c1 c2 HC.o.r1 HC.o.r2 b1 b2 (by omega));have HA:=hid (h.grown HB1.o);unfold RowP;have HE:Hid (∀ b,fit2 m la ll=b->exitsM m la ll r=if b && hasR m r then exM m la r else []):=hid fun b hb=>by unfold exitsM;rw [hb]
 have HF:=hid (fun hf:fit2 m la ll=true=>(kA h0 hf).1);generalize exitsM m la ll r=X at *;generalize fit2 m la ll=fb at *;clear h h1 h2 b1 b2 h0;go_enter func130,ntmps130;go_upto_region 1 with fail;generalize w.alloc (.cells #[.slice a1 la.length c1,.slice a2 ll.length c2] 74)=W1 at *;have d0:=HC.o.d0;have d1:=HC.o.d1
 cases fb
 . have HX:Hid (X=[]):=hid (HE.o false rfl)
   clear HE;go_wp2_with fail;(with_reducible refine (FT.o).mono ?_);rintro e w2 ⟨rfl,g2⟩;go_wp2_with fail;go_ret;rw [HX.o];exact ⟨_,rfl,World.ownsRow_nil _ _ _ _,HB1.o.trans (g2.mono HB1.o.size)⟩
 . have F:=hid (HF.o rfl)
   go_wp2_with fail;(with_reducible refine (FT.o).mono ?_);rintro e w2 ⟨rfl,g2⟩;have HC2:=hid (HC.o.zf g2);have HA2:=hid (HA.o.grown g2);have HB2:=hid (HB1.o.trans (g2.mono HB1.o.size));clear d0 d1 HC HA HB1 FT g2 HF;have d0:=HC2.o.d0;have d1:=HC2.o.d1;obtain ⟨IB,kv,hi,s0,s1,s2,hku,hz⟩:=HA2.o;clear hi hku
   by_cases hr0:r<0
   . have HX:Hid (X=[]):=hid (by
       rw [HE.o true rfl,if_neg];unfold hasR;rw [decide_eq_false (by omega)];simp)
     go_wp2_with fail;go_ret;rw [HX.o];exact ⟨_,rfl,World.ownsRow_nil _ _ _ _,HB2.o⟩
   . by_cases hr1:(m.zb.length:Int)<=r
     . have HX:Hid (X=[]):=hid (by
         rw [HE.o true rfl,if_neg];unfold hasR;rw [decide_eq_false (show ¬ r<m.zb.length by omega)];simp)
       go_wp2_with fail;go_ret;rw [HX.o];exact ⟨_,rfl,World.ownsRow_nil _ _ _ _,HB2.o⟩
     . obtain ⟨k,rfl⟩:=Int.eq_ofNat_of_zero_le (show 0<=r by omega)
       have hk:k<m.zb.length:=by omega
       have HX:Hid (X=exM m la k):=hid (by
         rw [HE.o true rfl,if_pos];unfold hasR;rw [decide_eq_true (show (0:Int)<=(k:Int) by omega),decide_eq_true (show (k:Int)<m.zb.length by omega)];rfl)
       have HLf:=hid (zc2 SB (.agg #[.slice a1 la.length c1,.slice a2 ll.length c2]) (k:Int) w2 _ _ rfl);have HM3:=zez (a2:=a2) (c2:=c2) (ll:=ll) k HA2.o HC2.o.r1;have hb3:Bl w2 (((w2.alloc (.cells #[.pointer (some ⟨SB,0,none⟩)] 77)).alloc (.cells #[.slice a1 la.length c1,.slice a2 ll.length c2] 74)).alloc (.cells #[.int .i64 k] 3)):=(((Below.refl _ w2).alloc (Nat.le_refl _) _).alloc (by simp) _).alloc (by simp;omega) _;clear HE;go_wp2_with fail;(with_reducible refine (HLf.o).mono ?_);rintro e w3 ⟨rfl,hw3⟩;rw [hw3] at HM3 hb3;have HM:=hid HM3;have HCo:=hid (zcd (zbD (B:=B) (SB:=SB) (ll:=ll) (a1:=a1) (a2:=a2) (c1:=c1) (c2:=c2) F.o hm1 hm2 66 k (w2.heap.size+1) (w2.heap.size+1+1) w2.heap.size hk (fun _ _=>by omega)) w3 (fun W g=>HM.o.zf g) (by have:=zeC F.o hk;unfold exM at this;omega));have HB3:=hid (HB2.o.trans (hb3.mono HB2.o.size));clear hw3 HM3 hb3 HLf HM s0 s1 s2 d0 d1;go_wp2_with fail;(with_reducible refine (HCo.o).mono ?_);rintro e w4 ⟨v4,rfl,o4,g4⟩;go_wp2_with fail;go_ret;rw [HX.o];exact ⟨v4,rfl,o4.mono (HB3.o.size),HB3.o.trans (g4.mono HB3.o.size)⟩
end Go.Proofs

namespace Go.Proofs
open Go.RowKit Go.Lx Go.Md Go.Shelf Go.BigFrame Go.Rgi
open Lib(hid)
open Go.Proofs.Tryz
set_option maxRecDepth 100000
set_option maxHeartbeats 0
set_option linter.unusedVariables false
theorem zX {w:World} {b:Nat} {cs:Array Value} {T:TypeId} (h:w.heap[b]? = some (.cells cs T (0,0))) (k:Nat):w.frozen? ⟨b,k,none⟩=false:=by
 unfold World.frozen?;simp [h]
theorem zbE {la ll:List Int} {w W2 wF:World} {v1 v2:Value} (hB:Bl w W2) (hz:W2.heap.size=w.heap.size+1+1) (gF:Bl W2 wF) (o1:wF.ownsRow W2.heap.size 3 1 v1 la.length (nums la)) (o2:wF.ownsRow W2.heap.size 3 1 v2 ll.length (nums ll)) (hd:∀ g,v1.ownBlock=some g->v2.ownBlock≠some g) :
   ((wF.setCell ⟨w.heap.size+1,0,none⟩ v1).setCell ⟨w.heap.size+1,1,none⟩ v2).ownsRow w.heap.size 3 1 v1 la.length (nums la)/\((wF.setCell ⟨w.heap.size+1,0,none⟩ v1).setCell ⟨w.heap.size+1,1,none⟩ v2).ownsRow w.heap.size 3 1 v2 ll.length (nums ll)/\(∀ g,v1.ownBlock=some g->v2.ownBlock≠some g)/\Bl w ((wF.setCell ⟨w.heap.size+1,0,none⟩ v1).setCell ⟨w.heap.size+1,1,none⟩ v2) :=
 ⟨(ownsRow_setCell_below (a:=⟨w.heap.size+1,1,none⟩) (ownsRow_setCell_below (a:=⟨w.heap.size+1,0,none⟩) o1 (by simp only;omega) _) (by simp only;omega) _).mono (by omega),(ownsRow_setCell_below (a:=⟨w.heap.size+1,1,none⟩) (ownsRow_setCell_below (a:=⟨w.heap.size+1,0,none⟩) o2 (by simp only;omega) _) (by simp only;omega) _).mono (by omega),hd,((hB.trans (gF.mono hB.size)).setCell (p:=⟨w.heap.size+1,0,none⟩) (by simp) _).setCell (p:=⟨w.heap.size+1,1,none⟩) (by simp) _⟩
def CloneC (la ll:List Int) (w:World) (e:Ending) (w':World):Prop:=∃ v1 v2,e=.returned (.agg #[v1,v2])/\w'.ownsRow w.heap.size 3 1 v1 la.length (nums la)/\w'.ownsRow w.heap.size 3 1 v2 ll.length (nums ll)/\(∀ g,v1.ownBlock=some g->v2.ownBlock≠some g)/\Bl w w'
--IF (sets.Config).clone
theorem jZ {la ll:List Int} {a1 a2:Option Addr} {c1 c2:Nat} (w:World) (h1:RowIn w (.slice a1 la.length c1) la) (h2:RowIn w (.slice a2 ll.length c2) ll) (n1:la≠[]) (n2:ll≠[]) (b1:la.length<=100000) (b2:ll.length<=100000) :
   Calls prog 223 #[.agg #[.slice a1 la.length c1,.slice a2 ll.length c2]] w (CloneC la ll w):=by
 unfold CloneC;have HB:Hid (Bl w ((w.alloc (.cells #[.slice a1 la.length c1,.slice a2 ll.length c2] 74)).alloc (.cells #[.slice none 0 0,.slice none 0 0] 74))):=hid (zq w _ _);have HC:=hid ((Cb.made h1 h2).zf (zg _ (.cells #[.slice none 0 0,.slice none 0 0] 74)));have hz:((w.alloc (.cells #[.slice a1 la.length c1,.slice a2 ll.length c2] 74)).alloc (.cells #[.slice none 0 0,.slice none 0 0] 74)).heap.size=w.heap.size+1+1:=by simp
 have t0:((w.alloc (.cells #[.slice a1 la.length c1,.slice a2 ll.length c2] 74)).alloc (.cells #[.slice none 0 0,.slice none 0 0] 74)).cell? ⟨w.heap.size+1,0,none⟩=some (.slice none 0 0)/\((w.alloc (.cells #[.slice a1 la.length c1,.slice a2 ll.length c2] 74)).alloc (.cells #[.slice none 0 0,.slice none 0 0] 74)).cell? ⟨w.heap.size+1,1,none⟩=some (.slice none 0 0)/\((w.alloc (.cells #[.slice a1 la.length c1,.slice a2 ll.length c2] 74)).alloc (.cells #[.slice none 0 0,.slice none 0 0] 74)).frozen? ⟨w.heap.size+1,0,none⟩=false/\((w.alloc (.cells #[.slice a1 la.length c1,.slice a2 ll.length c2] 74)).alloc (.cells #[.slice none 0 0,.slice none 0 0] 74)).frozen? ⟨w.heap.size+1,1,none⟩=false:=by
   have e1:=World.alloc_heap_new (w.alloc (.cells #[.slice a1 la.length c1,.slice a2 ll.length c2] 74)) (.cells #[.slice none 0 0,.slice none 0 0] 74);rw [World.size_alloc] at e1;refine ⟨?_,?_,?_,?_⟩
   . unfold World.cell?;simp only [e1];rfl
   . unfold World.cell?;simp only [e1];rfl
   . exact zX e1 0
   . exact zX e1 1
 clear h1 h2;go_enter func223,ntmps223;go_upto_region 1 with fail;generalize (w.alloc (.cells #[.slice a1 la.length c1,.slice a2 ll.length c2] 74)).alloc (.cells #[.slice none 0 0,.slice none 0 0] 74)=W2 at *;have HT0:=hid t0;have hB0:Bl W2 W2:=Below.refl _ _
 have HSS:Hid (∀ W',Bl W2 W'->W'.cell? ⟨w.heap.size,0,none⟩=some (.slice a1 la.length c1)/\W'.cell? ⟨w.heap.size,1,none⟩=some (.slice a2 ll.length c2)/\W'.cell? ⟨w.heap.size+1,0,none⟩=some (.slice none 0 0)/\W'.cell? ⟨w.heap.size+1,1,none⟩=some (.slice none 0 0)/\W'.frozen? ⟨w.heap.size+1,0,none⟩=false/\W'.frozen? ⟨w.heap.size+1,1,none⟩=false):=hid fun W' g=>by
   have k:∀ j,W'.cell? ⟨w.heap.size+1,j,none⟩=W2.cell? ⟨w.heap.size+1,j,none⟩:=fun j=>g.cell (p:=⟨w.heap.size+1,j,none⟩) (by simp only;omega)
   have k2:∀ j,W'.frozen? ⟨w.heap.size+1,j,none⟩=W2.frozen? ⟨w.heap.size+1,j,none⟩:=fun j=>g.frozen (p:=⟨w.heap.size+1,j,none⟩) (by simp only;omega)
   exact ⟨(HC.o.zf g).d0,(HC.o.zf g).d1,(k 0).trans HT0.o.1,(k 1).trans HT0.o.2.1,(k2 0).trans HT0.o.2.2.1,(k2 1).trans HT0.o.2.2.2⟩
 have CA:=hid (fun W' (g:Bl W2 W')=>cloneIn (HC.o.zf g).r1 b1 (.inl n1));have CL:=hid (fun W' (g:Bl W2 W')=>cloneIn (HC.o.zf g).r2 b2 (.inl n2));have HZ:=hid hz;clear t0 n1 n2;refine wp_region_any (by kernel_rfl) ?_;change wpAny _ _ _ _ _ _ _ (World.drew _);refine zz (n:=7) (o:=⟨none,.store 74 (.tmp 2) (.tmp 9),0, "sets.go:20", #[⟨6,.data⟩,⟨5,.chain⟩,⟨0,.phase⟩,⟨1,.phase⟩,⟨2,.phase⟩,⟨3,.phase⟩,⟨4,.phase⟩,⟨5,.phase⟩,⟨6,.phase⟩],none⟩) (ops':=#[⟨some 3,.fieldAddr 74 (.tmp 1) 0,0, "sets.go:20", #[],none⟩,⟨some 4,.load 31 (.tmp 3),31, "sets.go:20", #[⟨0,.data⟩],none⟩,⟨some 5,.call { callee:=.value (.func 73),args:=#[.tmp 4],argTypes:=#[31] },31, "sets.go:20", #[⟨1,.data⟩],none⟩,⟨some 6,.fieldAddr 74 (.tmp 1) 1,0, "sets.go:20", #[],none⟩,⟨some 7,.load 31 (.tmp 6),31, "sets.go:20", #[⟨3,.data⟩],none⟩,⟨some 8,.call { callee:=.value (.func 73),args:=#[.tmp 7],argTypes:=#[31] },31, "sets.go:20", #[⟨4,.data⟩,⟨2,.chain⟩],none⟩,⟨some 9,.build 74 #[(0,.tmp 5),(1,.tmp 8)],74, "sets.go:20", #[⟨2,.data⟩,⟨5,.data⟩],none⟩]) (by decide) (by kernel_rfl) (by rfl) (by rfl) ?_;refine hld HSS.o (hB0.drew) (fun hHeld=>?_);refine tk 0 rfl ?_;refine tk 1 rfl ?_;refine tk 3 rfl ?_;refine tk 4 rfl ?_;refine rd1 2 (fun K hK=>?_);(go_simp;(with_reducible refine (CA.o _ (by first | assumption | exact hB0.drew)).mono ?_);rintro e w10 ⟨v10,rfl,o10,hb10⟩;obtain ⟨x10,y10,rfl⟩:=zj o10;have hB10:Bl W2 w10:=zi (by first | assumption | exact hB0.drew) hb10;obtain ⟨q0,q1,q2,q3,q4,q5⟩:=HSS.o _ hB10;go_wp2_with fail);refine nx hK ?_ (fun hH1=>?_);(first | exact HSS.o _ hB0.drew | exact HSS.o _ (by assumption));clear hK K hHeld;refine rd1 5 (fun K hK=>?_);(go_simp;(with_reducible refine (CL.o _ (by first | assumption | exact hB0.drew)).mono ?_);rintro e w11 ⟨v11,rfl,o11,hb11⟩;obtain ⟨x11,y11,rfl⟩:=zj o11;have hB11:Bl W2 w11:=zi (by first | assumption | exact hB0.drew) hb11;obtain ⟨q0,q1,q2,q3,q4,q5⟩:=HSS.o _ hB11;go_wp2_with fail);refine nx hK ?_ (fun hH2=>?_);(first | exact HSS.o _ hB0.drew | exact HSS.o _ (by assumption));clear hK K hH1;refine tk 6 rfl ?_;refine dn ?_;rotate_left
 all_goals
   refine zI fun K hK=>?_;go_simp;refine hK _ _ ?_;clear hK K;go_wp2_with fail;refine bodyPost_ret (v:=.agg #[.slice x10 la.length y10,.slice x11 ll.length y11]) (by simp [results,results223,go_sem,q2,q3]) rfl ?_
   first
     | exact ⟨_,_,rfl,zbE HB.o HZ.o hB11 (zu (o10.mono (Nat.le_refl _)) hb11) (o11.mono hB10.size) (fun g hg hg2=>by have:=(o10.lt g hg).2;have:=(o11.lt g hg2).1;omega)⟩
     | exact ⟨_,_,rfl,zbE HB.o HZ.o hB10 (o10.mono hB11.size) (zu (o11.mono (Nat.le_refl _)) hb10) (fun g hg hg2=>by have:=(o10.lt g hg).1;have:=(o11.lt g hg2).2;omega)⟩
--FI
theorem st_kd (m:MdlD) (v:Int):ofKd m [1,2] v=stands m v:=by
 unfold ofKd stands
 cases hb:hasV m v with
 | false=>rfl
 | true =>
  obtain ⟨k,rfl,hk⟩:=zN hb;rw [qP hk,Int.toNat_natCast,List.getElem?_eq_getElem hk];unfold hasN;simp
def mayE (m:MdlD) (la ll:List Int) (v:Int):Nat:=if fit2 m la ll && stands m v then 0 else 2
theorem zbF {B:Nat} {m:MdlD} {SB:Nat} {w:World} (h:SetAt B m SB w) (h0:riM m=(0,0,0)) (hm2:m.zc.length<=1000) (la ll:List Int) (a1 a2:Option Addr) (c1 c2:Nat) (h1:RowIn w (.slice a1 la.length c1) la) (h2:RowIn w (.slice a2 ll.length c2) ll) (b1:la.length<=140737488355328) (b2:ll.length<=140737488355328) (v:Int) :
   Calls prog 220 #[.pointer (some ⟨SB,0,none⟩),.agg #[.slice a1 la.length c1,.slice a2 ll.length c2],.int .i64 v] w fun e w'=>e=.returned (.int .i64 (mayE m la ll v:Int))/\Bl w w':=by
 have HB1:Hid (Bl w (w.alloc (.cells #[.slice a1 la.length c1,.slice a2 ll.length c2] 74))):=hid (zg w _);have HC:=hid (Cb.made h1 h2);have FT:=hid (yx (h.grown HB1.o) h0 la ll a1 a2 c1 c2 HC.o.r1 HC.o.r2 b1 b2 (by omega));have IS:=hid (fun wx (g:Bl w wx)=>(qo (h.grown (zi g (zg wx (.cells #[.int .u8 1,.int .u8 2] 5)))) v (.slice (some ⟨wx.heap.size,0,none⟩) 2 2) [1,2] (RowU.fresh wx [1,2] _ rfl 2 rfl _ rfl) (by decide)).mono (fun e w' q=>(show e=.returned (.bool (stands m v))/\Bl wx w' from ⟨by rw [<- st_kd];exact q.1,zl q.2⟩)));have HE:Hid (∀ b c,fit2 m la ll=b->stands m v=c->mayE m la ll v=if b && c then 0 else 2):=hid fun b c hb hc=>by unfold mayE;rw [hb,hc]
 generalize mayE m la ll v=X at *;generalize fit2 m la ll=fb at *;generalize stands m v=sb at *;clear h h1 h2 b1 b2 h0;go_enter func220,ntmps220;go_upto_region 1 with fail;generalize w.alloc (.cells #[.slice a1 la.length c1,.slice a2 ll.length c2] 74)=W1 at *;have d0:=HC.o.d0;have d1:=HC.o.d1
 cases fb
 . have hX:X=2:=HE.o false sb rfl rfl
   subst hX;clear HE;go_wp2_with fail;(with_reducible refine (FT.o).mono ?_);rintro e w2 ⟨rfl,g2⟩;go_wp2_with fail;go_ret;exact ⟨rfl,HB1.o.trans (g2.mono HB1.o.size)⟩
 . go_wp2_with fail
   (with_reducible refine (FT.o).mono ?_);rintro e w2 ⟨rfl,g2⟩;have HB2:=hid (HB1.o.trans (g2.mono HB1.o.size));have ISx:=hid (IS.o w2 HB2.o);clear g2 IS d0 d1
   cases sb
   . have hX:X=2:=HE.o true false rfl rfl
     subst hX;go_wp2_with fail;(with_reducible refine (ISx.o).mono ?_);rintro e w3 ⟨rfl,g3⟩;go_wp2_with fail;go_ret;exact ⟨rfl,HB2.o.trans (g3.mono HB2.o.size)⟩
   . have hX:X=0:=HE.o true true rfl rfl
     subst hX;go_wp2_with fail;(with_reducible refine (ISx.o).mono ?_);rintro e w3 ⟨rfl,g3⟩;go_wp2_with fail;go_ret;exact ⟨rfl,HB2.o.trans (g3.mono HB2.o.size)⟩
theorem qO {B:Nat} {m:MdlD} {SB:Nat} {w:World} (h:SetAt B m SB w) (hm2:m.zc.length<=1000) (la ll:List Int) (a1 a2:Option Addr) (c1 c2:Nat) (h1:RowIn w (.slice a1 la.length c1) la) (h2:RowIn w (.slice a2 ll.length c2) ll) (v r:Nat) (hv:v<m.zc.length) (hr:homeM m v=r) (hrl:r<la.length) :
   Calls prog 222 #[.pointer (some ⟨SB,0,none⟩),.agg #[.slice a1 la.length c1,.slice a2 ll.length c2],.int .i64 (v:Int)] w fun e w'=>e=.returned (.bool (atL la r == (v:Int)))/\Bl w w':=by
 have HB1:Hid (Bl w (w.alloc (.cells #[.slice a1 la.length c1,.slice a2 ll.length c2] 74))):=hid (zg w _);have HC:=hid (Cb.made h1 h2);have HA:=hid (h.grown HB1.o);clear h h1 h2;go_enter func222,ntmps222;go_upto_region 1 with fail;generalize w.alloc (.cells #[.slice a1 la.length c1,.slice a2 ll.length c2] 74)=W1 at *;obtain ⟨b,o,ea,hb,hc,hcl⟩:=HC.o.at hrl;have d0:=HC.o.d0;have d1:=HC.o.d1;subst ea;obtain ⟨IB,kv,hi,s0,s1,s2,hku,hz⟩:=HA.o;have HH:=hid (fun n=>jT (hi.grown (below_drewN (Below.refl W1.heap.size W1) n)) (v:Int) (WalkArith.wf_i64 ⟨by omega,by omega⟩));rw [hr] at HH;have hI:(r:Int)<(la.length:Int):=by omega
 have hI0:(0:Int)<=(r:Int):=by omega
 obtain ⟨y,hy⟩:∃ y,atL la (r:Int)=y:=⟨_,rfl⟩;rw [hy] at hcl;have HY:=hid hy;clear hi hku HA hy
 go_quiet ((go_at_call 23;refine Calls.quiet_of_same (v:=.int .i64 (r:Int)) ?_;((with_reducible refine (HH.o _).mono ?_));rintro e w' ⟨he,hw⟩;exact ⟨he,hw.symm⟩))
 go_wp2_with fail;go_ret;exact ⟨by rw [HY.o];first | done | rfl,below_drewN HB1.o _⟩
def LeaveP (m:MdlD) (la ll:List Int) (v:Int) (w:World) (e:Ending) (w':World):Prop:=Bl w w' /\
 ((mayE m la ll v≠0/\e=.returned (.tuple #[.agg #[.slice none 0 0,.slice none 0 0],.int .i64 (mayE m la ll v:Int)])) \/
  (mayE m la ll v=0/\leaveOk m la v=false/\e=.returned (.tuple #[.agg #[.slice none 0 0,.slice none 0 0],.int .i64 4])) \/
  (mayE m la ll v=0/\leaveOk m la v=true/\∃ v1 v2,e=.returned (.tuple #[.agg #[v1,v2],.int .i64 0])/\w'.ownsRow w.heap.size 3 1 v1 la.length (nums (la.set (rgA m v).toNat (-1)))/\w'.ownsRow w.heap.size 3 1 v2 ll.length (nums (ll.set (rgA m v).toNat v))/\∀ g,v1.ownBlock=some g->v2.ownBlock≠some g))
theorem LeaveP.bad {m:MdlD} {la ll:List Int} {v:Int} {w w':World} {E:Nat} (hE:mayE m la ll v=E) (hn:E≠0) (hb:Bl w w'):LeaveP m la ll v w (.returned (.tuple #[.agg #[.slice none 0 0,.slice none 0 0],.int .i64 (E:Int)])) w':=by
 subst hE;exact ⟨hb,.inl ⟨hn,rfl⟩⟩
theorem LeaveP.no {m:MdlD} {la ll:List Int} {v:Int} {w w':World} (hE:mayE m la ll v=0) (hn:leaveOk m la v=false) (hb:Bl w w'):LeaveP m la ll v w (.returned (.tuple #[.agg #[.slice none 0 0,.slice none 0 0],.int .i64 4])) w' :=
 ⟨hb,.inr (.inl ⟨hE,hn,rfl⟩)⟩
theorem LeaveP.yes {m:MdlD} {la ll:List Int} {v:Int} {w w':World} {v1 v2:Value} {r:Nat} (hE:mayE m la ll v=0) (hn:leaveOk m la v=true) (hr:(rgA m v).toNat=r) (hb:Bl w w') (o1:w'.ownsRow w.heap.size 3 1 v1 la.length ((nums la).set r (.int .i64 (-1)))) (o2:w'.ownsRow w.heap.size 3 1 v2 ll.length ((nums ll).set r (.int .i64 v))) (hd:∀ g,v1.ownBlock=some g->v2.ownBlock≠some g) :
   LeaveP m la ll v w (.returned (.tuple #[.agg #[v1,v2],.int .i64 0])) w':=by
 refine ⟨hb,.inr (.inr ⟨hE,hn,v1,v2,rfl,?_,?_,hd⟩)⟩
 . rw [hr,show nums (la.set r (-1))=(nums la).set r (.int .i64 (-1)) by simp [nums,List.map_set]];exact o1
 . rw [hr,show nums (ll.set r v)=(nums ll).set r (.int .i64 v) by simp [nums,List.map_set]];exact o2
theorem jv {m:MdlD} {la ll:List Int} {v:Int} (h:mayE m la ll v=0):fit2 m la ll=true/\stands m v=true:=by
 unfold mayE at h
 split at h
 . rename_i h2;rwa [Bool.and_eq_true] at h2
 . cases h
--IF (*sets.Sets).Leave
theorem qF {B:Nat} {m:MdlD} {SB:Nat} {w:World} (h:SetAt B m SB w) (h0:riM m=(0,0,0)) (hm1:m.zb.length<=1000) (hm2:m.zc.length<=1000) (la ll:List Int) (a1 a2:Option Addr) (c1 c2:Nat) (h1:RowIn w (.slice a1 la.length c1) la) (h2:RowIn w (.slice a2 ll.length c2) ll) (b1:la.length<=140737488355328) (b2:ll.length<=140737488355328) (v:Int) :
   Calls prog 131 #[.pointer (some ⟨SB,0,none⟩),.agg #[.slice a1 la.length c1,.slice a2 ll.length c2],.int .i64 v] w (LeaveP m la ll v w):=by
 have HB1:Hid (Bl w ((w.alloc (.cells #[.slice a1 la.length c1,.slice a2 ll.length c2] 74)).alloc (.cells #[.slice none 0 0,.slice none 0 0] 74))):=hid (zq w _ _);have HC:=hid ((Cb.made h1 h2).zf (zg _ (.cells #[.slice none 0 0,.slice none 0 0] 74)));have HA:=hid (h.grown HB1.o);have HAw:=hid (fun wx (g:Bl w wx)=>h.grown g);have HSB:Hid (SB<w.heap.size):=hid (by obtain ⟨_,_,_,_,_,_,_,hz⟩:=h;exact hz);have hz:((w.alloc (.cells #[.slice a1 la.length c1,.slice a2 ll.length c2] 74)).alloc (.cells #[.slice none 0 0,.slice none 0 0] 74)).heap.size=w.heap.size+1+1:=by simp
 have e0:((w.alloc (.cells #[.slice a1 la.length c1,.slice a2 ll.length c2] 74)).alloc (.cells #[.slice none 0 0,.slice none 0 0] 74)).heap[w.heap.size]? = some (.cells #[.slice a1 la.length c1,.slice a2 ll.length c2] 74 (0,0)):=(Below.heap_alloc _ _ _ (by simp)).trans (World.alloc_heap_new w _);have e1:=World.alloc_heap_new (w.alloc (.cells #[.slice a1 la.length c1,.slice a2 ll.length c2] 74)) (.cells #[.slice none 0 0,.slice none 0 0] 74);rw [World.size_alloc] at e1
 have HK:Hid (∀ wx,Below (w.heap.size+1+1) ((w.alloc (.cells #[.slice a1 la.length c1,.slice a2 ll.length c2] 74)).alloc (.cells #[.slice none 0 0,.slice none 0 0] 74)) wx->(wx.cell? ⟨w.heap.size+1,0,none⟩=some (.slice none 0 0)/\wx.cell? ⟨w.heap.size+1,1,none⟩=some (.slice none 0 0)/\wx.frozen? ⟨w.heap.size+1,0,none⟩=false/\wx.frozen? ⟨w.heap.size+1,1,none⟩=false)/\wx.frozen? ⟨w.heap.size,0,none⟩=false/\wx.frozen? ⟨w.heap.size,1,none⟩=false):=hid fun wx g=>by
   have f0:=(g.block w.heap.size (by omega)).trans e0;have f1:=(g.block (w.heap.size+1) (by omega)).trans e1;exact ⟨⟨zh f1 0,zh f1 1,zX f1 0,zX f1 1⟩,zX f0 0,zX f0 1⟩
 clear e0 e1;have MY:=hid (zbF HA.o h0 hm2 la ll a1 a2 c1 c2 HC.o.r1 HC.o.r2 b1 b2 v);have H0:=hid h0;have HMz:=hid (fun h:mayE m la ll v=0=>jv h);obtain ⟨E,hEe⟩:=ex2 (mayE m la ll v);rw [hEe] at MY HMz;have HEe:=hid hEe;clear hEe;clear h h1 h2 b1 b2 h0;go_enter func131,ntmps131;go_upto_region 1 with fail;generalize (w.alloc (.cells #[.slice a1 la.length c1,.slice a2 ll.length c2] 74)).alloc (.cells #[.slice none 0 0,.slice none 0 0] 74)=W1 at *;have d0:=HC.o.d0;have d1:=HC.o.d1;go_wp2_with fail;(with_reducible refine (MY.o).mono ?_);rintro e w3 ⟨rfl,g3⟩;have HC3:=hid (HC.o.zf g3);have HA3:=hid (HA.o.grown g3);have HB3:=hid (HB1.o.trans (g3.mono HB1.o.size));have HK3:=hid (fun wx (g:Bl w3 wx)=>HK.o wx ((g3.trans (g.mono g3.size)).mono (by omega)));have hz3:w.heap.size+1+1<=w3.heap.size:=by have:=g3.size;omega
 clear d0 d1 HC HA HB1 HK g3 MY hz;obtain ⟨⟨t0,t1,t2,t3⟩,t4,t5⟩:=HK3.o w3 (Below.refl _ _)
 by_cases hE:E=0
 rotate_left
 . have hz1:((E:Int) != 0)=true:=by simp only [bne_iff_ne,ne_eq];omega
   have HE:=hid hE;clear HMz hE;go_wp2_with fail;refine bodyPost_ret (v:=.tuple #[.agg #[.slice none 0 0,.slice none 0 0],.int .i64 (E:Int)]) (by simp [results,results131,go_sem,t0,t1]) rfl (LeaveP.bad HEe.o HE.o ((HB3.o.setCell (p:=⟨w.heap.size+1,0,none⟩) (by simp) _).setCell (p:=⟨w.heap.size+1,1,none⟩) (by simp) _))
 subst hE;obtain ⟨hfit,hst⟩:=HMz.o rfl;obtain ⟨F1,F2⟩:=kA H0.o hfit;obtain ⟨k,hk,rfl,r,hr,er1,er2,er3,er4,er5⟩:=zD H0.o hst;have HEr:=hid er2;have HF1:=hid F1;have HF2:=hid F2;have hrl:r<la.length:=by rw [F1.hl];exact hr
 have hrl2:r<ll.length:=by rw [F2.hl];exact hr
 have hla:la.length<=1000:=by rw [F1.hl];exact hm1
 have hll:ll.length<=1000:=by rw [F2.hl];exact hm1
 have d0:=HC3.o.d0;have d1:=HC3.o.d1;obtain ⟨IB,kv,hi,s0,s1,s2,hku,hzS⟩:=HA3.o;have HRg:=hid (jg hi (k:Int) (WalkArith.wf_i64 ⟨by omega,by omega⟩) (by omega))
 have HCt:=hid (fun wx (g:Bl w3 wx) (rv:Value) (hr:RowIn wx rv (ownM m (k:Int)))=>zay (fun q=>decide (0<=atL la q)) (ownM m (k:Int)) rv w.heap.size wx hr (by have:=zV (isOwn (k:Int)) m.zb;have e:(ownM m (k:Int)).length<=m.zb.length:=this;omega) (fun wy gy x hx=>by
   obtain ⟨j,hj,rfl,_⟩:=yE hx;exact zdV (HC3.o.zf (zi g gy)) (by rw [HF1.o.hl];exact hj)))
 have HAc:=hid (fun wx (g:Bl w3 wx)=>qO (HA3.o.grown g) hm2 la ll a1 a2 c1 c2 (HC3.o.zf g).r1 (HC3.o.zf g).r2 k r hk er2 hrl)
 have HOk:Hid (∀ b c,(ownM m (k:Int)).any (fun q=>decide (0<=atL la q))=b->(atL la r == (k:Int))=c->leaveOk m la k=(!b && c)):=hid fun b c hb hc=>by
   unfold leaveOk isA;rw [hb,hst,er1,hc];rfl
 have HRa:Hid ((rgA m (k:Int)).toNat=r):=hid (by rw [er1];rfl);have hOl:(ownM m (k:Int)).length<=1000:=by have:=zV (isOwn (k:Int)) m.zb;have e:(ownM m (k:Int)).length<=m.zb.length:=this;omega
 clear HMz hfit hst F1 F2 hi hku er1 er2 er3 er4 er5;go_wp2_with fail;(with_reducible refine (HRg.o).mono ?_);rintro e w4 ⟨rv,rfl,o4,g4⟩;obtain ⟨ra,rc,rfl⟩:=zj o4;have HCt4:=hid (HCt.o w4 g4 _ (RowIn.own o4));have HG4:=hid g4;clear o4 g4 HRg HCt;generalize (ownM m (k:Int)).any (fun q=>decide (0<=atL la q))=bz at *;go_wp2_with fail;(with_reducible refine (HCt4.o).mono ?_);rintro e w5 ⟨rfl,g5⟩;have HG5:=hid (zi HG4.o g5);clear g5 HG4 HCt4;have hz5:w.heap.size+1+1<=w5.heap.size:=by have:=HG5.o.size;omega
 clear d0 d1 s0 s1 s2 hzS t0 t1 t2 t3 t4 t5;have d0:=(HC3.o.zf HG5.o).d0;have d1:=(HC3.o.zf HG5.o).d1;obtain ⟨⟨t0,t1,t2,t3⟩,t4,t5⟩:=HK3.o w5 HG5.o
 cases bz
 rotate_left
 . have HL:=hid (HOk.o true (atL la r == (k:Int)) rfl rfl)
   have HB5:=hid (HB3.o.trans (HG5.o.mono HB3.o.size));clear HOk HAc;go_wp2_with fail;refine bodyPost_ret (v:=.tuple #[.agg #[.slice none 0 0,.slice none 0 0],.int .i64 4]) (by simp [results,results131,go_sem,t0,t1]) rfl (LeaveP.no HEe.o HL.o ((HB5.o.setCell (p:=⟨w.heap.size+1,0,none⟩) (by simp) _).setCell (p:=⟨w.heap.size+1,1,none⟩) (by simp) _))
 have HAc5:=hid (HAc.o w5 HG5.o);obtain ⟨y,hy⟩:∃ y,(atL la r == (k:Int))=y:=⟨_,rfl⟩;rw [hy] at HAc5;have HL:=hid (HOk.o false y rfl hy);clear HOk HAc hy;go_wp2_with fail;(with_reducible refine (HAc5.o).mono ?_);rintro e w6 ⟨rfl,g6⟩;have HG6:=hid (zi HG5.o g6);clear g6 HG5 HAc5 d0 d1 t0 t1 t2 t3 t4 t5;have hz6:w.heap.size+1+1<=w6.heap.size:=by have:=HG6.o.size;omega
 have d0:=(HC3.o.zf HG6.o).d0;have d1:=(HC3.o.zf HG6.o).d1;have HB6:=hid (HB3.o.trans (HG6.o.mono HB3.o.size));obtain ⟨⟨t0,t1,t2,t3⟩,t4,t5⟩:=HK3.o w6 HG6.o
 cases y
 . go_wp2_with fail
   refine bodyPost_ret (v:=.tuple #[.agg #[.slice none 0 0,.slice none 0 0],.int .i64 4]) (by simp [results,results131,go_sem,t0,t1]) rfl (LeaveP.no HEe.o HL.o ((HB6.o.setCell (p:=⟨w.heap.size+1,0,none⟩) (by simp) _).setCell (p:=⟨w.heap.size+1,1,none⟩) (by simp) _))
 . have HCl:=hid (jZ w6 (HC3.o.zf HG6.o).r1 (HC3.o.zf HG6.o).r2 (fun e=>by rw [e] at hrl;simp at hrl) (fun e=>by rw [e] at hrl2;simp at hrl2) (by omega) (by omega))
   clear HC3 t0 t1 t2 t3 t4 t5;go_wp2_with fail;(with_reducible refine (HCl.o).mono ?_);rintro e w7 ⟨v1,v2,rfl,o1,o2,hd,g7⟩;obtain ⟨g1,cap1,rfl⟩:=zF o1 (by omega);obtain ⟨g2,cap2,rfl⟩:=zF o2 (by omega);have hg12:g1≠g2:=fun e=>hd g1 rfl (by rw [e];rfl)
   have hgl1:=o1.lt g1 rfl;have hgl2:=o2.lt g2 rfl;have hcp1:=zJ o1;have hcp2:=zJ o2;have HG7:=hid (zi HG6.o g7);obtain ⟨⟨t0,t1,t2,t3⟩,t4,t5⟩:=HK3.o w7 HG7.o;have e0:=(g7.cell (p:=⟨w.heap.size,0,none⟩) (by simp only;omega)).trans d0;have e1:=(g7.cell (p:=⟨w.heap.size,1,none⟩) (by simp only;omega)).trans d1;have HB7:=hid (HB6.o.trans (g7.mono HB6.o.size));have HO1:=hid o1;have HO2:=hid o2;clear o1 o2 hd g7 d0 d1 HCl HK3;go_upto_region 8 with fail;have hB8:Bl w ((w7.setCell ⟨w.heap.size,0,none⟩ (.slice (some ⟨g1,0,none⟩) la.length cap1)).setCell ⟨w.heap.size,1,none⟩ (.slice (some ⟨g2,0,none⟩) ll.length cap2)):=(HB7.o.setCell (p:=⟨w.heap.size,0,none⟩) (Nat.le_refl _) _).setCell (p:=⟨w.heap.size,1,none⟩) (Nat.le_refl _) _;have k1:((w7.setCell ⟨w.heap.size,0,none⟩ (.slice (some ⟨g1,0,none⟩) la.length cap1)).setCell ⟨w.heap.size,1,none⟩ (.slice (some ⟨g2,0,none⟩) ll.length cap2)).cell? ⟨w.heap.size,1,none⟩=some (.slice (some ⟨g2,0,none⟩) ll.length cap2):=World.cell?_setCell_same _ _ _ ((World.cell?_setCell_other _ _ _ _ (by simp)).trans e1);have k0:((w7.setCell ⟨w.heap.size,0,none⟩ (.slice (some ⟨g1,0,none⟩) la.length cap1)).setCell ⟨w.heap.size,1,none⟩ (.slice (some ⟨g2,0,none⟩) ll.length cap2)).cell? ⟨w.heap.size,0,none⟩=some (.slice (some ⟨g1,0,none⟩) la.length cap1):=(World.cell?_setCell_other _ _ _ _ (by simp)).trans (World.cell?_setCell_same _ _ _ e0);have p1:=ownsRow_setCell_below (a:=⟨w.heap.size,1,none⟩) (ownsRow_setCell_below (a:=⟨w.heap.size,0,none⟩) HO1.o (by simp only;omega) (.slice (some ⟨g1,0,none⟩) la.length cap1)) (by simp only;omega) (.slice (some ⟨g2,0,none⟩) ll.length cap2);have p2:=ownsRow_setCell_below (a:=⟨w.heap.size,1,none⟩) (ownsRow_setCell_below (a:=⟨w.heap.size,0,none⟩) HO2.o (by simp only;omega) (.slice (some ⟨g1,0,none⟩) la.length cap1)) (by simp only;omega) (.slice (some ⟨g2,0,none⟩) ll.length cap2);have kb:∀ b,b≠w.heap.size->((w7.setCell ⟨w.heap.size,0,none⟩ (.slice (some ⟨g1,0,none⟩) la.length cap1)).setCell ⟨w.heap.size,1,none⟩ (.slice (some ⟨g2,0,none⟩) ll.length cap2)).heap[b]? = w7.heap[b]? := fun b hb=>(Below.heap_setCell _ _ _ _ hb).trans (Below.heap_setCell _ _ _ _ hb);generalize (w7.setCell ⟨w.heap.size,0,none⟩ (.slice (some ⟨g1,0,none⟩) la.length cap1)).setCell ⟨w.heap.size,1,none⟩ (.slice (some ⟨g2,0,none⟩) ll.length cap2)=W8 at *;have u0:W8.cell? ⟨w.heap.size+1,0,none⟩=some (.slice none 0 0):=(World.cell?_of_block (w:=w7) (kb _ (by simp))).trans t0;have u1:W8.cell? ⟨w.heap.size+1,1,none⟩=some (.slice none 0 0):=(World.cell?_of_block (w:=w7) (kb _ (by simp))).trans t1;have u2:W8.frozen? ⟨w.heap.size+1,0,none⟩=false:=(World.frozen?_of_block (w:=w7) (kb _ (by simp))).trans t2;have u3:W8.frozen? ⟨w.heap.size+1,1,none⟩=false:=(World.frozen?_of_block (w:=w7) (kb _ (by simp))).trans t3;have hgl1:=p1.lt g1 rfl;have hgl2:=p2.lt g2 rfl;have HB8:=hid hB8;have HP1:=hid p1;have HP2:=hid p2;clear t0 t1 t2 t3 t4 t5 e0 e1 HB7 HG7 HO1 HO2 kb;obtain ⟨IB,kv,hi,s0,s1,s2,hku,hzS⟩:=HAw.o W8 hB8;have HHm:=hid (jT hi (k:Int) (WalkArith.wf_i64 ⟨by omega,by omega⟩));rw [HEr.o] at HHm;clear hi hku hB8;go_wp2_with fail;(with_reducible refine (HHm.o).mono ?_);rintro e w9 ⟨rfl,rfl⟩;have q1:=(HP1.o.cellAt r (by omega)).trans (show (nums la)[r]? = some (.int .i64 la[r]) by simp [nums,hrl]);have q2:=(HP2.o.cellAt r (by omega)).trans (show (nums ll)[r]? = some (.int .i64 ll[r]) by simp [nums,hrl2]);have f1:=HP1.o.frozenAt r;have f2:=HP2.o.frozenAt r;have hrI:(r:Int)<(la.length:Int):=by omega
   have hrI2:(r:Int)<(ll.length:Int):=by omega
   have hr0:(0:Int)<=(r:Int):=by omega
   clear p1 p2 HHm s0 s1 s2 hzS;go_upto_region 9 with fail
   go_region
   have kb9:∀ b,b≠g1->b≠g2->(((W8.setCell ⟨g1,r,none⟩ (.int .i64 (-1))).setCell ⟨g2,r,none⟩ (.int .i64 (k:Int))).drew).heap[b]? = W8.heap[b]? := fun b h1 h2=>(Below.heap_setCell _ _ _ _ h2).trans (Below.heap_setCell _ _ _ _ h1);have hB9:Bl w (((W8.setCell ⟨g1,r,none⟩ (.int .i64 (-1))).setCell ⟨g2,r,none⟩ (.int .i64 (k:Int))).drew):=((HB8.o.setCell (p:=⟨g1,r,none⟩) (by simp only;omega) _).setCell (p:=⟨g2,r,none⟩) (by simp only;omega) _).drew
   have m1:(((W8.setCell ⟨g1,r,none⟩ (.int .i64 (-1))).setCell ⟨g2,r,none⟩ (.int .i64 (k:Int))).drew).ownsRow w6.heap.size 3 1 (.slice (some ⟨g1,0,none⟩) la.length cap1) la.length ((nums la).set r (.int .i64 (-1))) :=
     zu (ownsRow_setCell_other (HP1.o.stored r (.int .i64 (-1))).1 (fun e=>hg12 (by simpa [Value.ownBlock] using e)) _) (Below.refl _ _).drew
   have m2:(((W8.setCell ⟨g1,r,none⟩ (.int .i64 (-1))).setCell ⟨g2,r,none⟩ (.int .i64 (k:Int))).drew).ownsRow w6.heap.size 3 1 (.slice (some ⟨g2,0,none⟩) ll.length cap2) ll.length ((nums ll).set r (.int .i64 (k:Int))) :=
     zu ((ownsRow_setCell_other HP2.o (fun e=>hg12 (by simpa [Value.ownBlock] using e.symm)) _).stored r (.int .i64 (k:Int))).1 (Below.refl _ _).drew
   generalize ((W8.setCell ⟨g1,r,none⟩ (.int .i64 (-1))).setCell ⟨g2,r,none⟩ (.int .i64 (k:Int))).drew=W9 at *;have n0:W9.cell? ⟨w.heap.size,0,none⟩=some (.slice (some ⟨g1,0,none⟩) la.length cap1):=(World.cell?_of_block (w:=W8) (kb9 _ (by simp only;omega) (by simp only;omega))).trans k0;have n1:W9.cell? ⟨w.heap.size,1,none⟩=some (.slice (some ⟨g2,0,none⟩) ll.length cap2):=(World.cell?_of_block (w:=W8) (kb9 _ (by simp only;omega) (by simp only;omega))).trans k1;have n2:W9.cell? ⟨w.heap.size+1,0,none⟩=some (.slice none 0 0):=(World.cell?_of_block (w:=W8) (kb9 _ (by simp only;omega) (by simp only;omega))).trans u0;have n3:W9.cell? ⟨w.heap.size+1,1,none⟩=some (.slice none 0 0):=(World.cell?_of_block (w:=W8) (kb9 _ (by simp only;omega) (by simp only;omega))).trans u1;have n4:W9.frozen? ⟨w.heap.size+1,0,none⟩=false:=(World.frozen?_of_block (w:=W8) (kb9 _ (by simp only;omega) (by simp only;omega))).trans u2;have n5:W9.frozen? ⟨w.heap.size+1,1,none⟩=false:=(World.frozen?_of_block (w:=W8) (kb9 _ (by simp only;omega) (by simp only;omega))).trans u3;have HB9:=hid hB9;have HM1:=hid m1;have HM2:=hid m2;clear kb9 hB9 m1 m2 u0 u1 u2 u3 k0 k1 q1 q2 f1 f2 HP1 HP2 HB8;go_wp2_with fail;refine bodyPost_ret (v:=.tuple #[.agg #[.slice (some ⟨g1,0,none⟩) la.length cap1,.slice (some ⟨g2,0,none⟩) ll.length cap2],.int .i64 0]) (by simp [results,results131,go_sem,n2,n3]) rfl (LeaveP.yes HEe.o HL.o HRa.o ((HB9.o.setCell (p:=⟨w.heap.size+1,0,none⟩) (by simp) _).setCell (p:=⟨w.heap.size+1,1,none⟩) (by simp) _) ?_ ?_ (fun g h1 h2=>hg12 (by simp only [Value.ownBlock,Option.some.injEq] at h1 h2;omega)))
   . exact (ownsRow_setCell_below (a:=⟨w.heap.size+1,1,none⟩) (ownsRow_setCell_below (a:=⟨w.heap.size+1,0,none⟩) HM1.o (by simp only;omega) _) (by simp only;omega) _).mono (by omega)
   . exact (ownsRow_setCell_below (a:=⟨w.heap.size+1,1,none⟩) (ownsRow_setCell_below (a:=⟨w.heap.size+1,0,none⟩) HM2.o (by simp only;omega) _) (by simp only;omega) _).mono (by omega)
--FI
end Go.Proofs
