/- 'append': which block it writes. Rows that grow beside rows that stay. No program's walk. -/
import Derived.Test.YtfladiadgkfebaaGreatDoorKEdEG
namespace Go.Proofs
open Go.RowKit Go.Lx Go.Md Go.Shelf Go.BigFrame Go.Rgi
set_option linter.unusedVariables false
structure Fine (w w':World) (a:Option Addr) (c:Nat) (a':Option Addr) (c':Nat):Prop where
 same:∀ b,b<w.heap.size->(∀ o,a=some ⟨b,o,none⟩->c=0)->w'.heap[b]? = w.heap[b]?
 new:(a'=a/\c'=c)\/∃ g,a'=some ⟨g,0,none⟩/\w.heap.size<=g
section
variable {P:Program}
theorem run_append_fine {α:Type} {Q2:BP} {sz lo:Nat} {E:World->Nat->Nat->α->Prop} {K:World->World->Prop} (hE:Moves sz E K) (w:World) (t ty e:TypeId) (i:TypeInfo) (z:Value) (bytes:Nat) (ht:P.underlying t=some (.slice e)) (hi:P.info? e=some i) (hz:i.zero=some z)
   (hsize:i.size=sz) (hby:i.bytes=bytes) (hb:bytes<=1000) {a a2:Option Addr} {c c2:Nat} {l r:List α} (hl:Sl (TB lo e) sz E w (.slice a l.length c) l) (ho:OwnV lo e sz w (.slice a l.length c)) (hr:Sl Q2 sz E w (.slice a2 r.length c2) r) (hn:l.length+r.length<=1000000) :
   ∃ a' n' c' w',(Builtin.append_ #[t,t] ty #[.slice a l.length c,.slice a2 r.length c2]).run P w=.ok (.slice a' n' c') w'/\Fine w w' a c a' c':=by
 have hbb:∀ x,x<=1000000->x * bytes<=140737488355328:=fun x hx=>by
   have:x * bytes<=1000000 * 1000:=Nat.mul_le_mul hx hb
   omega
 rcases Nat.eq_zero_or_pos r.length with hr0 | hr0
 . obtain rfl:r=[]:=List.eq_nil_of_length_eq_zero hr0
   have hle:l.length<=c:=by
     rcases ho with ⟨_,h⟩ | ⟨_,_,_,_,h,_,_,h2,_⟩
     . simp only [Value.slice.injEq] at h;omega
     . simp only [Value.slice.injEq] at h;omega
   refine ⟨a,l.length,c,w,?_,fun _ _ _=>rfl,.inl ⟨rfl,rfl⟩⟩
   subst hsize
   cases a2 with
   | none=>cases a <;> simp [Builtin.append_,run_underlying ht,sizeOf,typeInfo,hi,Builtin.lenOf,Builtin.firstCells,hle,storeCells]
   | some ad=>cases a <;> simp [Builtin.append_,run_underlying ht,sizeOf,typeInfo,hi,Builtin.lenOf,Builtin.firstCells,hle,storeCells,loadCells,loadCellsFrom]
 . rcases hr.two with ⟨_,rfl⟩ | ⟨_,b2,o2,rfl,hb2,hq2,hx2⟩
   . simp at hr0
   obtain ⟨k1,k2⟩:=cellsAt_cell (sl_cells hE hx2)
   have new:∀ (xs:Array Value) (n:Nat) (cc:Nat),(Builtin.append_ #[t,t] ty #[.slice a l.length c,.slice (some ⟨b2,o2,none⟩) r.length c2]).run P w=.ok (.slice (some ⟨w.heap.size,0,none⟩) n cc) (w.drew.alloc (.cells xs e)) ->
       ∃ a' n' c' w',(Builtin.append_ #[t,t] ty #[.slice a l.length c,.slice (some ⟨b2,o2,none⟩) r.length c2]).run P w=.ok (.slice a' n' c') w'/\Fine w w' a c a' c':=fun xs n cc hrun =>
     ⟨_,_,_,_,hrun,fun b hb _=>heap_alloc_old w.drew _ hb,.inr ⟨_,rfl,Nat.le_refl _⟩⟩
   rcases ho with ⟨a0,h0⟩ | ⟨g,n0,cc,cur,h0,hlg,hg,hnc,hcm,hcs⟩
   . simp only [Value.slice.injEq] at h0
     obtain ⟨rfl,hl0,rfl⟩:=h0
     obtain rfl:l=[]:=List.eq_nil_of_length_eq_zero hl0
     simp only [List.length_nil,Nat.zero_add] at hn
     cases a with
     | none =>
      have:=run_append_nil (P:=P) w t ty e i z ht hi hz ⟨b2,o2,none⟩ r.length c2 (cellsAt w b2 o2 (r.length * sz)) (by rw [cellsAt_len,hsize]) k1 hr0 (by omega) (by rw [hby];have:=hbb _ hn;omega)
      exact new _ _ _ this
     | some ad =>
      have:=run_append_grow (P:=P) w t ty e i z ht hi hz ad 0 0 [] (by simp) (fun j v hj=>by simp at hj) ⟨b2,o2,none⟩ r.length c2 (cellsAt w b2 o2 (r.length * sz)) (by rw [cellsAt_len,hsize]) k1 (by omega) (by omega) (growslice_fits (by omega) (by rw [hby,Nat.zero_add];exact hbb _ hn))
      exact new _ _ _ this
   . simp only [Value.slice.injEq] at h0
     obtain ⟨rfl,rfl,rfl⟩:=h0
     have htl:(cur.toList.take (l.length * sz)).length=l.length * sz:=by
       have h1:cur.toList.length=c * sz:=by rw [<- hcs];simp
       rw [List.length_take,h1];exact Nat.min_eq_left (Nat.mul_le_mul_right _ hnc)
     have hcell:∀ j u,j<l.length * sz->(cur.toList.take (l.length * sz))[j]? = some u->w.cell? ⟨g,j,none⟩=some u:=fun j u hj hu=>by
       unfold World.cell?
       simp only [hg]
       rw [List.getElem?_take_of_lt hj] at hu
       simpa using hu
     by_cases hroom:l.length+r.length<=c
     . have hfit:l.length * sz+(cellsAt w b2 o2 (r.length * sz)).length<=cur.size:=by rw [cellsAt_len,hcs,<- Nat.add_mul];exact Nat.mul_le_mul_right _ hroom
       have hrun:=run_append_room (P:=P) w t ty e i ht hi g l.length c cur hg ⟨b2,o2,none⟩ r.length c2 (cellsAt w b2 o2 (r.length * sz)) (by rw [cellsAt_len,hsize]) k1 k2 hroom (by rw [hsize];exact hfit)
       exact ⟨_,_,_,_,hrun,fun b hb hne=>setRow_other w g b _ (by rintro rfl;have:=hne 0 rfl;omega),.inl ⟨rfl,rfl⟩⟩
     . exact new _ _ _ (run_append_grow (P:=P) w t ty e i z ht hi hz ⟨g,0,none⟩ l.length c (cur.toList.take (l.length * sz)) (by rw [htl,hsize]) (fun j u hu=>by
         rw [Addr.add_lit,Nat.zero_add]
         refine hcell j u ?_ hu
         rcases Nat.lt_or_ge j (l.length * sz) with h | h
         . exact h
         . rw [List.getElem?_eq_none (by rw [htl];exact h)] at hu;cases hu) ⟨b2,o2,none⟩ r.length c2 (cellsAt w b2 o2 (r.length * sz)) (by rw [cellsAt_len,hsize]) k1 (by omega) (by omega) (growslice_fits (by omega) (by rw [hby];exact hbb _ hn)))
theorem wpList_append_fine {α:Type} {Q2:BP} {sz lo:Nat} {E:World->Nat->Nat->α->Prop} {K:World->World->Prop} (hE:Moves sz E K) (w:World) {ops:Array Oper} {rest:List Oper} {o:Oper} {ac:Act} {Q:Exit->Act->World->Prop} (hgd:o.guard=none) (s x:Operand) (t:TypeId)
   (ho:o.op=.call { callee:=.builtin .append,args:=#[s,x],argTypes:=#[t,t] }) (e:TypeId) (i:TypeInfo) (z:Value) (bytes:Nat) (ht:P.underlying t=some (.slice e)) (hi:P.info? e=some i) (hz:i.zero=some z)
   (hsize:i.size=sz) (hby:i.bytes=bytes) (hzs:z.cells.size=sz) (hsz:0<sz) (hb:bytes<=1000) {a a2:Option Addr} {c c2:Nat} {l r:List α} (hs:ac.eval s=.slice a l.length c) (hx:ac.eval x=.slice a2 r.length c2) (hl:Sl (TB lo e) sz E w (.slice a l.length c) l) (hw:OwnV lo e sz w (.slice a l.length c)) (hr:Sl Q2 sz E w (.slice a2 r.length c2) r) (hn:l.length+r.length<=1000000) (hlo:lo<=w.heap.size)
   (h:∀ a' c' w',OwnV lo e sz w' (.slice a' (l ++ r).length c')->GrT lo (· = e) w w'->Fine w w' a c a' c'->(K w w'->Sl (TB lo e) sz E w' (.slice a' (l ++ r).length c') (l ++ r))->wpList P ops Q rest (ac.put o.dst (.slice a' (l ++ r).length c')) w'):wpList P ops Q (o :: rest) ac w:=by
 refine wpList_plain hgd fun K hK=>?_
 obtain ⟨a',c',w',h1,h2,h3,h4⟩:=run_append_sl (P:=P) hE w t o.type e i z bytes ht hi hz hsize hby hzs hsz hb hl hw hr hn hlo
 obtain ⟨a'',n'',c'',w'',g1,g2⟩:=run_append_fine (P:=P) hE w t o.type e i z bytes ht hi hz hsize hby hb hl hw hr hn
 rw [h1] at g1
 simp only [Result.ok.injEq,Value.slice.injEq] at g1
 obtain ⟨⟨rfl,_,rfl⟩,rfl⟩:=g1
 unfold Oper.wp execOp
 simp only [ho,resolve,invoke,builtin,Sem.run_bind,Sem.run_pure,Result.andThen_ok,List.map_toArray,List.map_cons,List.map_nil,hs,hx,h1]
 exact hK _ _ (h a' c' w' h2 h3 g2 h4)
theorem step_append_fine {α:Type} {Q2:BP} {sz lo:Nat} {E:World->Nat->Nat->α->Prop} {Kp:World->World->Prop} (hE:Moves sz E Kp) (w:World) {ops:Array Oper} {o:Oper} {ac:Act} {K:Act->World->Prop} {Q:Exit->Act->World->Prop} {EE:Prop} (hgd:o.guard=none) (s x:Operand) (t:TypeId)
   (ho:o.op=.call { callee:=.builtin .append,args:=#[s,x],argTypes:=#[t,t] }) (e:TypeId) (i:TypeInfo) (z:Value) (bytes:Nat) (ht:P.underlying t=some (.slice e)) (hi:P.info? e=some i) (hz:i.zero=some z)
   (hsize:i.size=sz) (hby:i.bytes=bytes) (hzs:z.cells.size=sz) (hsz:0<sz) (hb:bytes<=1000) {a a2:Option Addr} {c c2:Nat} {l r:List α} (hs:ac.eval s=.slice a l.length c) (hx:ac.eval x=.slice a2 r.length c2) (hl:Sl (TB lo e) sz E w (.slice a l.length c) l) (hw:OwnV lo e sz w (.slice a l.length c)) (hr:Sl Q2 sz E w (.slice a2 r.length c2) r) (hn:l.length+r.length<=1000000) (hlo:lo<=w.heap.size)
   (h:∀ a' c' w',OwnV lo e sz w' (.slice a' (l ++ r).length c')->GrT lo (· = e) w w'->Fine w w' a c a' c'->(Kp w w'->Sl (TB lo e) sz E w' (.slice a' (l ++ r).length c') (l ++ r))->K (ac.put o.dst (.slice a' (l ++ r).length c')) w'):if Region.wanted o (yielded ops ac.tmps)=true then Oper.wp P o ac w K Q else EE:=by
 have hw':Region.wanted o (yielded ops ac.tmps)=true:=by simp [Region.wanted,hgd]
 rw [if_pos hw']
 obtain ⟨a',c',w',h1,h2,h3,h4⟩:=run_append_sl (P:=P) hE w t o.type e i z bytes ht hi hz hsize hby hzs hsz hb hl hw hr hn hlo
 obtain ⟨a'',n'',c'',w'',g1,g2⟩:=run_append_fine (P:=P) hE w t o.type e i z bytes ht hi hz hsize hby hb hl hw hr hn
 rw [h1] at g1
 simp only [Result.ok.injEq,Value.slice.injEq] at g1
 obtain ⟨⟨rfl,_,rfl⟩,rfl⟩:=g1
 unfold Oper.wp execOp
 simp only [ho,resolve,invoke,builtin,Sem.run_bind,Sem.run_pure,Result.andThen_ok,List.map_toArray,List.map_cons,List.map_nil,hs,hx,h1]
 exact h a' c' w' h2 h3 g2 h4
end
structure ExR (N H:Nat) (m:MdlD) (pm:Ph) (out:MdlD) (p:Ph) (w0 w:World):Prop where
 own:OwnR H N w out p
 zb:w.heap[H]? = some zeroMR
 mb:w.heap[H+1]? = some (mBoxR m pm)
 ob:w.heap[H+1+1]? = some (mBoxR out p)
 bel:Below H w0 w
 hH:w0.heap.size=H
 hN:N<=H
theorem ExR.lt {N H:Nat} {m:MdlD} {pm:Ph} {out:MdlD} {p:Ph} {w0 w:World} (h:ExR N H m pm out p w0 w):H+1+1<w.heap.size:=(Array.getElem?_eq_some_iff.1 h.ob).1
theorem ExR.below {N H:Nat} {m:MdlD} {pm:Ph} {out:MdlD} {p:Ph} {w0 w w':World} (h:ExR N H m pm out p w0 w) (g:Below w.heap.size w w'):ExR N H m pm out p w0 w' :=
 have k:∀ b o,w.heap[b]? = some o->w'.heap[b]? = some o:=fun b o hb=>(g.block b (Array.getElem?_eq_some_iff.1 hb).1).trans hb
 ⟨h.own.below g,k _ _ h.zb,k _ _ h.mb,k _ _ h.ob,h.bel.trans (g.mono (by have:=h.lt;omega)),h.hH,h.hN⟩
theorem sameZ {lo b:Nat} {w w':World} (g:GrT lo T3R w w') (h:w.heap[b]? = some zeroMR):w'.heap[b]? = some zeroMR:=by
 unfold zeroMR at h |-
 exact g.same h notR.1
theorem ExR.frame {N H:Nat} {m:MdlD} {pm:Ph} {out out':MdlD} {p p':Ph} {w0 w w':World} (h:ExR N H m pm out p w0 w) (g:GrT H T3R w w') (ho:OwnR H N w' out' p') (he:mBoxR out' p'=mBoxR out p):ExR N H m pm out' p' w0 w' :=
 ⟨ho,sameZ g h.zb,g.same h.mb notR.1,by rw [he];exact g.same h.ob notR.1,h.bel.trans (g.below (Nat.le_refl _) (by have:=h.lt;omega)),h.hH,h.hN⟩
theorem ExR.grow {N H:Nat} {m:MdlD} {pm:Ph} {out out':MdlD} {p p':Ph} {w0 w w':World} {j:Nat} {u:Value} (h:ExR N H m pm out p w0 w) (g:GrT H T3R w w') (ho:OwnR H N w' out' p') (he:(w'.setCell ⟨H+1+1,j,none⟩ u).heap[H+1+1]? = some (mBoxR out' p')):ExR N H m pm out' p' w0 (w'.setCell ⟨H+1+1,j,none⟩ u):=by
 have hA:AtB (H+1+1) w' (w'.setCell ⟨H+1+1,j,none⟩ u):=(AtB.refl _ w').set j u
 have h1:=h.lt
 have h2:=h.hN
 exact ⟨ho.box hA (g.same h.ob notR.1) notR.1 (by omega),(hA.block _ (by omega)).trans (sameZ g h.zb),(hA.block _ (by omega)).trans (g.same h.mb notR.1),he,(h.bel.trans (g.below (Nat.le_refl _) (by omega))).trans (hA.below (by omega)),h.hH,h.hN⟩
def QS (X0 X1 N:Nat):Nat->BP
 | 0=>OldB N | 1=>OldB N | 2=>fun b _=>X0<=b/\b<X1 | 3=>fun b _=>X0<=b/\b<X1 | 4=>fun b _=>X0<=b/\b<X1 | _=>OldB N
structure Stay (X0 X1 N:Nat) (w w':World):Prop where
 size:w.heap.size<=w'.heap.size
 block:∀ b,X0<=b->b<X1->w'.heap[b]? = w.heap[b]?
 low:Below N w w'
theorem Mod.stay {X0 X1 N:Nat} {w w':World} {m:MdlD} {p:Ph} (h:Mod (QS X0 X1 N) w m p) (g:Stay X0 X1 N w w'):Mod (QS X0 X1 N) w' m p:=by
 have ki:Kept (fun b _=>X0<=b/\b<X1) w w':=⟨g.size,fun b _ hq=>g.block b hq.1 hq.2⟩
 have ko:Kept (OldB N) w w':=OldB.kept g.low
 refine h.kept fun j=>?_
 match j with
 | 0=>exact ko
 | 1=>exact ko
 | 2=>exact ki
 | 3=>exact ki
 | 4=>exact ki
 | n+5=>exact ko
theorem OwnR.between {lo N X1:Nat} {w:World} {m:MdlD} {p:Ph} (h:OwnR lo N w m p) (hX:w.heap.size<=X1):Mod (QS lo X1 N) w m p:=h.mod.weaken fun j b hb hq=>by
 match j,hq with
 | 0,hq=>exact hq
 | 1,hq=>exact hq
 | 2,hq=>exact ⟨hq.1,by omega⟩
 | 3,hq=>exact ⟨hq.1,by omega⟩
 | 4,hq=>exact ⟨hq.1,by omega⟩
 | n+5,hq=>exact hq
def Off (X0 X1:Nat) (a:Option Addr) (c:Nat):Prop:=∀ b o,a=some ⟨b,o,none⟩->c≠0->b<X0\/X1<=b
theorem Off.fine {X0 X1:Nat} {a a':Option Addr} {c c':Nat} {w w':World} (h:Off X0 X1 a c) (f:Fine w w' a c a' c') (hX:X1<=w.heap.size):Off X0 X1 a' c':=fun b o e hc=>by
 rcases f.new with ⟨rfl,rfl⟩ | ⟨g,rfl,hg⟩
 . exact h b o e hc
 . simp only [Option.some.injEq,Addr.mk.injEq] at e
   obtain ⟨rfl,_,_⟩:=e
   exact .inr (by omega)
theorem Off.stay {X0 X1 N lo:Nat} {S:TypeId->Prop} {a a':Option Addr} {c c':Nat} {w w':World} (h:Off X0 X1 a c) (f:Fine w w' a c a' c') (hX:X1<=w.heap.size) (g:GrT lo S w w') (hN:N<=lo) (hlo:lo<=w.heap.size):Stay X0 X1 N w w' :=
 ⟨g.size,fun b h0 h1=>f.same b (by omega) fun o e=>by
   rcases Nat.eq_zero_or_pos c with hc | hc
   . exact hc
   . have:=h b o e (by omega);omega,g.below hN (by omega)⟩
theorem Off.own {lo:Nat} {T:TypeId} {sz n:Nat} {w:World} {a:Option Addr} {c:Nat} (h:OwnV lo T sz w (.slice a n c)) (X1:Nat):Off w.heap.size X1 a c:=fun b o e hc=>by
 rcases h with ⟨_,h⟩ | ⟨g,_,_,cur,h,_,hg,_⟩
 . simp only [Value.slice.injEq] at h;omega
 . simp only [Value.slice.injEq] at h
   obtain ⟨rfl,_,rfl⟩:=h
   simp only [Option.some.injEq,Addr.mk.injEq] at e
   obtain ⟨rfl,_,_⟩:=e
   exact .inl (Array.getElem?_eq_some_iff.1 hg).1
structure ExL (N H X0 X1 SB:Nat) (m:MdlD) (pm:Ph) (out:MdlD) (p:Ph) (sub:MdlD) (px:Ph) (w0 w:World):Prop where
 ex:ExR N H m pm out p w0 w
 sb:w.heap[SB]? = some (mBoxR sub px)
 sm:Mod (QS X0 X1 N) w sub px
 o3:Off X0 X1 p.a3 p.c3
 o4:Off X0 X1 p.a4 p.c4
 o5:Off X0 X1 p.a5 p.c5
 h0:H+1+1<X0
 h1:X1<=w.heap.size
 s0:X0<=SB
 s1:SB<X1
theorem ExL.below {N H X0 X1 SB:Nat} {m:MdlD} {pm:Ph} {out:MdlD} {p:Ph} {sub:MdlD} {px:Ph} {w0 w w':World} (h:ExL N H X0 X1 SB m pm out p sub px w0 w) (g:Below w.heap.size w w'):ExL N H X0 X1 SB m pm out p sub px w0 w' :=
 have h1:=h.h1
 have hl:=h.ex.lt
 have hn:=h.ex.hN
 have hs:=h.s1
 ⟨h.ex.below g,(g.block _ (by omega)).trans h.sb,h.sm.stay ⟨g.size,fun b _ hb=>g.block b (by omega),g.mono (by omega)⟩,h.o3,h.o4,h.o5,h.h0,Nat.le_trans h.h1 g.size,h.s0,h.s1⟩
theorem ExL.frame {N H X0 X1 SB:Nat} {m:MdlD} {pm:Ph} {out out':MdlD} {p p':Ph} {sub:MdlD} {px:Ph} {w0 w w':World} (h:ExL N H X0 X1 SB m pm out p sub px w0 w) (g:GrT H T3R w w') (st:Stay X0 X1 N w w') (ho:OwnR H N w' out' p') (he:mBoxR out' p'=mBoxR out p) (k3:Off X0 X1 p'.a3 p'.c3) (k4:Off X0 X1 p'.a4 p'.c4) (k5:Off X0 X1 p'.a5 p'.c5):ExL N H X0 X1 SB m pm out' p' sub px w0 w' :=
 ⟨h.ex.frame g ho he,(st.block _ h.s0 h.s1).trans h.sb,h.sm.stay st,k3,k4,k5,h.h0,Nat.le_trans h.h1 g.size,h.s0,h.s1⟩
theorem ExL.grow {N H X0 X1 SB:Nat} {m:MdlD} {pm:Ph} {out out':MdlD} {p p':Ph} {sub:MdlD} {px:Ph} {w0 w w':World} {j:Nat} {u:Value} (h:ExL N H X0 X1 SB m pm out p sub px w0 w) (g:GrT H T3R w w') (st:Stay X0 X1 N w w') (ho:OwnR H N w' out' p') (he:(w'.setCell ⟨H+1+1,j,none⟩ u).heap[H+1+1]? = some (mBoxR out' p')) (k3:Off X0 X1 p'.a3 p'.c3) (k4:Off X0 X1 p'.a4 p'.c4) (k5:Off X0 X1 p'.a5 p'.c5):ExL N H X0 X1 SB m pm out' p' sub px w0 (w'.setCell ⟨H+1+1,j,none⟩ u):=by
 have hA:AtB (H+1+1) w' (w'.setCell ⟨H+1+1,j,none⟩ u):=(AtB.refl _ w').set j u
 have hl:=h.ex.lt
 have hn:=h.ex.hN
 have hx:=h.h0
 have hs:=h.s0
 exact ⟨h.ex.grow g ho he,(hA.block _ (by omega)).trans ((st.block _ h.s0 h.s1).trans h.sb),(h.sm.stay st).stay ⟨by rw [hA.size];exact Nat.le_refl _,fun b h0 _=>hA.block b (by omega),hA.below (by omega)⟩,k3,k4,k5,h.h0,by rw [hA.size];exact Nat.le_trans h.h1 g.size,h.s0,h.s1⟩
theorem reg_sl (w:World) (x:RegD) (T:TypeId):Sl anyB 2 RegE (w.alloc (.cells #[.string x.nm,.int .i64 x.own] T)) (.slice (some ⟨w.heap.size,0,none⟩) [x].length 1) [x]:=by
 refine .inr ⟨w.heap.size,0,1,rfl,by simp,by simp,trivial,fun i hi=>?_⟩
 obtain rfl:i=0:=by simp at hi;exact hi
 have h:=World.alloc_heap_new w (.cells #[.string x.nm,.int .i64 x.own] T)
 refine ⟨?_,?_⟩ <;> (unfold World.cell?;simp only [h];rfl)
theorem ver_sl (R:BP) (w:World) (x:VerD) (a:Option Addr) (c:Nat) (T:TypeId) (hd:SlS R (w.alloc (.cells #[.string x.nm,.int .u8 x.kd,.int .i64 x.rg,.int .i64 x.ofv,.string x.en,.string x.ex,.slice a x.df.length c,.string x.sb] T)) (.slice a x.df.length c) x.df):Sl anyB 8 (VerE R) (w.alloc (.cells #[.string x.nm,.int .u8 x.kd,.int .i64 x.rg,.int .i64 x.ofv,.string x.en,.string x.ex,.slice a x.df.length c,.string x.sb] T)) (.slice (some ⟨w.heap.size,0,none⟩) [x].length 1) [x]:=by
 refine .inr ⟨w.heap.size,0,1,rfl,by simp,by simp,trivial,fun i hi=>?_⟩
 obtain rfl:i=0:=by simp at hi;exact hi
 obtain ⟨z0,z1,z2,z3,z4,z5,z6,z7⟩:=cells8 (World.alloc_heap_new w (.cells #[.string x.nm,.int .u8 x.kd,.int .i64 x.rg,.int .i64 x.ofv,.string x.en,.string x.ex,.slice a x.df.length c,.string x.sb] T))
 exact ⟨_,hd,z0,z1,z2,z3,z4,z5,z6,z7⟩
theorem trn_sl (R:BP) (w:World) (x:TrnD) (a:Option Addr) (c:Nat) (T:TypeId) (hd:SlS R (w.alloc (.cells #[.string x.nm,.int .i64 x.src,.int .i64 x.tgt,.slice a x.tr.length c,.int .i64 x.af,.string x.gd,.string x.ef,.int .u8 x.kd] T)) (.slice a x.tr.length c) x.tr):Sl anyB 8 (TrnE R) (w.alloc (.cells #[.string x.nm,.int .i64 x.src,.int .i64 x.tgt,.slice a x.tr.length c,.int .i64 x.af,.string x.gd,.string x.ef,.int .u8 x.kd] T)) (.slice (some ⟨w.heap.size,0,none⟩) [x].length 1) [x]:=by
 refine .inr ⟨w.heap.size,0,1,rfl,by simp,by simp,trivial,fun i hi=>?_⟩
 obtain rfl:i=0:=by simp at hi;exact hi
 obtain ⟨z0,z1,z2,z3,z4,z5,z6,z7⟩:=cells8 (World.alloc_heap_new w (.cells #[.string x.nm,.int .i64 x.src,.int .i64 x.tgt,.slice a x.tr.length c,.int .i64 x.af,.string x.gd,.string x.ef,.int .u8 x.kd] T))
 exact ⟨_,hd,z0,z1,z2,z3,z4,z5,z6,z7⟩
theorem take_succ_app {α:Type} {l:List α} {j:Nat} (h:j<l.length) (a:List α):(a ++ l.take j) ++ [l[j]]=a ++ l.take (j+1):=by
 rw [List.append_assoc,List.take_succ_eq_append_getElem h]
end Go.Proofs
