/- A model of one's own that grows: rows put behind its rows. No program's walk. -/
import Derived.Test.YtfladiadgkfebaaGreatDoorKEmK
import Derived.Test.YtfladiadgkfebaaGreatDoorKEmE
namespace Go.Proofs
open Go.RowKit Go.Lx Go.Md Go.Shelf Go.BigFrame Go.Rgi
open Lib(hid)
set_option maxRecDepth 100000
set_option maxHeartbeats 0
set_option linter.unusedVariables false
theorem TB.lo {lo lo':Nat} (hl:lo'<=lo) (j:Nat) {w:World}:∀ b,b<w.heap.size->TB lo (TT j) b w.heap[b]? -> TB lo' (TT j) b w.heap[b]? := fun _ _ h=>h.mono hl
theorem OwnM.mono {lo lo':Nat} {w:World} {m:MdlD} {p:Ph} (h:OwnM lo w m p) (hl:lo'<=lo):OwnM lo' w m p :=
 ⟨h.mod.weaken fun j=>TB.lo hl j,⟨h.own.o1.mono hl,h.own.o2.mono hl,h.own.o3.mono hl,h.own.o4.mono hl,h.own.o5.mono hl⟩⟩
theorem OwnM.above {lo:Nat} {w w':World} {m:MdlD} {p:Ph} (h:OwnM lo w m p) (hs:w.heap.size<=w'.heap.size) (hk:∀ b,lo<=b->b<w.heap.size->w'.heap[b]? = w.heap[b]?):OwnM lo w' m p :=
 h.kept fun j=>⟨hs,fun b hb hq=>hk b hq.1 hb⟩
theorem kept_str {lo lo':Nat} {S:TypeId->Prop} {w w':World} (g:GrT lo S w w') (hS:¬ S 9):Kept (TB lo' 9) w w':=g.keep hS
theorem OwnM.app3 {lo:Nat} {w w':World} {m:MdlD} {p:Ph} {R:List RegD} {a:Option Addr} {c:Nat} (h:OwnM lo w m p) (g:GrT lo (· = 57) w w') (ho:OwnV lo 57 2 w' (.slice a (m.regs ++ R).length c)) (hs:Sl (TB lo 57) 2 RegE w' (.slice a (m.regs ++ R).length c) (m.regs ++ R)):OwnM lo w' { m with regs:=m.regs ++ R } { p with a3:=a,c3:=c } :=
 have k:∀ T,T≠57->Kept (TB lo T) w w':=fun T hT=>g.keep hT
 ⟨⟨h.mod.vars.kept (VarE.mono (R:=TB lo 9)) (k _ (by decide)) (k _ (by decide)),h.mod.evs.kept (k _ (by decide)),hs,h.mod.vers.kept VerE.mono (k _ (by decide)) (k _ (by decide)),h.mod.trns.kept TrnE.mono (k _ (by decide)) (k _ (by decide))⟩,⟨g.own h.own.o1,g.own h.own.o2,ho,g.own h.own.o4,g.own h.own.o5⟩⟩
theorem OwnM.app4 {lo:Nat} {w w':World} {m:MdlD} {p:Ph} {R:List VerD} {a:Option Addr} {c:Nat} (h:OwnM lo w m p) (g:GrT lo (· = 49) w w') (ho:OwnV lo 49 8 w' (.slice a (m.vers ++ R).length c)) (hs:Sl (TB lo 49) 8 (VerE (TB lo 9)) w' (.slice a (m.vers ++ R).length c) (m.vers ++ R)):OwnM lo w' { m with vers:=m.vers ++ R } { p with a4:=a,c4:=c } :=
 have k:∀ T,T≠49->Kept (TB lo T) w w':=fun T hT=>g.keep hT
 ⟨⟨h.mod.vars.kept (VarE.mono (R:=TB lo 9)) (k _ (by decide)) (k _ (by decide)),h.mod.evs.kept (k _ (by decide)),h.mod.regs.kept (RegE.mono (R:=TB lo 9)) (k _ (by decide)) (k _ (by decide)),hs,h.mod.trns.kept TrnE.mono (k _ (by decide)) (k _ (by decide))⟩,⟨g.own h.own.o1,g.own h.own.o2,g.own h.own.o3,ho,g.own h.own.o5⟩⟩
theorem OwnM.app5 {lo:Nat} {w w':World} {m:MdlD} {p:Ph} {R:List TrnD} {a:Option Addr} {c:Nat} (h:OwnM lo w m p) (g:GrT lo (· = 59) w w') (ho:OwnV lo 59 8 w' (.slice a (m.trns ++ R).length c)) (hs:Sl (TB lo 59) 8 (TrnE (TB lo 9)) w' (.slice a (m.trns ++ R).length c) (m.trns ++ R)):OwnM lo w' { m with trns:=m.trns ++ R } { p with a5:=a,c5:=c } :=
 have k:∀ T,T≠59->Kept (TB lo T) w w':=fun T hT=>g.keep hT
 ⟨⟨h.mod.vars.kept (VarE.mono (R:=TB lo 9)) (k _ (by decide)) (k _ (by decide)),h.mod.evs.kept (k _ (by decide)),h.mod.regs.kept (RegE.mono (R:=TB lo 9)) (k _ (by decide)) (k _ (by decide)),h.mod.vers.kept VerE.mono (k _ (by decide)) (k _ (by decide)),hs⟩,⟨g.own h.own.o1,g.own h.own.o2,g.own h.own.o3,g.own h.own.o4,ho⟩⟩
section
variable {P:Program}
theorem wpList_append_sl {α:Type} {Q2:BP} {sz lo:Nat} {E:World->Nat->Nat->α->Prop} {K:World->World->Prop} (hE:Moves sz E K) (w:World) {ops:Array Oper} {rest:List Oper} {o:Oper} {ac:Act} {Q:Exit->Act->World->Prop} (hgd:o.guard=none) (s x:Operand) (t:TypeId)
   (ho:o.op=.call { callee:=.builtin .append,args:=#[s,x],argTypes:=#[t,t] }) (e:TypeId) (i:TypeInfo) (z:Value) (bytes:Nat) (ht:P.underlying t=some (.slice e)) (hi:P.info? e=some i) (hz:i.zero=some z)
   (hsize:i.size=sz) (hby:i.bytes=bytes) (hzs:z.cells.size=sz) (hsz:0<sz) (hb:bytes<=1000) {a a2:Option Addr} {c c2:Nat} {l r:List α} (hs:ac.eval s=.slice a l.length c) (hx:ac.eval x=.slice a2 r.length c2) (hl:Sl (TB lo e) sz E w (.slice a l.length c) l) (hw:OwnV lo e sz w (.slice a l.length c)) (hr:Sl Q2 sz E w (.slice a2 r.length c2) r) (hn:l.length+r.length<=1000000) (hlo:lo<=w.heap.size)
   (h:∀ a' c' w',OwnV lo e sz w' (.slice a' (l ++ r).length c')->GrT lo (· = e) w w'->(K w w'->Sl (TB lo e) sz E w' (.slice a' (l ++ r).length c') (l ++ r))->wpList P ops Q rest (ac.put o.dst (.slice a' (l ++ r).length c')) w'):wpList P ops Q (o :: rest) ac w:=by
 refine wpList_plain hgd fun K hK=>?_
 obtain ⟨a',c',w',h1,h2,h3,h4⟩:=run_append_sl (P:=P) hE w t o.type e i z bytes ht hi hz hsize hby hzs hsz hb hl hw hr hn hlo
 unfold Oper.wp execOp
 simp only [ho,resolve,invoke,builtin,Sem.run_bind,Sem.run_pure,Result.andThen_ok,List.map_toArray,List.map_cons,List.map_nil,hs,hx,h1]
 exact hK _ _ (h a' c' w' h2 h3 h4)
end
def mBox (m:MdlD) (p:Ph):Obj:=.cells #[.string m.nm,.slice p.a1 m.vars.length p.c1,.slice p.a2 m.evs.length p.c2,.slice p.a3 m.regs.length p.c3,.slice p.a4 m.vers.length p.c4,.slice p.a5 m.trns.length p.c5] 42 (0,0)
theorem mBox.box {w:World} {H:Nat} {m:MdlD} {p:Ph} (h:w.heap[H]? = some (mBox m p)):Box w H (.string m.nm) (.slice p.a1 m.vars.length p.c1) (.slice p.a2 m.evs.length p.c2) (.slice p.a3 m.regs.length p.c3) (.slice p.a4 m.vers.length p.c4) (.slice p.a5 m.trns.length p.c5):=box_at h
theorem box_set {w:World} {H:Nat} {cs:Array Value} {T:TypeId} {fr:Nat × Nat} (h:w.heap[H]? = some (.cells cs T fr)) (j:Nat) (u:Value):(w.setCell ⟨H,j,none⟩ u).heap[H]? = some (.cells (cs.setIfInBounds j u) T fr):=by
 unfold World.setCell
 simp [Array.getElem?_modify,h]
theorem mBox.set3 {w:World} {H:Nat} {m:MdlD} {p:Ph} (h:w.heap[H]? = some (mBox m p)) (R:List RegD) (a:Option Addr) (c:Nat):(w.setCell ⟨H,3,none⟩ (.slice a R.length c)).heap[H]? = some (mBox { m with regs:=R } { p with a3:=a,c3:=c }):=box_set h 3 _
theorem mBox.set4 {w:World} {H:Nat} {m:MdlD} {p:Ph} (h:w.heap[H]? = some (mBox m p)) (R:List VerD) (a:Option Addr) (c:Nat):(w.setCell ⟨H,4,none⟩ (.slice a R.length c)).heap[H]? = some (mBox { m with vers:=R } { p with a4:=a,c4:=c }):=box_set h 4 _
theorem mBox.set5 {w:World} {H:Nat} {m:MdlD} {p:Ph} (h:w.heap[H]? = some (mBox m p)) (R:List TrnD) (a:Option Addr) (c:Nat):(w.setCell ⟨H,5,none⟩ (.slice a R.length c)).heap[H]? = some (mBox { m with trns:=R } { p with a5:=a,c5:=c }):=box_set h 5 _
theorem cells8 {w:World} {H:Nat} {T:TypeId} {v0 v1 v2 v3 v4 v5 v6 v7:Value} (h:w.heap[H]? = some (.cells #[v0,v1,v2,v3,v4,v5,v6,v7] T (0,0))):w.cell? ⟨H,0,none⟩=some v0/\w.cell? ⟨H,1,none⟩=some v1/\w.cell? ⟨H,2,none⟩=some v2/\w.cell? ⟨H,3,none⟩=some v3/\w.cell? ⟨H,4,none⟩=some v4/\w.cell? ⟨H,5,none⟩=some v5/\w.cell? ⟨H,6,none⟩=some v6/\w.cell? ⟨H,7,none⟩=some v7:=by
 refine ⟨?_,?_,?_,?_,?_,?_,?_,?_⟩ <;> (unfold World.cell?;simp only [h];rfl)
theorem box_six {w:World} {H:Nat} {x0 x1 x2 x3 x4 x5:Value} {T:TypeId} {fr:Nat × Nat} (h:w.heap[H]? = some (.cells #[x0,x1,x2,x3,x4,x5] T fr)) (v0 v1 v2 v3 v4 v5:Value) :
   ((((((w.setCell ⟨H,0,none⟩ v0).setCell ⟨H,1,none⟩ v1).setCell ⟨H,2,none⟩ v2).setCell ⟨H,3,none⟩ v3).setCell ⟨H,4,none⟩ v4).setCell ⟨H,5,none⟩ v5).heap[H]? = some (.cells #[v0,v1,v2,v3,v4,v5] T fr)/\AtB H w ((((((w.setCell ⟨H,0,none⟩ v0).setCell ⟨H,1,none⟩ v1).setCell ⟨H,2,none⟩ v2).setCell ⟨H,3,none⟩ v3).setCell ⟨H,4,none⟩ v4).setCell ⟨H,5,none⟩ v5) :=
 ⟨box_set (box_set (box_set (box_set (box_set (box_set h 0 v0) 1 v1) 2 v2) 3 v3) 4 v4) 5 v5,((((((AtB.refl _ w).set _ _).set _ _).set _ _).set _ _).set _ _).set _ _⟩
theorem row_keep {base T sz n:Nat} {w w':World} {v:Value} {xs:List Value} (h:w.ownsRow base T sz v n xs) (hk:∀ (g:Nat) (cur:Array Value),w.heap[g]? = some (.cells cur T (0,0))->w'.heap[g]? = some (.cells cur T (0,0))):w'.ownsRow base T sz v n xs:=by
 refine ⟨h.1,?_⟩
 rcases h.2 with hn | ⟨g,cap,cur,rfl,hb,hgg,rest⟩
 . exact .inl hn
 . exact .inr ⟨g,cap,cur,rfl,hb,hk g cur hgg,rest⟩
theorem row_grt {base T sz n lo:Nat} {S:TypeId->Prop} {w w':World} {v:Value} {xs:List Value} (h:w.ownsRow base T sz v n xs) (g:GrT lo S w w') (hT:¬ S T):w'.ownsRow base T sz v n xs:=row_keep h fun b cur hb=>g.same hb hT
theorem row_at {base T sz n H:Nat} {w w':World} {v:Value} {xs:List Value} (h:w.ownsRow base T sz v n xs) (g:AtB H w w') {cur:Array Value} {T':TypeId} {fr:Nat × Nat} (hH:w.heap[H]? = some (.cells cur T' fr)) (hT:T≠T'):w'.ownsRow base T sz v n xs:=row_keep h fun b c hb=>by
 refine (g.block b ?_).trans hb
 rintro rfl
 rw [hH] at hb
 simp only [Option.some.injEq,Obj.cells.injEq] at hb
 exact hT hb.2.1.symm
theorem ties_succ {sub:MdlD} {b:Nat} {out:MdlD} {ps:List Int} {j:Nat} (h:j<ps.length):tiesM sub b out (ps.take (j+1))=tie1 sub b (tiesM sub b out (ps.take j)) ps[j]:=by
 unfold tiesM
 rw [List.take_succ_eq_append_getElem h,List.foldl_append];rfl
theorem tie1_to {own out:MdlD} {b v k tg:Nat} {y:VerD} (hn:(verG out v).nm=y.nm) (hk:(verG out v).kd=y.kd) (hb:bndI y own=(k:Int)) (ht:b+k=tg):(b:Int)+bndI (verG out v) own=(tg:Int):=by
 have:bndI (verG out v) own=(k:Int):=by rw [<- hb];unfold bndI;rw [bnd_congr hn hk]
 omega
theorem tie1_exit {own out:MdlD} {b v k tg:Nat} {y:VerD} (hn:(verG out v).nm=y.nm) (hk:(verG out v).kd=y.kd) (h11:y.kd=11) (hb:bndI y own=(k:Int)) (ht:b+k=tg):tie1 own b out v={ out with vers:=out.vers.modify tg fun y=>{ y with kd:=5 },trns:=out.trns ++ [way tg v] }:=by
 unfold tie1
 dsimp only
 rw [tie1_to hn hk hb ht,if_pos (by rw [hk];exact h11)]
 rfl
theorem tie1_entry {own out:MdlD} {b v k tg:Nat} {y:VerD} (hn:(verG out v).nm=y.nm) (hk:(verG out v).kd=y.kd) (h11:y.kd≠11) (hb:bndI y own=(k:Int)) (ht:b+k=tg):tie1 own b out v={ out with trns:=out.trns ++ [way v tg] }:=by
 unfold tie1
 dsimp only
 rw [tie1_to hn hk hb ht,if_neg (by rw [hk];exact h11)]
theorem way_sl (R:BP) (w:World) (x y:Int) (T:TypeId):Sl anyB 8 (TrnE R) (w.alloc (.cells #[.string ⟨#[]⟩,.int .i64 x,.int .i64 y,.slice none 0 0,.int .i64 0,.string ⟨#[]⟩,.string ⟨#[]⟩,.int .u8 1] T)) (.slice (some ⟨w.heap.size,0,none⟩) [way x y].length 1) [way x y]:=by
 refine .inr ⟨w.heap.size,0,1,rfl,by simp,by simp,trivial,fun i hi=>?_⟩
 obtain rfl:i=0:=by simp at hi;exact hi
 obtain ⟨z0,z1,z2,z3,z4,z5,z6,z7⟩:=cells8 (World.alloc_heap_new w (.cells #[.string ⟨#[]⟩,.int .i64 x,.int .i64 y,.slice none 0 0,.int .i64 0,.string ⟨#[]⟩,.string ⟨#[]⟩,.int .u8 1] T))
 exact ⟨.slice none 0 0,.inl ⟨_,_,rfl,rfl⟩,z0,z1,z2,z3,z4,z5,z6,z7⟩
theorem AtB.keptT {H:Nat} {w w':World} (h:AtB H w w') {cur:Array Value} {T:TypeId} {fr:Nat × Nat} (hH:w.heap[H]? = some (.cells cur T fr)) {lo:Nat} {T':TypeId} (hT:T'≠T):Kept (TB lo T') w w':=h.kept fun hq=>by
 obtain ⟨_,c,e⟩:=hq
 rw [hH] at e
 simp only [Option.some.injEq,Obj.cells.injEq] at e
 exact hT e.2.1.symm
structure ExS (lo:Nat) (m:MdlD) (pm:Ph) (out:MdlD) (p:Ph) (OB LPB MB LB:Nat) (w:World):Prop where
 own:OwnM lo w out p
 ob:w.heap[OB]? = some (mBox out p)
 mb:w.heap[MB]? = some (mBox m pm)
 lp:w.heap[LPB]? = some (.cells #[.pointer (some ⟨LB,0,none⟩)] 72 (0,0))
 ne:OB≠MB
 ol:lo<=OB
theorem ExS.below {lo:Nat} {m:MdlD} {pm:Ph} {out:MdlD} {p:Ph} {OB LPB MB LB:Nat} {w w':World} (h:ExS lo m pm out p OB LPB MB LB w) (g:Below w.heap.size w w'):ExS lo m pm out p OB LPB MB LB w' :=
 have k:∀ b o,w.heap[b]? = some o->w'.heap[b]? = some o:=fun b o hb=>(g.block b (Array.getElem?_eq_some_iff.1 hb).1).trans hb
 ⟨h.own.below g,k _ _ h.ob,k _ _ h.mb,k _ _ h.lp,h.ne,h.ol⟩
def CutE (H:Nat) (sh:MdlD) (w:World) (s9:Value) (wx:World):Prop:=∃ XB px,s9=.pointer (some ⟨XB,0,none⟩)/\wx.heap[XB]? = some (mBox sh px)/\OwnM H wx sh px/\Below H w wx/\H<=XB
theorem mBox_sh (r v s:Nat) (m:MdlD) (p:Ph):mBox (shM r v s m) p=mBox m p:=by unfold mBox shM;simp [mvR_len]
theorem GrT.zero {lo b:Nat} {w w':World} (h:GrT lo T3 w w') (hb:w.heap[b]? = some zeroM):w'.heap[b]? = some zeroM:=by
 unfold zeroM at hb |-
 exact h.same hb (by unfold T3;decide)
theorem cutE_six {H XB r v s:Nat} {sub:MdlD} {w wx:World} {px:Ph} (hz:wx.heap[XB]? = some zeroM) (ho:OwnM H wx (shM r v s sub) px) (hb:Below H w wx) (hX:H<=XB) :
   CutE H (shM r v s sub) w (.pointer (some ⟨XB,0,none⟩)) ((((((wx.setCell ⟨XB,0,none⟩ (.string sub.nm)).setCell ⟨XB,1,none⟩ (.slice px.a1 sub.vars.length px.c1)).setCell ⟨XB,2,none⟩ (.slice px.a2 sub.evs.length px.c2)).setCell ⟨XB,3,none⟩ (.slice px.a3 sub.regs.length px.c3)).setCell ⟨XB,4,none⟩ (.slice px.a4 sub.vers.length px.c4)).setCell ⟨XB,5,none⟩ (.slice px.a5 sub.trns.length px.c5)):=by
 obtain ⟨h1,h2⟩:=box_six hz (.string sub.nm) (.slice px.a1 sub.vars.length px.c1) (.slice px.a2 sub.evs.length px.c2) (.slice px.a3 sub.regs.length px.c3) (.slice px.a4 sub.vers.length px.c4) (.slice px.a5 sub.trns.length px.c5)
 exact ⟨XB,px,rfl,by rw [mBox_sh];exact h1,ho.box h2 hz,hb.trans (h2.below hX),hX⟩
theorem cutE_new {H r v s:Nat} {sub:MdlD} {w wx:World} {px:Ph} (ho:OwnM H wx (shM r v s sub) px) (hb:Below H w wx) (hX:H<=wx.heap.size) :
   CutE H (shM r v s sub) w (.pointer (some ⟨wx.heap.size,0,none⟩)) (wx.alloc (.cells #[.string sub.nm,.slice px.a1 sub.vars.length px.c1,.slice px.a2 sub.evs.length px.c2,.slice px.a3 sub.regs.length px.c3,.slice px.a4 sub.vers.length px.c4,.slice px.a5 sub.trns.length px.c5] 42)) :=
 ⟨wx.heap.size,px,rfl,by rw [mBox_sh];exact World.alloc_heap_new _ _,ho.below (below_al1 _ _),hb.trans ((below_al1 wx _).mono hX),hX⟩
structure ExT (lo H:Nat) (m:MdlD) (pm:Ph) (out:MdlD) (p:Ph) (sh:MdlD) (px:Ph) (OB LPB MB LB XB:Nat) (w0 w:World):Prop where
 ex:ExS lo m pm out p OB LPB MB LB w
 xb:w.heap[XB]? = some (mBox sh px)
 bel:Below lo w0 w
 hO:OB<H
 hX:H<=XB
 hz:H<=w.heap.size
theorem ExT.below {lo H:Nat} {m:MdlD} {pm:Ph} {out:MdlD} {p:Ph} {sh:MdlD} {px:Ph} {OB LPB MB LB XB:Nat} {w0 w w':World} (h:ExT lo H m pm out p sh px OB LPB MB LB XB w0 w) (hz:lo<=w.heap.size) (g:Below w.heap.size w w'):ExT lo H m pm out p sh px OB LPB MB LB XB w0 w' :=
 ⟨h.ex.below g,(g.block _ (Array.getElem?_eq_some_iff.1 h.xb).1).trans h.xb,h.bel.trans (g.mono hz),h.hO,h.hX,Nat.le_trans h.hz g.size⟩
theorem not3:¬ T3 42/\¬ T3 72/\¬ T3 9:=⟨by unfold T3;decide,by unfold T3;decide,by unfold T3;decide⟩
theorem ExT.step {lo H:Nat} {m:MdlD} {pm:Ph} {out out':MdlD} {p p':Ph} {sh:MdlD} {px:Ph} {OB LPB MB LB XB:Nat} {w0 w w':World} (h:ExT lo H m pm out p sh px OB LPB MB LB XB w0 w) (g:GrT lo T3 w w') (hz:lo<=w.heap.size) (ho:OwnM lo w' out' p') (he:mBox out' p'=mBox out p):ExT lo H m pm out' p' sh px OB LPB MB LB XB w0 w' :=
 ⟨⟨ho,by rw [he];exact g.same h.ex.ob not3.1,g.same h.ex.mb not3.1,g.same h.ex.lp not3.2.1,h.ex.ne,h.ex.ol⟩,g.same h.xb not3.1,h.bel.trans (g.below (Nat.le_refl _) hz),h.hO,h.hX,Nat.le_trans h.hz g.size⟩
theorem ExT.grow {lo H:Nat} {m:MdlD} {pm:Ph} {out out':MdlD} {p p':Ph} {sh:MdlD} {px:Ph} {OB LPB MB LB XB:Nat} {w0 w w':World} {j:Nat} {u:Value} (h:ExT lo H m pm out p sh px OB LPB MB LB XB w0 w) (g:GrT lo T3 w w') (hz:lo<=w.heap.size) (ho:OwnM lo w' out' p') (he:(w'.setCell ⟨OB,j,none⟩ u).heap[OB]? = some (mBox out' p')) (hL:LPB≠OB):ExT lo H m pm out' p' sh px OB LPB MB LB XB w0 (w'.setCell ⟨OB,j,none⟩ u):=by
 have hA:AtB OB w' (w'.setCell ⟨OB,j,none⟩ u):=(AtB.refl OB w').set j u
 have hob:=g.same h.ex.ob not3.1
 have h1:=h.hO
 have h2:=h.hX
 exact ⟨⟨ho.box hA hob,he,(hA.block _ (Ne.symm h.ex.ne)).trans (g.same h.ex.mb not3.1),(hA.block _ hL).trans (g.same h.ex.lp not3.2.1),h.ex.ne,h.ex.ol⟩,(hA.block _ (by omega)).trans (g.same h.xb not3.1),(h.bel.trans (g.below (Nat.le_refl _) hz)).trans (hA.below h.ex.ol),h.hO,h.hX,Nat.le_trans (Nat.le_trans h.hz g.size) (by simp)⟩
theorem ExS.lp_ne {lo:Nat} {m:MdlD} {pm:Ph} {out:MdlD} {p:Ph} {OB LPB MB LB:Nat} {w:World} (h:ExS lo m pm out p OB LPB MB LB w):LPB≠OB:=by
 rintro rfl
 have:=h.lp.symm.trans h.ob
 unfold mBox at this
 simp only [Option.some.injEq,Obj.cells.injEq] at this
 exact absurd this.2.1 (by decide)
theorem expanded1_any (N:Nat) (l:List MdlD) (a:Option Addr) (c LB NB SB cnt lo:Nat) (m:MdlD) (pm:Ph) (out:MdlD) (p:Ph) (OB LPB MB s q:Nat) (sub:MdlD) (w:World) (hA:LibA N l a c LB NB SB cnt w) (hN:N<=lo) (hLB:LB<lo) (hNB:NB<lo) (hz:lo<=w.heap.size)
   (hX:ExS lo m pm out p OB LPB MB LB w) (hmm:Mod (fun _=>OldB N) w m pm) (hq:q<l.length) (hs:s<m.vers.length) (hSo:San out) (hPo:Pre m out) (hSs:San sub) (hvs:l[q].vers.length<=sub.vers.length) (hlen:LeS (lens (putM sub l[q] m s out)) (100000,100000,100000))
   (hpt:∀ x ∈ ptsM m s,(bnd (verG m x) l[q]).isSome=true) (hkd:∀ v (h:v<m.vers.length),m.vers[v].ofv=s->m.vers[v].kd=10\/m.vers[v].kd=11) (hmv:m.vers.length<=10000) (hqv:l[q].vers.length<=10000) (hll:l.length<=100000)
   (hR:∀ wx,LibA N l a c LB NB SB cnt wx->Calls Tryz.prog 29 #[.pointer (some ⟨LB,0,none⟩),.int .i64 q] wx fun e w'=>∃ p',e=.returned (mdV sub p')/\OwnM wx.heap.size w' sub p'/\Below wx.heap.size wx w') :
   Calls Tryz.prog 52 #[.int .i64 s,.int .i64 q,.pointer (some ⟨OB,0,none⟩),.pointer (some ⟨LPB,0,none⟩),.pointer (some ⟨MB,0,none⟩)] w fun e w'=>e=.returned (.bool true)/\∃ p',ExS lo m pm (putM sub l[q] m s out) p' OB LPB MB LB w'/\Below lo w w':=by
 have hl2:=hlen
 rw [lens_putM] at hl2
 obtain ⟨ln1,ln2,ln3⟩:=hl2
 unfold lens addS at ln1 ln2 ln3
 dsimp only at ln1 ln2 ln3
 have HX:=hid hX
 have HA:=hid hA
 obtain ⟨x0,x1,x2,x3,x4,x5,_⟩:=hX.ob |> mBox.box
 have xl:=cell_at hX.lp
 have HR1:Hid (∀ wx,Below w.heap.size w wx->Calls Tryz.prog 29 #[.pointer (some ⟨LB,0,none⟩),.int .i64 q] wx fun e w'=>∃ p',e=.returned (mdV sub p')/\OwnM w.heap.size w' sub p'/\Below wx.heap.size wx w'):=hid fun wx g=>(hR wx (hA.below g)).mono fun e w' ⟨p',h1,h2,h3⟩=>⟨p',h1,h2.mono g.size,h3⟩
 have HSh:Hid (∀ wx px,OwnM w.heap.size wx sub px->w.heap.size<=wx.heap.size->Calls Tryz.prog 53 #[mdV sub px,.int .i64 out.regs.length,.int .i64 out.vers.length,.int .i64 s] wx fun e w'=>e=.returned (mdV sub px)/\OwnM w.heap.size w' (shM out.regs.length out.vers.length s sub) px/\GrT w.heap.size T3 wx w'):=hid fun wx px h1 h2=>shifted_any w.heap.size sub px out.regs.length out.vers.length s wx h1 hSs (by unfold LeS lens;dsimp only;omega) (by omega) (by omega) h2
 have HS:Hid (∀ W',Below w.heap.size w W'->W'.cell? ⟨LPB,0,none⟩=some (.pointer (some ⟨LB,0,none⟩))/\W'.cell? ⟨OB,3,none⟩=some (.slice p.a3 out.regs.length p.c3)):=hid fun W' g=>⟨cell_at (hX.below g).lp,(mBox.box (hX.below g).ob).c3⟩
 clear hX hA hR
 go_enter Tryz.func52,Tryz.ntmps52
 go_upto_region 2 with fail
 go_cut [9] (fun s9 wx=>CutE w.heap.size (shM out.regs.length out.vers.length s sub) w s9 wx)
 case first =>
  have hB0:Below w.heap.size w w:=Below.refl _ _
  clear x0 x1 x2 x3 x4 x5 xl
  refine wp_region_any (by kernel_rfl) ?_
  change wpAny _ _ _ _ _ _ _ (World.drew _)
  refine wpAny_sink (n:=10) (o:=⟨none,.store 42 (.tmp 9) (.tmp 25),0, "expand.go:132", #[⟨9,.data⟩,⟨8,.data⟩,⟨8,.chain⟩,⟨0,.phase⟩,⟨1,.phase⟩,⟨2,.phase⟩,⟨3,.phase⟩,⟨4,.phase⟩,⟨5,.phase⟩,⟨6,.phase⟩,⟨7,.phase⟩,⟨8,.phase⟩,⟨9,.phase⟩],none⟩) (ops':=#[⟨some 17,.load 72 (.tmp 3),72, "expand.go:132", #[],none⟩,⟨some 18,.move (.tmp 1),3, "expand.go:132", #[],none⟩,⟨some 19,.call { callee:=.value (.func 29),args:=#[.tmp 17,.tmp 18],argTypes:=#[72,3] },42, "expand.go:132", #[⟨0,.data⟩,⟨1,.data⟩],none⟩,⟨some 20,.fieldAddr 42 (.tmp 2) 3,0, "expand.go:132", #[],none⟩,⟨some 21,.load 38 (.tmp 20),38, "expand.go:132", #[⟨3,.data⟩],none⟩,⟨some 22,.call { callee:=.builtin .len,args:=#[.tmp 21],argTypes:=#[38] },3, "expand.go:132", #[⟨4,.data⟩],none⟩,⟨some 23,.move (.tmp 8),3, "expand.go:132", #[],none⟩,⟨some 24,.move (.tmp 0),3, "expand.go:132", #[],none⟩,⟨some 25,.call { callee:=.value (.func 53),args:=#[.tmp 19,.tmp 22,.tmp 23,.tmp 24],argTypes:=#[42,3,3,3] },42, "expand.go:132", #[⟨2,.data⟩,⟨5,.data⟩,⟨6,.data⟩,⟨7,.data⟩,⟨2,.chain⟩],none⟩,⟨some 9,.alloc 42,0, "expand.go:132", #[],none⟩]) (by decide) (by kernel_rfl) (by rfl) (by rfl) ?_
  refine hld HS.o (hB0.drew) (fun hHeld=>?_)
  refine tk 0 rfl ?_
  refine tk 1 rfl ?_
  refine tk 3 rfl ?_
  refine tk 4 rfl ?_
  refine tk 5 rfl ?_
  refine tk 6 rfl ?_
  refine tk 7 rfl ?_
  refine rdy [2,9] ?_
  refine rdC rfl (fun K hK=>?_) ?_
  (go_simp;(with_reducible refine (HR1.o _ (by first | exact hB7 | exact hB0.drew)).mono ?_);rintro e w5 ⟨p5,rfl,ho5,hb5⟩;have hB5:Below w.heap.size w w5:=(by first | exact hB7.trans (hb5.mono hB7.size) | exact hB0.drew.trans hb5);go_wp2_with fail)
  refine nx hK ?_ (fun hH1=>?_)
  (first | exact HS.o _ hB0.drew | exact HS.o _ (by assumption) | exact HS.o _ hB7)
  clear hK K hHeld
  refine rdy [8,9] ?_
  refine rdC rfl (fun K hK=>?_) ?_
  (go_simp;(with_reducible refine (HSh.o _ p5 (by first | exact ho5 | exact ho5.below (below_al1 _ _)) (by first | exact hB5.size | exact hB7.size)).mono ?_);rintro e w6 ⟨rfl,ho6,hg6⟩;have hB6:Below w.heap.size w w6:=(by first | exact hB5.trans (hg6.below (Nat.le_refl _) hB5.size) | exact hB7.trans (hg6.below (Nat.le_refl _) hB7.size));unfold mdV;go_wp2_with fail)
  refine nx hK ?_ (fun hH2=>?_)
  (first | exact HS.o _ hB0.drew | exact HS.o _ (by assumption) | exact HS.o _ hB7)
  clear hK K hH1
  refine rd1 9 (fun K hK=>?_)
  (go_simp;(first | have hB7:=hB6.alloc hB6.size zeroM | have hB7:=hB5.alloc hB5.size zeroM | have hB7:=(hB0.alloc (Nat.le_refl _) zeroM).drew);unfold zeroM at hB7)
  refine nx hK ?_ (fun hH3=>?_)
  (first | exact HS.o _ hB0.drew | exact HS.o _ (by assumption) | exact HS.o _ hB7)
  clear hK K hH2
  refine dn ?_
  rotate_left
  refine rdC rfl (fun K hK=>?_) ?_
  (go_simp;(first | have hB7:=hB6.alloc hB6.size zeroM | have hB7:=hB5.alloc hB5.size zeroM | have hB7:=(hB0.alloc (Nat.le_refl _) zeroM).drew);unfold zeroM at hB7)
  refine nx hK ?_ (fun hH4=>?_)
  (first | exact HS.o _ hB0.drew | exact HS.o _ (by assumption) | exact HS.o _ hB7)
  clear hK K hH1
  refine rd1 8 (fun K hK=>?_)
  (go_simp;(with_reducible refine (HSh.o _ p5 (by first | exact ho5 | exact ho5.below (below_al1 _ _)) (by first | exact hB5.size | exact hB7.size)).mono ?_);rintro e w6 ⟨rfl,ho6,hg6⟩;have hB6:Below w.heap.size w w6:=(by first | exact hB5.trans (hg6.below (Nat.le_refl _) hB5.size) | exact hB7.trans (hg6.below (Nat.le_refl _) hB7.size));unfold mdV;go_wp2_with fail)
  refine nx hK ?_ (fun hH5=>?_)
  (first | exact HS.o _ hB0.drew | exact HS.o _ (by assumption) | exact HS.o _ hB7)
  clear hK K hH4
  refine dn ?_
  rotate_left
  exact AllReadyH.nil
  refine rdC rfl (fun K hK=>?_) ?_
  (go_simp;(first | have hB7:=hB6.alloc hB6.size zeroM | have hB7:=hB5.alloc hB5.size zeroM | have hB7:=(hB0.alloc (Nat.le_refl _) zeroM).drew);unfold zeroM at hB7)
  refine nx hK ?_ (fun hH6=>?_)
  (first | exact HS.o _ hB0.drew | exact HS.o _ (by assumption) | exact HS.o _ hB7)
  clear hK K hHeld
  refine rd1 2 (fun K hK=>?_)
  (go_simp;(with_reducible refine (HR1.o _ (by first | exact hB7 | exact hB0.drew)).mono ?_);rintro e w5 ⟨p5,rfl,ho5,hb5⟩;have hB5:Below w.heap.size w w5:=(by first | exact hB7.trans (hb5.mono hB7.size) | exact hB0.drew.trans hb5);go_wp2_with fail)
  refine nx hK ?_ (fun hH7=>?_)
  (first | exact HS.o _ hB0.drew | exact HS.o _ (by assumption) | exact HS.o _ hB7)
  clear hK K hH6
  refine rd1 8 (fun K hK=>?_)
  (go_simp;(with_reducible refine (HSh.o _ p5 (by first | exact ho5 | exact ho5.below (below_al1 _ _)) (by first | exact hB5.size | exact hB7.size)).mono ?_);rintro e w6 ⟨rfl,ho6,hg6⟩;have hB6:Below w.heap.size w w6:=(by first | exact hB5.trans (hg6.below (Nat.le_refl _) hB5.size) | exact hB7.trans (hg6.below (Nat.le_refl _) hB7.size));unfold mdV;go_wp2_with fail)
  refine nx hK ?_ (fun hH8=>?_)
  (first | exact HS.o _ hB0.drew | exact HS.o _ (by assumption) | exact HS.o _ hB7)
  clear hK K hH7
  refine dn ?_
  rotate_left
  exact AllReadyH.nil
  all_goals
    refine sinkQ_of fun K hK=>?_
    first
      | (have hZ:w6.heap[w.heap.size]? = some zeroM:=hg6.zero ((hb5.block _ (by simp)).trans (World.alloc_heap_new w zeroM))
         obtain ⟨z0,z1,z2,z3,z4,z5,y0,y1,y2,y3,y4,y5⟩:=zero_box hZ
         have hW:CutE w.heap.size _ w _ _:=cutE_six hZ ho6 hB6 (Nat.le_refl _)
         go_simp
         refine hK _ _ ?_
         clear hK K
         go_wp2_with fail
         go_meet
         exact hW)
      | (have hZ:w6.heap[w5.heap.size]? = some zeroM:=hg6.zero (World.alloc_heap_new w5 zeroM)
         obtain ⟨z0,z1,z2,z3,z4,z5,y0,y1,y2,y3,y4,y5⟩:=zero_box hZ
         have hW:CutE w.heap.size _ w _ _:=cutE_six hZ ho6 hB6 hB5.size
         go_simp
         refine hK _ _ ?_
         clear hK K
         go_wp2_with fail
         go_meet
         exact hW)
      | (have hW:CutE w.heap.size _ w _ _:=cutE_new ho6 hB6 hB6.size
         go_simp
         refine hK _ _ ?_
         clear hK K
         go_wp2_with fail
         go_meet
         exact hW)
 case rest =>
  clear x0 x1 x2 x3 x4 x5 xl HR1 HSh HS
  obtain ⟨XB,px,rfl,hXb,hXo,hXw,hXl⟩:=hcut
  have hLne:=HX.o.lp_ne
  have hOH:OB<w.heap.size:=(Array.getElem?_eq_some_iff.1 HX.o.ob).1
  obtain ⟨sh,hsh⟩:∃ sh,sh=shM out.regs.length out.vers.length s sub:=⟨_,rfl⟩
  have hsr:sh.regs.length=sub.regs.length:=by rw [hsh];simp [shM,mvR_len]
  have hsv:sh.vers.length=sub.vers.length:=by rw [hsh];simp [shM]
  have hst:sh.trns.length=sub.trns.length:=by rw [hsh];simp [shM]
  rw [<- hsh] at hXb hXo
  have HSH:=hid hsh
  clear hsh
  obtain ⟨H,hH⟩:∃ H,H=w.heap.size:=⟨_,rfl⟩
  rw [<- hH] at hXo hXw hXl hOH hz
  have hHe:H<=w.heap.size:=by omega
  have hT0:ExT lo H m pm out p sh px OB LPB MB LB XB w wc:=⟨HX.o.below (by rw [<- hH];exact hXw),hXb,hXw.mono hz,hOH,hXl,by have:=hXw.size;omega⟩
  have hsl:s<out.vers.length:=Nat.lt_of_lt_of_le hs hPo.vl
  obtain ⟨b,o,ha,hbl,_⟩:=HX.o.own.mod.vers.get hsl
  rw [<- hH] at hbl
  clear hH
  have hzc:=hT0.hz
  obtain ⟨_,⟨_,_,_,_,_,_,_,_,_,h7⟩⟩:∃ _:Nat,VerE (TB lo 9) wc b (o+s * 8) out.vers[s]:=⟨0,by
    obtain ⟨b',o',ha',_,he⟩:=hT0.ex.own.mod.vers.get hsl
    rw [ha] at ha'
    simp only [Option.some.injEq,Addr.mk.injEq] at ha'
    obtain ⟨rfl,rfl,_⟩:=ha'
    exact he⟩
  have hf7:=(hT0.ex.own.mod.vers.block ha (by omega)).2.free (k:=o+s * 8+7)
  obtain ⟨o1,ho1⟩:∃ o1:MdlD,o1={ out with vers:=out.vers.modify s fun y=>{ y with sb:=⟨#[]⟩ } }:=⟨_,rfl⟩
  have hT1:ExT lo H m pm o1 p sh px OB LPB MB LB XB w (wc.setCell ⟨b,o+s * 8+7,none⟩ (.string ⟨#[]⟩)):=by
    obtain ⟨g1,g2⟩:=hT0.ex.own.verSb ha hsl ⟨#[]⟩
    rw [<- ho1] at g1
    exact hT0.step g2.v3 (by omega) g1 (by rw [ho1];unfold mBox;simp)
  have hX1:OwnM H (wc.setCell ⟨b,o+s * 8+7,none⟩ (.string ⟨#[]⟩)) sh px:=hXo.above (by simp) fun x hx _=>Below.heap_setCell _ _ _ _ (by simp only;omega)
  have hl1:o1.regs.length=out.regs.length/\o1.vers.length=out.vers.length/\o1.trns.length=out.trns.length:=by rw [ho1];simp
  obtain ⟨x0,x1,x2,x3,x4,x5,_⟩:=mBox.box hT0.ex.ob
  rw [ha] at x4
  have hsI:(s:Int)<(out.vers.length:Int):=by omega
  have hs0:(0:Int)<=(s:Int):=by omega
  have hn3:o1.regs.length+sh.regs.length<=1000000:=by omega
  have hn4:o1.vers.length+sh.vers.length<=1000000:=by omega
  have hn5:o1.trns.length+sh.trns.length<=1000000:=by omega
  have HL1:=hid (And.intro hl1 (And.intro hsr (And.intro hsv hst)))
  clear hl1 hsr hsv hst
  have HT1:=hid hT1
  have HX1:=hid hX1
  have HO1:=hid ho1
  clear hT0 hXb hXo hXw hT1 hX1 ho1
  go_upto_region 4 with fail
  generalize wc.setCell ⟨b,o+s * 8+7,none⟩ (.string ⟨#[]⟩)=W1 at *
  clear x0 x1 x2 x3 x4 x5 h7 hf7 hbl ha hsI
  -- the regions
  obtain ⟨iR,hiR,zR0,zR1,zR2⟩:=info_parts info_Reg
  obtain ⟨iV,hiV,zV0,zV1,zV2⟩:=info_parts info_Ver
  obtain ⟨iT,hiT,zT0,zT1,zT2⟩:=info_parts info_Trn
  obtain ⟨x0,x1,x2,x3,x4,x5,_⟩:=mBox.box HT1.o.ex.ob
  obtain ⟨y0,y1,y2,y3,y4,y5,_⟩:=mBox.box HT1.o.xb
  have hz1:=HT1.o.hz
  go_upto_region 5 with (at_builtin;refine wpList_append_sl RegE.moves _ rfl _ _ 38 rfl 57 iR _ 24 Tryz.underlying38 hiR zR0 zR1 zR2 rfl (by decide) (by decide) rfl rfl HT1.o.ex.own.mod.regs HT1.o.ex.own.own.o3 HX1.o.mod.regs (by omega) (by omega) ?_;intro a3 c3 w4 ho4 hg4 hs4;obtain ⟨x0,x1,x2,x3,x4,x5,f0,f1,f2,f3,f4,f5⟩:=mBox.box (hg4.r3.same HT1.o.ex.ob not3.1))
  clear x0 x1 x2 x3 x4 x5 f0 f1 f2 f3 f4 f5 y0 y1 y2 y3 y4 y5
  obtain ⟨o2,ho2⟩:∃ o2:MdlD,o2={ o1 with regs:=o1.regs ++ sh.regs }:=⟨_,rfl⟩
  obtain ⟨p2,hp2⟩:∃ p2:Ph,p2={ p with a3:=a3,c3:=c3 }:=⟨_,rfl⟩
  have hat:=(AtB.refl OB w4).set 3 (.slice a3 (o1.regs.length+sh.regs.length) c3)
  have hob:=hg4.r3.same HT1.o.ex.ob not3.1
  have hT2:ExT lo H m pm o2 p2 sh px OB LPB MB LB XB w (w4.setCell ⟨OB,3,none⟩ (.slice a3 (o1.regs.length+sh.regs.length) c3)):=by
    refine HT1.o.grow hg4.r3 (by omega) ?_ ?_ hLne
    . rw [ho2,hp2]
      exact HT1.o.ex.own.app3 hg4 ho4 (hs4 trivial)
    . have:=mBox.set3 hob (o1.regs ++ sh.regs) a3 c3
      rw [List.length_append] at this
      rw [this,ho2,hp2]
  have hV2:Sl (TB H 49) 8 (VerE (TB lo 9)) (w4.setCell ⟨OB,3,none⟩ (.slice a3 (o1.regs.length+sh.regs.length) c3)) (.slice px.a4 sh.vers.length px.c4) sh.vers:=(((HX1.o.mod.vers.weaken (Q':=TB H 49) (E':=VerE (TB lo 9)) (fun _ _ h=>h) fun _ _ _ h=>h.weaken fun _ _ h=>TB.mono h (by omega)).kept VerE.mono (hg4.keep (by decide)) (hg4.keep (by decide))).kept VerE.mono (hat.keptT hob (by decide)) (hat.keptT hob (by decide)))
  have hW2:Sl (TB H 59) 8 (TrnE (TB lo 9)) (w4.setCell ⟨OB,3,none⟩ (.slice a3 (o1.regs.length+sh.regs.length) c3)) (.slice px.a5 sh.trns.length px.c5) sh.trns:=(((HX1.o.mod.trns.weaken (Q':=TB H 59) (E':=TrnE (TB lo 9)) (fun _ _ h=>h) fun _ _ _ h=>h.weaken fun _ _ h=>TB.mono h (by omega)).kept TrnE.mono (hg4.keep (by decide)) (hg4.keep (by decide))).kept TrnE.mono (hat.keptT hob (by decide)) (hat.keptT hob (by decide)))
  have HV2:=hid hV2
  have HW2:=hid hW2
  have HT2:=hid hT2
  have HO2:=hid (And.intro ho2 hp2)
  have hq4:o2.vers.length+sh.vers.length<=1000000:=by rw [ho2];exact hn4
  have hq5:o2.trns.length+sh.trns.length<=1000000:=by rw [ho2];exact hn5
  clear hat hob hT2 hV2 hW2 ho2 hp2 hg4 ho4 hs4 HX1 HT1 hn3 hn4 hn5 hz1
  generalize w4.setCell ⟨OB,3,none⟩ (.slice a3 (o1.regs.length+sh.regs.length) c3)=W2 at *
  -- the vertices
  obtain ⟨x0,x1,x2,x3,x4,x5,_⟩:=mBox.box HT2.o.ex.ob
  obtain ⟨y0,y1,y2,y3,y4,y5,_⟩:=mBox.box HT2.o.xb
  have hz1:=HT2.o.hz
  go_upto_region 6 with (at_builtin;refine wpList_append_sl (VerE.moves (R:=TB lo 9)) _ rfl _ _ 39 rfl 49 iV _ 112 Tryz.underlying39 hiV zV0 zV1 zV2 rfl (by decide) (by decide) rfl rfl HT2.o.ex.own.mod.vers HT2.o.ex.own.own.o4 HV2.o (by omega) (by omega) ?_;intro a4 c4 w5 ho5 hg5 hs5;obtain ⟨x0,x1,x2,x3,x4,x5,f0,f1,f2,f3,f4,f5⟩:=mBox.box (hg5.v3.same HT2.o.ex.ob not3.1))
  clear x0 x1 x2 x3 x4 x5 f0 f1 f2 f3 f4 f5 y0 y1 y2 y3 y4 y5
  obtain ⟨o3,ho3⟩:∃ o3:MdlD,o3={ o2 with vers:=o2.vers ++ sh.vers }:=⟨_,rfl⟩
  obtain ⟨p3,hp3⟩:∃ p3:Ph,p3={ p2 with a4:=a4,c4:=c4 }:=⟨_,rfl⟩
  have hat:=(AtB.refl OB w5).set 4 (.slice a4 (o2.vers.length+sh.vers.length) c4)
  have hob:=hg5.v3.same HT2.o.ex.ob not3.1
  have hT3:ExT lo H m pm o3 p3 sh px OB LPB MB LB XB w (w5.setCell ⟨OB,4,none⟩ (.slice a4 (o2.vers.length+sh.vers.length) c4)):=by
    refine HT2.o.grow hg5.v3 (by omega) ?_ ?_ hLne
    . rw [ho3,hp3]
      exact HT2.o.ex.own.app4 hg5 ho5 (hs5 (hg5.keep (by decide)))
    . have:=mBox.set4 hob (o2.vers ++ sh.vers) a4 c4
      rw [List.length_append] at this
      rw [this,ho3,hp3]
  have hW3:Sl (TB H 59) 8 (TrnE (TB lo 9)) (w5.setCell ⟨OB,4,none⟩ (.slice a4 (o2.vers.length+sh.vers.length) c4)) (.slice px.a5 sh.trns.length px.c5) sh.trns:=(HW2.o.kept TrnE.mono (hg5.keep (by decide)) (hg5.keep (by decide))).kept TrnE.mono (hat.keptT hob (by decide)) (hat.keptT hob (by decide))
  have HW3:=hid hW3
  have HT3:=hid hT3
  have HO3:=hid (And.intro ho3 hp3)
  have hr5:o3.trns.length+sh.trns.length<=1000000:=by rw [ho3];exact hq5
  clear hat hob hT3 hW3 ho3 hp3 hg5 ho5 hs5 HV2 HW2 HT2 hq4 hq5 hz1
  generalize w5.setCell ⟨OB,4,none⟩ (.slice a4 (o2.vers.length+sh.vers.length) c4)=W3 at *
  -- the transitions
  obtain ⟨x0,x1,x2,x3,x4,x5,_⟩:=mBox.box HT3.o.ex.ob
  obtain ⟨y0,y1,y2,y3,y4,y5,_⟩:=mBox.box HT3.o.xb
  have hz1:=HT3.o.hz
  go_upto_region 7 with (at_builtin;refine wpList_append_sl (TrnE.moves (R:=TB lo 9)) _ rfl _ _ 40 rfl 59 iT _ 104 Tryz.underlying40 hiT zT0 zT1 zT2 rfl (by decide) (by decide) rfl rfl HT3.o.ex.own.mod.trns HT3.o.ex.own.own.o5 HW3.o (by omega) (by omega) ?_;intro a5 c5 w6 ho6 hg6 hs6;obtain ⟨x0,x1,x2,x3,x4,x5,f0,f1,f2,f3,f4,f5⟩:=mBox.box (hg6.t3.same HT3.o.ex.ob not3.1))
  clear x0 x1 x2 x3 x4 x5 f0 f1 f2 f3 f4 f5 y0 y1 y2 y3 y4 y5
  obtain ⟨o4,ho4⟩:∃ o4:MdlD,o4={ o3 with trns:=o3.trns ++ sh.trns }:=⟨_,rfl⟩
  obtain ⟨p4,hp4⟩:∃ p4:Ph,p4={ p3 with a5:=a5,c5:=c5 }:=⟨_,rfl⟩
  have hat:=(AtB.refl OB w6).set 5 (.slice a5 (o3.trns.length+sh.trns.length) c5)
  have hob:=hg6.t3.same HT3.o.ex.ob not3.1
  have hT4:ExT lo H m pm o4 p4 sh px OB LPB MB LB XB w (w6.setCell ⟨OB,5,none⟩ (.slice a5 (o3.trns.length+sh.trns.length) c5)):=by
    refine HT3.o.grow hg6.t3 (by omega) ?_ ?_ hLne
    . rw [ho4,hp4]
      exact HT3.o.ex.own.app5 hg6 ho6 (hs6 (hg6.keep (by decide)))
    . have:=mBox.set5 hob (o3.trns ++ sh.trns) a5 c5
      rw [List.length_append] at this
      rw [this,ho4,hp4]
  have HP4:Hid (o4=put1 sub s out):=hid (by
    rw [ho4,HO3.o.1,HO2.o.1,HO1.o,HSH.o]
    rfl)
  rw [HP4.o] at hT4
  have HT4:=hid hT4
  clear hat hob hT4 ho4 hp4 hg6 ho6 hs6 HW3 HT3 hr5 hz1 HP4 HO3 HO2 HO1 HSH HL1
  generalize w6.setCell ⟨OB,5,none⟩ (.slice a5 (o3.trns.length+sh.trns.length) c5)=W4 at *
  have HPt:Hid (∀ wx,LibA N l a c LB NB SB cnt wx->True):=hid fun _ _=>trivial
  have hM4:Below N w W4:=HT4.o.bel.mono hN
  have HPC:=hid (points_any m pm s W4 (hmm.keptN hM4) hmv)
  unfold mdV at HPC
  obtain ⟨x0,x1,x2,x3,x4,x5,_⟩:=mBox.box HT4.o.ex.mb
  have hz1:=HT4.o.hz
  clear hM4 HPt
  go_upto_region 8 with ((with_reducible refine (HPC.o).mono ?_);rintro e w7 ⟨v7,rfl,hown7,hb7⟩;obtain ⟨ap,cp,rfl⟩:=ownsRow_slice hown7)
  clear x0 x1 x2 x3 x4 x5 HPC
  obtain ⟨pts,hpe⟩:=ex2 (ptsM m s)
  obtain ⟨fst,hfe⟩:=ex2 out.vers.length
  have hput:San (put1 sub s out)/\Pre m (put1 sub s out):=⟨hSo.put hSs hsl,hPo.put⟩
  have hpv:fst+l[q].vers.length<=(put1 sub s out).vers.length:=by rw [<- hfe];simp [put1];exact hvs
  have HLN:Hid (∀ ps,ps <+: pts->LeS (lens (tiesM l[q] fst (put1 sub s out) ps)) (100000,100000,100000)):=hid fun ps hp=>by
    rw [lens_ties,lens_put1]
    have:=hp.length_le
    rw [hpe] at ln3
    unfold LeS lens addS
    dsimp only
    omega
  have HPV:=hid hpv
  have HSt:Hid (∀ j,San (tiesM l[q] fst (put1 sub s out) (pts.take j))/\Pre m (tiesM l[q] fst (put1 sub s out) (pts.take j))/\(tiesM l[q] fst (put1 sub s out) (pts.take j)).vers.length=(put1 sub s out).vers.length):=hid fun j=>ties_step (by rw [<- hfe];exact hPo.vl) _ _ hput.1 hput.2 hpv fun x hx=>by
    rw [<- hpe] at hx
    have hx':=List.mem_of_mem_take hx
    obtain ⟨k,hk,rfl,_⟩:=pts_at hx'
    exact ⟨k,rfl,hk,hpt _ hx'⟩
  have HPM:Hid (∀ x ∈ pts,∃ v:Nat,∃ hv:v<m.vers.length,x=(v:Int)/\(m.vers[v].kd=10\/m.vers[v].kd=11)/\verG m x=m.vers[v]/\∃ n:Nat,n<l[q].vers.length/\bndI m.vers[v] l[q]=(n:Int)):=hid fun x hx=>by
    rw [<- hpe] at hx
    obtain ⟨v,hv,rfl,ho,hg⟩:=pts_mem hx
    have hb:=hpt _ hx
    rw [hg] at hb
    obtain ⟨n,hn,e,_⟩:=bndI_some hb
    exact ⟨v,hv,rfl,hkd v hv ho,hg,n,hn,e⟩
  have HEnd:Hid (putM sub l[q] m s out=tiesM l[q] fst (put1 sub s out) pts):=hid (by unfold putM;rw [hpe,hfe])
  rw [hpe] at hown7
  have hfl:fst<=100000:=by omega
  have hpl:pts.length<=100000:=by have:=pts_len m s;rw [hpe] at this;omega
  obtain ⟨n,hn⟩:=ex2 pts.length
  have HN:=hid hn
  have HO7:Hid (w7.ownsRow H 3 1 (.slice ap n cp) n (nums pts)):=hid (by rw [<- hn];exact hown7.mono hz1)
  have HT7:Hid (ExT lo H m pm (put1 sub s out) p4 sh px OB LPB MB LB XB w w7):=hid (HT4.o.below (by omega) hb7)
  have HLibN:=hid fun wx (g:Below lo w wx)=>(⟨(g.cell (p:=⟨LB,0,none⟩) hLB).trans HA.o.c0,HA.o.lib.below (g.mono hN)⟩:wx.cell? ⟨LB,0,none⟩=some (.slice a l.length c)/\LibV N wx (.slice a l.length c) l)
  have HMo:=hid fun wx (g:Below lo w wx)=>hmm.keptN (g.mono hN)
  rw [hpe,hn,hfe]
  clear hown7 hb7 HT4 hn hpe hput hpv hpt hkd hmm HA hSo hPo hSs hlen ln1 ln2 ln3 hvs hfe
  go_loopw [53] (fun i wr=>∃ j:Nat,j<=n/\i=.int .i64 j/\wr.ownsRow H 3 1 (.slice ap n cp) n (nums pts)/\∃ pj,ExT lo H m pm (tiesM l[q] fst (put1 sub s out) (pts.take j)) pj sh px OB LPB MB LB XB w wr) (fun i _=>n - (intOf i).toNat)
  case atStart=>exact ⟨0,by omega,rfl,HO7.o,p4,by rw [List.take_zero];exact HT7.o⟩
  case round =>
   obtain ⟨wo,rfl⟩:=ex1 wr
   obtain ⟨j,hj,rfl,ho,pj,hT⟩:=hrel
   clear HT7 HO7
   obtain ⟨oj,hoj⟩:=ex2 (tiesM l[q] fst (put1 sub s out) (pts.take j))
   rw [hoj] at hT
   have HOJ:=hid hoj
   clear hoj
   have HO:=hid ho
   have HT:=hid hT
   by_cases hlt:j<n
   . have hjI:(j:Int)<(n:Int):=by omega
     have hj0:(0:Int)<=(j:Int):=by omega
     have hjl:j<pts.length:=by have:=HN.o;omega
     obtain ⟨v,hv,hpx,hkv,hgv,k,hk,hbk⟩:=HPM.o _ (List.getElem_mem hjl)
     obtain ⟨g,cg,hag,hgH,hgl⟩:=ho.form (by omega)
     simp only [Value.slice.injEq] at hag
     obtain rfl:=hag.1
     clear hag
     have hcj:wo.cell? ⟨g,j,none⟩=some (.int .i64 v):=(ho.cellAt j (by omega)).trans (by simp [nums,hjl,hpx])
     have hz0:=hT.hz
     -- the model,the library
     have hmo:=HMo.o wo hT.bel
     obtain ⟨hlc0,hlv⟩:=HLibN.o wo hT.bel
     obtain ⟨b1,o1',ea,hb1,pq,hmq,r0,r1,r2,r3,r4,r5⟩:=hlv.get hq
     obtain ⟨b2,o2',e2,hb2,dv,hdv,s0,s1,s2,s3,s4,s5,s6,s7⟩:=hmo.vers.get hv
     obtain ⟨da,dc,rfl⟩:=hdv.len
     have hm4:=(mBox.box hT.ex.mb).c4
     rw [e2] at hm4
     rw [ea] at hlc0
     have hlp:=cell_at hT.ex.lp
     obtain ⟨y,hy⟩:=ex2 (m.vers[v])
     obtain ⟨x,hx⟩:=ex2 (l[q])
     rw [hy] at s0 s1 s2 s3 s4 s5 s6 s7 hkv hgv hbk
     rw [hx] at r0 r1 r2 r3 r4 r5 hmq hbk hk
     have HC:=hid fun (wx:World) (g:Below wo.heap.size wo wx)=>bound_any y da dc x pq wx (hmq.keptN (g.mono (by omega))) hkv (by rw [<- hx];exact hqv)
     unfold verA mdV at HC
     rw [hbk] at HC
     have HS:Hid (∀ W',Below wo.heap.size wo W'->W'.cell? ⟨MB,4,none⟩=some (.slice (some ⟨b2,o2',none⟩) m.vers.length pm.c4)/\W'.cell? ⟨LPB,0,none⟩=some (.pointer (some ⟨LB,0,none⟩))/\W'.cell? ⟨LB,0,none⟩=some (.slice (some ⟨b1,o1',none⟩) l.length c) /\
         (W'.cell? ⟨b2,o2'+v * 8,none⟩=some (.string y.nm)/\W'.cell? ⟨b2,o2'+v * 8+1,none⟩=some (.int .u8 y.kd)/\W'.cell? ⟨b2,o2'+v * 8+2,none⟩=some (.int .i64 y.rg)/\W'.cell? ⟨b2,o2'+v * 8+3,none⟩=some (.int .i64 y.ofv)/\W'.cell? ⟨b2,o2'+v * 8+4,none⟩=some (.string y.en)/\W'.cell? ⟨b2,o2'+v * 8+5,none⟩=some (.string y.ex)/\W'.cell? ⟨b2,o2'+v * 8+6,none⟩=some (.slice da y.df.length dc)/\W'.cell? ⟨b2,o2'+v * 8+7,none⟩=some (.string y.sb)) /\
         (W'.cell? ⟨b1,o1'+q * 6,none⟩=some (.string x.nm)/\W'.cell? ⟨b1,o1'+q * 6+1,none⟩=some (.slice pq.a1 x.vars.length pq.c1)/\W'.cell? ⟨b1,o1'+q * 6+2,none⟩=some (.slice pq.a2 x.evs.length pq.c2)/\W'.cell? ⟨b1,o1'+q * 6+3,none⟩=some (.slice pq.a3 x.regs.length pq.c3)/\W'.cell? ⟨b1,o1'+q * 6+4,none⟩=some (.slice pq.a4 x.vers.length pq.c4)/\W'.cell? ⟨b1,o1'+q * 6+5,none⟩=some (.slice pq.a5 x.trns.length pq.c5))):=hid fun W' g =>
       have k:∀ b o u,b<wo.heap.size->wo.cell? ⟨b,o,none⟩=some u->W'.cell? ⟨b,o,none⟩=some u:=fun b o u hb h=>(g.cell (p:=⟨b,o,none⟩) hb).trans h
       ⟨k _ _ _ (World.block_lt_of_cell? wo _ hm4) hm4,k _ _ _ (World.block_lt_of_cell? wo _ hlp) hlp,k _ _ _ (World.block_lt_of_cell? wo _ hlc0) hlc0,⟨k _ _ _ hb2 s0,k _ _ _ hb2 s1,k _ _ _ hb2 s2,k _ _ _ hb2 s3,k _ _ _ hb2 s4,k _ _ _ hb2 s5,k _ _ _ hb2 s6,k _ _ _ hb2 s7⟩,⟨k _ _ _ hb1 r0,k _ _ _ hb1 r1,k _ _ _ hb1 r2,k _ _ _ hb1 r3,k _ _ _ hb1 r4,k _ _ _ hb1 r5⟩⟩
     have hvI:(v:Int)<(m.vers.length:Int):=by omega
     have hv0:(0:Int)<=(v:Int):=by omega
     have hqI:(q:Int)<(l.length:Int):=by omega
     have hq0:(0:Int)<=(q:Int):=by omega
     have hkl:k<=100000:=by have:=hqv;rw [hx] at this;omega
     obtain ⟨tg,hto⟩:∃ tg:Nat,fst+k=tg:=⟨_,rfl⟩
     have hw:IntKind.i64.wrap ((fst:Int)+k)=(tg:Int):=by rw [IntWalk.i64_in _ ⟨by omega,by omega⟩];omega
     have HX9:Hid (l[q]=x):=hid hx
     rw [hpx] at hgv
     have HG9:Hid (verG m (v:Int)=y):=hid hgv
     have HP9:Hid (pts[j]=(v:Int)):=hid hpx
     have HB9:Hid (bndI y x=(k:Int)):=hid hbk
     have HK9:Hid (k<x.vers.length):=hid hk
     have HTo:=hid hto
     have htl:tg<=1000000:=by omega
     have hB0:Below wo.heap.size wo wo:=Below.refl _ _
     clear ho hT hmo hlc0 hlv hmq hdv e2 ea hm4 hlp hy hx hgv hpx hbk hk hkv hto r0 r1 r2 r3 r4 r5 s0 s1 s2 s3 s4 s5 s6 s7
     go_upto_region 10 with fail
     clear hcj
     refine wp_region_any (by kernel_rfl) ?_
     change wpAny _ _ _ _ _ _ _ (World.drew _)
     refine hld HS.o (hB0.drew) (fun hHeld=>?_)
     refine tk 0 rfl ?_
     refine tk 1 rfl ?_
     refine tk 2 rfl ?_
     refine tk 3 rfl ?_
     refine tk 4 rfl ?_
     refine tk 5 rfl ?_
     refine tk 6 rfl ?_
     refine tk 7 rfl ?_
     refine tk 8 rfl ?_
     refine tk 9 rfl ?_
     refine tk 10 rfl ?_
     refine tk 11 rfl ?_
     refine tk 12 rfl ?_
     refine rd1 13 (fun K hK=>?_)
     (go_simp;(with_reducible refine (HC.o _ hB0.drew).mono ?_);rintro e w9 ⟨rfl,g9⟩;have hB9:Below wo.heap.size wo w9:=hB0.drew.trans (g9.mono hB0.drew.size);go_wp2_with fail)
     refine nx hK ?_ (fun hH1=>?_)
     (first | exact HS.o _ hB0.drew | exact HS.o _ (by assumption))
     clear hK K hHeld
     refine tk 14 rfl ?_
     refine tk 15 rfl ?_
     refine dn ?_
     rotate_left
     all_goals
       have hT9:=HT.o.below (by omega) hB9
       have hO9:=row_grt HO.o (GrT.of_below (lo:=lo) (S:=T3) hB9) (by unfold T3;decide)
       obtain ⟨c1,_,_,⟨_,c2,_⟩,_⟩:=HS.o w9 hB9
       have hbm:=World.block_lt_of_cell? w9 _ c1
       have hbv:=World.block_lt_of_cell? w9 _ c2
       have hz9:=hT9.hz
       have hzl:lo<=w9.heap.size:=by omega
       -- the answer,whatever happens to the transition
       have hAt:=World.alloc_heap_new w9 (.cells #[.string ⟨#[]⟩,.int .i64 v,.int .i64 tg,.slice none 0 0,.int .i64 0,.string ⟨#[]⟩,.string ⟨#[]⟩,.int .u8 1] 59)
       have hBt:=below_al1 w9 (.cells #[.string ⟨#[]⟩,.int .i64 v,.int .i64 tg,.slice none 0 0,.int .i64 0,.string ⟨#[]⟩,.string ⟨#[]⟩,.int .u8 1] 59)
       have d1:=(hBt.cell (p:=⟨MB,4,none⟩) hbm).trans c1
       have d2:=(hBt.cell (p:=⟨b2,o2'+v * 8+1,none⟩) hbv).trans c2
       by_cases h11:y.kd=11
       . rw [h11] at d2 c2
         have HT9:=hid hT9
         have HO9:=hid hO9
         have HAt:=hid hAt
         have HBt:=hid hBt
         clear hT9 hO9 hAt hBt
         go_upto_region 14 with fail
         have hT6:=HT9.o.below hzl (below_al1 w9 (.cells #[.string ⟨#[]⟩,.int .i64 tg,.int .i64 v,.slice none 0 0,.int .i64 0,.string ⟨#[]⟩,.string ⟨#[]⟩,.int .u8 1] 59))
         have hO6:=row_grt HO9.o (GrT.of_below (lo:=lo) (S:=T3) (below_al1 w9 (.cells #[.string ⟨#[]⟩,.int .i64 tg,.int .i64 v,.slice none 0 0,.int .i64 0,.string ⟨#[]⟩,.string ⟨#[]⟩,.int .u8 1] 59))) (by unfold T3;decide)
         have hA6:=World.alloc_heap_new w9 (.cells #[.string ⟨#[]⟩,.int .i64 tg,.int .i64 v,.slice none 0 0,.int .i64 0,.string ⟨#[]⟩,.string ⟨#[]⟩,.int .u8 1] 59)
         have hz6:w9.heap.size<(w9.alloc (.cells #[.string ⟨#[]⟩,.int .i64 tg,.int .i64 v,.slice none 0 0,.int .i64 0,.string ⟨#[]⟩,.string ⟨#[]⟩,.int .u8 1] 59)).heap.size:=by simp
         have htv:tg<oj.vers.length:=by
           have h1:=(HSt.o j).2.2
           have h2:=HPV.o
           have h3:=HK9.o
           have h4:=HTo.o
           rw [HOJ.o] at h1
           rw [<- HX9.o] at h3
           omega
         obtain ⟨b4,o4',ha4,hb4,_⟩:=HT9.o.ex.own.mod.vers.get htv
         obtain ⟨b5,o5',ha5,_,he4⟩:=hT6.ex.own.mod.vers.get htv
         rw [ha4] at ha5
         simp only [Option.some.injEq,Addr.mk.injEq] at ha5
         obtain ⟨rfl,rfl,_⟩:=ha5
         obtain ⟨kd,hkd⟩:∃ kd:Nat,oj.vers[tg].kd=kd:=⟨_,rfl⟩
         obtain ⟨_,_,_,e1,_⟩:=he4
         rw [hkd] at e1
         have hf4:=(hT6.ex.own.mod.vers.block ha4 (by omega)).2.free (k:=o4'+tg * 8+1)
         obtain ⟨g1,g2⟩:=HT9.o.ex.own.verKd ha4 htv 5
         obtain ⟨ok,hok⟩:∃ ok:MdlD,ok={ oj with vers:=oj.vers.modify tg fun y=>{ y with kd:=5 } }:=⟨_,rfl⟩
         rw [<- hok] at g1
         have hT8:=HT9.o.step (out':=ok) (p':=pj) g2.v3 hzl g1 (by rw [hok];unfold mBox;simp)
         have hT7:=hT8.below (by simp;omega) (below_al1 (w9.setCell ⟨b4,o4'+tg * 8+1,none⟩ (.int .u8 (5:Nat))) (.cells #[.string ⟨#[]⟩,.int .i64 tg,.int .i64 v,.slice none 0 0,.int .i64 0,.string ⟨#[]⟩,.string ⟨#[]⟩,.int .u8 1] 59))
         have hO7:=row_grt (row_grt HO9.o g2.v3 (by unfold T3;decide)) (GrT.of_below (lo:=lo) (S:=T3) (below_al1 (w9.setCell ⟨b4,o4'+tg * 8+1,none⟩ (.int .u8 (5:Nat))) (.cells #[.string ⟨#[]⟩,.int .i64 tg,.int .i64 v,.slice none 0 0,.int .i64 0,.string ⟨#[]⟩,.string ⟨#[]⟩,.int .u8 1] 59))) (by unfold T3;decide)
         have hA7:=World.alloc_heap_new (w9.setCell ⟨b4,o4'+tg * 8+1,none⟩ (.int .u8 (5:Nat))) (.cells #[.string ⟨#[]⟩,.int .i64 tg,.int .i64 v,.slice none 0 0,.int .i64 0,.string ⟨#[]⟩,.string ⟨#[]⟩,.int .u8 1] 59)
         rw [World.size_setCell] at hA7
         obtain ⟨x0,x1,x2,x3,x4,x5,_⟩:=mBox.box hT6.ex.ob
         rw [ha4] at x4
         have htI:(tg:Int)<(oj.vers.length:Int):=by omega
         have ht0:(0:Int)<=(tg:Int):=by omega
         have HT7:=hid hT7
         have HO7:=hid hO7
         have HA7:=hid hA7
         have HOK:=hid hok
         clear hT6 hO6 hA6 hT7 hO7 hA7 hT8 g1 g2 hok HAt HBt HT9 HO9 HT HO ha4 c1 c2 d1 d2
         go_upto_region 15 with fail
         generalize (w9.setCell ⟨b4,o4'+tg * 8+1,none⟩ (.int .u8 (5:Nat))).alloc (.cells #[.string ⟨#[]⟩,.int .i64 tg,.int .i64 v,.slice none 0 0,.int .i64 0,.string ⟨#[]⟩,.string ⟨#[]⟩,.int .u8 1] 59)=W7 at *
         clear x0 x1 x2 x3 x4 x5 e1 hf4 htI hz6
         obtain ⟨z0,z1,z2,z3,z4,z5,z6,z7⟩:=cells8 HA7.o
         obtain ⟨x0,x1,x2,x3,x4,x5,_⟩:=mBox.box HT7.o.ex.ob
         have hz7:lo<=W7.heap.size:=by have:=HT7.o.hz;omega
         have hnt:ok.trns.length+[way (tg:Int) (v:Int)].length<=1000000:=by
           have:=(HLN.o (pts.take j) (List.take_prefix _ _)).2.2
           rw [HOJ.o] at this
           unfold lens at this
           rw [HOK.o]
           simp only [List.length_cons,List.length_nil]
           dsimp only at this |-
           omega
         go_wp2_with (at_builtin;refine wpList_append_sl (TrnE.moves (R:=TB lo 9)) _ rfl _ _ 40 rfl 59 iT _ 104 Tryz.underlying40 hiT zT0 zT1 zT2 rfl (by decide) (by decide) rfl rfl (HT7.o.below hz7 (below_al1 W7 _)).ex.own.mod.trns (HT7.o.below hz7 (below_al1 W7 _)).ex.own.own.o5 (way_sl _ W7 tg v _) hnt (by simp;omega) ?_;intro a6 c6 w6 ho6 hg6 hs6;obtain ⟨x0,x1,x2,x3,x4,x5,f0,f1,f2,f3,f4,f5⟩:=mBox.box (hg6.t3.same (HT7.o.below hz7 (below_al1 W7 _)).ex.ob not3.1))
         have hTa:=HT7.o.below hz7 (below_al1 W7 (.cells #[.string ⟨#[]⟩,.int .i64 tg,.int .i64 v,.slice none 0 0,.int .i64 0,.string ⟨#[]⟩,.string ⟨#[]⟩,.int .u8 1] 59))
         have hOa:=row_grt HO7.o (GrT.of_below (lo:=lo) (S:=T3) (below_al1 W7 (.cells #[.string ⟨#[]⟩,.int .i64 tg,.int .i64 v,.slice none 0 0,.int .i64 0,.string ⟨#[]⟩,.string ⟨#[]⟩,.int .u8 1] 59))) (by unfold T3;decide)
         have hob:=hg6.t3.same hTa.ex.ob not3.1
         have hat:=(AtB.refl OB w6).set 5 (.slice a6 (ok.trns.length+1) c6)
         have hTb:ExT lo H m pm { ok with trns:=ok.trns ++ [way tg v] } { pj with a5:=a6,c5:=c6 } sh px OB LPB MB LB XB w (w6.setCell ⟨OB,5,none⟩ (.slice a6 (ok.trns.length+1) c6)):=by
           refine hTa.grow hg6.t3 (by simp;omega) (hTa.ex.own.app5 hg6 ho6 (hs6 (hg6.keep (by decide)))) ?_ hLne
           have:=mBox.set5 hob (ok.trns ++ [way tg v]) a6 c6
           rw [List.length_append] at this
           exact this
         have hOb:=row_at (row_grt hOa hg6.t3 (by unfold T3;decide)) hat hob (by decide)
         have hEq:{ ok with trns:=ok.trns ++ [way tg v] }=tiesM l[q] fst (put1 sub s out) (pts.take (j+1)):=by
           have hg:=(HSt.o j).2.1.verG hv
           rw [HOJ.o,HG9.o] at hg
           rw [ties_succ hjl,HOJ.o,HP9.o,HX9.o,tie1_exit hg.1 hg.2 h11 HB9.o HTo.o,HOK.o]
         rw [hEq] at hTb
         have HTb:=hid hTb
         have HOb:=hid hOb
         clear hTa hOa hob hat hTb hOb hEq x0 x1 x2 x3 x4 x5 f0 f1 f2 f3 f4 f5 z0 z1 z2 z3 z4 z5 z6 z7 hg6 ho6 hs6
         go_roundw
         case rel=>exact ⟨j+1,by omega,by go_num,HOb.o,_,HTb.o⟩
         case measure=>simp [intOf] <;> omega
       . have HT9:=hid hT9
         have HO9:=hid hO9
         have HAt:=hid hAt
         have h11I:((y.kd:Int) == 11)=false:=by rw [beq_eq_false_iff_ne];omega
         have hTb:=hT9.below hzl hBt
         have hOb:=row_grt hO9 (GrT.of_below (lo:=lo) (S:=T3) hBt) (by unfold T3;decide)
         have HTb:=hid hTb
         have HOb:=hid hOb
         clear hT9 hO9 hAt hBt hTb hOb
         go_upto_region 15 with fail
         generalize w9.alloc (.cells #[.string ⟨#[]⟩,.int .i64 v,.int .i64 tg,.slice none 0 0,.int .i64 0,.string ⟨#[]⟩,.string ⟨#[]⟩,.int .u8 1] 59)=W7 at *
         clear c1 c2 d1 d2
         obtain ⟨z0,z1,z2,z3,z4,z5,z6,z7⟩:=cells8 HAt.o
         obtain ⟨x0,x1,x2,x3,x4,x5,_⟩:=mBox.box HTb.o.ex.ob
         have hz7:lo<=W7.heap.size:=by have:=HTb.o.hz;omega
         have hnt:oj.trns.length+[way (v:Int) (tg:Int)].length<=1000000:=by
           have:=(HLN.o (pts.take j) (List.take_prefix _ _)).2.2
           rw [HOJ.o] at this
           unfold lens at this
           simp only [List.length_cons,List.length_nil]
           dsimp only at this |-
           omega
         go_wp2_with (at_builtin;refine wpList_append_sl (TrnE.moves (R:=TB lo 9)) _ rfl _ _ 40 rfl 59 iT _ 104 Tryz.underlying40 hiT zT0 zT1 zT2 rfl (by decide) (by decide) rfl rfl (HTb.o.below hz7 (below_al1 W7 _)).ex.own.mod.trns (HTb.o.below hz7 (below_al1 W7 _)).ex.own.own.o5 (way_sl _ W7 v tg _) hnt (by simp;omega) ?_;intro a6 c6 w6 ho6 hg6 hs6;obtain ⟨x0,x1,x2,x3,x4,x5,f0,f1,f2,f3,f4,f5⟩:=mBox.box (hg6.t3.same (HTb.o.below hz7 (below_al1 W7 _)).ex.ob not3.1))
         have hTa:=HTb.o.below hz7 (below_al1 W7 (.cells #[.string ⟨#[]⟩,.int .i64 v,.int .i64 tg,.slice none 0 0,.int .i64 0,.string ⟨#[]⟩,.string ⟨#[]⟩,.int .u8 1] 59))
         have hOa:=row_grt HOb.o (GrT.of_below (lo:=lo) (S:=T3) (below_al1 W7 (.cells #[.string ⟨#[]⟩,.int .i64 v,.int .i64 tg,.slice none 0 0,.int .i64 0,.string ⟨#[]⟩,.string ⟨#[]⟩,.int .u8 1] 59))) (by unfold T3;decide)
         have hob:=hg6.t3.same hTa.ex.ob not3.1
         have hat:=(AtB.refl OB w6).set 5 (.slice a6 (oj.trns.length+1) c6)
         have hTc:ExT lo H m pm { oj with trns:=oj.trns ++ [way v tg] } { pj with a5:=a6,c5:=c6 } sh px OB LPB MB LB XB w (w6.setCell ⟨OB,5,none⟩ (.slice a6 (oj.trns.length+1) c6)):=by
           refine hTa.grow hg6.t3 (by simp;omega) (hTa.ex.own.app5 hg6 ho6 (hs6 (hg6.keep (by decide)))) ?_ hLne
           have:=mBox.set5 hob (oj.trns ++ [way v tg]) a6 c6
           rw [List.length_append] at this
           exact this
         have hOc:=row_at (row_grt hOa hg6.t3 (by unfold T3;decide)) hat hob (by decide)
         have hEq:{ oj with trns:=oj.trns ++ [way v tg] }=tiesM l[q] fst (put1 sub s out) (pts.take (j+1)):=by
           have hg:=(HSt.o j).2.1.verG hv
           rw [HOJ.o,HG9.o] at hg
           rw [ties_succ hjl,HOJ.o,HP9.o,HX9.o,tie1_entry hg.1 hg.2 h11 HB9.o HTo.o]
         rw [hEq] at hTc
         have HTc:=hid hTc
         have HOc:=hid hOc
         clear hTa hOa hob hat hTc hOc hEq x0 x1 x2 x3 x4 x5 f0 f1 f2 f3 f4 f5 z0 z1 z2 z3 z4 z5 z6 z7 hg6 ho6 hs6
         go_roundw
         case rel=>exact ⟨j+1,by omega,by go_num,HOc.o,_,HTc.o⟩
         case measure=>simp [intOf] <;> omega
   . obtain rfl:j=n:=by omega
     rw [<- HOJ.o,List.take_of_length_le (by have:=HN.o;omega)] at HT
     clear ho hT hlt
     go_wp2_with fail
     go_ret
     exact ⟨rfl,pj,by rw [HEnd.o];exact HT.o.ex,HT.o.bel⟩
end Go.Proofs
