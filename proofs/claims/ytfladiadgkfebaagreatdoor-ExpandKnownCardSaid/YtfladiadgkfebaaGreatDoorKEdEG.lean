/- The document's models: rows of one's own, texts of the library's. 'moved'. -/
import Derived.Test.YtfladiadgkfebaaGreatDoorKEdAB
namespace Go.Proofs
open Go.RowKit Go.Lx Go.Md Go.Shelf
set_option maxRecDepth 100000
set_option maxHeartbeats 0
set_option linter.unusedVariables false
def QR (lo N:Nat):Nat->BP
 | 0=>OldB N | 1=>OldB N | 2=>TB lo 84 | 3=>TB lo 86 | 4=>TB lo 88 | _=>OldB N
structure OwnR (lo N:Nat) (w:World) (m:MdlD) (p:Ph):Prop where
 mod:Mod (QR lo N) w m p
 o3:OwnV lo 84 2 w (.slice p.a3 m.regs.length p.c3)
 o4:OwnV lo 86 8 w (.slice p.a4 m.vers.length p.c4)
 o5:OwnV lo 88 8 w (.slice p.a5 m.trns.length p.c5)
def T3R (T:TypeId):Prop:=T=84\/T=86\/T=88
theorem GrT.rR {lo:Nat} {w w':World} (h:GrT lo (· = 84) w w'):GrT lo T3R w w':=h.wide (Nat.le_refl _) fun _ h=>.inl h
theorem GrT.rV {lo:Nat} {w w':World} (h:GrT lo (· = 86) w w'):GrT lo T3R w w':=h.wide (Nat.le_refl _) fun _ h=>.inr (.inl h)
theorem GrT.rT {lo:Nat} {w w':World} (h:GrT lo (· = 88) w w'):GrT lo T3R w w':=h.wide (Nat.le_refl _) fun _ h=>.inr (.inr h)
theorem notR:¬ T3R 33/\¬ T3R 3:=⟨by unfold T3R;decide,by unfold T3R;decide⟩
theorem OldB.kept {N:Nat} {w w':World} (g:Below N w w'):Kept (OldB N) w w':=⟨g.size,fun b _ hb=>g.block b hb⟩
theorem OwnR.kept {lo N:Nat} {w w':World} {m:MdlD} {p:Ph} (h:OwnR lo N w m p) (hk:∀ j,Kept (QR lo N j) w w'):OwnR lo N w' m p:=⟨h.mod.kept hk,h.o3.kept (hk 2),h.o4.kept (hk 3),h.o5.kept (hk 4)⟩
theorem OwnR.below {lo N:Nat} {w w':World} {m:MdlD} {p:Ph} (h:OwnR lo N w m p) (g:Below w.heap.size w w'):OwnR lo N w' m p:=⟨h.mod.below g,h.o3.below g,h.o4.below g,h.o5.below g⟩
theorem OwnR.mono {lo lo' N:Nat} {w:World} {m:MdlD} {p:Ph} (h:OwnR lo N w m p) (hl:lo'<=lo):OwnR lo' N w m p :=
 ⟨h.mod.weaken fun j b hb hq=>by
   match j,hq with
   | 0,hq=>exact hq
   | 1,hq=>exact hq
   | 2,hq=>exact TB.mono hq hl
   | 3,hq=>exact TB.mono hq hl
   | 4,hq=>exact TB.mono hq hl
   | n+5,hq=>exact hq,h.o3.mono hl,h.o4.mono hl,h.o5.mono hl⟩
theorem OwnR.box {lo N:Nat} {w w':World} {m:MdlD} {p:Ph} (h:OwnR lo N w m p) {H:Nat} (hw:AtB H w w') {cur:Array Value} {T:TypeId} {fr:Nat × Nat} (hH:w.heap[H]? = some (.cells cur T fr)) (hT:¬ T3R T) (hN:N<=H):OwnR lo N w' m p :=
 h.kept fun j=>by
   have ho:Kept (OldB N) w w':=OldB.kept (hw.below hN)
   match j with
   | 0=>exact ho
   | 1=>exact ho
   | 2=>exact hw.keptT hH fun e=>hT (.inl e.symm)
   | 3=>exact hw.keptT hH fun e=>hT (.inr (.inl e.symm))
   | 4=>exact hw.keptT hH fun e=>hT (.inr (.inr e.symm))
   | n+5=>exact ho
theorem OwnR.app3 {lo N:Nat} {w w':World} {m:MdlD} {p:Ph} {R:List RegD} {a:Option Addr} {c:Nat} (h:OwnR lo N w m p) (g:GrT lo (· = 84) w w') (hN:Below N w w') (ho:OwnV lo 84 2 w' (.slice a (m.regs ++ R).length c)) (hs:Sl (TB lo 84) 2 RegE w' (.slice a (m.regs ++ R).length c) (m.regs ++ R)):OwnR lo N w' { m with regs:=m.regs ++ R } { p with a3:=a,c3:=c } :=
 have kO:=OldB.kept hN
 ⟨⟨h.mod.vars.kept (VarE.mono (R:=OldB N)) kO kO,h.mod.evs.kept kO,hs,h.mod.vers.kept VerE.mono (g.keep (T:=86) (by decide)) kO,h.mod.trns.kept TrnE.mono (g.keep (T:=88) (by decide)) kO⟩,ho,g.own h.o4,g.own h.o5⟩
theorem OwnR.app4 {lo N:Nat} {w w':World} {m:MdlD} {p:Ph} {R:List VerD} {a:Option Addr} {c:Nat} (h:OwnR lo N w m p) (g:GrT lo (· = 86) w w') (hN:Below N w w') (ho:OwnV lo 86 8 w' (.slice a (m.vers ++ R).length c)) (hs:Sl (TB lo 86) 8 (VerE (OldB N)) w' (.slice a (m.vers ++ R).length c) (m.vers ++ R)):OwnR lo N w' { m with vers:=m.vers ++ R } { p with a4:=a,c4:=c } :=
 have kO:=OldB.kept hN
 ⟨⟨h.mod.vars.kept (VarE.mono (R:=OldB N)) kO kO,h.mod.evs.kept kO,h.mod.regs.kept (RegE.mono (R:=OldB N)) (g.keep (T:=84) (by decide)) kO,hs,h.mod.trns.kept TrnE.mono (g.keep (T:=88) (by decide)) kO⟩,g.own h.o3,ho,g.own h.o5⟩
theorem OwnR.app5 {lo N:Nat} {w w':World} {m:MdlD} {p:Ph} {R:List TrnD} {a:Option Addr} {c:Nat} (h:OwnR lo N w m p) (g:GrT lo (· = 88) w w') (hN:Below N w w') (ho:OwnV lo 88 8 w' (.slice a (m.trns ++ R).length c)) (hs:Sl (TB lo 88) 8 (TrnE (OldB N)) w' (.slice a (m.trns ++ R).length c) (m.trns ++ R)):OwnR lo N w' { m with trns:=m.trns ++ R } { p with a5:=a,c5:=c } :=
 have kO:=OldB.kept hN
 ⟨⟨h.mod.vars.kept (VarE.mono (R:=OldB N)) kO kO,h.mod.evs.kept kO,h.mod.regs.kept (RegE.mono (R:=OldB N)) (g.keep (T:=84) (by decide)) kO,h.mod.vers.kept VerE.mono (g.keep (T:=86) (by decide)) kO,hs⟩,g.own h.o3,g.own h.o4,ho⟩
def set8 (w:World) (b o:Nat) (v0 v1 v2 v3 v4 v5 v6 v7:Value):World :=
 (((((((w.setCell ⟨b,o,none⟩ v0).setCell ⟨b,o+1,none⟩ v1).setCell ⟨b,o+2,none⟩ v2).setCell ⟨b,o+3,none⟩ v3).setCell ⟨b,o+4,none⟩ v4).setCell ⟨b,o+5,none⟩ v5).setCell ⟨b,o+6,none⟩ v6).setCell ⟨b,o+7,none⟩ v7
theorem set8_at (w:World) (b o:Nat) (v0 v1 v2 v3 v4 v5 v6 v7:Value):AtB b w (set8 w b o v0 v1 v2 v3 v4 v5 v6 v7) :=
 ((((((((AtB.refl b w).set _ _).set _ _).set _ _).set _ _).set _ _).set _ _).set _ _).set _ _
theorem set8_far {w:World} {b o o':Nat} {v0 v1 v2 v3 v4 v5 v6 v7:Value} (h:o'<o\/o+8<=o'):(set8 w b o v0 v1 v2 v3 v4 v5 v6 v7).cell? ⟨b,o',none⟩=w.cell? ⟨b,o',none⟩:=by
 have k:∀ (w:World) (j:Nat) (u:Value),j<8->(w.setCell ⟨b,o+j,none⟩ u).cell? ⟨b,o',none⟩=w.cell? ⟨b,o',none⟩:=fun w j u hj=>World.cell?_setCell_other w _ _ u (by intro e;injection e with _ e2;omega)
 unfold set8
 rw [k _ 7 _ (by omega),k _ 6 _ (by omega),k _ 5 _ (by omega),k _ 4 _ (by omega),k _ 3 _ (by omega),k _ 2 _ (by omega),k _ 1 _ (by omega)]
 exact k _ 0 _ (by omega)
theorem set8_cells {w:World} {b o:Nat} {v0 v1 v2 v3 v4 v5 v6 v7:Value} (h:∀ j,j<8->∃ u,w.cell? ⟨b,o+j,none⟩=some u) :
   let W:=set8 w b o v0 v1 v2 v3 v4 v5 v6 v7
   W.cell? ⟨b,o,none⟩=some v0/\W.cell? ⟨b,o+1,none⟩=some v1/\W.cell? ⟨b,o+2,none⟩=some v2/\W.cell? ⟨b,o+3,none⟩=some v3/\W.cell? ⟨b,o+4,none⟩=some v4/\W.cell? ⟨b,o+5,none⟩=some v5/\W.cell? ⟨b,o+6,none⟩=some v6/\W.cell? ⟨b,o+7,none⟩=some v7:=by
 have s:∀ (w:World) (j:Nat) (u x:Value),w.cell? ⟨b,o+j,none⟩=some x->(w.setCell ⟨b,o+j,none⟩ u).cell? ⟨b,o+j,none⟩=some u:=fun w j u x hx=>World.cell?_setCell_same _ _ _ hx
 have f:∀ (w:World) (i j:Nat) (u:Value) (x:Value),i≠j->w.cell? ⟨b,o+i,none⟩=some x->(w.setCell ⟨b,o+j,none⟩ u).cell? ⟨b,o+i,none⟩=some x:=fun w i j u x hij hx=>by
   rw [World.cell?_setCell_other w _ _ u (by intro e;injection e with _ e2;omega)];exact hx
 obtain ⟨u0,h0⟩:=h 0 (by omega)
 obtain ⟨u1,h1⟩:=h 1 (by omega)
 obtain ⟨u2,h2⟩:=h 2 (by omega)
 obtain ⟨u3,h3⟩:=h 3 (by omega)
 obtain ⟨u4,h4⟩:=h 4 (by omega)
 obtain ⟨u5,h5⟩:=h 5 (by omega)
 obtain ⟨u6,h6⟩:=h 6 (by omega)
 obtain ⟨u7,h7⟩:=h 7 (by omega)
 have n:∀ {i j:Nat},i<j->i≠j:=fun h=>by omega
 intro W
 refine ⟨?_,?_,?_,?_,?_,?_,?_,?_⟩
 . exact f _ 0 7 _ _ (by decide) (f _ 0 6 _ _ (by decide) (f _ 0 5 _ _ (by decide) (f _ 0 4 _ _ (by decide) (f _ 0 3 _ _ (by decide) (f _ 0 2 _ _ (by decide) (f _ 0 1 _ _ (by decide) (s _ 0 _ _ h0)))))))
 . exact f _ 1 7 _ _ (by decide) (f _ 1 6 _ _ (by decide) (f _ 1 5 _ _ (by decide) (f _ 1 4 _ _ (by decide) (f _ 1 3 _ _ (by decide) (f _ 1 2 _ _ (by decide) (s _ 1 _ _ (f _ 1 0 _ _ (by decide) h1)))))))
 . exact f _ 2 7 _ _ (by decide) (f _ 2 6 _ _ (by decide) (f _ 2 5 _ _ (by decide) (f _ 2 4 _ _ (by decide) (f _ 2 3 _ _ (by decide) (s _ 2 _ _ (f _ 2 1 _ _ (by decide) (f _ 2 0 _ _ (by decide) h2)))))))
 . exact f _ 3 7 _ _ (by decide) (f _ 3 6 _ _ (by decide) (f _ 3 5 _ _ (by decide) (f _ 3 4 _ _ (by decide) (s _ 3 _ _ (f _ 3 2 _ _ (by decide) (f _ 3 1 _ _ (by decide) (f _ 3 0 _ _ (by decide) h3)))))))
 . exact f _ 4 7 _ _ (by decide) (f _ 4 6 _ _ (by decide) (f _ 4 5 _ _ (by decide) (s _ 4 _ _ (f _ 4 3 _ _ (by decide) (f _ 4 2 _ _ (by decide) (f _ 4 1 _ _ (by decide) (f _ 4 0 _ _ (by decide) h4)))))))
 . exact f _ 5 7 _ _ (by decide) (f _ 5 6 _ _ (by decide) (s _ 5 _ _ (f _ 5 4 _ _ (by decide) (f _ 5 3 _ _ (by decide) (f _ 5 2 _ _ (by decide) (f _ 5 1 _ _ (by decide) (f _ 5 0 _ _ (by decide) h5)))))))
 . exact f _ 6 7 _ _ (by decide) (s _ 6 _ _ (f _ 6 5 _ _ (by decide) (f _ 6 4 _ _ (by decide) (f _ 6 3 _ _ (by decide) (f _ 6 2 _ _ (by decide) (f _ 6 1 _ _ (by decide) (f _ 6 0 _ _ (by decide) h6)))))))
 . exact s _ 7 _ _ (f _ 7 6 _ _ (by decide) (f _ 7 5 _ _ (by decide) (f _ 7 4 _ _ (by decide) (f _ 7 3 _ _ (by decide) (f _ 7 2 _ _ (by decide) (f _ 7 1 _ _ (by decide) (f _ 7 0 _ _ (by decide) h7)))))))
end Go.Proofs

namespace Go.Proofs
open Go.RowKit Go.Lx Go.Md Go.Shelf Go.BigFrame Go.Rgi
set_option maxRecDepth 100000
set_option maxHeartbeats 0
set_option linter.unusedVariables false
theorem modify_const {α:Type} {f:α->α} {l:List α} {k:Nat} (h:k<l.length):l.modify k f=l.modify k fun _=>f l[k]:=by
 apply List.ext_getElem (by simp)
 intro i h1 h2
 rw [List.getElem_modify,List.getElem_modify]
 split
 . rename_i e;subst e;rfl
 . rfl
theorem set8_tb {lo:Nat} {T:TypeId} {w:World} {b o:Nat} {v0 v1 v2 v3 v4 v5 v6 v7:Value} {b':Nat} (h:TB lo T b' w.heap[b']?):TB lo T b' (set8 w b o v0 v1 v2 v3 v4 v5 v6 v7).heap[b']? := by
 unfold set8
 exact ((((((((h.set _ _).set _ _).set _ _).set _ _).set _ _).set _ _).set _ _).set _ _)
theorem set8_grt {lo:Nat} {T:TypeId} {w:World} {b o:Nat} {v0 v1 v2 v3 v4 v5 v6 v7:Value} (h:TB lo T b w.heap[b]?):GrT lo (· = T) w (set8 w b o v0 v1 v2 v3 v4 v5 v6 v7):=by
 have h1:=h.set ⟨b,o,none⟩ v0
 have h2:=h1.set ⟨b,o+1,none⟩ v1
 have h3:=h2.set ⟨b,o+2,none⟩ v2
 have h4:=h3.set ⟨b,o+3,none⟩ v3
 have h5:=h4.set ⟨b,o+4,none⟩ v4
 have h6:=h5.set ⟨b,o+5,none⟩ v5
 have h7:=h6.set ⟨b,o+6,none⟩ v6
 exact ((((((((GrT.refl lo (· = T) w).set h rfl v0).set h1 rfl v1).set h2 rfl v2).set h3 rfl v3).set h4 rfl v4).set h5 rfl v5).set h6 rfl v6).set h7 rfl v7
theorem AtB.other {lo lo':Nat} {T T':TypeId} {w w':World} {g:Nat} (h:AtB g w w') (hg:TB lo T g w.heap[g]?) (hT:T'≠T):Kept (TB lo' T') w w':=h.kept fun hq=>hT (TB.ne hq hg)
theorem OwnR.setVer {lo N:Nat} {w:World} {m:MdlD} {p:Ph} (h:OwnR lo N w m p) {k b o:Nat} (ha:p.a4=some ⟨b,o,none⟩) (hk:k<m.vers.length) (hN:N<=lo) (y:VerD) {dv:Value} (hd:SlS (OldB N) w dv y.df) :
   OwnR lo N (set8 w b (o+k * 8) (.string y.nm) (.int .u8 y.kd) (.int .i64 y.rg) (.int .i64 y.ofv) (.string y.en) (.string y.ex) dv (.string y.sb)) { m with vers:=m.vers.modify k fun _=>y } p/\GrT lo (· = 86) w (set8 w b (o+k * 8) (.string y.nm) (.int .u8 y.kd) (.int .i64 y.rg) (.int .i64 y.ofv) (.string y.en) (.string y.ex) dv (.string y.sb)):=by
 obtain ⟨hb,hQ⟩:=h.mod.vers.block ha (by omega)
 have hQ':TB lo 86 b w.heap[b]? := hQ
 have hat:=set8_at w b (o+k * 8) (.string y.nm) (.int .u8 y.kd) (.int .i64 y.rg) (.int .i64 y.ofv) (.string y.en) (.string y.ex) dv (.string y.sb)
 have hgr:=set8_grt (o:=o+k * 8) (v0:=.string y.nm) (v1:=.int .u8 y.kd) (v2:=.int .i64 y.rg) (v3:=.int .i64 y.ofv) (v4:=.string y.en) (v5:=.string y.ex) (v6:=dv) (v7:=.string y.sb) hQ'
 have kO:Kept (OldB N) w (set8 w b (o+k * 8) (.string y.nm) (.int .u8 y.kd) (.int .i64 y.rg) (.int .i64 y.ofv) (.string y.en) (.string y.ex) dv (.string y.sb)):=OldB.kept (hat.below (Nat.le_trans hN hQ'.1))
 refine ⟨⟨⟨h.mod.vars.kept (VarE.mono (R:=OldB N)) kO kO,h.mod.evs.kept kO,h.mod.regs.kept (RegE.mono (R:=OldB N)) (hat.other hQ' (by decide)) kO,?_,h.mod.trns.kept TrnE.mono (hat.other hQ' (by decide)) kO⟩,hgr.own h.o3,by show OwnV lo _ 8 _ (.slice p.a4 (m.vers.modify k _).length p.c4);rw [List.length_modify];exact hgr.own h.o4,hgr.own h.o5⟩,hgr⟩
 refine h.mod.vers.modify (by rw [hat.size];exact Nat.le_refl _) (fun b' _ hq=>set8_tb hq) (fun b' o' i hi e hq hik he=>?_) fun b' o' hk e hq he=>?_
 . rw [ha] at e
   simp only [Option.some.injEq,Addr.mk.injEq] at e
   obtain ⟨rfl,rfl,_⟩:=e
   exact VerE.inn.keep he (fun j hj=>set8_far (by omega)) kO fun _ _ h=>h
 . rw [ha] at e
   simp only [Option.some.injEq,Addr.mk.injEq] at e
   obtain ⟨rfl,rfl,_⟩:=e
   obtain ⟨_,_,h0,h1,h2,h3,h4,h5,h6,h7⟩:=he
   have hc:=set8_cells (w:=w) (b:=b) (o:=o+k * 8) (v0:=.string y.nm) (v1:=.int .u8 y.kd) (v2:=.int .i64 y.rg) (v3:=.int .i64 y.ofv) (v4:=.string y.en) (v5:=.string y.ex) (v6:=dv) (v7:=.string y.sb) fun j hj=>by
     match j,hj with
     | 0,_=>exact ⟨_,h0⟩
     | 1,_=>exact ⟨_,h1⟩
     | 2,_=>exact ⟨_,h2⟩
     | 3,_=>exact ⟨_,h3⟩
     | 4,_=>exact ⟨_,h4⟩
     | 5,_=>exact ⟨_,h5⟩
     | 6,_=>exact ⟨_,h6⟩
     | 7,_=>exact ⟨_,h7⟩
   obtain ⟨c0,c1,c2,c3,c4,c5,c6,c7⟩:=hc
   exact ⟨dv,hd.kept kO,c0,c1,c2,c3,c4,c5,c6,c7⟩
def mBoxR (m:MdlD) (p:Ph):Obj:=.cells #[.string m.nm,.slice p.a1 m.vars.length p.c1,.slice p.a2 m.evs.length p.c2,.slice p.a3 m.regs.length p.c3,.slice p.a4 m.vers.length p.c4,.slice p.a5 m.trns.length p.c5] 33 (0,0)
def zeroMR:Obj:=.cells #[.string ⟨#[]⟩,.slice none 0 0,.slice none 0 0,.slice none 0 0,.slice none 0 0,.slice none 0 0] 33 (0,0)
theorem mBoxR.box {w:World} {H:Nat} {m:MdlD} {p:Ph} (h:w.heap[H]? = some (mBoxR m p)):Box w H (.string m.nm) (.slice p.a1 m.vars.length p.c1) (.slice p.a2 m.evs.length p.c2) (.slice p.a3 m.regs.length p.c3) (.slice p.a4 m.vers.length p.c4) (.slice p.a5 m.trns.length p.c5):=box_at h
theorem mBoxR.set3 {w:World} {H:Nat} {m:MdlD} {p:Ph} (h:w.heap[H]? = some (mBoxR m p)) (R:List RegD) (a:Option Addr) (c:Nat):(w.setCell ⟨H,3,none⟩ (.slice a R.length c)).heap[H]? = some (mBoxR { m with regs:=R } { p with a3:=a,c3:=c }):=box_set h 3 _
theorem mBoxR.set4 {w:World} {H:Nat} {m:MdlD} {p:Ph} (h:w.heap[H]? = some (mBoxR m p)) (R:List VerD) (a:Option Addr) (c:Nat):(w.setCell ⟨H,4,none⟩ (.slice a R.length c)).heap[H]? = some (mBoxR { m with vers:=R } { p with a4:=a,c4:=c }):=box_set h 4 _
theorem mBoxR.set5 {w:World} {H:Nat} {m:MdlD} {p:Ph} (h:w.heap[H]? = some (mBoxR m p)) (R:List TrnD) (a:Option Addr) (c:Nat):(w.setCell ⟨H,5,none⟩ (.slice a R.length c)).heap[H]? = some (mBoxR { m with trns:=R } { p with a5:=a,c5:=c }):=box_set h 5 _
theorem zero_boxR {w:World} {b:Nat} (h:w.heap[b]? = some zeroMR):Box w b (.string ⟨#[]⟩) (.slice none 0 0) (.slice none 0 0) (.slice none 0 0) (.slice none 0 0) (.slice none 0 0):=by
 unfold zeroMR at h
 exact box_at h
structure TiS (lo N H:Nat) (sm:MdlD) (pm:Ph) (out:MdlD) (p:Ph) (w0 w:World):Prop where
 own:OwnR lo N w out p
 ob:w.heap[H]? = some (mBoxR out p)
 mb:w.heap[H+1]? = some (mBoxR sm pm)
 zb:w.heap[H+1+1]? = some zeroMR
 gr:GrT lo T3R w0 w
 hH:w0.heap.size=H
 hl:lo<=H
 hN:N<=lo
theorem TiS.lt {lo N H:Nat} {sm:MdlD} {pm:Ph} {out:MdlD} {p:Ph} {w0 w:World} (h:TiS lo N H sm pm out p w0 w):H+1+1<w.heap.size:=(Array.getElem?_eq_some_iff.1 h.zb).1
theorem TiS.bel {lo N H:Nat} {sm:MdlD} {pm:Ph} {out:MdlD} {p:Ph} {w0 w:World} (h:TiS lo N H sm pm out p w0 w):Below lo w0 w:=h.gr.below (Nat.le_refl _) (by have:=h.hl;have:=h.hH;omega)
theorem TiS.below {lo N H:Nat} {sm:MdlD} {pm:Ph} {out:MdlD} {p:Ph} {w0 w w':World} (h:TiS lo N H sm pm out p w0 w) (g:Below w.heap.size w w'):TiS lo N H sm pm out p w0 w' :=
 have k:∀ b o,w.heap[b]? = some o->w'.heap[b]? = some o:=fun b o hb=>(g.block b (Array.getElem?_eq_some_iff.1 hb).1).trans hb
 ⟨h.own.below g,k _ _ h.ob,k _ _ h.mb,k _ _ h.zb,h.gr.far (g.mono h.gr.size),h.hH,h.hl,h.hN⟩
theorem TiS.step {lo N H:Nat} {sm:MdlD} {pm:Ph} {out out':MdlD} {p p':Ph} {w0 w w':World} (h:TiS lo N H sm pm out p w0 w) (g:GrT lo T3R w w') (ho:OwnR lo N w' out' p') (he:mBoxR out' p'=mBoxR out p):TiS lo N H sm pm out' p' w0 w' :=
 ⟨ho,by rw [he];exact g.same h.ob notR.1,g.same h.mb notR.1,g.same (by have:=h.zb;unfold zeroMR at this;exact this) notR.1,h.gr.trans g,h.hH,h.hl,h.hN⟩
theorem TiS.grow {lo N H:Nat} {sm:MdlD} {pm:Ph} {out out':MdlD} {p p':Ph} {w0 w w':World} {j:Nat} {u:Value} (h:TiS lo N H sm pm out p w0 w) (g:GrT lo T3R w w') (ho:OwnR lo N w' out' p') (he:(w'.setCell ⟨H,j,none⟩ u).heap[H]? = some (mBoxR out' p')):TiS lo N H sm pm out' p' w0 (w'.setCell ⟨H,j,none⟩ u):=by
 have hA:AtB H w' (w'.setCell ⟨H,j,none⟩ u):=(AtB.refl H w').set j u
 have hob:=g.same h.ob notR.1
 have h1:=h.hH
 have h2:=h.hl
 have h3:=h.hN
 exact ⟨ho.box hA hob notR.1 (by omega),he,(hA.block _ (by omega)).trans (g.same h.mb notR.1),(hA.block _ (by omega)).trans (g.same (by have:=h.zb;unfold zeroMR at this;exact this) notR.1),(h.gr.trans g).far (hA.below (by omega)),h.hH,h.hl,h.hN⟩
theorem mvV_of {r v:Nat} {x:VerD} (h:0<=x.ofv):mvV r v x={ x with ofv:=x.ofv+v }:=by unfold mvV;rw [if_pos h]
theorem mvV_rg {r v:Nat} {x:VerD} (h:¬ 0<=x.ofv):mvV r v x={ x with rg:=x.rg+r }:=by unfold mvV;rw [if_neg h]
theorem rmoved_any (x:VerD) (a:Option Addr) (c r v:Nat) (w:World) (ho:0<=x.ofv->x.ofv<=1000000) (hg:¬ 0<=x.ofv->-1000000<=x.rg/\x.rg<=1000000) (hr:r<=1000000) (hv:v<=1000000) :
   Calls Tryz.prog 44 #[verA x a c,.int .i64 r,.int .i64 v] w fun e w'=>e=.returned (verA (mvV r v x) a c)/\Below w.heap.size w w':=by
 unfold verA
 go_enter Tryz.func44,Tryz.ntmps44
 by_cases h:0<=x.ofv
 . rw [mvV_of h]
   have ho:=ho h
   have hw:IntKind.i64.wrap (x.ofv+v)=x.ofv+v:=IntWalk.i64_in _ ⟨by omega,by omega⟩
   clear hg hr ho hv
   go_wp2_with fail
   refine bodyPost_ret (v:=verA { x with ofv:=x.ofv+v } a c) (by simp [results,Tryz.results44,go_sem,verA]) rfl ⟨rfl,(below_al1 _ _).trans ((below_al1 _ _).mono (by simp))⟩
 . rw [mvV_rg h]
   have hg:=hg h
   have hw:IntKind.i64.wrap (x.rg+r)=x.rg+r:=IntWalk.i64_in _ ⟨by omega,by omega⟩
   clear hg hr ho hv
   go_wp2_with fail
   refine bodyPost_ret (v:=verA { x with rg:=x.rg+r } a c) (by simp [results,Tryz.results44,go_sem,verA]) rfl ⟨rfl,(below_al1 _ _).trans ((below_al1 _ _).mono (by simp))⟩
end Go.Proofs
