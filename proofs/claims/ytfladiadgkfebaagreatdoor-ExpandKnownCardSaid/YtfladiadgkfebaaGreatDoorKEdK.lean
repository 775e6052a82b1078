/- Walks: the document's 'expanded' (submachines). -/
import Derived.Test.YtfladiadgkfebaaGreatDoorKEdIJ
import Derived.Test.YtfladiadgkfebaaGreatDoorKEdH
namespace Go.Proofs
open Go.RowKit Go.Lx Go.Md Go.Shelf Go.BigFrame Go.Rgi
open Lib(hid)
set_option maxRecDepth 100000
set_option maxHeartbeats 0
set_option linter.unusedVariables false
def ExQR (N:Nat) (l:List MdlD) (n:Nat) (w:World) (e:Ending) (w':World):Prop:=∃ p,e=.returned (mdV (expF true l l.length n) p)/\OwnR w.heap.size N w' (expF true l l.length n) p/\Below w.heap.size w w'
theorem sl_nil {α:Type} (Q:BP) (sz:Nat) (E:World->Nat->Nat->α->Prop) (w:World):Sl Q sz E w (.slice none ([]:List α).length 0) ([]:List α):=.inl ⟨none,0,rfl,rfl⟩
theorem mdl_eta (m:MdlD):(⟨m.nm,m.vars,m.evs,[] ++ m.regs,[] ++ m.vers,[] ++ m.trns⟩:MdlD)=m:=by cases m;rfl
theorem ExR.fin {N H:Nat} {m:MdlD} {pm:Ph} {out:MdlD} {p:Ph} {w w':World} (h:ExR N H m pm out p w w'):OwnR H N ((((((w'.setCell ⟨H,0,none⟩ (.string out.nm)).setCell ⟨H,1,none⟩ (.slice p.a1 out.vars.length p.c1)).setCell ⟨H,2,none⟩ (.slice p.a2 out.evs.length p.c2)).setCell ⟨H,3,none⟩ (.slice p.a3 out.regs.length p.c3)).setCell ⟨H,4,none⟩ (.slice p.a4 out.vers.length p.c4)).setCell ⟨H,5,none⟩ (.slice p.a5 out.trns.length p.c5)) out p/\Below H w ((((((w'.setCell ⟨H,0,none⟩ (.string out.nm)).setCell ⟨H,1,none⟩ (.slice p.a1 out.vars.length p.c1)).setCell ⟨H,2,none⟩ (.slice p.a2 out.evs.length p.c2)).setCell ⟨H,3,none⟩ (.slice p.a3 out.regs.length p.c3)).setCell ⟨H,4,none⟩ (.slice p.a4 out.vers.length p.c4)).setCell ⟨H,5,none⟩ (.slice p.a5 out.trns.length p.c5)):=by
 have hzb:=h.zb
 unfold zeroMR at hzb
 obtain ⟨q1,q2⟩:=box_six hzb (.string out.nm) (.slice p.a1 out.vars.length p.c1) (.slice p.a2 out.evs.length p.c2) (.slice p.a3 out.regs.length p.c3) (.slice p.a4 out.vers.length p.c4) (.slice p.a5 out.trns.length p.c5)
 exact ⟨h.own.box q2 hzb notR.1 h.hN,h.bel.trans (q2.below (Nat.le_refl _))⟩
theorem OwnV.cap {lo:Nat} {T:TypeId} {sz n:Nat} {w:World} {a:Option Addr} {c:Nat} (h:OwnV lo T sz w (.slice a n c)):n<=c:=by
 rcases h with ⟨_,h⟩ | ⟨_,_,_,_,h,_,_,h2,_⟩
 . simp only [Value.slice.injEq] at h;omega
 . simp only [Value.slice.injEq] at h;omega
theorem AtB.stay {X0 X1 N b:Nat} {w w':World} (h:AtB b w w') (hb:b<X0\/X1<=b) (hN:N<=b):Stay X0 X1 N w w':=⟨by rw [h.size];exact Nat.le_refl _,fun b' h0 h1=>h.block b' (by omega),h.below hN⟩
theorem ExL.start {N H m pm out p w0 w5 w6 sub px} (h:ExR N H m pm out p w0 w5) (ho:OwnR w5.heap.size N w6 sub px) (hb:Below w5.heap.size w5 w6):ExL N H w5.heap.size (w6.heap.size+1) w6.heap.size m pm out p sub px w0 (w6.alloc (mBoxR sub px)):=by
 have hb':=hb.trans ((below_al1 w6 (mBoxR sub px)).mono hb.size)
 have hs:=hb.size
 exact ⟨h.below hb',World.alloc_heap_new w6 _,(ho.between (X1:=w6.heap.size+1) (by omega)).below (below_al1 w6 _),Off.own h.own.o3 _,Off.own h.own.o4 _,Off.own h.own.o5 _,h.lt,by simp,hs,by omega⟩
theorem empty_pos {y:ByteArray} (h:y.toList.isEmpty=false):0<y.size:=by
 rcases Nat.eq_zero_or_pos y.size with e | e
 . have:y.toList.isEmpty=true:=by rw [toList_eq',List.isEmpty_iff,<- List.length_eq_zero_iff];simpa using e
   rw [this] at h;cases h
 . exact e
theorem cellsR2 {w:World} {H:Nat} {T:TypeId} {v0 v1:Value} (h:w.heap[H]? = some (.cells #[v0,v1] T (0,0))):w.cell? ⟨H,0,none⟩=some v0/\w.cell? ⟨H,1,none⟩=some v1:=by
 refine ⟨?_,?_⟩ <;> (unfold World.cell?;simp only [h];rfl)
theorem san_own {m:MdlD} (h:San m) {j:Nat} (hj:j<m.regs.length) (h0:j≠0):0<=m.regs[j].own/\m.regs[j].own<m.vers.length:=by
 obtain ⟨r,t,e,_,_,h3⟩:=h.own
 obtain ⟨i,rfl⟩:∃ i,j=i+1:=⟨j - 1,by omega⟩
 have:m.regs[i+1]=(r :: t)[i+1]'(by rw [<- e];exact hj):=by simp [e]
 rw [this,List.getElem_cons_succ]
 exact h3 _ (List.getElem_mem _)
theorem ExL.hw {N H X0 X1 SB:Nat} {m:MdlD} {pm:Ph} {out:MdlD} {p:Ph} {sub:MdlD} {px:Ph} {w0 w:World} (h:ExL N H X0 X1 SB m pm out p sub px w0 w):H<=w.heap.size:=Nat.le_trans (Nat.le_add_right H 2) (Nat.le_of_lt h.ex.lt)
structure Sm3 (a b c:Nat) (w w':World):Prop where
 a:w'.heap[a]? = w.heap[a]?
 b:w'.heap[b]? = w.heap[b]?
 c:w'.heap[c]? = w.heap[c]?
theorem Sm3.refl (a b c:Nat) (w:World):Sm3 a b c w w:=⟨rfl,rfl,rfl⟩
theorem Sm3.drew {a b c:Nat} {w w':World} (h:Sm3 a b c w w'):Sm3 a b c w w'.drew:=⟨h.a,h.b,h.c⟩
theorem Sm3.below {a b c:Nat} {w w':World} (h:a<w.heap.size/\b<w.heap.size/\c<w.heap.size) (g:Below w.heap.size w w'):Sm3 a b c w w':=⟨g.block a h.1,g.block b h.2.1,g.block c h.2.2⟩
theorem same_cell {w w':World} {b o:Nat} {u:Value} (h:w'.heap[b]? = w.heap[b]?) (k:w.cell? ⟨b,o,none⟩=some u):w'.cell? ⟨b,o,none⟩=some u:=by
 unfold World.cell? at k |-
 simp only [h]
 exact k
theorem mvV_df (r v:Nat) (x:VerD):(mvV r v x).df=x.df:=by unfold mvV;split <;> rfl
theorem ExR.whole {N H:Nat} {m:MdlD} {pm:Ph} {out out':MdlD} {p p':Ph} {w0 w w':World} (h:ExR N H m pm out p w0 w) (g:GrT H T3R w w') (ho:OwnR H N w' out' p'):ExR N H m pm out' p' w0 ((((((w'.setCell ⟨H+1+1,0,none⟩ (.string out'.nm)).setCell ⟨H+1+1,1,none⟩ (.slice p'.a1 out'.vars.length p'.c1)).setCell ⟨H+1+1,2,none⟩ (.slice p'.a2 out'.evs.length p'.c2)).setCell ⟨H+1+1,3,none⟩ (.slice p'.a3 out'.regs.length p'.c3)).setCell ⟨H+1+1,4,none⟩ (.slice p'.a4 out'.vers.length p'.c4)).setCell ⟨H+1+1,5,none⟩ (.slice p'.a5 out'.trns.length p'.c5)):=by
 have hob:=g.same h.ob notR.1
 have hn:=h.hN
 have hl:=h.lt
 obtain ⟨q1,q2⟩:=box_six hob (.string out'.nm) (.slice p'.a1 out'.vars.length p'.c1) (.slice p'.a2 out'.evs.length p'.c2) (.slice p'.a3 out'.regs.length p'.c3) (.slice p'.a4 out'.vers.length p'.c4) (.slice p'.a5 out'.trns.length p'.c5)
 exact ⟨ho.box q2 hob notR.1 (by omega),(q2.block _ (by omega)).trans (sameZ g h.zb),(q2.block _ (by omega)).trans (g.same h.mb notR.1),q1,(h.bel.trans (g.below (Nat.le_refl _) (by omega))).trans (q2.below (by omega)),h.hH,h.hN⟩
theorem rexpanded_step (N:Nat) (l:List MdlD) (a:Option Addr) (c:Nat) (hL:LibP l) (hll:l.length<=100) (n:Nat) (hn:n<l.length) (hih:∀ q,Use l n q->∀ wx,LibV N wx (.slice a l.length c) l->N<=wx.heap.size->Calls Tryz.prog 24 #[.slice a l.length c,.int .i64 q] wx (ExQR N l q wx))
   (w:World) (hA:LibV N w (.slice a l.length c) l) (hN:N<=w.heap.size):Calls Tryz.prog 24 #[.slice a l.length c,.int .i64 n] w (ExQR N l n w):=by
 obtain ⟨iR,hiR,zR0,zR1,zR2⟩:=info_parts info_rReg
 obtain ⟨iV,hiV,zV0,zV1,zV2⟩:=info_parts info_rVer
 obtain ⟨iT,hiT,zT0,zT1,zT2⟩:=info_parts info_rTrn
 obtain ⟨m,hm⟩:=ex2 (l[n])
 have hgd:l.getD n D0=m:=by rw [List.getD_eq_getElem?_getD,List.getElem?_eq_getElem hn,<- hm];rfl
 have hmem:m ∈ l:=by rw [<- hm];exact List.getElem_mem hn
 obtain ⟨v1,v2,v3,v4,v5⟩:=right_len (hL.ri _ hmem)
 have HIH:=hid hih
 have HIHc:=hid fun (wx:World) (g:Below w.heap.size w wx)=>hA.below (g.mono hN)
 obtain ⟨b1,oo1,e1,hb1,pm,hmo,r0,r1,r2,r3,r4,r5⟩:=hA.get hn
 rw [hm] at hmo r0 r1 r2 r3 r4 r5
 have HMo:=hid fun (wx:World) (g:Below w.heap.size w wx)=>hmo.keptN (g.mono hN)
 have HA:=hid hA
 have hnI:(n:Int)<(l.length:Int):=by omega
 have hn0:(0:Int)<=(n:Int):=by omega
 have HP:Hid (∀ e w',ExQR N l n w e w'↔∃ p,e=.returned (mdV (expF true l l.length n) p)/\OwnR w.heap.size N w' (expF true l l.length n) p/\Below w.heap.size w w'):=hid fun _ _=>Iff.rfl
 subst e1
 clear hih hA hmo
 go_enter Tryz.func24,Tryz.ntmps24
 go_upto_region 6 with fail
 have hO3:=objs3 w zeroMR (mBoxR m pm) (mBoxR ⟨m.nm,m.vars,m.evs,[],[],[]⟩ ⟨pm.a1,pm.c1,pm.a2,pm.c2,none,0,none,0,none,0⟩)
 have hB1:Below w.heap.size w (((w.alloc zeroMR).alloc (mBoxR m pm)).alloc (mBoxR ⟨m.nm,m.vars,m.evs,[],[],[]⟩ ⟨pm.a1,pm.c1,pm.a2,pm.c2,none,0,none,0,none,0⟩)):=((below_al2 w _ _).alloc (by simp;omega) _)
 have hM1:=HMo.o _ hB1
 have hX1:ExR N w.heap.size m pm ⟨m.nm,m.vars,m.evs,[],[],[]⟩ ⟨pm.a1,pm.c1,pm.a2,pm.c2,none,0,none,0,none,0⟩ w (((w.alloc zeroMR).alloc (mBoxR m pm)).alloc (mBoxR ⟨m.nm,m.vars,m.evs,[],[],[]⟩ ⟨pm.a1,pm.c1,pm.a2,pm.c2,none,0,none,0,none,0⟩)) :=
   ⟨⟨⟨hM1.vars,hM1.evs,sl_nil _ _ _ _,sl_nil _ _ _ _,sl_nil _ _ _ _⟩,.inl ⟨none,rfl⟩,.inl ⟨none,rfl⟩,.inl ⟨none,rfl⟩⟩,hO3.1,hO3.2.1,hO3.2.2,hB1,rfl,hN⟩
 dsimp only [zeroMR,mBoxR,List.length_nil] at hX1 hM1
 clear hO3 hB1 r0 r1 r2 r3 r4 r5
 generalize (((w.alloc (.cells #[.string ⟨#[]⟩,.slice none 0 0,.slice none 0 0,.slice none 0 0,.slice none 0 0,.slice none 0 0] 33)).alloc (.cells #[.string m.nm,.slice pm.a1 m.vars.length pm.c1,.slice pm.a2 m.evs.length pm.c2,.slice pm.a3 m.regs.length pm.c3,.slice pm.a4 m.vers.length pm.c4,.slice pm.a5 m.trns.length pm.c5] 33)).alloc (.cells #[.string m.nm,.slice pm.a1 m.vars.length pm.c1,.slice pm.a2 m.evs.length pm.c2,.slice none 0 0,.slice none 0 0,.slice none 0 0] 33))=W1 at *
 obtain ⟨o0,ho0⟩:∃ o0:MdlD,o0=⟨m.nm,m.vars,m.evs,[],[],[]⟩:=⟨_,rfl⟩
 obtain ⟨p0,hp0⟩:∃ p0:Ph,p0=⟨pm.a1,pm.c1,pm.a2,pm.c2,none,0,none,0,none,0⟩:=⟨_,rfl⟩
 have h3:o0.regs=[]/\p0.a3=none/\p0.c3=0:=by rw [ho0,hp0];exact ⟨rfl,rfl,rfl⟩
 have h4:o0.vers=[]/\p0.a4=none/\p0.c4=0:=by rw [ho0,hp0];exact ⟨rfl,rfl,rfl⟩
 have h5:o0.trns=[]/\p0.a5=none/\p0.c5=0:=by rw [ho0,hp0];exact ⟨rfl,rfl,rfl⟩
 rw [<- ho0,<- hp0] at hX1
 have hEnd:(⟨m.nm,m.vars,m.evs,[] ++ m.regs,[] ++ m.vers,[] ++ m.trns⟩:MdlD)={ o0 with regs:=o0.regs ++ m.regs,vers:=o0.vers ++ m.vers,trns:=o0.trns ++ m.trns }:=by rw [ho0]
 rw [mdl_eta] at hEnd
 have HEnd:=hid hEnd
 clear hEnd ho0 hp0 hM1
 have HX1:=hid hX1
 clear hX1
 obtain ⟨x0,x1,x2,x3,x4,x5,_⟩:=mBoxR.box HX1.o.mb
 obtain ⟨y0,y1,y2,y3,y4,y5,y6,y7,y8,y9,y10,y11⟩:=mBoxR.box HX1.o.ob
 rw [h3.1,h3.2.1,h3.2.2,List.length_nil] at y3
 have hsl:=HX1.o.own.mod.regs
 have hov:=HX1.o.own.o3
 rw [h3.1,h3.2.1,h3.2.2] at hsl hov
 have hms:=(HMo.o W1 HX1.o.bel).regs
 have hzl:w.heap.size<=W1.heap.size:=by have:=HX1.o.lt;omega
 go_upto_region 7 with (at_builtin;refine wpList_append_sl RegE.moves _ rfl _ _ 29 rfl 84 iR _ 24 Tryz.underlying29 hiR zR0 zR1 zR2 rfl (by decide) (by decide) rfl rfl hsl hov hms (by simp only [List.length_nil];omega) hzl ?_;intro a3 c3 w6 ho6 hg6 hs6;obtain ⟨x0,x1,x2,x3,x4,x5,f0,f1,f2,f3,f4,f5⟩:=mBoxR.box (hg6.rR.same HX1.o.ob notR.1))
 clear x0 x1 x2 x3 x4 x5 f0 f1 f2 f3 f4 f5 y0 y1 y2 y3 y4 y5 y6 y7 y8 y9 y10 y11 hsl hov hms
 have hBN:Below N W1 w6:=hg6.below hN (by omega)
 have hX2:ExR N w.heap.size m pm { o0 with regs:=o0.regs ++ m.regs } { p0 with a3:=a3,c3:=c3 } w (w6.setCell ⟨w.heap.size+1+1,3,none⟩ (.slice a3 m.regs.length c3)):=by
   have ho7:=ho6
   have hs7:=hs6 trivial
   rw [<- h3.1] at ho7 hs7
   refine HX1.o.grow hg6.rR (HX1.o.own.app3 hg6 hBN ho7 hs7) ?_
   have:=mBoxR.set3 (hg6.rR.same HX1.o.ob notR.1) (o0.regs ++ m.regs) a3 c3
   rw [h3.1,List.nil_append] at this |-
   exact this
 clear hg6 ho6 hs6 hBN HX1 hzl
 generalize w6.setCell ⟨w.heap.size+1+1,3,none⟩ (.slice a3 m.regs.length c3)=V2 at *
 obtain ⟨o1,ho1⟩:∃ o1:MdlD,o1={ o0 with regs:=o0.regs ++ m.regs }:=⟨_,rfl⟩
 obtain ⟨p1,hp1⟩:∃ p1:Ph,p1={ p0 with a3:=a3,c3:=c3 }:=⟨_,rfl⟩
 rw [<- ho1,<- hp1] at hX2
 rw [show o0.vers=o1.vers by rw [ho1],show p0.a4=p1.a4 by rw [hp1],show p0.c4=p1.c4 by rw [hp1]] at h4
 rw [show o0.trns=o1.trns by rw [ho1],show p0.a5=p1.a5 by rw [hp1],show p0.c5=p1.c5 by rw [hp1]] at h5
 have HX2:=hid hX2
 clear hX2
 obtain ⟨x0,x1,x2,x3,x4,x5,_⟩:=mBoxR.box HX2.o.mb
 obtain ⟨y0,y1,y2,y3,y4,y5,y6,y7,y8,y9,y10,y11⟩:=mBoxR.box HX2.o.ob
 rw [h4.1,h4.2.1,h4.2.2,List.length_nil] at y4
 have hsl:=HX2.o.own.mod.vers
 have hov:=HX2.o.own.o4
 rw [h4.1,h4.2.1,h4.2.2] at hsl hov
 have hms:=(HMo.o V2 HX2.o.bel).vers
 have hzl:w.heap.size<=V2.heap.size:=by have:=HX2.o.lt;omega
 go_upto_region 8 with (at_builtin;refine wpList_append_sl (VerE.moves (R:=OldB N)) _ rfl _ _ 30 rfl 86 iV _ 112 Tryz.underlying30 hiV zV0 zV1 zV2 rfl (by decide) (by decide) rfl rfl hsl hov hms (by simp only [List.length_nil];omega) hzl ?_;intro a4 c4 w6 ho6 hg6 hs6;obtain ⟨x0,x1,x2,x3,x4,x5,f0,f1,f2,f3,f4,f5⟩:=mBoxR.box (hg6.rV.same HX2.o.ob notR.1))
 clear x0 x1 x2 x3 x4 x5 f0 f1 f2 f3 f4 f5 y0 y1 y2 y3 y4 y5 y6 y7 y8 y9 y10 y11 hsl hov hms
 have hBN:Below N V2 w6:=hg6.below hN (by omega)
 have hX3:ExR N w.heap.size m pm { o1 with vers:=o1.vers ++ m.vers } { p1 with a4:=a4,c4:=c4 } w (w6.setCell ⟨w.heap.size+1+1,4,none⟩ (.slice a4 m.vers.length c4)):=by
   have ho7:=ho6
   have hs7:=hs6 (OldB.kept hBN)
   rw [<- h4.1] at ho7 hs7
   refine HX2.o.grow hg6.rV (HX2.o.own.app4 hg6 hBN ho7 hs7) ?_
   have:=mBoxR.set4 (hg6.rV.same HX2.o.ob notR.1) (o1.vers ++ m.vers) a4 c4
   rw [h4.1,List.nil_append] at this |-
   exact this
 clear hg6 ho6 hs6 hBN HX2 hzl
 generalize w6.setCell ⟨w.heap.size+1+1,4,none⟩ (.slice a4 m.vers.length c4)=V3 at *
 obtain ⟨o2,ho2⟩:∃ o2:MdlD,o2={ o1 with vers:=o1.vers ++ m.vers }:=⟨_,rfl⟩
 obtain ⟨p2,hp2⟩:∃ p2:Ph,p2={ p1 with a4:=a4,c4:=c4 }:=⟨_,rfl⟩
 rw [<- ho2,<- hp2] at hX3
 rw [show o1.trns=o2.trns by rw [ho2],show p1.a5=p2.a5 by rw [hp2],show p1.c5=p2.c5 by rw [hp2]] at h5
 have HX3:=hid hX3
 clear hX3
 obtain ⟨x0,x1,x2,x3,x4,x5,_⟩:=mBoxR.box HX3.o.mb
 obtain ⟨y0,y1,y2,y3,y4,y5,y6,y7,y8,y9,y10,y11⟩:=mBoxR.box HX3.o.ob
 rw [h5.1,h5.2.1,h5.2.2,List.length_nil] at y5
 have hsl:=HX3.o.own.mod.trns
 have hov:=HX3.o.own.o5
 rw [h5.1,h5.2.1,h5.2.2] at hsl hov
 have hms:=(HMo.o V3 HX3.o.bel).trns
 have hzl:w.heap.size<=V3.heap.size:=by have:=HX3.o.lt;omega
 go_upto_region 9 with (at_builtin;refine wpList_append_sl (TrnE.moves (R:=OldB N)) _ rfl _ _ 31 rfl 88 iT _ 104 Tryz.underlying31 hiT zT0 zT1 zT2 rfl (by decide) (by decide) rfl rfl hsl hov hms (by simp only [List.length_nil];omega) hzl ?_;intro a5 c5 w6 ho6 hg6 hs6;obtain ⟨x0,x1,x2,x3,x4,x5,f0,f1,f2,f3,f4,f5⟩:=mBoxR.box (hg6.rT.same HX3.o.ob notR.1))
 clear x0 x1 x2 x3 x4 x5 f0 f1 f2 f3 f4 f5 y0 y1 y2 y3 y4 y5 y6 y7 y8 y9 y10 y11 hsl hov hms
 have hBN:Below N V3 w6:=hg6.below hN (by omega)
 have hX4:ExR N w.heap.size m pm { o2 with trns:=o2.trns ++ m.trns } { p2 with a5:=a5,c5:=c5 } w (w6.setCell ⟨w.heap.size+1+1,5,none⟩ (.slice a5 m.trns.length c5)):=by
   have ho7:=ho6
   have hs7:=hs6 (OldB.kept hBN)
   rw [<- h5.1] at ho7 hs7
   refine HX3.o.grow hg6.rT (HX3.o.own.app5 hg6 hBN ho7 hs7) ?_
   have:=mBoxR.set5 (hg6.rT.same HX3.o.ob notR.1) (o2.trns ++ m.trns) a5 c5
   rw [h5.1,List.nil_append] at this |-
   exact this
 clear hg6 ho6 hs6 hBN HX3 hzl
 generalize w6.setCell ⟨w.heap.size+1+1,5,none⟩ (.slice a5 m.trns.length c5)=V4 at *
 obtain ⟨o3,ho3⟩:∃ o3:MdlD,o3={ o2 with trns:=o2.trns ++ m.trns }:=⟨_,rfl⟩
 obtain ⟨p3,hp3⟩:∃ p3:Ph,p3={ p2 with a5:=a5,c5:=c5 }:=⟨_,rfl⟩
 rw [<- ho3,<- hp3] at hX4
 have hE:o3=m:=by rw [HEnd.o,ho3,ho2,ho1]
 rw [hE] at hX4
 have HX4:=hid hX4
 clear hE ho1 ho2 ho3 hp1 hp2 hp3 hX4 HEnd h3 h4 h5
 have HMa:=hid fun (out:MdlD) (p:Ph) (wx:World)=>rmany_any out p wx
 unfold mdV at HMa
 have HFull:Hid (∀ k,k<=m.vers.length->manyM (expK true l n k)=true->expF true l l.length n=expK true l n k):=hid fun k hk h=>by
   rw [<- expK_all (cut:=true) hL.no hn,hgd,<- expK_full h (m.vers.length - k),show k+(m.vers.length - k)=m.vers.length by omega]
 have HAll:Hid (expF true l l.length n=expK true l n m.vers.length):=hid (by rw [<- expK_all (cut:=true) hL.no hn,hgd])
 go_wp2_with fail
 go_loopw [7] (fun i wr=>∃ k:Nat,k<=m.vers.length/\i=.int .i64 k/\∃ pk,ExR N w.heap.size m pm (expK true l n k) pk w wr) (fun i _=>m.vers.length - (intOf i).toNat)
 case atStart=>exact ⟨0,by omega,rfl,p3,by rw [expK_zero,hgd];exact HX4.o⟩
 case round =>
  obtain ⟨wo,rfl⟩:=ex1 wr
  obtain ⟨k,hk,rfl,pk,hX⟩:=hrel
  clear HX4
  obtain ⟨out,hout⟩:=ex2 (expK true l n k)
  rw [hout] at hX
  have HOut:=hid hout
  have HX:=hid hX
  clear hX hout
  by_cases hlt:k<m.vers.length
  . have hkI:(k:Int)<(m.vers.length:Int):=by omega
    have hk0:(0:Int)<=(k:Int):=by omega
    obtain ⟨x0,x1,x2,x3,x4,x5,_⟩:=mBoxR.box HX.o.mb
    obtain ⟨y0,y1,y2,y3,y4,y5,_⟩:=mBoxR.box HX.o.ob
    have HM:=hid (HMa.o out pk wo)
    cases hmn:manyM out with
    | true =>
     rw [hmn] at HM
     have HFin:Hid (expF true l l.length n=out):=hid (by rw [<- HOut.o];exact HFull.o k hk (by rw [HOut.o];exact hmn))
     go_upto_region 39 with ((with_reducible refine (HM.o).mono ?_);rintro e w5 ⟨rfl,hb5⟩)
     have HX5:=hid (HX.o.below hb5)
     clear x0 x1 x2 x3 x4 x5 y0 y1 y2 y3 y4 y5 HX HM hb5
     obtain ⟨z0,z1,z2,z3,z4,z5,f0,f1,f2,f3,f4,f5⟩:=zero_boxR HX5.o.zb
     obtain ⟨y0,y1,y2,y3,y4,y5,_⟩:=mBoxR.box HX5.o.ob
     go_wp2_with fail
     have hF:=HX5.o.fin
     refine bodyPost_ret (v:=mdV out pk) (by simp [results,Tryz.results24,go_sem,mdV,z0,z1,z2,z3,z4,z5]) rfl ?_
     rw [HP.o,HFin.o]
     exact ⟨pk,rfl,hF.1,hF.2⟩
    | false =>
     rw [hmn] at HM
     obtain ⟨b2,o2,e2,hb2,dv,hdv,r0,r1,r2,r3,r4,r5,r6,r7⟩:=(HMo.o wo HX.o.bel).vers.get hlt
     rw [e2] at x4
     have HE2:=hid e2
     obtain ⟨y,hy⟩:=ex2 (m.vers[k])
     rw [hy] at r7
     have HY:=hid hy
     clear hdv hb2 hy e2 r0 r1 r2 r3 r4 r5 r6
     go_upto_region 12 with ((with_reducible refine (HM.o).mono ?_);rintro e w5 ⟨rfl,hb5⟩)
     have HX5:=hid (HX.o.below hb5)
     have q4:=(mBoxR.box HX5.o.mb).c4
     rw [HE2.o] at q4
     have q7:=(hb5.cell (p:=⟨b2,o2+k * 8+7,none⟩) (World.block_lt_of_cell? wo _ r7)).trans r7
     clear x0 x1 x2 x3 x4 x5 y0 y1 y2 y3 y4 y5 HX HM hb5 r7
     cases hse:y.sb.toList.isEmpty with
     | true =>
      have HR1:Hid (expK true l n (k+1)=out):=hid (by
        rw [expK_skip hgd hlt (by rw [HY.o];have:=hse;rw [toList_eq',List.isEmpty_iff,<- List.length_eq_zero_iff] at this;simpa using this),HOut.o])
      go_wp2_with fail
      go_roundw
      case rel=>exact ⟨k+1,by omega,by go_num,pk,by rw [HR1.o];exact HX5.o⟩
      case measure=>simp [intOf] <;> omega
     | false =>
      have hpos:=empty_pos hse
      obtain ⟨q,hq,hql,hpt⟩:=hL.use hmem hlt (by rw [HY.o];exact hpos)
      have hgq:l.getD q m=l[q]:=by rw [List.getD_eq_getElem?_getD,List.getElem?_eq_getElem hql];rfl
      rw [hgq] at hpt
      have hu:Use l n q:=⟨m,by rw [List.getElem?_eq_getElem hn,hm],_,List.getElem_mem hlt,by rw [HY.o];exact hpos,hq⟩
      have hk1:=expK_put (cut:=true) hgd hlt (by rw [HY.o];exact hpos) hq (.inr (by rw [HOut.o];exact hmn))
      rw [hgq,HOut.o] at hk1
      rw [HY.o] at hq
      have HFi:=hid (rfind_any N l (some ⟨b1,oo1,none⟩) c y.sb w5 (HIHc.o w5 HX5.o.bel) (by omega))
      rw [fndI_some hq] at HFi
      have HE:=hid (HIH.o q hu w5 (HIHc.o w5 HX5.o.bel) (by have:=HX5.o.bel.size;omega))
      unfold ExQR mdV at HE
      obtain ⟨sub,hsub⟩:=ex2 (expF true l l.length q)
      rw [hsub] at HE hk1
      have HK1:=hid hk1
      -- what is known of them
      obtain ⟨s1,s2⟩:=expK_san (cut:=true) hL.toLibR hL.no hn k
      rw [hgd,HOut.o] at s2
      rw [HOut.o] at s1
      obtain ⟨t1,t2⟩:=exp_san (cut:=true) hL.toLibR (dpt_all hL.no hql) hql
      have hgq0:l.getD q D0=l[q]:=by rw [List.getD_eq_getElem?_getD,List.getElem?_eq_getElem hql];rfl
      rw [hsub] at t1 t2
      rw [hgq0] at t2
      have hcl:=cut_len hL.ri l.length q
      have hcb:LeS (bnS l.length,bnS l.length,bnS l.length) (161000,161000,161000):=by unfold bnS LeS;dsimp only;omega
      have hcl2:=hcl.trans hcb
      have hpr:=expF_prt (cut:=true) hL (B:=161000) (by omega) (by omega) (dpt_all hL.no hql) hql hcl2
      rw [hsub] at hcl2 hpr
      have hfew:=few_le (a:=lens out) hmn
      obtain ⟨lo1,lo2,lo3⟩:=hfew
      obtain ⟨lu1,lu2,lu3⟩:=hcl2
      unfold lens at lo1 lo2 lo3 lu1 lu2 lu3
      dsimp only at lo1 lo2 lo3 lu1 lu2 lu3
      have HSo:=hid s1
      have HPo:=hid s2
      have HSu:=hid t1
      have HPu:=hid t2
      have HPr:=hid hpr
      have HPt:=hid hpt
      have hko:k<out.vers.length:=Nat.lt_of_lt_of_le hlt s2.vl
      have hqI:(q:Int)<(l.length:Int):=by omega
      have hq0:(0:Int)<=(q:Int):=by omega
      clear hpos hq hpt hu hk1 s1 s2 t1 t2 hgq hgq0 hcl hcb hpr hsub hmn
      go_upto_region 15 with (first | ((with_reducible refine (HFi.o).mono ?_);rintro e w6 ⟨rfl,hw6⟩;subst w6) | ((with_reducible refine (HE.o).mono ?_);rintro e w6 ⟨px,rfl,hox,hbx⟩))
      have hT7:=ExL.start HX5.o hox hbx
      have hX0:w.heap.size+1+1<w5.heap.size:=HX5.o.lt
      clear HFi HE hox hbx q4 q7
      obtain ⟨X0,hX0e⟩:=ex2 w5.heap.size
      obtain ⟨SB,hSBe⟩:=ex2 w6.heap.size
      rw [hX0e,hSBe] at hT7
      dsimp only [mBoxR] at hT7
      obtain ⟨y0,y1,y2,y3,y4,y5,_⟩:=mBoxR.box hT7.ex.ob
      generalize w6.alloc (.cells #[.string sub.nm,.slice px.a1 sub.vars.length px.c1,.slice px.a2 sub.evs.length px.c2,.slice px.a3 sub.regs.length px.c3,.slice px.a4 sub.vers.length px.c4,.slice px.a5 sub.trns.length px.c5] 33)=W7 at *
      go_quiet (fail)
      have hT8:=hT7.below (below_drewN (Below.refl _ W7) nq)
      generalize W7.drewN nq=W8 at *
      clear y0 y1 y2 y3 y4 y5 hT7 HX5
      obtain ⟨b4,o4',ha4,hb4,dv,hdv,s0,s1,s2,s3,s4,s5,s6,s7⟩:=hT8.ex.own.mod.vers.get hko
      obtain ⟨da,dc,rfl⟩:=hdv.len
      have y4:=(mBoxR.box hT8.ex.ob).c4
      rw [ha4] at y4
      obtain ⟨u,hu⟩:=ex2 (out.vers[k])
      rw [hu] at s0 s1 s2 s3 s4 s5 s6 s7 hdv
      have hoI:(k:Int)<(out.vers.length:Int):=by omega
      have HT8:=hid hT8
      have HU:=hid hu
      have HA4:=hid ha4
      have HDv:=hid hdv
      have HSS:=hid (And.intro s0 (And.intro s1 (And.intro s2 (And.intro s3 (And.intro s4 (And.intro s5 (And.intro s6 (And.intro s7 y4))))))))
      have hl9:N<=W8.heap.size:=by have:=hT8.ex.lt;omega
      clear hT8 hu ha4 hdv
      go_upto_region 18 with fail
      clear s0 s1 s2 s3 s4 s5 s6 s7 y4
      have hBv:=below_al1 W8 (.cells #[.string u.nm,.int .u8 u.kd,.int .i64 u.rg,.int .i64 u.ofv,.string u.en,.string u.ex,.slice da u.df.length dc,.string ⟨#[]⟩] 86)
      have hAv:=World.alloc_heap_new W8 (.cells #[.string u.nm,.int .u8 u.kd,.int .i64 u.rg,.int .i64 u.ofv,.string u.en,.string u.ex,.slice da u.df.length dc,.string ⟨#[]⟩] 86)
      have hTv:=HT8.o.below hBv
      have hSv:=HDv.o.kept (OldB.kept (hBv.mono hl9))
      obtain ⟨s0,s1,s2,s3,s4,s5,s6,s7,y4⟩:=HSS.o
      have k8:∀ b o u',W8.cell? ⟨b,o,none⟩=some u'->(W8.alloc (.cells #[.string u.nm,.int .u8 u.kd,.int .i64 u.rg,.int .i64 u.ofv,.string u.en,.string u.ex,.slice da u.df.length dc,.string ⟨#[]⟩] 86)).cell? ⟨b,o,none⟩=some u':=fun b o u' h=>(hBv.cell (p:=⟨b,o,none⟩) (World.block_lt_of_cell? W8 _ h)).trans h
      replace s0:=k8 _ _ _ s0
      replace s1:=k8 _ _ _ s1
      replace s2:=k8 _ _ _ s2
      replace s3:=k8 _ _ _ s3
      replace s4:=k8 _ _ _ s4
      replace s5:=k8 _ _ _ s5
      replace s6:=k8 _ _ _ s6
      replace s7:=k8 _ _ _ s7
      replace y4:=k8 _ _ _ y4
      clear k8 hBv HSS HDv
      generalize W8.alloc (.cells #[.string u.nm,.int .u8 u.kd,.int .i64 u.rg,.int .i64 u.ofv,.string u.en,.string u.ex,.slice da u.df.length dc,.string ⟨#[]⟩] 86)=W9 at *
      have hQ4:=(hTv.ex.own.mod.vers.block HA4.o (by omega)).2
      have hf8:∀ k,W9.frozen? ⟨b4,k,none⟩=false:=fun k=>hQ4.free (k:=k)
      have g0:=hf8 (o4'+k * 8)
      have g1:=hf8 (o4'+k * 8+1)
      have g2:=hf8 (o4'+k * 8+2)
      have g3:=hf8 (o4'+k * 8+3)
      have g4:=hf8 (o4'+k * 8+4)
      have g5:=hf8 (o4'+k * 8+5)
      have g6:=hf8 (o4'+k * 8+6)
      have g7:=hf8 (o4'+k * 8+7)
      obtain ⟨v0,v1,v2,v3,v4,v5,v6,v7⟩:=cells8 hAv
      obtain ⟨q1,q2⟩:=hTv.ex.own.setVer HA4.o hko hN { u with sb:=⟨#[]⟩ } (dv:=.slice da u.df.length dc) hSv
      obtain ⟨ok,hok⟩:∃ ok:MdlD,ok={ out with vers:=out.vers.modify k fun y=>{ y with sb:=⟨#[]⟩ } }:=⟨_,rfl⟩
      have hok':=hok
      rw [modify_const hko,HU.o] at hok'
      rw [<- hok'] at q1
      have hat:=set8_at W9 b4 (o4'+k * 8) (.string u.nm) (.int .u8 u.kd) (.int .i64 u.rg) (.int .i64 u.ofv) (.string u.en) (.string u.ex) (.slice da u.df.length dc) (.string ⟨#[]⟩)
      have hT10:=hTv.frame q2.rV (hat.stay (hTv.o4 b4 o4' HA4.o (by have:=hTv.ex.own.o4.cap;omega)) (by have:=hQ4.1;omega)) q1 (by rw [hok];unfold mBoxR;simp) hTv.o3 hTv.o4 hTv.o5
      dsimp only [set8] at hT10
      have HT10:=hid hT10
      have HOK:=hid hok
      clear hT10 hok hok' q1 q2 hTv hSv hAv hf8 hat hQ4
      go_upto_region 19 with fail
      generalize ((((((((W9.setCell ⟨b4,o4'+k * 8,none⟩ (.string u.nm)).setCell ⟨b4,o4'+k * 8+1,none⟩ (.int .u8 u.kd)).setCell ⟨b4,o4'+k * 8+2,none⟩ (.int .i64 u.rg)).setCell ⟨b4,o4'+k * 8+3,none⟩ (.int .i64 u.ofv)).setCell ⟨b4,o4'+k * 8+4,none⟩ (.string u.en)).setCell ⟨b4,o4'+k * 8+5,none⟩ (.string u.ex)).setCell ⟨b4,o4'+k * 8+6,none⟩ (.slice da u.df.length dc)).setCell ⟨b4,o4'+k * 8+7,none⟩ (.string ⟨#[]⟩))=W10 at *
      clear g0 g1 g2 g3 g4 g5 g6 g7 s0 s1 s2 s3 s4 s5 s6 s7 v0 v1 v2 v3 v4 v5 v6 v7 y4 HA4 HU HT8 hl9 hb4
      obtain ⟨TR,hTR⟩:=ex2 (mvR k out.vers.length sub.regs)
      have hTl:TR.length=sub.regs.length:=by rw [<- hTR,mvR_len]
      have HTA:Hid (∀ j (h:j<TR.length),∃ hk:j<sub.regs.length,TR[j]={ sub.regs[j] with own:=if j=0 then (k:Int) else sub.regs[j].own+out.vers.length }):=hid (by subst hTR;exact fun j h=>mvR_at h)
      have hkr:ok.regs.length=out.regs.length:=by rw [HOK.o]
      have hkv:ok.vers.length=out.vers.length:=by rw [HOK.o];simp
      have hkt:ok.trns.length=out.trns.length:=by rw [HOK.o]
      have HCap:Hid (∀ j,(ok.regs ++ TR.take j).length+1<=1000000):=hid fun j=>by rw [List.length_append,List.length_take];omega
      have HTR:=hid hTR
      clear hTR
      go_wp2_with fail
      go_loopw [13] (fun i wr=>∃ j:Nat,j<=sub.regs.length/\i=.int .i64 j/\∃ pj,ExL N w.heap.size X0 (SB+1) SB m pm { ok with regs:=ok.regs ++ TR.take j } pj sub px w wr) (fun i _=>sub.regs.length - (intOf i).toNat)
      case atStart=>exact ⟨0,by omega,rfl,pk,by rw [List.take_zero,List.append_nil];exact HT10.o⟩
      case round =>
       obtain ⟨wo2,rfl⟩:=ex1 wr
       obtain ⟨j,hj,rfl,pj,hT⟩:=hrel
       clear HT10
       obtain ⟨oj,hoj⟩:∃ oj:MdlD,oj={ ok with regs:=ok.regs ++ TR.take j }:=⟨_,rfl⟩
       rw [<- hoj] at hT
       have HOJ:=hid hoj
       have HT:=hid hT
       clear hT hoj
       obtain ⟨c0,c1,c2,c3,c4,c5,_⟩:=mBoxR.box HT.o.sb
       by_cases hlj:j<sub.regs.length
       . obtain ⟨b5,o5,e5,hb5,r0,r1⟩:=HT.o.sm.regs.get hlj
         rw [e5] at c3
         have hjI:(j:Int)<(sub.regs.length:Int):=by omega
         have hj0:(0:Int)<=(j:Int):=by omega
         obtain ⟨x,hx⟩:=ex2 (sub.regs[j])
         have hso:=fun h=>san_own HSu.o hlj h
         rw [hx] at r0 r1 hso
         have hjT:j<TR.length:=by rw [hTl];exact hlj
         obtain ⟨_,hat⟩:=HTA.o j hjT
         rw [hx] at hat
         clear hx hb5 e5
         by_cases hjz:j=0
         . have hjb:((j:Int) == 0)=true:=by rw [hjz];rfl
           rw [if_pos hjz] at hat
           clear hjz hso
           go_upto_region 26 with fail
           have hB6:=below_al1 wo2 (.cells #[.string x.nm,.int .i64 k] 84)
           have hA6:=World.alloc_heap_new wo2 (.cells #[.string x.nm,.int .i64 k] 84)
           have hT6:=HT.o.below hB6
           generalize wo2.alloc (.cells #[.string x.nm,.int .i64 k] 84)=W11 at *
           have HA6:=hid hA6
           have HT6:=hid hT6
           clear hA6 hT6 hB6 r0 r1 c0 c1 c2 c3 c4 c5
           obtain ⟨z0,z1⟩:=cellsR2 HA6.o
           obtain ⟨y0,y1,y2,y3,y4,y5,_⟩:=mBoxR.box HT6.o.ex.ob
           have hz6:w.heap.size<=W11.heap.size:=HT6.o.hw
           have hnt:oj.regs.length+1<=1000000:=by rw [HOJ.o];exact HCap.o j
           go_wp2_with (at_builtin;refine wpList_append_fine RegE.moves _ rfl _ _ 29 rfl 84 iR _ 24 Tryz.underlying29 hiR zR0 zR1 zR2 rfl (by decide) (by decide) rfl rfl (HT6.o.below (below_al1 W11 _)).ex.own.mod.regs (HT6.o.below (below_al1 W11 _)).ex.own.o3 (reg_sl W11 ⟨x.nm,k⟩ _) hnt (HT6.o.below (below_al1 W11 _)).hw ?_;intro a6 c6 w6 ho6 hg6 hf6 hs6;obtain ⟨x0,x1,x2,x3,x4,x5,f0,f1,f2,f3,f4,f5⟩:=mBoxR.box (hg6.rR.same (HT6.o.below (below_al1 W11 _)).ex.ob notR.1))
           have hTa:=HT6.o.below (below_al1 W11 (.cells #[.string x.nm,.int .i64 k] 84))
           have hob:=hg6.rR.same hTa.ex.ob notR.1
           have hBN:Below N (W11.alloc (.cells #[.string x.nm,.int .i64 k] 84)) w6:=hg6.below hN (Nat.le_trans hN hTa.hw)
           have hTb:ExL N w.heap.size X0 (SB+1) SB m pm { oj with regs:=oj.regs ++ [⟨x.nm,k⟩] } { pj with a3:=a6,c3:=c6 } sub px w (w6.setCell ⟨w.heap.size+1+1,3,none⟩ (.slice a6 (oj.regs.length+1) c6)):=by
             refine hTa.grow hg6.rR (hTa.o3.stay hf6 hTa.h1 hg6 hN hTa.hw) (hTa.ex.own.app3 hg6 hBN ho6 (hs6 trivial)) ?_ (hTa.o3.fine hf6 hTa.h1) hTa.o4 hTa.o5
             have:=mBoxR.set3 hob (oj.regs ++ [⟨x.nm,k⟩]) a6 c6
             rw [List.length_append] at this
             exact this
           have hEq:{ oj with regs:=oj.regs ++ [⟨x.nm,k⟩] }={ ok with regs:=ok.regs ++ TR.take (j+1) }:=by
             rw [HOJ.o,<- take_succ_app hjT,hat]
           rw [hEq] at hTb
           have HTb:=hid hTb
           clear hEq hTa hob hTb hBN x0 x1 x2 x3 x4 x5 y0 y1 y2 y3 y4 y5 f0 f1 f2 f3 f4 f5 ho6 hg6 hf6 hs6 hnt
           go_roundw
           case rel=>exact ⟨j+1,hlj,by go_num,_,HTb.o⟩
           case measure=>simp [intOf] <;> omega
         . have hjb:((j:Int) == 0)=false:=by rw [beq_eq_false_iff_ne];omega
           rw [if_neg hjz] at hat
           have hso2:=hso hjz
           clear hjz hso
           obtain ⟨ow,how⟩:∃ ow,x.own+(out.vers.length:Int)=ow:=⟨_,rfl⟩
           have hw:IntKind.i64.wrap (x.own+(out.vers.length:Int))=ow:=by rw [<- how];exact IntWalk.i64_in _ ⟨by omega,by omega⟩
           rw [how] at hat
           clear how
           go_upto_region 26 with fail
           have hB6:=below_al1 wo2 (.cells #[.string x.nm,.int .i64 ow] 84)
           have hA6:=World.alloc_heap_new wo2 (.cells #[.string x.nm,.int .i64 ow] 84)
           have hT6:=HT.o.below hB6
           generalize wo2.alloc (.cells #[.string x.nm,.int .i64 ow] 84)=W11 at *
           have HA6:=hid hA6
           have HT6:=hid hT6
           clear hA6 hT6 hB6 r0 r1 c0 c1 c2 c3 c4 c5
           obtain ⟨z0,z1⟩:=cellsR2 HA6.o
           obtain ⟨y0,y1,y2,y3,y4,y5,_⟩:=mBoxR.box HT6.o.ex.ob
           have hz6:w.heap.size<=W11.heap.size:=HT6.o.hw
           have hnt:oj.regs.length+1<=1000000:=by rw [HOJ.o];exact HCap.o j
           go_wp2_with (at_builtin;refine wpList_append_fine RegE.moves _ rfl _ _ 29 rfl 84 iR _ 24 Tryz.underlying29 hiR zR0 zR1 zR2 rfl (by decide) (by decide) rfl rfl (HT6.o.below (below_al1 W11 _)).ex.own.mod.regs (HT6.o.below (below_al1 W11 _)).ex.own.o3 (reg_sl W11 ⟨x.nm,ow⟩ _) hnt (HT6.o.below (below_al1 W11 _)).hw ?_;intro a6 c6 w6 ho6 hg6 hf6 hs6;obtain ⟨x0,x1,x2,x3,x4,x5,f0,f1,f2,f3,f4,f5⟩:=mBoxR.box (hg6.rR.same (HT6.o.below (below_al1 W11 _)).ex.ob notR.1))
           have hTa:=HT6.o.below (below_al1 W11 (.cells #[.string x.nm,.int .i64 ow] 84))
           have hob:=hg6.rR.same hTa.ex.ob notR.1
           have hBN:Below N (W11.alloc (.cells #[.string x.nm,.int .i64 ow] 84)) w6:=hg6.below hN (Nat.le_trans hN hTa.hw)
           have hTb:ExL N w.heap.size X0 (SB+1) SB m pm { oj with regs:=oj.regs ++ [⟨x.nm,ow⟩] } { pj with a3:=a6,c3:=c6 } sub px w (w6.setCell ⟨w.heap.size+1+1,3,none⟩ (.slice a6 (oj.regs.length+1) c6)):=by
             refine hTa.grow hg6.rR (hTa.o3.stay hf6 hTa.h1 hg6 hN hTa.hw) (hTa.ex.own.app3 hg6 hBN ho6 (hs6 trivial)) ?_ (hTa.o3.fine hf6 hTa.h1) hTa.o4 hTa.o5
             have:=mBoxR.set3 hob (oj.regs ++ [⟨x.nm,ow⟩]) a6 c6
             rw [List.length_append] at this
             exact this
           have hEq:{ oj with regs:=oj.regs ++ [⟨x.nm,ow⟩] }={ ok with regs:=ok.regs ++ TR.take (j+1) }:=by
             rw [HOJ.o,<- take_succ_app hjT,hat]
           rw [hEq] at hTb
           have HTb:=hid hTb
           clear hEq hTa hob hTb hBN x0 x1 x2 x3 x4 x5 y0 y1 y2 y3 y4 y5 f0 f1 f2 f3 f4 f5 ho6 hg6 hf6 hs6 hnt
           go_roundw
           case rel=>exact ⟨j+1,hlj,by go_num,_,HTb.o⟩
           case measure=>simp [intOf] <;> omega
       . obtain rfl:j=sub.regs.length:=by omega
         rw [<- hTl,List.take_length] at HOJ
         obtain ⟨oa,rfl⟩:∃ oa,oa=oj:=⟨_,rfl⟩
         obtain ⟨pa,rfl⟩:∃ pa,pa=pj:=⟨_,rfl⟩
         have HOA:=hid HOJ.o
         have HTA1:=hid HT.o
         clear HTA hlj hj HOJ HT
         obtain ⟨TV,hTV⟩:=ex2 (sub.vers.map (mvV out.regs.length out.vers.length))
         have hTvl:TV.length=sub.vers.length:=by rw [<- hTV,List.length_map]
         have HTVA:Hid (∀ j (h:j<sub.vers.length) (h':j<TV.length),TV[j]=mvV out.regs.length out.vers.length sub.vers[j]):=hid (by subst hTV;intro j h h';simp)
         have HTV:=hid hTV
         have har:oa.regs.length=ok.regs.length+TR.length/\oa.vers.length=ok.vers.length/\oa.trns.length=ok.trns.length:=by rw [HOA.o];simp
         have HMv:Hid (∀ j (h:j<sub.vers.length),(0<=sub.vers[j].ofv->sub.vers[j].ofv<=1000000)/\(¬ 0<=sub.vers[j].ofv->-1000000<=sub.vers[j].rg/\sub.vers[j].rg<=1000000)):=hid fun j h=>by
           have hms:=HSu.o.ver _ (List.getElem_mem h)
           exact ⟨fun h=>by omega,fun h=>by omega⟩
         have HCap:Hid (∀ j,(oa.vers ++ TV.take j).length+1<=1000000):=hid fun j=>by rw [List.length_append,List.length_take,har.2.1];omega
         have hr6:out.regs.length<=1000000:=by omega
         have hv6:out.vers.length<=1000000:=by omega
         clear hTV
         go_wp2_with fail
         go_loopw [15] (fun i wr=>∃ j:Nat,j<=sub.vers.length/\i=.int .i64 j/\∃ pj,ExL N w.heap.size X0 (SB+1) SB m pm { oa with vers:=oa.vers ++ TV.take j } pj sub px w wr) (fun i _=>sub.vers.length - (intOf i).toNat)
         case atStart=>exact ⟨0,by omega,rfl,pa,by rw [List.take_zero,List.append_nil];exact HTA1.o⟩
         case round =>
          obtain ⟨wo3,rfl⟩:=ex1 wr
          obtain ⟨j,hj,rfl,pj,hT⟩:=hrel
          clear HTA1 c0 c1 c2 c3 c4 c5
          obtain ⟨oj,hoj⟩:∃ oj:MdlD,oj={ oa with vers:=oa.vers ++ TV.take j }:=⟨_,rfl⟩
          rw [<- hoj] at hT
          have HOJ:=hid hoj
          have HT:=hid hT
          clear hT hoj
          obtain ⟨c0,c1,c2,c3,c4,c5,_⟩:=mBoxR.box HT.o.sb
          by_cases hlj:j<sub.vers.length
          . obtain ⟨b5,o5,e5,hb5,dv,hdv,r0,r1,r2,r3,r4,r5,r6,r7⟩:=HT.o.sm.vers.get hlj
            obtain ⟨da,dc,rfl⟩:=hdv.len
            obtain ⟨_,hbq⟩:=HT.o.sm.vers.block e5 (Nat.lt_of_le_of_lt (Nat.zero_le _) hlj)
            have hbq':X0<=b5/\b5<SB+1:=hbq
            rw [e5] at c4
            have hjI:(j:Int)<(sub.vers.length:Int):=by omega
            have hj0:(0:Int)<=(j:Int):=by omega
            have hms:=HMv.o j hlj
            have hjT:j<TV.length:=by rw [hTvl];exact hlj
            obtain ⟨x,hx⟩:=ex2 (sub.vers[j])
            have hat:=HTVA.o j hlj hjT
            rw [hx] at r0 r1 r2 r3 r4 r5 r6 r7 hdv hms hat
            have HC:=hid fun (wx:World)=>rmoved_any x da dc out.regs.length out.vers.length wx hms.1 (fun h=>hms.2 (Int.not_le.1 h)) hr6 hv6
            unfold verA at HC
            obtain ⟨xm,hxm⟩:=ex2 (mvV out.regs.length out.vers.length x)
            have hdf:xm.df=x.df:=by rw [<- hxm];exact mvV_df _ _ _
            rw [hxm] at HC hat
            have HDv:Hid (SlS (OldB N) wo3 (.slice da xm.df.length dc) xm.df):=hid (by rw [hdf];exact hdv)
            have HAt:=hid hat
            obtain ⟨y0,y1,y2,y3,y4,y5,_⟩:=mBoxR.box HT.o.ex.ob
            have HS:Hid (∀ W',Sm3 (w.heap.size+1+1) SB b5 wo3 W'->W'.cell? ⟨w.heap.size+1+1,4,none⟩=some (.slice pj.a4 oj.vers.length pj.c4)/\W'.cell? ⟨SB,4,none⟩=some (.slice (some ⟨b5,o5,none⟩) sub.vers.length px.c4) /\
                (W'.cell? ⟨b5,o5+j * 8,none⟩=some (.string x.nm)/\W'.cell? ⟨b5,o5+j * 8+1,none⟩=some (.int .u8 x.kd)/\W'.cell? ⟨b5,o5+j * 8+2,none⟩=some (.int .i64 x.rg)/\W'.cell? ⟨b5,o5+j * 8+3,none⟩=some (.int .i64 x.ofv)/\W'.cell? ⟨b5,o5+j * 8+4,none⟩=some (.string x.en)/\W'.cell? ⟨b5,o5+j * 8+5,none⟩=some (.string x.ex)/\W'.cell? ⟨b5,o5+j * 8+6,none⟩=some (.slice da x.df.length dc)/\W'.cell? ⟨b5,o5+j * 8+7,none⟩=some (.string x.sb))):=hid fun W' g =>
              ⟨same_cell g.a y4,same_cell g.b c4,same_cell g.c r0,same_cell g.c r1,same_cell g.c r2,same_cell g.c r3,same_cell g.c r4,same_cell g.c r5,same_cell g.c r6,same_cell g.c r7⟩
            have HLt:Hid (w.heap.size+1+1<wo3.heap.size/\SB<wo3.heap.size/\b5<wo3.heap.size):=hid ⟨HT.o.ex.lt,(Array.getElem?_eq_some_iff.1 HT.o.sb).1,hb5⟩
            have hS0:Sm3 (w.heap.size+1+1) SB b5 wo3 wo3:=Sm3.refl _ _ _ _
            have hB0:Below wo3.heap.size wo3 wo3:=Below.refl _ _
            have hnt:oj.vers.length+1<=1000000:=by rw [HOJ.o];exact HCap.o j
            have hzw:w.heap.size<=wo3.heap.size:=HT.o.hw
            clear hx hms hxm hdf hat hdv e5 hbq hb5 y0 y1 y2 y3 y4 y5 r0 r1 r2 r3 r4 r5 r6 r7
            go_upto_region 30 with fail
            refine wp_region_any (by kernel_rfl) ?_
            change wpAny _ _ _ _ _ _ _ (World.drew _)
            refine wpAny_sink (n:=13) (o:=⟨none,.store 30 (.tmp 142) (.tmp 141),0, "ref.go:130", #[⟨12,.data⟩,⟨11,.data⟩,⟨11,.chain⟩,⟨0,.phase⟩,⟨1,.phase⟩,⟨2,.phase⟩,⟨3,.phase⟩,⟨4,.phase⟩,⟨5,.phase⟩,⟨6,.phase⟩,⟨7,.phase⟩,⟨8,.phase⟩,⟨9,.phase⟩,⟨10,.phase⟩,⟨11,.phase⟩],none⟩) (ops':=#[⟨some 130,.fieldAddr 33 (.tmp 6) 4,0, "ref.go:130", #[],none⟩,⟨some 131,.load 30 (.tmp 130),30, "ref.go:130", #[⟨0,.data⟩],none⟩,⟨some 132,.fieldAddr 33 (.tmp 9) 4,0, "ref.go:130", #[],none⟩,⟨some 133,.load 30 (.tmp 132),30, "ref.go:130", #[⟨2,.data⟩],none⟩,⟨some 134,.move (.tmp 15),3, "ref.go:130", #[],none⟩,⟨some 135,.indexAddr 30 (.tmp 133) (.tmp 134),0, "ref.go:130", #[⟨3,.data⟩,⟨4,.data⟩],none⟩,⟨some 136,.load 86 (.tmp 135),86, "ref.go:130", #[⟨5,.data⟩],none⟩,⟨some 137,.move (.tmp 10),3, "ref.go:130", #[],none⟩,⟨some 138,.move (.tmp 11),3, "ref.go:130", #[],none⟩,⟨some 139,.call { callee:=.value (.func 44),args:=#[.tmp 136,.tmp 137,.tmp 138],argTypes:=#[86,3,3] },86, "ref.go:130", #[⟨6,.data⟩,⟨7,.data⟩,⟨8,.data⟩],none⟩,⟨some 140,.buildSlice 30 1 #[(0,.tmp 139)],30, "ref.go:130", #[⟨9,.data⟩],none⟩,⟨some 141,.call { callee:=.builtin .append,args:=#[.tmp 131,.tmp 140],argTypes:=#[30,30] },30, "ref.go:130", #[⟨1,.data⟩,⟨10,.data⟩,⟨9,.chain⟩],none⟩,⟨some 142,.fieldAddr 33 (.tmp 6) 4,0, "ref.go:130", #[⟨0,.phase⟩,⟨1,.phase⟩,⟨2,.phase⟩,⟨3,.phase⟩,⟨4,.phase⟩,⟨5,.phase⟩,⟨6,.phase⟩,⟨7,.phase⟩,⟨8,.phase⟩,⟨9,.phase⟩,⟨10,.phase⟩,⟨11,.phase⟩],none⟩]) (by decide) (by kernel_rfl) (by rfl) (by rfl) ?_
            refine hld HS.o (hS0.drew) (fun hHeld=>?_)
            refine tk 0 rfl ?_
            refine tk 1 rfl ?_
            refine tk 2 rfl ?_
            refine tk 3 rfl ?_
            refine tk 4 rfl ?_
            refine tk 5 rfl ?_
            refine tk 6 rfl ?_
            refine tk 7 rfl ?_
            refine tk 8 rfl ?_
            refine rd1 9 (fun K hK=>?_)
            (go_simp;(with_reducible refine (HC.o _).mono ?_);rintro e w9 ⟨rfl,g9⟩;have hB9:Below wo3.heap.size wo3 w9:=hB0.drew.trans (g9.mono hB0.drew.size);have hS9:=Sm3.below HLt.o hB9;go_wp2_with fail)
            refine nx hK ?_ (fun hH1=>?_)
            (first | exact HS.o _ hS0.drew | exact HS.o _ hS9 | exact HS.o _ hS10 | exact HS.o _ hS11)
            clear hK K hHeld
            refine rd1 10 (fun K hK=>?_)
            (go_simp;have hB10:Below wo3.heap.size wo3 (w9.alloc (.cells #[.string xm.nm,.int .u8 xm.kd,.int .i64 xm.rg,.int .i64 xm.ofv,.string xm.en,.string xm.ex,.slice da xm.df.length dc,.string xm.sb] 86)):=hB9.trans ((below_al1 w9 (.cells #[.string xm.nm,.int .u8 xm.kd,.int .i64 xm.rg,.int .i64 xm.ofv,.string xm.en,.string xm.ex,.slice da xm.df.length dc,.string xm.sb] 86)).mono hB9.size);have hS10:=Sm3.below HLt.o hB10)
            refine nx hK ?_ (fun hH2=>?_)
            (first | exact HS.o _ hS0.drew | exact HS.o _ hS9 | exact HS.o _ hS10 | exact HS.o _ hS11)
            clear hK K hH1
            refine rd1 11 (fun K hK=>?_)
            ((refine step_append_fine (VerE.moves (R:=OldB N)) _ (by rfl) _ _ _ (by rfl) 86 iV _ 112 Tryz.underlying30 hiV zV0 zV1 zV2 (by rfl) (by decide) (by decide) (by rfl) (by rfl) (HT.o.below hB10).ex.own.mod.vers (HT.o.below hB10).ex.own.o4 (ver_sl (OldB N) w9 xm da dc _ (HDv.o.kept (OldB.kept (hB10.mono (Nat.le_trans hN hzw))))) hnt (Nat.le_trans hzw hB10.size) ?_;intro a6 c6 w6 ho6 hg6 hf6 hs6;have hTa:=HT.o.below hB10;have hST:Stay X0 (SB+1) N _ w6:=hTa.o4.stay hf6 hTa.h1 hg6 hN (Nat.le_trans hzw hB10.size);have hS11:Sm3 (w.heap.size+1+1) SB b5 wo3 w6:=⟨(hg6.rV.same hTa.ex.ob notR.1).trans HT.o.ex.ob.symm,(hST.block _ hTa.s0 hTa.s1).trans hS10.b,(hST.block _ hbq'.1 hbq'.2).trans hS10.c⟩))
            refine nx hK ?_ (fun hH3=>?_)
            (first | exact HS.o _ hS0.drew | exact HS.o _ hS9 | exact HS.o _ hS10 | exact HS.o _ hS11)
            clear hK K hH2
            refine tk 12 rfl ?_
            refine dn ?_
            rotate_left
            all_goals
              obtain ⟨x0,x1,x2,x3,x4,x5,f0,f1,f2,f3,f4,f5⟩:=mBoxR.box (hg6.rV.same hTa.ex.ob notR.1)
              have hob:=hg6.rV.same hTa.ex.ob notR.1
              have hBN:Below N (w9.alloc (.cells #[.string xm.nm,.int .u8 xm.kd,.int .i64 xm.rg,.int .i64 xm.ofv,.string xm.en,.string xm.ex,.slice da xm.df.length dc,.string xm.sb] 86)) w6:=hg6.below hN (Nat.le_trans hN hTa.hw)
              have hTb:ExL N w.heap.size X0 (SB+1) SB m pm { oj with vers:=oj.vers ++ [xm] } { pj with a4:=a6,c4:=c6 } sub px w (w6.setCell ⟨w.heap.size+1+1,4,none⟩ (.slice a6 (oj.vers.length+1) c6)):=by
                refine hTa.grow hg6.rV hST (hTa.ex.own.app4 hg6 hBN ho6 (hs6 (OldB.kept hBN))) ?_ hTa.o3 (hTa.o4.fine hf6 hTa.h1) hTa.o5
                have:=mBoxR.set4 hob (oj.vers ++ [xm]) a6 c6
                rw [List.length_append] at this
                exact this
              have hEq:{ oj with vers:=oj.vers ++ [xm] }={ oa with vers:=oa.vers ++ TV.take (j+1) }:=by
                rw [HOJ.o,<- take_succ_app hjT,HAt.o]
              rw [hEq] at hTb
              have HTb:=hid hTb
              clear hEq hTb hob hBN hTa hST hS9 hS10 hS11 hB9 hB10 ho6 hg6 hf6 hs6 x0 x1 x2 x3 x5
              refine sinkQ_of fun K hK=>?_
              go_simp
              refine hK _ _ ?_
              clear hK K
              go_wp2_with fail
              go_roundw
              case rel=>exact ⟨j+1,hlj,by go_num,_,HTb.o⟩
              case measure=>simp [intOf] <;> omega
          . obtain rfl:j=sub.vers.length:=by omega
            rw [<- hTvl,List.take_length] at HOJ
            obtain ⟨ob,rfl⟩:∃ ob,ob=oj:=⟨_,rfl⟩
            obtain ⟨pb,rfl⟩:∃ pb,pb=pj:=⟨_,rfl⟩
            have HOB:=hid HOJ.o
            have HTB1:=hid HT.o
            clear hlj hj HOJ HT
            obtain ⟨UT,hUT⟩:=ex2 (sub.trns.map (mvT out.vers.length))
            have hUl:UT.length=sub.trns.length:=by rw [<- hUT,List.length_map]
            have HUA:Hid (∀ j (h:j<sub.trns.length) (h':j<UT.length),UT[j]=mvT out.vers.length sub.trns[j]):=hid (by subst hUT;intro j h h';simp)
            have HUT:=hid hUT
            have hbr:ob.regs.length=ok.regs.length+TR.length/\ob.vers.length=ok.vers.length+TV.length/\ob.trns.length=ok.trns.length:=by rw [HOB.o];simp [har.1,har.2.1,har.2.2]
            have HMt:Hid (∀ j (h:j<sub.trns.length),0<=sub.trns[j].src/\sub.trns[j].src<=1000000/\0<=sub.trns[j].tgt/\sub.trns[j].tgt<=1000000):=hid fun j h=>by
              have:=HSu.o.trn _ (List.getElem_mem h);omega
            have HCap:Hid (∀ j,(ob.trns ++ UT.take j).length+1<=1000000):=hid fun j=>by rw [List.length_append,List.length_take,hbr.2.2];omega
            clear hUT
            go_wp2_with fail
            go_loopw [16] (fun i wr=>∃ j:Nat,j<=sub.trns.length/\i=.int .i64 j/\∃ pj,ExL N w.heap.size X0 (SB+1) SB m pm { ob with trns:=ob.trns ++ UT.take j } pj sub px w wr) (fun i _=>sub.trns.length - (intOf i).toNat)
            case atStart=>exact ⟨0,by omega,rfl,pb,by rw [List.take_zero,List.append_nil];exact HTB1.o⟩
            case round =>
             obtain ⟨wo4,rfl⟩:=ex1 wr
             obtain ⟨j,hj,rfl,pj,hT⟩:=hrel
             clear HTB1 c0 c1 c2 c3 c4 c5
             obtain ⟨oj,hoj⟩:∃ oj:MdlD,oj={ ob with trns:=ob.trns ++ UT.take j }:=⟨_,rfl⟩
             rw [<- hoj] at hT
             have HOJ:=hid hoj
             have HT:=hid hT
             clear hT hoj
             obtain ⟨c0,c1,c2,c3,c4,c5,_⟩:=mBoxR.box HT.o.sb
             by_cases hlj:j<sub.trns.length
             . obtain ⟨b5,o5,e5,hb5,dt,hdt,r0,r1,r2,r3,r4,r5,r6,r7⟩:=HT.o.sm.trns.get hlj
               obtain ⟨da,dc,rfl⟩:=hdt.len
               rw [e5] at c5
               have hjI:(j:Int)<(sub.trns.length:Int):=by omega
               have hj0:(0:Int)<=(j:Int):=by omega
               have hms:=HMt.o j hlj
               have hjT:j<UT.length:=by rw [hUl];exact hlj
               obtain ⟨x,hx⟩:=ex2 (sub.trns[j])
               have hat:=HUA.o j hlj hjT
               rw [hx] at r0 r1 r2 r3 r4 r5 r6 r7 hdt hms hat
               obtain ⟨sv,hsv⟩:∃ sv,x.src+(out.vers.length:Int)=sv:=⟨_,rfl⟩
               obtain ⟨tv,htv⟩:∃ tv,x.tgt+(out.vers.length:Int)=tv:=⟨_,rfl⟩
               have hw1:IntKind.i64.wrap (x.src+(out.vers.length:Int))=sv:=by rw [<- hsv];exact IntWalk.i64_in _ ⟨by omega,by omega⟩
               have hw2:IntKind.i64.wrap (x.tgt+(out.vers.length:Int))=tv:=by rw [<- htv];exact IntWalk.i64_in _ ⟨by omega,by omega⟩
               unfold mvT at hat
               rw [hsv,htv] at hat
               have HAt:=hid hat
               have HDt:=hid hdt
               have hzw:w.heap.size<=wo4.heap.size:=HT.o.hw
               clear hx hms hsv htv hat hdt e5
               go_upto_region 37 with fail
               have hB6:=below_al1 wo4 (.cells #[.string x.nm,.int .i64 sv,.int .i64 tv,.slice da x.tr.length dc,.int .i64 x.af,.string x.gd,.string x.ef,.int .u8 x.kd] 88)
               have hA6:=World.alloc_heap_new wo4 (.cells #[.string x.nm,.int .i64 sv,.int .i64 tv,.slice da x.tr.length dc,.int .i64 x.af,.string x.gd,.string x.ef,.int .u8 x.kd] 88)
               have hT6:=HT.o.below hB6
               have hd6:=HDt.o.kept (OldB.kept (hB6.mono (Nat.le_trans hN hzw)))
               generalize wo4.alloc (.cells #[.string x.nm,.int .i64 sv,.int .i64 tv,.slice da x.tr.length dc,.int .i64 x.af,.string x.gd,.string x.ef,.int .u8 x.kd] 88)=W11 at *
               have hd7:=hd6.kept (OldB.kept ((below_al1 W11 (.cells #[.string x.nm,.int .i64 sv,.int .i64 tv,.slice da x.tr.length dc,.int .i64 x.af,.string x.gd,.string x.ef,.int .u8 x.kd] 88)).mono (Nat.le_trans hN hT6.hw)))
               have HA6:=hid hA6
               have HT6:=hid hT6
               have HD7:=hid hd7
               clear hA6 hT6 hB6 hd6 hd7 r0 r1 r2 r3 r4 r5 r6 r7 c0 c1 c2 c3 c4 c5
               obtain ⟨z0,z1,z2,z3,z4,z5,z6,z7⟩:=cells8 HA6.o
               obtain ⟨y0,y1,y2,y3,y4,y5,_⟩:=mBoxR.box HT6.o.ex.ob
               have hz6:w.heap.size<=W11.heap.size:=HT6.o.hw
               have hnt:oj.trns.length+1<=1000000:=by rw [HOJ.o];exact HCap.o j
               go_wp2_with (at_builtin;refine wpList_append_fine (TrnE.moves (R:=OldB N)) _ rfl _ _ 31 rfl 88 iT _ 104 Tryz.underlying31 hiT zT0 zT1 zT2 rfl (by decide) (by decide) rfl rfl (HT6.o.below (below_al1 W11 _)).ex.own.mod.trns (HT6.o.below (below_al1 W11 _)).ex.own.o5 (trn_sl (OldB N) W11 ⟨x.nm,sv,tv,x.tr,x.af,x.gd,x.ef,x.kd⟩ da dc _ HD7.o) hnt (HT6.o.below (below_al1 W11 _)).hw ?_;intro a6 c6 w6 ho6 hg6 hf6 hs6;obtain ⟨x0,x1,x2,x3,x4,x5,f0,f1,f2,f3,f4,f5⟩:=mBoxR.box (hg6.rT.same (HT6.o.below (below_al1 W11 _)).ex.ob notR.1))
               have hTa:=HT6.o.below (below_al1 W11 (.cells #[.string x.nm,.int .i64 sv,.int .i64 tv,.slice da x.tr.length dc,.int .i64 x.af,.string x.gd,.string x.ef,.int .u8 x.kd] 88))
               have hob:=hg6.rT.same hTa.ex.ob notR.1
               have hBN:Below N (W11.alloc (.cells #[.string x.nm,.int .i64 sv,.int .i64 tv,.slice da x.tr.length dc,.int .i64 x.af,.string x.gd,.string x.ef,.int .u8 x.kd] 88)) w6:=hg6.below hN (Nat.le_trans hN hTa.hw)
               have hTb:ExL N w.heap.size X0 (SB+1) SB m pm { oj with trns:=oj.trns ++ [⟨x.nm,sv,tv,x.tr,x.af,x.gd,x.ef,x.kd⟩] } { pj with a5:=a6,c5:=c6 } sub px w (w6.setCell ⟨w.heap.size+1+1,5,none⟩ (.slice a6 (oj.trns.length+1) c6)):=by
                 refine hTa.grow hg6.rT (hTa.o5.stay hf6 hTa.h1 hg6 hN hTa.hw) (hTa.ex.own.app5 hg6 hBN ho6 (hs6 (OldB.kept hBN))) ?_ hTa.o3 hTa.o4 (hTa.o5.fine hf6 hTa.h1)
                 have:=mBoxR.set5 hob (oj.trns ++ [⟨x.nm,sv,tv,x.tr,x.af,x.gd,x.ef,x.kd⟩]) a6 c6
                 rw [List.length_append] at this
                 exact this
               have hEq:{ oj with trns:=oj.trns ++ [⟨x.nm,sv,tv,x.tr,x.af,x.gd,x.ef,x.kd⟩] }={ ob with trns:=ob.trns ++ UT.take (j+1) }:=by
                 rw [HOJ.o,<- take_succ_app hjT,HAt.o]
               rw [hEq] at hTb
               have HTb:=hid hTb
               clear hEq hTa hob hTb hBN x0 x1 x2 x3 x4 x5 y0 y1 y2 y3 y4 y5 f0 f1 f2 f3 f4 f5 ho6 hg6 hf6 hs6 hnt z0 z1 z2 z3 z4 z5 z6 z7
               go_roundw
               case rel=>exact ⟨j+1,hlj,by go_num,_,HTb.o⟩
               case measure=>simp [intOf] <;> omega
             . obtain rfl:j=sub.trns.length:=by omega
               rw [<- hUl,List.take_length] at HOJ
               have hPut:oj=put1 sub k out:=by rw [HOJ.o,HOB.o,HOA.o,HOK.o,<- HTR.o,<- HTV.o,<- HUT.o];rfl
               obtain ⟨lq,hlq⟩:=ex2 (l[q])
               obtain ⟨ps,hps⟩:=ex2 (ptsM m k)
               obtain ⟨om,hom⟩:=ex2 (tiesM lq out.vers.length oj ps)
               have hk2:expK true l n (k+1)=om:=by rw [HK1.o,<- hom,hPut,<- hlq,<- hps];rfl
               have HK2:=hid hk2
               have hLq:=HIHc.o wo4 HT.o.ex.bel
               obtain ⟨b1',oo1',e1',hb1',pq,hmq,q0,q1,q2,q3,q4,q5⟩:=hLq.get hql
               simp only [Option.some.injEq,Addr.mk.injEq] at e1'
               obtain ⟨rfl,rfl,_⟩:=e1'
               rw [hlq] at hmq q0 q1 q2 q3 q4 q5
               have hpl:ps.length<=m.vers.length:=by rw [<- hps];exact pts_len _ _
               have hlv:lq.vers.length<=sub.vers.length:=by have:=HPu.o.vl;rw [hlq] at this;exact this
               have hol:oj.vers.length=out.vers.length+sub.vers.length/\oj.trns.length=out.trns.length+sub.trns.length:=by rw [hPut];simp [put1]
               have hSj:San oj:=by rw [hPut];exact HSo.o.put HSu.o hko
               have hPj:Pre m oj:=by rw [hPut];exact HPo.o.put
               have hvl0:=HPo.o.vl
               have hHw:=HT.o.hw
               have hpt:∀ x ∈ ps,∃ k:Nat,x=k/\k<m.vers.length/\(bnd (verG m k) lq).isSome=true:=fun x hx=>by
                 rw [<- hps] at hx
                 obtain ⟨k',hk',rfl,_⟩:=pts_at hx
                 exact ⟨k',rfl,hk',by rw [<- hlq];exact HPt.o _ hx⟩
               have HTi:Hid (∀ (Wx:World) (ax:Option Addr) (cx:Nat),Below wo4.heap.size wo4 Wx->Wx.ownsRow wo4.heap.size 3 1 (.slice ax ps.length cx) ps.length (nums ps)->Calls Tryz.prog 45 #[mdV oj pj,.slice ax ps.length cx,mdV lq pq,.int .i64 out.vers.length] Wx fun e w'=>∃ p',e=.returned (mdV om p')/\OwnR w.heap.size N w' om p'/\GrT w.heap.size T3R Wx w'):=hid fun Wx ax cx g hr=>by
                 have:=rties_any w.heap.size N m oj lq pj pq ax cx out.vers.length ps Wx (HT.o.ex.own.below g) hN (Nat.le_trans hHw g.size) (hmq.keptN (g.mono (Nat.le_trans hN hHw))) hSj hPj hvl0 (by omega) hpt (hr.mono hHw) (by omega) (by omega)
                 unfold TieP at this
                 rw [hom] at this
                 exact this
               have HPts:Hid (∀ Wx,Below wo4.heap.size wo4 Wx->Calls Tryz.prog 42 #[mdV m pm,.int .i64 k] Wx (RowP ps Wx)):=hid fun Wx g=>by
                 have:=rpoints_any m pm k Wx (HMo.o Wx (HT.o.ex.bel.trans (g.mono hHw))) (by omega)
                 rw [hps] at this
                 exact this
               unfold mdV at HTi HPts
               obtain ⟨x0,x1,x2,x3,x4,x5,_⟩:=mBoxR.box HT.o.ex.mb
               obtain ⟨y0,y1,y2,y3,y4,y5,_⟩:=mBoxR.box HT.o.ex.ob
               have HS:Hid (∀ W',Sm3 (w.heap.size+1+1) (w.heap.size+1) b1 wo4 W'->(W'.cell? ⟨w.heap.size+1+1,0,none⟩=some (.string oj.nm)/\W'.cell? ⟨w.heap.size+1+1,1,none⟩=some (.slice pj.a1 oj.vars.length pj.c1)/\W'.cell? ⟨w.heap.size+1+1,2,none⟩=some (.slice pj.a2 oj.evs.length pj.c2)/\W'.cell? ⟨w.heap.size+1+1,3,none⟩=some (.slice pj.a3 oj.regs.length pj.c3)/\W'.cell? ⟨w.heap.size+1+1,4,none⟩=some (.slice pj.a4 oj.vers.length pj.c4)/\W'.cell? ⟨w.heap.size+1+1,5,none⟩=some (.slice pj.a5 oj.trns.length pj.c5))/\(W'.cell? ⟨w.heap.size+1,0,none⟩=some (.string m.nm)/\W'.cell? ⟨w.heap.size+1,1,none⟩=some (.slice pm.a1 m.vars.length pm.c1)/\W'.cell? ⟨w.heap.size+1,2,none⟩=some (.slice pm.a2 m.evs.length pm.c2)/\W'.cell? ⟨w.heap.size+1,3,none⟩=some (.slice pm.a3 m.regs.length pm.c3)/\W'.cell? ⟨w.heap.size+1,4,none⟩=some (.slice pm.a4 m.vers.length pm.c4)/\W'.cell? ⟨w.heap.size+1,5,none⟩=some (.slice pm.a5 m.trns.length pm.c5))/\(W'.cell? ⟨b1,oo1+q * 6,none⟩=some (.string lq.nm)/\W'.cell? ⟨b1,oo1+q * 6+1,none⟩=some (.slice pq.a1 lq.vars.length pq.c1)/\W'.cell? ⟨b1,oo1+q * 6+2,none⟩=some (.slice pq.a2 lq.evs.length pq.c2)/\W'.cell? ⟨b1,oo1+q * 6+3,none⟩=some (.slice pq.a3 lq.regs.length pq.c3)/\W'.cell? ⟨b1,oo1+q * 6+4,none⟩=some (.slice pq.a4 lq.vers.length pq.c4)/\W'.cell? ⟨b1,oo1+q * 6+5,none⟩=some (.slice pq.a5 lq.trns.length pq.c5))):=hid fun W' g =>
                 ⟨⟨same_cell g.a y0,same_cell g.a y1,same_cell g.a y2,same_cell g.a y3,same_cell g.a y4,same_cell g.a y5⟩,⟨same_cell g.b x0,same_cell g.b x1,same_cell g.b x2,same_cell g.b x3,same_cell g.b x4,same_cell g.b x5⟩,⟨same_cell g.c q0,same_cell g.c q1,same_cell g.c q2,same_cell g.c q3,same_cell g.c q4,same_cell g.c q5⟩⟩
               have HLt:Hid (w.heap.size+1+1<wo4.heap.size/\w.heap.size+1<wo4.heap.size/\b1<wo4.heap.size):=hid ⟨HT.o.ex.lt,by have:=HT.o.ex.lt;omega,hb1'⟩
               have hS0:Sm3 (w.heap.size+1+1) (w.heap.size+1) b1 wo4 wo4:=Sm3.refl _ _ _ _
               have hB0:Below wo4.heap.size wo4 wo4:=Below.refl _ _
               have HX4:=hid HT.o.ex
               clear hPut hom hk2 hLq hmq hlq hps hpl hlv hol hSj hPj hvl0 hpt x0 x1 x2 x3 x4 x5 y0 y1 y2 y3 y4 y5 q0 q1 q2 q3 q4 q5 HT HOJ
               go_upto_region 38 with fail
               refine wp_region_any (by kernel_rfl) ?_
               change wpAny _ _ _ _ _ _ _ (World.drew _)
               refine wpAny_sink (n:=10) (o:=⟨none,.store 33 (.tmp 6) (.tmp 180),0, "ref.go:138", #[⟨9,.data⟩,⟨9,.chain⟩,⟨0,.phase⟩,⟨1,.phase⟩,⟨2,.phase⟩,⟨3,.phase⟩,⟨4,.phase⟩,⟨5,.phase⟩,⟨6,.phase⟩,⟨7,.phase⟩,⟨8,.phase⟩,⟨9,.phase⟩],none⟩) (ops':=#[⟨some 171,.load 33 (.tmp 6),33, "ref.go:138", #[],none⟩,⟨some 172,.load 33 (.tmp 5),33, "ref.go:138", #[],none⟩,⟨some 173,.move (.tmp 7),3, "ref.go:138", #[],none⟩,⟨some 174,.call { callee:=.value (.func 42),args:=#[.tmp 172,.tmp 173],argTypes:=#[33,3] },95, "ref.go:138", #[⟨1,.data⟩,⟨2,.data⟩],none⟩,⟨some 175,.move (.tmp 0),25, "ref.go:138", #[],none⟩,⟨some 176,.move (.tmp 8),3, "ref.go:138", #[],none⟩,⟨some 177,.indexAddr 25 (.tmp 175) (.tmp 176),0, "ref.go:138", #[⟨4,.data⟩,⟨5,.data⟩],none⟩,⟨some 178,.load 33 (.tmp 177),33, "ref.go:138", #[⟨6,.data⟩],none⟩,⟨some 179,.move (.tmp 11),3, "ref.go:138", #[],none⟩,⟨some 180,.call { callee:=.value (.func 45),args:=#[.tmp 171,.tmp 174,.tmp 178,.tmp 179],argTypes:=#[33,95,33,3] },33, "ref.go:138", #[⟨0,.data⟩,⟨3,.data⟩,⟨7,.data⟩,⟨8,.data⟩,⟨3,.chain⟩],none⟩]) (by decide) (by kernel_rfl) (by rfl) (by rfl) ?_
               refine hld HS.o (hS0.drew) (fun hHeld=>?_)
               refine tk 0 rfl ?_
               refine tk 1 rfl ?_
               refine tk 2 rfl ?_
               refine tk 4 rfl ?_
               refine tk 5 rfl ?_
               refine tk 6 rfl ?_
               refine tk 7 rfl ?_
               refine tk 8 rfl ?_
               refine rd1 3 (fun K hK=>?_)
               (go_simp;(with_reducible refine (HPts.o _ hB0.drew).mono ?_);rintro e w9 ⟨v9,rfl,hown9,g9⟩;obtain ⟨a9,c9,rfl⟩:=ownsRow_slice hown9;have hB9:Below wo4.heap.size wo4 w9:=hB0.drew.trans (g9.mono hB0.drew.size);have hS9:=Sm3.below HLt.o hB9;have hown:w9.ownsRow wo4.heap.size 3 1 (.slice a9 ps.length c9) ps.length (nums ps):=hown9;go_wp2_with fail)
               refine nx hK ?_ (fun hH1=>?_)
               (first | exact HS.o _ hS0.drew | exact HS.o _ hS9 | exact HS.o _ hS10)
               clear hK K hHeld
               refine rd1 9 (fun K hK=>?_)
               (go_simp;(with_reducible refine (HTi.o _ _ _ hB9 hown).mono ?_);rintro e w10 ⟨p10,rfl,ho10,hg10⟩;have hX9:=HX4.o.below hB9;have hS10:Sm3 (w.heap.size+1+1) (w.heap.size+1) b1 wo4 w10:=⟨(hg10.same hX9.ob notR.1).trans HX4.o.ob.symm,(hg10.same hX9.mb notR.1).trans HX4.o.mb.symm,((hg10.below (Nat.le_refl _) (Nat.le_trans hHw hB9.size)).block _ hb1).trans hS9.c⟩;go_wp2_with fail)
               refine nx hK ?_ (fun hH2=>?_)
               (first | exact HS.o _ hS0.drew | exact HS.o _ hS9 | exact HS.o _ hS10)
               clear hK K hH1
               refine dn ?_
               rotate_left
               all_goals
                 have hW:=hX9.whole hg10 ho10
                 obtain ⟨x0,x1,x2,x3,x4,x5,f0,f1,f2,f3,f4,f5⟩:=mBoxR.box (hg10.same hX9.ob notR.1)
                 have HWn:=hid hW
                 clear hW hX9 hS9 hS10 hB9 hg10 ho10 hown hown9
                 refine sinkQ_of fun K hK=>?_
                 go_simp
                 refine hK _ _ ?_
                 clear hK K
                 clear x0 x1 x2 x3 x4 x5 f0 f1 f2 f3 f4 f5
                 generalize ((((((w10.setCell ⟨w.heap.size+1+1,0,none⟩ (.string om.nm)).setCell ⟨w.heap.size+1+1,1,none⟩ (.slice p10.a1 om.vars.length p10.c1)).setCell ⟨w.heap.size+1+1,2,none⟩ (.slice p10.a2 om.evs.length p10.c2)).setCell ⟨w.heap.size+1+1,3,none⟩ (.slice p10.a3 om.regs.length p10.c3)).setCell ⟨w.heap.size+1+1,4,none⟩ (.slice p10.a4 om.vers.length p10.c4)).setCell ⟨w.heap.size+1+1,5,none⟩ (.slice p10.a5 om.trns.length p10.c5))=W14 at HWn |-
                 (try clear har);(try clear hbr);(try clear hkr);(try clear hkv);(try clear hkt);(try clear lo1);(try clear lo2);(try clear lo3);(try clear lu1);(try clear lu2);(try clear lu3);(try clear hTl);(try clear hTvl);(try clear hUl);(try clear hr6);(try clear hv6);(try clear hoI);(try clear hko);(try clear hqI);(try clear hq0);(try clear hX0);(try clear hHw);(try clear hX0e);(try clear hSBe);(try clear hql);(try clear v1);(try clear v2);(try clear v3);(try clear v5)
                 go_wp2_with fail
                 go_roundw
                 case rel=>exact ⟨k+1,Nat.succ_le_of_lt hlt,by go_num,p10,by rw [HK2.o];exact HWn.o⟩
                 case measure=>simp [intOf] <;> omega
  . obtain rfl:k=m.vers.length:=by omega
    have HFin:Hid (expF true l l.length n=out):=hid (by rw [<- HOut.o];exact HAll.o)
    obtain ⟨z0,z1,z2,z3,z4,z5,f0,f1,f2,f3,f4,f5⟩:=zero_boxR HX.o.zb
    obtain ⟨x0,x1,x2,x3,x4,x5,_⟩:=mBoxR.box HX.o.mb
    obtain ⟨y0,y1,y2,y3,y4,y5,_⟩:=mBoxR.box HX.o.ob
    go_wp2_with fail
    have hF:=HX.o.fin
    refine bodyPost_ret (v:=mdV out pk) (by simp [results,Tryz.results24,go_sem,mdV,z0,z1,z2,z3,z4,z5]) rfl ?_
    rw [HP.o,HFin.o]
    exact ⟨pk,rfl,hF.1,hF.2⟩
end Go.Proofs
