/- Walks: what the document fills. -/
import Derived.Test.YtiimoclbmaggjaaGreatDoorLLrAD
import Derived.Deep.LoopGhost
namespace Go.Proofs
open Go.RowKit Go.Lx Go.Md Go.Shelf Go.BigFrame Go.Rgi
set_option linter.unusedVariables false
structure RFs (ll d:List Int) (B:Nat) (x:Option Addr) (y:Nat) (v2:Value) (W5 wr:World):Prop where
 bel:Below W5.heap.size W5 wr
 b0:wr.cell? ⟨B,0,none⟩=some (.slice x d.length y)
 b1:wr.cell? ⟨B,1,none⟩=some v2
 f0:wr.frozen? ⟨B,0,none⟩=false
 o1:wr.ownsRow W5.heap.size 3 1 (.slice x d.length y) d.length (nums d)
 n1:∀ g,(Value.slice x d.length y).ownBlock=some g→g≠B
 o2:wr.ownsRow W5.heap.size 3 1 v2 ll.length (nums ll)
 n2:∀ g,v2.ownBlock=some g→g≠B
 lo:W5.heap.size≤B
 lt:B<wr.heap.size
theorem RFs.below {ll d:List Int} {B:Nat} {x:Option Addr} {y:Nat} {v2:Value} {W5 wr wy:World} (h:RFs ll d B x y v2 W5 wr) (g:Below wr.heap.size wr wy):RFs ll d B x y v2 W5 wy :=
 ⟨below_ch h.bel g,(g.cell (p:=⟨B,0,none⟩) h.lt).trans h.b0,(g.cell (p:=⟨B,1,none⟩) h.lt).trans h.b1,(g.frozen (p:=⟨B,0,none⟩) h.lt).trans h.f0,own_below h.o1 g,h.n1,own_below h.o2 g,h.n2,h.lo,Nat.lt_of_lt_of_le h.lt g.size⟩
theorem RFs.put {ll d d':List Int} {B N:Nat} {x x':Option Addr} {y y':Nat} {v2:Value} {W5 wr:World} (h:RFs ll d B x y v2 W5 wr) (ho:wr.ownsRow N 3 1 (.slice x' d'.length y') d'.length (nums d')) (hN:B<N):RFs ll d' B x' y' v2 W5 (wr.setCell ⟨B,0,none⟩ (.slice x' d'.length y')) :=
 ⟨h.bel.setCell (p:=⟨B,0,none⟩) h.lo _,World.cell?_setCell_same _ _ _ h.b0,(World.cell?_setCell_other _ _ _ _ (by simp)).trans h.b1,by rw [World.frozen?_setCell];exact h.f0,(ownsRow_setCell_below (a:=⟨B,0,none⟩) ho hN _).mono (by have:=h.lo;omega),fun g hg=>by have:=(ho.lt g hg).1;omega,ownsRow_setCell_other (a:=⟨B,0,none⟩) h.o2 (fun e=>h.n2 _ e rfl) _,h.n2,h.lo,by rw [World.size_setCell];exact h.lt⟩
def CutRF (ll d:List Int) (W5:World) (s:Value) (wr:World):Prop:=∃ B x y v2,s=.pointer (some ⟨B,0,none⟩)∧RFs ll d B x y v2 W5 wr
theorem rf_made {la ll:List Int} {B:Nat} {x1 x2:Option Addr} {y1 y2:Nat} {W5 wF:World} (hz:wF.heap[B]? = some (.cells #[.slice none 0 0,.slice none 0 0] 150 (0,0))) (hb:Below W5.heap.size W5 wF) (o1:wF.ownsRow W5.heap.size 3 1 (.slice x1 la.length y1) la.length (nums la)) (o2:wF.ownsRow W5.heap.size 3 1 (.slice x2 ll.length y2) ll.length (nums ll))
   (n1:∀ g,(Value.slice x1 la.length y1).ownBlock=some g→g≠B) (n2:∀ g,(Value.slice x2 ll.length y2).ownBlock=some g→g≠B) (lo:W5.heap.size≤B) :
   CutRF ll la W5 (.pointer (some ⟨B,0,none⟩)) ((wF.setCell ⟨B,0,none⟩ (.slice x1 la.length y1)).setCell ⟨B,1,none⟩ (.slice x2 ll.length y2)):=by
 have c0:wF.cell? ⟨B,0,none⟩=some (.slice none 0 0):=cell_blk hz 0
 have c1:wF.cell? ⟨B,1,none⟩=some (.slice none 0 0):=cell_blk hz 1
 have lt:=(Array.getElem?_eq_some_iff.1 hz).1
 refine ⟨B,x1,y1,_,rfl,(hb.setCell (p:=⟨B,0,none⟩) lo _).setCell (p:=⟨B,1,none⟩) lo _,(World.cell?_setCell_other _ _ _ _ (by simp)).trans (World.cell?_setCell_same _ _ _ c0),World.cell?_setCell_same _ _ _ ((World.cell?_setCell_other _ _ _ _ (by simp)).trans c1),by rw [World.frozen?_setCell,World.frozen?_setCell];exact frz_blk hz 0,?_,n1,?_,n2,lo,by rw [World.size_setCell,World.size_setCell];exact lt⟩
 · exact ownsRow_setCell_other (a:=⟨B,1,none⟩) (ownsRow_setCell_other (a:=⟨B,0,none⟩) o1 (fun e=>n1 _ e rfl) _) (fun e=>n1 _ e rfl) _
 · exact ownsRow_setCell_other (a:=⟨B,1,none⟩) (ownsRow_setCell_other (a:=⟨B,0,none⟩) o2 (fun e=>n2 _ e rfl) _) (fun e=>n2 _ e rfl) _
theorem rf_made2 {la ll:List Int} {x1 x2:Option Addr} {y1 y2:Nat} {W5 wF:World} (hb:Below W5.heap.size W5 wF) (o1:wF.ownsRow W5.heap.size 3 1 (.slice x1 la.length y1) la.length (nums la)) (o2:wF.ownsRow W5.heap.size 3 1 (.slice x2 ll.length y2) ll.length (nums ll)) :
   CutRF ll la W5 (.pointer (some ⟨wF.heap.size,0,none⟩)) (wF.alloc (.cells #[.slice x1 la.length y1,.slice x2 ll.length y2] 150)) :=
 ⟨wF.heap.size,x1,y1,_,rfl,hb.alloc hb.size _,by simp,by simp,by simp,o1.alloc _,fun g hg=>by have:=(o1.lt g hg).2;omega,o2.alloc _,fun g hg=>by have:=(o2.lt g hg).2;omega,hb.size,by simp⟩
theorem own_below16b {w w':World} {o:Obj} {base:Nat} {e:TypeId} {size:Nat} {v:Value} {n:Nat} {xs:List Value} (h:w.ownsRow base e size v n xs) (hb:Below (w.alloc o).heap.size (w.alloc o) w'):w'.ownsRow base e size v n xs:=own_below (h.alloc o) hb
def RFillP (m:MdlD) (la ll:List Int) (w:World) (e:Ending) (w':World):Prop:=Below w.heap.size w w'∧((chkE m la ll≠0∧e=.returned (.tuple #[.agg #[.slice none 0 0,.slice none 0 0],.int .i64 (chkE m la ll:Int)])) ∨
 (chkE m la ll=0∧∃ d v1 v2,e=.returned (.tuple #[.agg #[v1,v2],.int .i64 0])∧Fld m la d∧Nrm m d∧w'.ownsRow w.heap.size 3 1 v1 d.length (nums d)∧w'.ownsRow w.heap.size 3 1 v2 ll.length (nums ll)))
set_option maxRecDepth 100000 in
set_option maxHeartbeats 8000000 in
theorem rfill_any {Q:Nat→BP} (m:MdlD) (p:Ph) (la ll:List Int) (a1 a2:Option Addr) (c1 c2:Nat) (w:World) (h:Mod Q w m p) (hm:MdlOk m) (h1:RowIn w (.slice a1 la.length c1) la) (h2:RowIn w (.slice a2 ll.length c2) ll) (b1:la.length≤100000) (b2:ll.length≤100000)
   (hv:m.vers.length≤512) (hr:m.regs.length≤100) :
   Calls Tryz.prog 119 #[mdV m p,.agg #[.slice a1 la.length c1,.slice a2 ll.length c2]] w (RFillP m la ll w):=by
 have HC0:Hid (Mc m p la ll a1 a2 c1 c2 w (((w.alloc (.cells #[.string m.nm,.slice p.a1 m.vars.length p.c1,.slice p.a2 m.evs.length p.c2,.slice p.a3 m.regs.length p.c3,.slice p.a4 m.vers.length p.c4,.slice p.a5 m.trns.length p.c5] 60)).alloc (.cells #[.slice a1 la.length c1,.slice a2 ll.length c2] 150)).alloc (.cells #[.slice none 0 0,.slice none 0 0] 150))):=Lib.hid ((Mc.madeR h h1 h2).below (below_al1 _ _))
 have hy0:(((w.alloc (.cells #[.string m.nm,.slice p.a1 m.vars.length p.c1,.slice p.a2 m.evs.length p.c2,.slice p.a3 m.regs.length p.c3,.slice p.a4 m.vers.length p.c4,.slice p.a5 m.trns.length p.c5] 60)).alloc (.cells #[.slice a1 la.length c1,.slice a2 ll.length c2] 150)).alloc (.cells #[.slice none 0 0,.slice none 0 0] 150)).heap.size=w.heap.size+1+1+1:=by simp
 have hy1:(((w.alloc (.cells #[.string m.nm,.slice p.a1 m.vars.length p.c1,.slice p.a2 m.evs.length p.c2,.slice p.a3 m.regs.length p.c3,.slice p.a4 m.vers.length p.c4,.slice p.a5 m.trns.length p.c5] 60)).alloc (.cells #[.slice a1 la.length c1,.slice a2 ll.length c2] 150)).alloc (.cells #[.slice none 0 0,.slice none 0 0] 150)).heap[w.heap.size+1+1]? = some (.cells #[.slice none 0 0,.slice none 0 0] 150 (0,0)):=by
   have:=World.alloc_heap_new ((w.alloc (.cells #[.string m.nm,.slice p.a1 m.vars.length p.c1,.slice p.a2 m.evs.length p.c2,.slice p.a3 m.regs.length p.c3,.slice p.a4 m.vers.length p.c4,.slice p.a5 m.trns.length p.c5] 60)).alloc (.cells #[.slice a1 la.length c1,.slice a2 ll.length c2] 150)) (.cells #[.slice none 0 0,.slice none 0 0] 150)
   rw [World.size_alloc,World.size_alloc] at this;exact this
 have CK:=Lib.hid (fun wx (g:Mc m p la ll a1 a2 c1 c2 w wx)=>rcheck_any m p la ll a1 a2 c1 c2 wx g.mb.mod hm g.r1 g.r2 (by omega) (by omega) hv (by omega))
 have OF:=Lib.hid (fun wx=>sof_any m p wx)
 have HZ:=Lib.hid (fun (h:chkE m la ll=0)=>chk_zero h)
 have RU:=Lib.hid (fun (h0:riM m=(0,0,0)) wx (d:List Int) (x:Option Addr) (y:Nat) (x2:Option Addr) (y2:Nat) (g:Mc m p la ll a1 a2 c1 c2 w wx) (hd:RowIn wx (.slice x d.length y) d) (hl:d.length=m.regs.length) (k:Nat) (hk:k<m.regs.length)=>srule_any m p d ll x x2 y y2 k wx g.mb.mod h0 hd hl hk (by omega) (by omega))
 have LE:=Lib.hid (fun wx (g:Mc m p la ll a1 a2 c1 c2 w wx) (r k:Nat)=>sleast_any m p r k wx g.mb.mod (by omega))
 unfold RCheckP at CK
 unfold mdV at CK OF ⊢
 unfold stV at OF RU LE
 unfold RFillP
 generalize chkE m la ll=C at *
 clear h hm h1 h2
 go_enter Tryz.func119,Tryz.ntmps119
 obtain ⟨x0,x1,x2,x3,x4,x5,_⟩:=HC0.out.mb.box
 go_wp2_with fail
 (with_reducible refine (CK.out _ HC0.out).mono ?_)
 rintro e w4 ⟨v,rfl,g4,hq⟩
 have HC4:=Lib.hid (HC0.out.below g4)
 have hz4:w.heap.size+1+1<w4.heap.size:=by have:=g4.size;rw [hy0] at this;omega
 have HRs:Hid (∀ wx,Below w4.heap.size w4 wx→wx.cell? ⟨w.heap.size+1+1,0,none⟩=some (.slice none 0 0)∧wx.cell? ⟨w.heap.size+1+1,1,none⟩=some (.slice none 0 0)∧wx.frozen? ⟨w.heap.size+1+1,0,none⟩=false∧wx.frozen? ⟨w.heap.size+1+1,1,none⟩=false):=Lib.hid fun wx g=>by
   have e1:=((g.block (w.heap.size+1+1) (by omega)).trans (g4.block (w.heap.size+1+1) (by rw [hy0];omega))).trans hy1
   exact ⟨cell_blk e1 0,cell_blk e1 1,frz_blk e1 0,frz_blk e1 1⟩
 clear x0 x1 x2 x3 x4 x5 HC0 g4 CK hy0 hy1
 by_cases hc:C=0
 rotate_left
 · have hz1:((C:Int) != 0)=true:=by simp only [bne_iff_ne,ne_eq];omega
   have HCn:=Lib.hid hc
   have HB4:=Lib.hid HC4.out.mb.bel
   obtain ⟨t0,t1,t2,t3⟩:=HRs.out w4 (Below.refl _ _)
   clear HZ RU LE OF hc HC4 hq
   go_wp2_with fail
   refine bodyPost_ret (v:=.tuple #[.agg #[.slice none 0 0,.slice none 0 0],.int .i64 (C:Int)]) (by simp [results,Tryz.results119,go_sem,t0,t1]) rfl ⟨(HB4.out.setCell (p:=⟨w.heap.size+1+1,0,none⟩) (by simp only;omega) _).setCell (p:=⟨w.heap.size+1+1,1,none⟩) (by simp only;omega) _,.inl ⟨HCn.out,rfl⟩⟩
 obtain ⟨h0,hf1,hf2⟩:=HZ.out hc
 have HL:=Lib.hid (fit1_len' hf1)
 have HLL:=Lib.hid (fit1_len' hf2)
 have hrp:=Lib.hid (regs_pos h0)
 have RU0:=Lib.hid (RU.out h0)
 have H0:=Lib.hid h0
 subst hc
 clear HZ hf1 hf2 RU h0 hq
 obtain ⟨x0,x1,x2,x3,x4,x5,_⟩:=HC4.out.mb.box
 go_wp2_with fail
 (with_reducible refine (OF.out _).mono ?_)
 rintro e w5 ⟨rfl,g5⟩
 have HS5:Hid (Rs m p la ll a1 a2 c1 c2 w5.heap.size w (w5.alloc (.cells #[.string m.nm,.slice p.a1 m.vars.length p.c1,.slice p.a2 m.evs.length p.c2,.slice p.a3 m.regs.length p.c3,.slice p.a4 m.vers.length p.c4,.slice p.a5 m.trns.length p.c5,.string m.nm,.slice p.a1 m.vars.length p.c1,.slice p.a2 m.evs.length p.c2,.slice p.a3 m.regs.length p.c3,.slice p.a4 m.vers.length p.c4,.slice p.a5 m.trns.length p.c5] 168))):=Lib.hid (Rs.made (HC4.out.below g5))
 have HR5:Hid (∀ wx,Below ((w5.alloc (.cells #[.string m.nm,.slice p.a1 m.vars.length p.c1,.slice p.a2 m.evs.length p.c2,.slice p.a3 m.regs.length p.c3,.slice p.a4 m.vers.length p.c4,.slice p.a5 m.trns.length p.c5,.string m.nm,.slice p.a1 m.vars.length p.c1,.slice p.a2 m.evs.length p.c2,.slice p.a3 m.regs.length p.c3,.slice p.a4 m.vers.length p.c4,.slice p.a5 m.trns.length p.c5] 168))).heap.size (w5.alloc (.cells #[.string m.nm,.slice p.a1 m.vars.length p.c1,.slice p.a2 m.evs.length p.c2,.slice p.a3 m.regs.length p.c3,.slice p.a4 m.vers.length p.c4,.slice p.a5 m.trns.length p.c5,.string m.nm,.slice p.a1 m.vars.length p.c1,.slice p.a2 m.evs.length p.c2,.slice p.a3 m.regs.length p.c3,.slice p.a4 m.vers.length p.c4,.slice p.a5 m.trns.length p.c5] 168)) wx→wx.cell? ⟨w.heap.size+1+1,0,none⟩=some (.slice none 0 0)∧wx.cell? ⟨w.heap.size+1+1,1,none⟩=some (.slice none 0 0)∧wx.frozen? ⟨w.heap.size+1+1,0,none⟩=false∧wx.frozen? ⟨w.heap.size+1+1,1,none⟩=false):=Lib.hid fun wx g=>HRs.out wx (below_ch g5 (below_bx1 g))
 have hz5:w.heap.size+1+1<((w5.alloc (.cells #[.string m.nm,.slice p.a1 m.vars.length p.c1,.slice p.a2 m.evs.length p.c2,.slice p.a3 m.regs.length p.c3,.slice p.a4 m.vers.length p.c4,.slice p.a5 m.trns.length p.c5,.string m.nm,.slice p.a1 m.vars.length p.c1,.slice p.a2 m.evs.length p.c2,.slice p.a3 m.regs.length p.c3,.slice p.a4 m.vers.length p.c4,.slice p.a5 m.trns.length p.c5] 168))).heap.size:=by have:=g5.size;simp;omega
 clear x0 x1 x2 x3 x4 x5 HC4 HRs g5 OF hz4
 have d0:=HS5.out.mc.d0
 have d1:=HS5.out.mc.d1
 go_upto_region 5 with fail
 generalize (w5.alloc (.cells #[.string m.nm,.slice p.a1 m.vars.length p.c1,.slice p.a2 m.evs.length p.c2,.slice p.a3 m.regs.length p.c3,.slice p.a4 m.vers.length p.c4,.slice p.a5 m.trns.length p.c5,.string m.nm,.slice p.a1 m.vars.length p.c1,.slice p.a2 m.evs.length p.c2,.slice p.a3 m.regs.length p.c3,.slice p.a4 m.vers.length p.c4,.slice p.a5 m.trns.length p.c5] 168))=W5 at *
 obtain ⟨H5,hH5⟩:∃ x,w5.heap.size=x:=⟨_,rfl⟩
 rw [hH5] at HS5
 try rw [hH5]
 clear hH5
 have hpa:0<la.length:=by have:=HL.out;have:=hrp.out;omega
 have hpl:0<ll.length:=by have:=HLL.out;have:=hrp.out;omega
 obtain ⟨b1,o1,ea,hb1,hca⟩:∃ b o,a1=some ⟨b,o,none⟩∧b<W5.heap.size∧W5.cell? ⟨b,o+0,none⟩=some (.int .i64 la[0]):=by
   obtain ⟨a',c',e,_,q⟩:=HS5.out.mc.r1.len
   obtain ⟨b,o,ea,hb,hc⟩:=q 0 hpa
   simp only [Value.slice.injEq] at e
   exact ⟨b,o,by rw [e.1,ea],hb,hc⟩
 obtain ⟨b2,o2,el,hb2,hcl⟩:∃ b o,a2=some ⟨b,o,none⟩∧b<W5.heap.size∧W5.cell? ⟨b,o+0,none⟩=some (.int .i64 ll[0]):=by
   obtain ⟨a',c',e,_,q⟩:=HS5.out.mc.r2.len
   obtain ⟨b,o,ea,hb,hc⟩:=q 0 hpl
   simp only [Value.slice.injEq] at e
   exact ⟨b,o,by rw [e.1,ea],hb,hc⟩
 subst ea el
 rw [Nat.add_zero] at hca hcl
 have CA0:Hid (∀ wx,Below W5.heap.size W5 wx→Calls Tryz.prog 210 #[.slice (some ⟨b1,o1,none⟩) la.length c1,.int .i64 0,.int .i64 la[0]] wx (RowP la wx)):=Lib.hid fun wx g=>by
   have hh:=swith_any la (.slice (some ⟨b1,o1,none⟩) la.length c1) 0 la[0] wx (HS5.out.below g).mc.r1 hpa (by omega)
   rw [List.set_getElem_self] at hh
   exact hh
 have CL0:Hid (∀ wx,Below W5.heap.size W5 wx→Calls Tryz.prog 210 #[.slice (some ⟨b2,o2,none⟩) ll.length c2,.int .i64 0,.int .i64 ll[0]] wx (RowP ll wx)):=Lib.hid fun wx g=>by
   have hh:=swith_any ll (.slice (some ⟨b2,o2,none⟩) ll.length c2) 0 ll[0] wx (HS5.out.below g).mc.r2 hpl (by omega)
   rw [List.set_getElem_self] at hh
   exact hh
 obtain ⟨l0,hl0⟩:∃ x,la[0]=x:=⟨_,rfl⟩
 obtain ⟨k0,hk0⟩:∃ x,ll[0]=x:=⟨_,rfl⟩
 rw [hl0] at hca CA0
 rw [hk0] at hcl CL0
 have hcapa:la.length≤c1:=by
   obtain ⟨a',c',e,h,_⟩:=HS5.out.mc.r1.len
   simp only [Value.slice.injEq] at e
   rw [e.2.2];exact h
 have hcapl:ll.length≤c2:=by
   obtain ⟨a',c',e,h,_⟩:=HS5.out.mc.r2.len
   simp only [Value.slice.injEq] at e
   rw [e.2.2];exact h
 have hpaI:(0:Int)<(la.length:Int):=by omega
 have hplI:(0:Int)<(ll.length:Int):=by omega
 clear hl0 hk0
 have CA:=CA0
 have CL:=CL0
 go_cut [9] (fun s9 wx=>CutRF ll la W5 s9 wx)
 case first =>
  have HSS:Hid (∀ W',Below W5.heap.size W5 W'→W'.cell? ⟨w.heap.size+1,0,none⟩=some (.slice (some ⟨b1,o1,none⟩) la.length c1)∧W'.cell? ⟨w.heap.size+1,1,none⟩=some (.slice (some ⟨b2,o2,none⟩) ll.length c2)∧W'.cell? ⟨b1,o1,none⟩=some (.int .i64 l0)∧W'.cell? ⟨b2,o2,none⟩=some (.int .i64 k0)):=Lib.hid fun W' g =>
    ⟨(HS5.out.below g).mc.d0,(HS5.out.below g).mc.d1,(g.cell (p:=⟨b1,o1,none⟩) hb1).trans hca,(g.cell (p:=⟨b2,o2,none⟩) hb2).trans hcl⟩
  have hB0:Below W5.heap.size W5 W5:=Below.refl _ _
  clear CA0 CL0 RU0 LE hca hcl d0 d1
  refine wp_region_any (by kernel_rfl) ?_
  change wpAny _ _ _ _ _ _ _ (World.drew _)
  refine wpAny_sink (n:=16) (o:=⟨none,.store 150 (.tmp 9) (.tmp 39),0, "ref.go:75", #[⟨15,.data⟩,⟨14,.data⟩,⟨13,.chain⟩,⟨0,.phase⟩,⟨1,.phase⟩,⟨2,.phase⟩,⟨3,.phase⟩,⟨4,.phase⟩,⟨5,.phase⟩,⟨6,.phase⟩,⟨7,.phase⟩,⟨8,.phase⟩,⟨9,.phase⟩,⟨10,.phase⟩,⟨11,.phase⟩,⟨12,.phase⟩,⟨13,.phase⟩,⟨14,.phase⟩,⟨15,.phase⟩],none⟩) (ops':=#[⟨some 25,.fieldAddr 150 (.tmp 3) 0,0, "ref.go:75", #[],none⟩,⟨some 26,.load 31 (.tmp 25),31, "ref.go:75", #[⟨0,.data⟩],none⟩,⟨some 27,.fieldAddr 150 (.tmp 3) 0,0, "ref.go:75", #[],none⟩,⟨some 28,.load 31 (.tmp 27),31, "ref.go:75", #[⟨2,.data⟩],none⟩,⟨some 29,.indexAddr 31 (.tmp 28) (.const (.int .i64 0)),0, "ref.go:75", #[⟨3,.data⟩],none⟩,⟨some 30,.load 3 (.tmp 29),3, "ref.go:75", #[⟨4,.data⟩],none⟩,⟨some 31,.call { callee:=.value (.func 210),args:=#[.tmp 26,.const (.int .i64 0),.tmp 30],argTypes:=#[31,3,3] },31, "ref.go:75", #[⟨1,.data⟩,⟨5,.data⟩],none⟩,⟨some 32,.fieldAddr 150 (.tmp 3) 1,0, "ref.go:75", #[],none⟩,⟨some 33,.load 31 (.tmp 32),31, "ref.go:75", #[⟨7,.data⟩],none⟩,⟨some 34,.fieldAddr 150 (.tmp 3) 1,0, "ref.go:75", #[],none⟩,⟨some 35,.load 31 (.tmp 34),31, "ref.go:75", #[⟨9,.data⟩],none⟩,⟨some 36,.indexAddr 31 (.tmp 35) (.const (.int .i64 0)),0, "ref.go:75", #[⟨10,.data⟩],none⟩,⟨some 37,.load 3 (.tmp 36),3, "ref.go:75", #[⟨11,.data⟩],none⟩,⟨some 38,.call { callee:=.value (.func 210),args:=#[.tmp 33,.const (.int .i64 0),.tmp 37],argTypes:=#[31,3,3] },31, "ref.go:75", #[⟨8,.data⟩,⟨12,.data⟩,⟨6,.chain⟩],none⟩,⟨some 39,.build 150 #[(0,.tmp 31),(1,.tmp 38)],150, "ref.go:75", #[⟨6,.data⟩,⟨13,.data⟩],none⟩,⟨some 9,.alloc 150,0, "ref.go:75", #[],none⟩]) (by decide) (by kernel_rfl) (by rfl) (by rfl) ?_
  refine wpAny_of_heldS (S:=(fun W'=>W'.cell? ⟨w.heap.size+1,0,none⟩=some (.slice (some ⟨b1,o1,none⟩) la.length c1)∧W'.cell? ⟨w.heap.size+1,1,none⟩=some (.slice (some ⟨b2,o2,none⟩) ll.length c2)∧W'.cell? ⟨b1,o1,none⟩=some (.int .i64 l0)∧W'.cell? ⟨b2,o2,none⟩=some (.int .i64 k0))) ?_ (fun hHeld=>?_)
  · (try dsimp only) <;> (first | exact HSS.out _ hB0.drew | exact HSS.out _ (by assumption) | exact HSS.out _ (hB0.alloc (Nat.le_refl _) _).drew | exact HSS.out _ (hB10.alloc hB10.size _) | exact HSS.out _ (hB11.alloc hB11.size _))
  refine tk 0 rfl ?_
  try simp only [Act.put,lyA,lyZ,lyS]
  refine tk 1 rfl ?_
  try simp only [Act.put,lyA,lyZ,lyS]
  refine tk 2 rfl ?_
  try simp only [Act.put,lyA,lyZ,lyS]
  refine tk 3 rfl ?_
  try simp only [Act.put,lyA,lyZ,lyS]
  refine tk 4 rfl ?_
  try simp only [Act.put,lyA,lyZ,lyS]
  refine tk 5 rfl ?_
  try simp only [Act.put,lyA,lyZ,lyS]
  refine tk 7 rfl ?_
  try simp only [Act.put,lyA,lyZ,lyS]
  refine tk 8 rfl ?_
  try simp only [Act.put,lyA,lyZ,lyS]
  refine tk 9 rfl ?_
  try simp only [Act.put,lyA,lyZ,lyS]
  refine tk 10 rfl ?_
  try simp only [Act.put,lyA,lyZ,lyS]
  refine tk 11 rfl ?_
  try simp only [Act.put,lyA,lyZ,lyS]
  refine tk 12 rfl ?_
  try simp only [Act.put,lyA,lyZ,lyS]
  refine rdy [6,15] ?_
  refine rdC rfl (fun K hK=>?_) ?_
  (go_simp;(with_reducible refine (CA.out _ (by first | exact hB0.drew | exact (hB0.alloc (Nat.le_refl _) _).drew)).mono ?_);rintro e w10 ⟨v10,rfl,o10,hb10⟩;obtain ⟨x10,y10,rfl⟩:=ownsRow_slice o10;have hB10:Below W5.heap.size W5 w10:=below_ch (by first | exact hB0.drew | exact (hB0.alloc (Nat.le_refl _) _).drew) hb10;go_wp2_with fail)
  refine hK.out _ _ ?_ (fun hH1=>?_)
  · (try dsimp only) <;> (first | exact HSS.out _ hB0.drew | exact HSS.out _ (by assumption) | exact HSS.out _ (hB0.alloc (Nat.le_refl _) _).drew | exact HSS.out _ (hB10.alloc hB10.size _) | exact HSS.out _ (hB11.alloc hB11.size _))
  clear hK K hHeld
  try simp only [Act.put,lyA,lyZ,lyS]
  refine rdy [13,15] ?_
  refine rdC rfl (fun K hK=>?_) ?_
  (go_simp;(with_reducible refine (CL.out _ (by first | exact hB10 | exact hB10.alloc hB10.size _)).mono ?_);rintro e w11 ⟨v11,rfl,o11,hb11⟩;obtain ⟨x11,y11,rfl⟩:=ownsRow_slice o11;have hB11:Below W5.heap.size W5 w11:=below_ch (by first | exact hB10 | exact hB10.alloc hB10.size _) hb11;(first | (have zA:w11.heap[W5.heap.size]? = some (.cells #[.slice none 0 0,.slice none 0 0] 150 (0,0)):=(hb11.block _ (by have:=hb10.size;simp at this;omega)).trans ((hb10.block _ (by simp)).trans (World.alloc_heap_new W5 (.cells #[.slice none 0 0,.slice none 0 0] 150)));have za0:=cell_blk zA 0;have za1:=cell_blk zA 1;have za2:=frz_blk zA 0;have za3:=frz_blk zA 1;simp only [List.getElem?_toArray,List.getElem?_cons_zero,List.getElem?_cons_succ] at za0 za1) | (have zB:w11.heap[w10.heap.size]? = some (.cells #[.slice none 0 0,.slice none 0 0] 150 (0,0)):=(hb11.block _ (by simp)).trans (World.alloc_heap_new w10 (.cells #[.slice none 0 0,.slice none 0 0] 150));have za0:=cell_blk zB 0;have za1:=cell_blk zB 1;have za2:=frz_blk zB 0;have za3:=frz_blk zB 1;simp only [List.getElem?_toArray,List.getElem?_cons_zero,List.getElem?_cons_succ] at za0 za1) | skip);go_wp2_with fail)
  refine hK.out _ _ ?_ (fun hH2=>?_)
  · (try dsimp only) <;> (first | exact HSS.out _ hB0.drew | exact HSS.out _ (by assumption) | exact HSS.out _ (hB0.alloc (Nat.le_refl _) _).drew | exact HSS.out _ (hB10.alloc hB10.size _) | exact HSS.out _ (hB11.alloc hB11.size _))
  clear hK K hH1
  try simp only [Act.put,lyA,lyZ,lyS]
  refine tk 14 rfl ?_
  try simp only [Act.put,lyA,lyZ,lyS]
  refine rdy [15] ?_
  refine rdC rfl (fun K hK=>?_) ?_
  (go_simp)
  refine hK.out _ _ ?_ (fun hH3=>?_)
  · (try dsimp only) <;> (first | exact HSS.out _ hB0.drew | exact HSS.out _ (by assumption) | exact HSS.out _ (hB0.alloc (Nat.le_refl _) _).drew | exact HSS.out _ (hB10.alloc hB10.size _) | exact HSS.out _ (hB11.alloc hB11.size _))
  clear hK K hH2
  try simp only [Act.put,lyA,lyZ,lyS]
  refine wpAnyH_done (by kernel_rfl) ?_ _
  rotate_left
  exact AllReadyH.nil
  refine rdC rfl (fun K hK=>?_) ?_
  (go_simp)
  refine hK.out _ _ ?_ (fun hH4=>?_)
  · (try dsimp only) <;> (first | exact HSS.out _ hB0.drew | exact HSS.out _ (by assumption) | exact HSS.out _ (hB0.alloc (Nat.le_refl _) _).drew | exact HSS.out _ (hB10.alloc hB10.size _) | exact HSS.out _ (hB11.alloc hB11.size _))
  clear hK K hH1
  try simp only [Act.put,lyA,lyZ,lyS]
  refine rdy [13] ?_
  refine rdC rfl (fun K hK=>?_) ?_
  (go_simp;(with_reducible refine (CL.out _ (by first | exact hB10 | exact hB10.alloc hB10.size _)).mono ?_);rintro e w11 ⟨v11,rfl,o11,hb11⟩;obtain ⟨x11,y11,rfl⟩:=ownsRow_slice o11;have hB11:Below W5.heap.size W5 w11:=below_ch (by first | exact hB10 | exact hB10.alloc hB10.size _) hb11;(first | (have zA:w11.heap[W5.heap.size]? = some (.cells #[.slice none 0 0,.slice none 0 0] 150 (0,0)):=(hb11.block _ (by have:=hb10.size;simp at this;omega)).trans ((hb10.block _ (by simp)).trans (World.alloc_heap_new W5 (.cells #[.slice none 0 0,.slice none 0 0] 150)));have za0:=cell_blk zA 0;have za1:=cell_blk zA 1;have za2:=frz_blk zA 0;have za3:=frz_blk zA 1;simp only [List.getElem?_toArray,List.getElem?_cons_zero,List.getElem?_cons_succ] at za0 za1) | (have zB:w11.heap[w10.heap.size]? = some (.cells #[.slice none 0 0,.slice none 0 0] 150 (0,0)):=(hb11.block _ (by simp)).trans (World.alloc_heap_new w10 (.cells #[.slice none 0 0,.slice none 0 0] 150));have za0:=cell_blk zB 0;have za1:=cell_blk zB 1;have za2:=frz_blk zB 0;have za3:=frz_blk zB 1;simp only [List.getElem?_toArray,List.getElem?_cons_zero,List.getElem?_cons_succ] at za0 za1) | skip);go_wp2_with fail)
  refine hK.out _ _ ?_ (fun hH5=>?_)
  · (try dsimp only) <;> (first | exact HSS.out _ hB0.drew | exact HSS.out _ (by assumption) | exact HSS.out _ (hB0.alloc (Nat.le_refl _) _).drew | exact HSS.out _ (hB10.alloc hB10.size _) | exact HSS.out _ (hB11.alloc hB11.size _))
  clear hK K hH4
  try simp only [Act.put,lyA,lyZ,lyS]
  refine tk 14 rfl ?_
  try simp only [Act.put,lyA,lyZ,lyS]
  refine wpAnyH_done (by kernel_rfl) ?_ _
  rotate_left
  exact AllReadyH.nil
  exact AllReadyH.nil
  refine rdC rfl (fun K hK=>?_) ?_
  (go_simp)
  refine hK.out _ _ ?_ (fun hH6=>?_)
  · (try dsimp only) <;> (first | exact HSS.out _ hB0.drew | exact HSS.out _ (by assumption) | exact HSS.out _ (hB0.alloc (Nat.le_refl _) _).drew | exact HSS.out _ (hB10.alloc hB10.size _) | exact HSS.out _ (hB11.alloc hB11.size _))
  clear hK K hHeld
  try simp only [Act.put,lyA,lyZ,lyS]
  refine rdy [6] ?_
  refine rdC rfl (fun K hK=>?_) ?_
  (go_simp;(with_reducible refine (CA.out _ (by first | exact hB0.drew | exact (hB0.alloc (Nat.le_refl _) _).drew)).mono ?_);rintro e w10 ⟨v10,rfl,o10,hb10⟩;obtain ⟨x10,y10,rfl⟩:=ownsRow_slice o10;have hB10:Below W5.heap.size W5 w10:=below_ch (by first | exact hB0.drew | exact (hB0.alloc (Nat.le_refl _) _).drew) hb10;go_wp2_with fail)
  refine hK.out _ _ ?_ (fun hH7=>?_)
  · (try dsimp only) <;> (first | exact HSS.out _ hB0.drew | exact HSS.out _ (by assumption) | exact HSS.out _ (hB0.alloc (Nat.le_refl _) _).drew | exact HSS.out _ (hB10.alloc hB10.size _) | exact HSS.out _ (hB11.alloc hB11.size _))
  clear hK K hH6
  try simp only [Act.put,lyA,lyZ,lyS]
  refine rdy [13] ?_
  refine rdC rfl (fun K hK=>?_) ?_
  (go_simp;(with_reducible refine (CL.out _ (by first | exact hB10 | exact hB10.alloc hB10.size _)).mono ?_);rintro e w11 ⟨v11,rfl,o11,hb11⟩;obtain ⟨x11,y11,rfl⟩:=ownsRow_slice o11;have hB11:Below W5.heap.size W5 w11:=below_ch (by first | exact hB10 | exact hB10.alloc hB10.size _) hb11;(first | (have zA:w11.heap[W5.heap.size]? = some (.cells #[.slice none 0 0,.slice none 0 0] 150 (0,0)):=(hb11.block _ (by have:=hb10.size;simp at this;omega)).trans ((hb10.block _ (by simp)).trans (World.alloc_heap_new W5 (.cells #[.slice none 0 0,.slice none 0 0] 150)));have za0:=cell_blk zA 0;have za1:=cell_blk zA 1;have za2:=frz_blk zA 0;have za3:=frz_blk zA 1;simp only [List.getElem?_toArray,List.getElem?_cons_zero,List.getElem?_cons_succ] at za0 za1) | (have zB:w11.heap[w10.heap.size]? = some (.cells #[.slice none 0 0,.slice none 0 0] 150 (0,0)):=(hb11.block _ (by simp)).trans (World.alloc_heap_new w10 (.cells #[.slice none 0 0,.slice none 0 0] 150));have za0:=cell_blk zB 0;have za1:=cell_blk zB 1;have za2:=frz_blk zB 0;have za3:=frz_blk zB 1;simp only [List.getElem?_toArray,List.getElem?_cons_zero,List.getElem?_cons_succ] at za0 za1) | skip);go_wp2_with fail)
  refine hK.out _ _ ?_ (fun hH8=>?_)
  · (try dsimp only) <;> (first | exact HSS.out _ hB0.drew | exact HSS.out _ (by assumption) | exact HSS.out _ (hB0.alloc (Nat.le_refl _) _).drew | exact HSS.out _ (hB10.alloc hB10.size _) | exact HSS.out _ (hB11.alloc hB11.size _))
  clear hK K hH7
  try simp only [Act.put,lyA,lyZ,lyS]
  refine tk 14 rfl ?_
  try simp only [Act.put,lyA,lyZ,lyS]
  refine wpAnyH_done (by kernel_rfl) ?_ _
  rotate_left
  exact AllReadyH.nil
  exact AllReadyH.nil
  exact AllReadyH.nil
  all_goals
    refine sinkQ_of fun K hK=>?_
    go_simp
    refine hK _ _ ?_
    clear hK K
    go_wp2_with fail
    go_meet
    first
      | exact rf_made zA hB11 (own_below (o10.mono (by simp)) hb11) (o11.mono hB10.size) (fun g hg=>by have:=(o10.lt g hg).1;simp at this;omega) (fun g hg=>by have:=(o11.lt g hg).1;have:=hb10.size;simp at this;omega) (Nat.le_refl _)
      | exact rf_made zB hB11 (own_below16b (o10.mono (by simp)) hb11) (o11.mono (by have:=hB10.size;simp;omega)) (fun g hg=>by have:=(o10.lt g hg).2;omega) (fun g hg=>by have:=(o11.lt g hg).1;simp at this;omega) hB10.size
      | exact rf_made2 hB11 (own_below (o10.mono (by simp)) hb11) (o11.mono hB10.size)
 case rest =>
  obtain ⟨B,x0',y0',v2,rfl,hrf⟩:=hcut
  obtain ⟨X2,Y2,rfl⟩:=ownsRow_slice hrf.o2
  have HF0:=Lib.hid hrf
  have HLs:=Lib.hid (fun (r k:Nat) (h:0≤lstM m r k)=>lst_at H0.out h)
  have LE1:Hid (∀ wx,Mc m p la ll (some ⟨b1,o1,none⟩) (some ⟨b2,o2,none⟩) c1 c2 w wx→∀ r:Nat,Calls Tryz.prog 211 #[.agg #[.string m.nm,.slice p.a1 m.vars.length p.c1,.slice p.a2 m.evs.length p.c2,.slice p.a3 m.regs.length p.c3,.slice p.a4 m.vers.length p.c4,.slice p.a5 m.trns.length p.c5,.string m.nm,.slice p.a1 m.vars.length p.c1,.slice p.a2 m.evs.length p.c2,.slice p.a3 m.regs.length p.c3,.slice p.a4 m.vers.length p.c4,.slice p.a5 m.trns.length p.c5],.int .i64 (r:Int),.int .u8 1] wx fun e w'=>e=.returned (.int .i64 (lstM m r 1))∧Below wx.heap.size wx w'):=Lib.hid fun wx g r=>LE.out wx g r 1
  have LE2:Hid (∀ wx,Mc m p la ll (some ⟨b1,o1,none⟩) (some ⟨b2,o2,none⟩) c1 c2 w wx→∀ r:Nat,Calls Tryz.prog 211 #[.agg #[.string m.nm,.slice p.a1 m.vars.length p.c1,.slice p.a2 m.evs.length p.c2,.slice p.a3 m.regs.length p.c3,.slice p.a4 m.vers.length p.c4,.slice p.a5 m.trns.length p.c5,.string m.nm,.slice p.a1 m.vars.length p.c1,.slice p.a2 m.evs.length p.c2,.slice p.a3 m.regs.length p.c3,.slice p.a4 m.vers.length p.c4,.slice p.a5 m.trns.length p.c5],.int .i64 (r:Int),.int .u8 2] wx fun e w'=>e=.returned (.int .i64 (lstM m r 2))∧Below wx.heap.size wx w'):=Lib.hid fun wx g r=>LE.out wx g r 2
  clear hrf CA CL CA0 CL0 hca hcl d0 d1 LE
  go_wp2_with fail
  go_loopg [10] ((m.regs.length+1) * empN la+m.regs.length) (fun gk i wr=>∃ (r:Nat) (d:List Int) (x:Option Addr) (y:Nat),i=.int .i64 r∧r≤m.regs.length∧RFs ll d B x y (.slice X2 ll.length Y2) W5 wr∧Fld m la d∧(∀ q:Nat,q<r→fillM m d q=false)∧gk=(m.regs.length+1) * empN d+(m.regs.length - r))
  case atStart=>exact ⟨0,la,x0',y0',by go_num,by omega,HF0.out,.refl,fun q hq=>by omega,by omega⟩
  case round =>
   obtain ⟨r,d,x,y,rfl,hr',hrf,hfd,hno,hgk⟩:=hrel
   have HF:=Lib.hid hrf
   have HFd:=Lib.hid hfd
   have HNo:=Lib.hid hno
   have HGk:=Lib.hid hgk
   have HDl:Hid (d.length=m.regs.length):=Lib.hid (by rw [hfd.len];exact HL.out)
   clear hrf hfd hno hgk HF0
   have HS:=Lib.hid (HS5.out.below HF.out.bel)
   obtain ⟨x0,x1,x2,x3,x4,x5,_⟩:=HS.out.mc.mb.box
   obtain ⟨p0,p1,p2,p3,p4,p5⟩:=HS.out.s0
   obtain ⟨q0,q1,q2,q3,q4,q5⟩:=HS.out.s6
   have b0:=HF.out.b0
   have b1:=HF.out.b1
   have f0:=HF.out.f0
   by_cases hlt:r<m.regs.length
   · have hI:(r:Int)<(m.regs.length:Int):=by omega
     have hI0:(0:Int)≤(r:Int):=by omega
     have RUr:=Lib.hid (RU0.out wr d x y X2 Y2 HS.out.mc (RowIn.own HF.out.o1) HDl.out r hlt)
     have HRr:=Lib.hid (show ∀ b,((ruleM m d r == 1 || ruleM m d r == 2) && decide (0≤leastM m r))=b→fillM m d r=b from fun b h=>h)
     have HLe:Hid (leastM m r=if lstM m r 1<0 then lstM m r 2 else lstM m r 1):=Lib.hid rfl
     have LAa:=Lib.hid (fun wx g=>LE1.out wx g r)
     have LAb:=Lib.hid (fun wx g=>LE2.out wx g r)
     have HA:=Lib.hid (HLs.out r 1)
     have HBk:=Lib.hid (HLs.out r 2)
     have hrl:=rule_le m d r
     have HSk:Hid (∀ r',fillM m d r=false→r'=r+1→∀ q:Nat,q<r'→fillM m d q=false):=Lib.hid fun r' h e q hq=>by
       by_cases hqr:q=r
       · subst hqr;exact h
       · exact HNo.out q (by omega)
     generalize ruleM m d r=ρ at RUr HRr hrl
     generalize lstM m r 1=A at LAa HLe HA
     generalize lstM m r 2=A2 at LAb HLe HBk
     clear HLs RU0
     go_wp2_with fail
     (with_reducible refine (RUr.out).mono ?_)
     rintro e w7 ⟨rfl,g7⟩
     have HF7:=Lib.hid (HF.out.below g7)
     clear g7 HF RUr
     clear x0 x1 x2 x3 x4 x5 p0 p1 p2 p3 p4 p5 q0 q1 q2 q3 q4 q5 b0 b1 f0 HS
     have HF:=HF7
     clear HF7
     have HS:=Lib.hid (HS5.out.below HF.out.bel)
     obtain ⟨x0,x1,x2,x3,x4,x5,_⟩:=HS.out.mc.mb.box
     obtain ⟨p0,p1,p2,p3,p4,p5⟩:=HS.out.s0
     obtain ⟨q0,q1,q2,q3,q4,q5⟩:=HS.out.s6
     have b0:=HF.out.b0
     have b1:=HF.out.b1
     have f0:=HF.out.f0
     go_wp2_with fail
     (with_reducible refine (LAa.out _ HS.out.mc).mono ?_)
     rintro e w8 ⟨rfl,g8⟩
     have HF8:=Lib.hid (HF.out.below g8)
     clear g8 HF LAa
     clear x0 x1 x2 x3 x4 x5 p0 p1 p2 p3 p4 p5 q0 q1 q2 q3 q4 q5 b0 b1 f0 HS
     have HF:=HF8
     clear HF8
     by_cases hρ:ρ=1∨ρ=2
     · have HR2:=Lib.hid (fun (hq:0≤leastM m r)=>HRr.out true (by rw [decide_eq_true hq];rcases hρ with rfl | rfl <;> rfl))
       have HR3:=Lib.hid (fun (hq:¬ 0≤leastM m r)=>HRr.out false (by rw [decide_eq_false hq];simp))
       clear HRr
       rcases hρ with rfl | rfl
       all_goals
         by_cases hA:A<0
         · have HLe2:Hid (leastM m r=A2):=Lib.hid (by rw [HLe.out,if_pos hA])
           have HS:=Lib.hid (HS5.out.below HF.out.bel)
           obtain ⟨x0,x1,x2,x3,x4,x5,_⟩:=HS.out.mc.mb.box
           obtain ⟨p0,p1,p2,p3,p4,p5⟩:=HS.out.s0
           obtain ⟨q0,q1,q2,q3,q4,q5⟩:=HS.out.s6
           have b0:=HF.out.b0
           have b1:=HF.out.b1
           have f0:=HF.out.f0
           go_wp2_with fail
           (with_reducible refine (LAb.out _ HS.out.mc).mono ?_)
           rintro e w9 ⟨rfl,g9⟩
           have HF9:=Lib.hid (HF.out.below g9)
           clear g9 HF LAb
           clear x0 x1 x2 x3 x4 x5 p0 p1 p2 p3 p4 p5 q0 q1 q2 q3 q4 q5 b0 b1 f0 HS
           have HF:=HF9
           clear HF9
           by_cases hB:0≤A2
           · obtain ⟨v,hv2,eB,_⟩:=HBk.out hB
             subst eB
             clear HBk HA hB hA
             have hfil:Hid (fillM m d r=true):=Lib.hid (HR2.out (by rw [HLe2.out];omega))
             have hrd:r<d.length:=by rw [HDl.out];exact hlt
             have WT:=Lib.hid (swith_any d (.slice x d.length y) r (v:Int) w9 (RowIn.own HF.out.o1) hrd (by have:=HDl.out;omega))
             have hvI0:(0:Int)≤(v:Int):=by omega
             have HFld:Hid (Fld m la (d.set r (v:Int))):=Lib.hid (by have:=HFd.out.step hlt hfil.out;rw [HLe2.out] at this;exact this)
             have HMs:Hid ((m.regs.length+1) * empN (d.set r (v:Int))+m.regs.length<(m.regs.length+1) * empN d+(m.regs.length - r)):=Lib.hid (by
               have he:=emp_step hrd hfil.out
               rw [HLe2.out] at he
               have h2:(m.regs.length+1) * (empN (d.set r (v:Int))+1)≤(m.regs.length+1) * empN d:=Nat.mul_le_mul_left _ he
               rw [Nat.mul_add,Nat.mul_one] at h2
               omega)
             have HS:=Lib.hid (HS5.out.below HF.out.bel)
             obtain ⟨x0,x1,x2,x3,x4,x5,_⟩:=HS.out.mc.mb.box
             obtain ⟨p0,p1,p2,p3,p4,p5⟩:=HS.out.s0
             obtain ⟨q0,q1,q2,q3,q4,q5⟩:=HS.out.s6
             have b0:=HF.out.b0
             have b1:=HF.out.b1
             have f0:=HF.out.f0
             clear HR2 HR3 HLe HLe2 hfil
             go_wp2_with fail
             (with_reducible refine (WT.out).mono ?_)
             rintro e w13 ⟨v13,rfl,o13,g13⟩
             have HF13:=Lib.hid (HF.out.below g13)
             have hBl:=HF.out.lt
             rw [List.length_set] at o13
             obtain ⟨x13,y13,rfl⟩:=ownsRow_slice o13
             have HP:Hid (RFs ll (d.set r (v:Int)) B x13 y13 (.slice X2 ll.length Y2) W5 (w13.setCell ⟨B,0,none⟩ (.slice x13 d.length y13))):=Lib.hid (by
               have hh:=HF13.out.put (d':=d.set r (v:Int)) (x':=x13) (y':=y13) (by rw [List.length_set];exact o13) hBl
               rw [List.length_set] at hh;exact hh)
             clear g13 o13 WT HF
             clear x0 x1 x2 x3 x4 x5 p0 p1 p2 p3 p4 p5 q0 q1 q2 q3 q4 q5 b0 b1 f0 HS
             have b0:=HF13.out.b0
             have f0:=HF13.out.f0
             go_wp2_with fail
             go_roundg ((m.regs.length+1) * empN (d.set r (v:Int))+m.regs.length)
             case measure=>have:=HMs.out;have:=HGk.out;omega
             case rel=>exact ⟨0,d.set r (v:Int),x13,y13,by go_num,by omega,HP.out,HFld.out,fun q hq=>by omega,by omega⟩
           · have HNf:=Lib.hid (HR3.out (by rw [HLe2.out];omega))
             have HSn:=Lib.hid (HSk.out _ HNf.out rfl)
             have hBd:decide (0≤A2)=false:=decide_eq_false hB
             clear HBk HA HR2 HR3
             have HS:=Lib.hid (HS5.out.below HF.out.bel)
             obtain ⟨x0,x1,x2,x3,x4,x5,_⟩:=HS.out.mc.mb.box
             obtain ⟨p0,p1,p2,p3,p4,p5⟩:=HS.out.s0
             obtain ⟨q0,q1,q2,q3,q4,q5⟩:=HS.out.s6
             have b0:=HF.out.b0
             have b1:=HF.out.b1
             have f0:=HF.out.f0
             go_wp2_with fail
             go_roundg ((m.regs.length+1) * empN d+(m.regs.length - (r+1)))
             case measure=>have:=HGk.out;omega
             case rel=>exact ⟨r+1,d,x,y,by go_num,by omega,HF.out,HFd.out,HSn.out,rfl⟩
         · have HLe2:Hid (leastM m r=A):=Lib.hid (by rw [HLe.out,if_neg hA])
           obtain ⟨v,hv2,eA,_⟩:=HA.out (by omega)
           subst eA
           have hA0:¬ ((v:Int)<0):=by omega
           clear HBk HA hA LAb
           have hfil:Hid (fillM m d r=true):=Lib.hid (HR2.out (by rw [HLe2.out];omega))
           have hrd:r<d.length:=by rw [HDl.out];exact hlt
           have WT:=Lib.hid (swith_any d (.slice x d.length y) r (v:Int) w8 (RowIn.own HF.out.o1) hrd (by have:=HDl.out;omega))
           have hvI0:(0:Int)≤(v:Int):=by omega
           have HFld:Hid (Fld m la (d.set r (v:Int))):=Lib.hid (by have:=HFd.out.step hlt hfil.out;rw [HLe2.out] at this;exact this)
           have HMs:Hid ((m.regs.length+1) * empN (d.set r (v:Int))+m.regs.length<(m.regs.length+1) * empN d+(m.regs.length - r)):=Lib.hid (by
             have he:=emp_step hrd hfil.out
             rw [HLe2.out] at he
             have h2:(m.regs.length+1) * (empN (d.set r (v:Int))+1)≤(m.regs.length+1) * empN d:=Nat.mul_le_mul_left _ he
             rw [Nat.mul_add,Nat.mul_one] at h2
             omega)
           have HS:=Lib.hid (HS5.out.below HF.out.bel)
           obtain ⟨x0,x1,x2,x3,x4,x5,_⟩:=HS.out.mc.mb.box
           obtain ⟨p0,p1,p2,p3,p4,p5⟩:=HS.out.s0
           obtain ⟨q0,q1,q2,q3,q4,q5⟩:=HS.out.s6
           have b0:=HF.out.b0
           have b1:=HF.out.b1
           have f0:=HF.out.f0
           clear HR2 HR3 HLe HLe2 hfil
           go_wp2_with fail
           (with_reducible refine (WT.out).mono ?_)
           rintro e w13 ⟨v13,rfl,o13,g13⟩
           have HF13:=Lib.hid (HF.out.below g13)
           have hBl:=HF.out.lt
           rw [List.length_set] at o13
           obtain ⟨x13,y13,rfl⟩:=ownsRow_slice o13
           have HP:Hid (RFs ll (d.set r (v:Int)) B x13 y13 (.slice X2 ll.length Y2) W5 (w13.setCell ⟨B,0,none⟩ (.slice x13 d.length y13))):=Lib.hid (by
             have hh:=HF13.out.put (d':=d.set r (v:Int)) (x':=x13) (y':=y13) (by rw [List.length_set];exact o13) hBl
             rw [List.length_set] at hh;exact hh)
           clear g13 o13 WT HF
           clear x0 x1 x2 x3 x4 x5 p0 p1 p2 p3 p4 p5 q0 q1 q2 q3 q4 q5 b0 b1 f0 HS
           have b0:=HF13.out.b0
           have f0:=HF13.out.f0
           go_wp2_with fail
           go_roundg ((m.regs.length+1) * empN (d.set r (v:Int))+m.regs.length)
           case measure=>have:=HMs.out;have:=HGk.out;omega
           case rel=>exact ⟨0,d.set r (v:Int),x13,y13,by go_num,by omega,HP.out,HFld.out,fun q hq=>by omega,by omega⟩
     · have d1:((ρ:Int) == 1)=false:=by simp only [beq_eq_false_iff_ne,ne_eq];omega
       have d2:((ρ:Int) == 2)=false:=by simp only [beq_eq_false_iff_ne,ne_eq];omega
       have HNf:=Lib.hid (HRr.out false (by
         have e1:(ρ == 1)=false:=by simp;omega
         have e2:(ρ == 2)=false:=by simp;omega
         rw [e1,e2];rfl))
       have HSn:=Lib.hid (HSk.out _ HNf.out rfl)
       clear hρ HRr HBk HA HLe
       have HS:=Lib.hid (HS5.out.below HF.out.bel)
       obtain ⟨x0,x1,x2,x3,x4,x5,_⟩:=HS.out.mc.mb.box
       obtain ⟨p0,p1,p2,p3,p4,p5⟩:=HS.out.s0
       obtain ⟨q0,q1,q2,q3,q4,q5⟩:=HS.out.s6
       have b0:=HF.out.b0
       have b1:=HF.out.b1
       have f0:=HF.out.f0
       by_cases hA:A<0
       · go_wp2_with fail
         (with_reducible refine (LAb.out _ HS.out.mc).mono ?_)
         rintro e w9 ⟨rfl,g9⟩
         have HF9:=Lib.hid (HF.out.below g9)
         clear g9 HF LAb
         clear x0 x1 x2 x3 x4 x5 p0 p1 p2 p3 p4 p5 q0 q1 q2 q3 q4 q5 b0 b1 f0 HS
         have HF:=HF9
         clear HF9
         have HS:=Lib.hid (HS5.out.below HF.out.bel)
         obtain ⟨x0,x1,x2,x3,x4,x5,_⟩:=HS.out.mc.mb.box
         obtain ⟨p0,p1,p2,p3,p4,p5⟩:=HS.out.s0
         obtain ⟨q0,q1,q2,q3,q4,q5⟩:=HS.out.s6
         have b0:=HF.out.b0
         have b1:=HF.out.b1
         have f0:=HF.out.f0
         go_wp2_with fail
         go_roundg ((m.regs.length+1) * empN d+(m.regs.length - (r+1)))
         case measure=>have:=HGk.out;omega
         case rel=>exact ⟨r+1,d,x,y,by go_num,by omega,HF.out,HFd.out,HSn.out,rfl⟩
       · go_wp2_with fail
         go_roundg ((m.regs.length+1) * empN d+(m.regs.length - (r+1)))
         case measure=>have:=HGk.out;omega
         case rel=>exact ⟨r+1,d,x,y,by go_num,by omega,HF.out,HFd.out,HSn.out,rfl⟩
   · have hI:¬ ((r:Int)<(m.regs.length:Int)):=by omega
     have HNr:Hid (Nrm m d):=Lib.hid fun q hq=>HNo.out q (by omega)
     obtain ⟨r0,r1,s0,s1⟩:=HR5.out _ HF.out.bel
     have hB1:=(HS.out.mc.mb.bel.setCell (p:=⟨w.heap.size+1+1,0,none⟩) (by simp only;omega) (.slice x d.length y)).setCell (p:=⟨w.heap.size+1+1,1,none⟩) (by simp only;omega) (.slice X2 ll.length Y2)
     have hO1:=(ownsRow_setCell_below (a:=⟨w.heap.size+1+1,1,none⟩) (ownsRow_setCell_below (a:=⟨w.heap.size+1+1,0,none⟩) HF.out.o1 (by simp only;omega) (.slice x d.length y)) (by simp only;omega) (.slice X2 ll.length Y2)).mono (base':=w.heap.size) (by omega)
     have hO2:=(ownsRow_setCell_below (a:=⟨w.heap.size+1+1,1,none⟩) (ownsRow_setCell_below (a:=⟨w.heap.size+1+1,0,none⟩) HF.out.o2 (by simp only;omega) (.slice x d.length y)) (by simp only;omega) (.slice X2 ll.length Y2)).mono (base':=w.heap.size) (by omega)
     have HEnd:=Lib.hid (And.intro hB1 (And.intro hO1 hO2))
     clear hB1 hO1 hO2 LE1 LE2 HLs RU0
     go_wp2_with fail
     refine bodyPost_ret (v:=.tuple #[.agg #[.slice x d.length y,.slice X2 ll.length Y2],.int .i64 0]) (by simp [results,Tryz.results119,go_sem,r0,r1]) rfl ?_
     obtain ⟨hB1,hO1,hO2⟩:=HEnd.out
     first
       | exact ⟨hB1,d,_,_,rfl,HFd.out,HNr.out,hO1,hO2⟩
       | exact ⟨hB1,.inr ⟨rfl,d,_,_,rfl,HFd.out,HNr.out,hO1,hO2⟩⟩
end Go.Proofs
