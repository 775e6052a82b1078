/- Walks: the law 'LegalMeans'. -/
import Derived.Test.YtiimoclbmaggjaaGreatDoorLLwAB
import Derived.Test.YtiimoclbmaggjaaGreatDoorLLrAD
import Derived.Test.YtiimoclbmaggjaaGreatDoorLMdRg
namespace Go.Proofs
open Go.RowKit Go.Lx Go.Md Go.Shelf Go.BigFrame Go.Rgi
set_option linter.unusedVariables false
def pvM (m:MdlD) (la:List Int) (v:Nat):Bool:=!isA m la v || ((chainM m v).all (isA m la) && (ownM m v).all fun r=>decide (0≤atL la r))
def gF (m:MdlD) (la:List Int) (k:Nat):Bool:=decide (0≤atL la 0) && (List.range k).all (pvM m la)
theorem gF_succ (m:MdlD) (la:List Int) (k:Nat):gF m la (k+1)=(gF m la k && pvM m la k):=by
 unfold gF;rw [List.range_succ,List.all_append];simp [Bool.and_assoc]
theorem gF_good (m:MdlD) (la:List Int):gF m la m.vers.length=goodM m la:=rfl
def chF (m:MdlD) (la l:List Int) (j:Nat):Bool:=(l.take j).all (isA m la)
theorem chF_succ (m:MdlD) (la l:List Int) {j:Nat} (h:j<l.length):chF m la l (j+1)=(chF m la l j && isA m la l[j]):=by
 unfold chF;rw [List.take_succ_eq_append_getElem h,List.all_append];simp
def rgF (la l:List Int) (j:Nat):Bool:=(l.take j).all fun r=>decide (0≤atL la r)
theorem rgF_succ (la l:List Int) {j:Nat} (h:j<l.length):rgF la l (j+1)=(rgF la l j && decide (0≤atL la l[j])):=by
 unfold rgF;rw [List.take_succ_eq_append_getElem h,List.all_append];simp
structure Lm (m:MdlD) (p pr:Ph) (la ll:List Int) (a1 a2 y1 y2:Option Addr) (c1 c2 z1 z2 H8 H9:Nat) (w wx:World):Prop where
 mc:Mc m p la ll a1 a2 c1 c2 w wx
 md:Mod anyM wx m pr
 s0:wx.cell? ⟨H8,0,none⟩=some (.string m.nm)∧wx.cell? ⟨H8,1,none⟩=some (.slice pr.a1 m.vars.length pr.c1)∧wx.cell? ⟨H8,2,none⟩=some (.slice pr.a2 m.evs.length pr.c2)∧wx.cell? ⟨H8,3,none⟩=some (.slice pr.a3 m.regs.length pr.c3)∧wx.cell? ⟨H8,4,none⟩=some (.slice pr.a4 m.vers.length pr.c4)∧wx.cell? ⟨H8,5,none⟩=some (.slice pr.a5 m.trns.length pr.c5)
 s6:wx.cell? ⟨H8,6,none⟩=some (.string m.nm)∧wx.cell? ⟨H8,7,none⟩=some (.slice pr.a1 m.vars.length pr.c1)∧wx.cell? ⟨H8,8,none⟩=some (.slice pr.a2 m.evs.length pr.c2)∧wx.cell? ⟨H8,9,none⟩=some (.slice pr.a3 m.regs.length pr.c3)∧wx.cell? ⟨H8,10,none⟩=some (.slice pr.a4 m.vers.length pr.c4)∧wx.cell? ⟨H8,11,none⟩=some (.slice pr.a5 m.trns.length pr.c5)
 t0:wx.cell? ⟨H9,0,none⟩=some (.slice y1 la.length z1)
 t1:wx.cell? ⟨H9,1,none⟩=some (.slice y2 ll.length z2)
 rr1:RowIn wx (.slice y1 la.length z1) la
 rr2:RowIn wx (.slice y2 ll.length z2) ll
 l8:H8<wx.heap.size
 l9:H9<wx.heap.size
theorem Lm.below {m:MdlD} {p pr:Ph} {la ll:List Int} {a1 a2 y1 y2:Option Addr} {c1 c2 z1 z2 H8 H9:Nat} {w wx wy:World} (h:Lm m p pr la ll a1 a2 y1 y2 c1 c2 z1 z2 H8 H9 w wx) (g:Below wx.heap.size wx wy):Lm m p pr la ll a1 a2 y1 y2 c1 c2 z1 z2 H8 H9 w wy:=by
 obtain ⟨x0,x1,x2,x3,x4,x5⟩:=h.s0
 obtain ⟨q0,q1,q2,q3,q4,q5⟩:=h.s6
 have hl:=h.l8
 have hk:=h.l9
 exact ⟨h.mc.below g,h.md.below g,⟨(g.cell (p:=⟨H8,0,none⟩) hl).trans x0,(g.cell (p:=⟨H8,1,none⟩) hl).trans x1,(g.cell (p:=⟨H8,2,none⟩) hl).trans x2,(g.cell (p:=⟨H8,3,none⟩) hl).trans x3,(g.cell (p:=⟨H8,4,none⟩) hl).trans x4,(g.cell (p:=⟨H8,5,none⟩) hl).trans x5⟩,
   ⟨(g.cell (p:=⟨H8,6,none⟩) hl).trans q0,(g.cell (p:=⟨H8,7,none⟩) hl).trans q1,(g.cell (p:=⟨H8,8,none⟩) hl).trans q2,(g.cell (p:=⟨H8,9,none⟩) hl).trans q3,(g.cell (p:=⟨H8,10,none⟩) hl).trans q4,(g.cell (p:=⟨H8,11,none⟩) hl).trans q5⟩,
   (g.cell (p:=⟨H9,0,none⟩) hk).trans h.t0,(g.cell (p:=⟨H9,1,none⟩) hk).trans h.t1,h.rr1.below g,h.rr2.below g,Nat.lt_of_lt_of_le hl g.size,Nat.lt_of_lt_of_le hk g.size⟩
theorem leg_no {m:MdlD} {la ll:List Int} (h:chkE m la ll≠0):legB m la ll=false:=by unfold legB;simp [h]
theorem leg_yes {m:MdlD} {la ll:List Int} (h:chkE m la ll=0):legB m la ll=goodM m la:=by
 obtain ⟨h0,h1,_⟩:=chk_zero h
 unfold legB
 rw [h,← legal_good h0 (fit1_len' h1) (fit1_fit h1)];simp
set_option maxRecDepth 100000 in
set_option maxHeartbeats 16000000 in
theorem legalMeans_any {Q:Nat→BP} (m:MdlD) (p:Ph) (la ll:List Int) (a1 a2:Option Addr) (c1 c2:Nat) (w:World) (h:Mod Q w m p) (hm:MdlOk m) (hT:Tab w) (h1:RowIn w (.slice a1 la.length c1) la) (h2:RowIn w (.slice a2 ll.length c2) ll) (b1:la.length≤140737488355328) (b2:ll.length≤140737488355328) :
   Calls Tryz.prog 51 #[mdV m p,.agg #[.slice a1 la.length c1,.slice a2 ll.length c2]] w fun e w'=>e=.returned (.bool true)∧Below w.heap.size w w':=by
 have HB:=Lib.hid (Mc.made h h1 h2)
 have F1:=Lib.hid (fun wx (g:Mc m p la ll a1 a2 c1 c2 w wx)=>small26_any m p a1 a2 la.length c1 ll.length c2 wx g.mb.mod hm b1 b2)
 have WK:=Lib.hid (fun wx (g:Below w.heap.size w wx)=>works26 wx (hT.next g))
 have RF:=Lib.hid (fun (hs:Sm26 m la.length ll.length) wx (g:Mc m p la ll a1 a2 c1 c2 w wx)=>ref_low m p wx g.mb.mod (few_sml hs.few))
 have RR:=Lib.hid (fun (pr:Ph) wx (hx:Mod anyM wx m pr)=>rright_any m pr wx hx hm)
 have LG:=Lib.hid (fun (hs:Sm26 m la.length ll.length) wx (g:Mc m p la ll a1 a2 c1 c2 w wx)=>legal_any m p la ll a1 a2 c1 c2 wx g.mb.mod hm (hT.next g.mb.bel) g.r1 g.r2 b1 b2 (by have:=hs.vr;omega) (by have:=hs.rg;omega) (by have:=hs.tr;omega))
 have OF:=Lib.hid (fun (pr:Ph) wx=>sof_any m pr wx)
 have RC:=Lib.hid (fun (hs:Sm26 m la.length ll.length) wx (g:Mc m p la ll a1 a2 c1 c2 w wx)=>ref26_any la ll a1 a2 c1 c2 wx g.r1 g.r2 (by have:=hs.a;omega) (by have:=hs.b;omega))
 have HvI:=Lib.hid hm.vers
 unfold mdV at F1 RF RR LG OF ⊢
 unfold stV at OF
 clear h hm hT h1 h2 b1 b2
 go_enter Tryz.func51,Tryz.ntmps51
 obtain ⟨x0,x1,x2,x3,x4,x5,_⟩:=HB.out.mb.box
 go_wp2_with fail
 (with_reducible refine (F1.out _ HB.out).mono ?_)
 rintro e w3 ⟨⟨f1,rfl,s1⟩,g3⟩
 have HB3:=Lib.hid (HB.out.below g3)
 clear HB x0 x1 x2 x3 x4 x5 F1
 obtain ⟨x0,x1,x2,x3,x4,x5,_⟩:=HB3.out.mb.box
 cases f1
 · go_wp2_with fail
   (with_reducible refine (WK.out _ HB3.out.mb.bel).mono ?_)
   rintro e w4 ⟨rfl,g4⟩
   go_wp2_with fail
   go_ret
   exact ⟨rfl,(HB3.out.below g4).mb.bel⟩
 have hS:=Lib.hid (s1 rfl)
 have RFs:=Lib.hid (RF.out hS.out)
 have LGs:=Lib.hid (LG.out hS.out)
 have RCs:=Lib.hid (RC.out hS.out)
 clear s1 g3 RF LG RC
 go_wp2_with fail
 (with_reducible refine (RFs.out _ HB3.out).mono ?_)
 rintro e w4 ⟨pr1,rfl,hmr1,g4⟩
 have HB4:=Lib.hid (HB3.out.below g4)
 have HM4:=Lib.hid hmr1.any
 clear g4 hmr1 HB3
 unfold mdV
 go_wp2_with fail
 (with_reducible refine (RR.out pr1 _ HM4.out).mono ?_)
 rintro e w5 ⟨rfl,g5⟩
 have HB5:=Lib.hid (HB4.out.below g5)
 clear g5 HB4 HM4 RR x0 x1 x2 x3 x4 x5
 obtain ⟨x0,x1,x2,x3,x4,x5,_⟩:=HB5.out.mb.box
 have d0:=HB5.out.d0
 have d1:=HB5.out.d1
 by_cases hz:(riM m).2.2=0
 rotate_left
 · have hz1:(((riM m).2.2:Int) != 0)=true:=by simp only [bne_iff_ne,ne_eq];omega
   have hLg:=leg_no (m:=m) (la:=la) (ll:=ll) (by unfold chkE;rw [if_neg hz];exact hz)
   have LG5:=LGs.out w5 HB5.out
   rw [hLg] at LG5
   have HLG5:=Lib.hid LG5
   clear hz hLg LG5
   go_wp2_with fail
   (with_reducible refine (HLG5.out).mono ?_)
   rintro e w6 ⟨rfl,g6⟩
   have HB6:=Lib.hid (HB5.out.below g6)
   go_wp2_with fail
   (with_reducible refine (WK.out _ HB6.out.mb.bel).mono ?_)
   rintro e w7 ⟨rfl,g7⟩
   go_wp2_with fail
   go_ret
   exact ⟨rfl,(HB6.out.below g7).mb.bel⟩
 have H0:=Lib.hid (riM_ok hz)
 rw [hz]
 clear hz
 go_wp2_with fail
 (with_reducible refine (RFs.out _ HB5.out).mono ?_)
 rintro e w6 ⟨pr,rfl,hmr,g6⟩
 have HB6:=Lib.hid (HB5.out.below g6)
 have HM6:=Lib.hid hmr.any
 clear g6 hmr HB5 RFs x0 x1 x2 x3 x4 x5 d0 d1
 unfold mdV
 go_wp2_with fail
 (with_reducible refine (OF.out pr _).mono ?_)
 rintro e w7 ⟨rfl,g7⟩
 have HB7:Hid (Mc m p la ll a1 a2 c1 c2 w (w7.alloc (.cells #[.string m.nm,.slice pr.a1 m.vars.length pr.c1,.slice pr.a2 m.evs.length pr.c2,.slice pr.a3 m.regs.length pr.c3,.slice pr.a4 m.vers.length pr.c4,.slice pr.a5 m.trns.length pr.c5,.string m.nm,.slice pr.a1 m.vars.length pr.c1,.slice pr.a2 m.evs.length pr.c2,.slice pr.a3 m.regs.length pr.c3,.slice pr.a4 m.vers.length pr.c4,.slice pr.a5 m.trns.length pr.c5] 168))):=Lib.hid ((HB6.out.below g7).below (below_al1 _ _))
 have HM7:Hid (Mod anyM (w7.alloc (.cells #[.string m.nm,.slice pr.a1 m.vars.length pr.c1,.slice pr.a2 m.evs.length pr.c2,.slice pr.a3 m.regs.length pr.c3,.slice pr.a4 m.vers.length pr.c4,.slice pr.a5 m.trns.length pr.c5,.string m.nm,.slice pr.a1 m.vars.length pr.c1,.slice pr.a2 m.evs.length pr.c2,.slice pr.a3 m.regs.length pr.c3,.slice pr.a4 m.vers.length pr.c4,.slice pr.a5 m.trns.length pr.c5] 168)) m pr):=Lib.hid ((HM6.out.below g7).below (below_al1 _ _))
 have HS7:Hid (∀ wx,Below (w7.alloc (.cells #[.string m.nm,.slice pr.a1 m.vars.length pr.c1,.slice pr.a2 m.evs.length pr.c2,.slice pr.a3 m.regs.length pr.c3,.slice pr.a4 m.vers.length pr.c4,.slice pr.a5 m.trns.length pr.c5,.string m.nm,.slice pr.a1 m.vars.length pr.c1,.slice pr.a2 m.evs.length pr.c2,.slice pr.a3 m.regs.length pr.c3,.slice pr.a4 m.vers.length pr.c4,.slice pr.a5 m.trns.length pr.c5] 168)).heap.size (w7.alloc (.cells #[.string m.nm,.slice pr.a1 m.vars.length pr.c1,.slice pr.a2 m.evs.length pr.c2,.slice pr.a3 m.regs.length pr.c3,.slice pr.a4 m.vers.length pr.c4,.slice pr.a5 m.trns.length pr.c5,.string m.nm,.slice pr.a1 m.vars.length pr.c1,.slice pr.a2 m.evs.length pr.c2,.slice pr.a3 m.regs.length pr.c3,.slice pr.a4 m.vers.length pr.c4,.slice pr.a5 m.trns.length pr.c5] 168)) wx→((wx.cell? ⟨w7.heap.size,0,none⟩=some (.string m.nm)∧wx.cell? ⟨w7.heap.size,1,none⟩=some (.slice pr.a1 m.vars.length pr.c1)∧wx.cell? ⟨w7.heap.size,2,none⟩=some (.slice pr.a2 m.evs.length pr.c2)∧wx.cell? ⟨w7.heap.size,3,none⟩=some (.slice pr.a3 m.regs.length pr.c3)∧wx.cell? ⟨w7.heap.size,4,none⟩=some (.slice pr.a4 m.vers.length pr.c4)∧wx.cell? ⟨w7.heap.size,5,none⟩=some (.slice pr.a5 m.trns.length pr.c5))∧(wx.cell? ⟨w7.heap.size,6,none⟩=some (.string m.nm)∧wx.cell? ⟨w7.heap.size,7,none⟩=some (.slice pr.a1 m.vars.length pr.c1)∧wx.cell? ⟨w7.heap.size,8,none⟩=some (.slice pr.a2 m.evs.length pr.c2)∧wx.cell? ⟨w7.heap.size,9,none⟩=some (.slice pr.a3 m.regs.length pr.c3)∧wx.cell? ⟨w7.heap.size,10,none⟩=some (.slice pr.a4 m.vers.length pr.c4)∧wx.cell? ⟨w7.heap.size,11,none⟩=some (.slice pr.a5 m.trns.length pr.c5)))∧w7.heap.size<wx.heap.size):=Lib.hid fun wx g=>by
   have e:=World.alloc_heap_new w7 (.cells #[.string m.nm,.slice pr.a1 m.vars.length pr.c1,.slice pr.a2 m.evs.length pr.c2,.slice pr.a3 m.regs.length pr.c3,.slice pr.a4 m.vers.length pr.c4,.slice pr.a5 m.trns.length pr.c5,.string m.nm,.slice pr.a1 m.vars.length pr.c1,.slice pr.a2 m.evs.length pr.c2,.slice pr.a3 m.regs.length pr.c3,.slice pr.a4 m.vers.length pr.c4,.slice pr.a5 m.trns.length pr.c5] 168)
   have e2:=(g.block w7.heap.size (by simp)).trans e
   refine ⟨⟨⟨cell_blk e2 0,cell_blk e2 1,cell_blk e2 2,cell_blk e2 3,cell_blk e2 4,cell_blk e2 5⟩,cell_blk e2 6,cell_blk e2 7,cell_blk e2 8,cell_blk e2 9,cell_blk e2 10,cell_blk e2 11⟩,?_⟩
   have:=g.size;simp at this;omega
 clear g7 HB6 HM6 OF
 have d0:=HB7.out.d0
 have d1:=HB7.out.d1
 go_wp2_with fail
 (with_reducible refine (RCs.out _ HB7.out).mono ?_)
 rintro e w8 ⟨v1,v2,rfl,o1,o2,g8⟩
 obtain ⟨y1,z1,rfl⟩:=ownsRow_slice o1
 obtain ⟨y2,z2,rfl⟩:=ownsRow_slice o2
 have HL:Hid (Lm m p pr la ll a1 a2 y1 y2 c1 c2 z1 z2 w7.heap.size w8.heap.size w (w8.alloc (.cells #[.slice y1 la.length z1,.slice y2 ll.length z2] 150))):=Lib.hid (by
   have ga:=below_al1 w8 (.cells #[.slice y1 la.length z1,.slice y2 ll.length z2] 150)
   obtain ⟨⟨s0,s6⟩,hl⟩:=HS7.out _ (below_ch g8 ga)
   exact ⟨(HB7.out.below g8).below ga,(HM7.out.below g8).below ga,s0,s6,by simp,by simp,(RowIn.own o1).below ga,(RowIn.own o2).below ga,hl,by simp⟩)
 have FTs:=Lib.hid (sfits_any m pr la ll y1 y2 z1 z2 _ HL.out.md H0.out HL.out.rr1 HL.out.rr2 (by have:=hS.out.a;omega) (by have:=hS.out.b;omega) (by have:=hS.out.vr;omega) (by have:=hS.out.rg;omega))
 unfold stV at FTs
 clear g8 o1 o2 HB7 HM7 HS7 RCs d0 d1
 obtain ⟨H8,hH8⟩:∃ x,w7.heap.size=x:=⟨_,rfl⟩
 obtain ⟨H9,hH9⟩:∃ x,w8.heap.size=x:=⟨_,rfl⟩
 go_upto_region 8 with fail
 generalize w8.alloc (.cells #[.slice y1 la.length z1,.slice y2 ll.length z2] 150)=W9 at *
 rw [hH8,hH9] at HL
 try rw [hH8]
 try rw [hH9]
 clear hH8 hH9
 have hla:la.length≤40:=hS.out.a
 have hll:ll.length≤40:=hS.out.b
 have hrg:=hS.out.rg
 have hvr:=hS.out.vr
 have HLG:=Lib.hid (fun wx (g:Mc m p la ll a1 a2 c1 c2 w wx)=>LGs.out wx g)
 have HCk:Hid (∀ f,fit2 m la ll=f→chkE m la ll=if f then 0 else 2):=Lib.hid fun f hf=>by unfold chkE;rw [H0.out,hf];rfl
 obtain ⟨f,hf⟩:∃ f,fit2 m la ll=f:=⟨_,rfl⟩
 rw [hf] at FTs
 have HC:=Lib.hid (HCk.out f hf)
 clear HCk LGs hf
 cases f with
 | false =>
  have hLg:=leg_no (m:=m) (la:=la) (ll:=ll) (by rw [HC.out];decide)
  rw [hLg] at HLG
  clear hLg HC
  obtain ⟨x0,x1,x2,x3,x4,x5,_⟩:=HL.out.mc.mb.box
  obtain ⟨p0,p1,p2,p3,p4,p5⟩:=HL.out.s0
  obtain ⟨q0,q1,q2,q3,q4,q5⟩:=HL.out.s6
  have t0:=HL.out.t0
  have t1:=HL.out.t1
  have d0:=HL.out.mc.d0
  have d1:=HL.out.mc.d1
  go_wp2_with fail
  (with_reducible refine (FTs.out).mono ?_)
  rintro e w10 ⟨rfl,g10⟩
  have HL10:=Lib.hid (HL.out.below g10)
  clear g10 FTs HL
  clear x0 x1 x2 x3 x4 x5 p0 p1 p2 p3 p4 p5 q0 q1 q2 q3 q4 q5 t0 t1 d0 d1
  obtain ⟨x0,x1,x2,x3,x4,x5,_⟩:=HL10.out.mc.mb.box
  obtain ⟨p0,p1,p2,p3,p4,p5⟩:=HL10.out.s0
  obtain ⟨q0,q1,q2,q3,q4,q5⟩:=HL10.out.s6
  have t0:=HL10.out.t0
  have t1:=HL10.out.t1
  have d0:=HL10.out.mc.d0
  have d1:=HL10.out.mc.d1
  go_wp2_with fail
  (with_reducible refine (HLG.out _ HL10.out.mc).mono ?_)
  rintro e w11 ⟨rfl,g11⟩
  have HL11:=Lib.hid (HL10.out.below g11)
  go_wp2_with fail
  (with_reducible refine (WK.out _ HL11.out.mc.mb.bel).mono ?_)
  rintro e w12 ⟨rfl,g12⟩
  go_wp2_with fail
  go_ret
  exact ⟨rfl,(HL11.out.below g12).mc.mb.bel⟩
 | true =>
  have hC0:chkE m la ll=0:=HC.out
  have hLg:=leg_yes hC0
  have hlen:la.length=m.regs.length:=fit1_len' (chk_zero hC0).2.1
  have hpos:=regs_pos H0.out
  have HLen:=Lib.hid hlen
  have hp0:0<la.length:=by omega
  rw [hLg] at HLG
  clear hLg HC hC0 hlen hpos
  obtain ⟨b9,o9,ey,_,_⟩:∃ b9 o9,y1=some ⟨b9,o9,none⟩∧b9<W9.heap.size∧True:=by
    obtain ⟨a',c',e,_,q⟩:=HL.out.rr1.len
    obtain ⟨b1,o1,ea,hb,_⟩:=q 0 hp0
    simp only [Value.slice.injEq] at e
    exact ⟨b1,o1,by rw [e.1,ea],hb,trivial⟩
  subst ey
  have HCell:Hid (∀ wx,Lm m p pr la ll a1 a2 (some ⟨b9,o9,none⟩) y2 c1 c2 z1 z2 H8 H9 w wx→∀ r (hr:r<la.length),b9<wx.heap.size∧wx.cell? ⟨b9,o9+r,none⟩=some (.int .i64 la[r])):=Lib.hid fun wx g r hr=>by
    obtain ⟨a',c',e,_,q⟩:=g.rr1.len
    obtain ⟨b1,o1,ea,hb,hc⟩:=q r hr
    simp only [Value.slice.injEq] at e
    have e1:=e.1
    rw [ea] at e1
    simp only [Option.some.injEq,Addr.mk.injEq,and_true] at e1
    obtain ⟨rfl,rfl⟩:=e1
    exact ⟨hb,hc⟩
  have hcapA:la.length≤z1:=by
    obtain ⟨a',c',e,h,_⟩:=HL.out.rr1.len
    simp only [Value.slice.injEq] at e
    rw [e.2.2];exact h
  have IS:=Lib.hid (fun wx (g:Lm m p pr la ll a1 a2 (some ⟨b9,o9,none⟩) y2 c1 c2 z1 z2 H8 H9 w wx) (v:Int)=>sis_any m pr la ll (some ⟨b9,o9,none⟩) y2 z1 z2 v wx g.md H0.out g.rr1 HLen.out (by omega))
  have CH:=Lib.hid (fun wx (g:Lm m p pr la ll a1 a2 (some ⟨b9,o9,none⟩) y2 c1 c2 z1 z2 H8 H9 w wx) (v:Int)=>rchain16_any m pr v wx g.md H0.out (by omega) (by omega))
  have RG:=Lib.hid (fun wx (g:Lm m p pr la ll a1 a2 (some ⟨b9,o9,none⟩) y2 c1 c2 z1 z2 H8 H9 w wx) (v:Int)=>rregions16_any m pr v wx g.md (by omega))
  unfold stV at IS
  unfold ixV mdV at CH RG
  have HG0:Hid (gF m la 0=decide (0≤la[0])):=Lib.hid (by
    unfold gF;rw [show (0:Int)=((0:Nat):Int) from rfl,atL_at hp0];simp)
  have HGs:=Lib.hid (gF_succ m la)
  have HGe:=Lib.hid (gF_good m la)
  have hla0:(0:Int)<(la.length:Int):=by omega
  obtain ⟨x0,x1,x2,x3,x4,x5,_⟩:=HL.out.mc.mb.box
  obtain ⟨p0,p1,p2,p3,p4,p5⟩:=HL.out.s0
  obtain ⟨q0,q1,q2,q3,q4,q5⟩:=HL.out.s6
  have t0:=HL.out.t0
  have t1:=HL.out.t1
  have d0:=HL.out.mc.d0
  have d1:=HL.out.mc.d1
  go_wp2_with fail
  (with_reducible refine (FTs.out).mono ?_)
  rintro e w10 ⟨rfl,g10⟩
  have HL10:=Lib.hid (HL.out.below g10)
  have hc0:=(HCell.out w10 HL10.out 0 hp0).2
  rw [Nat.add_zero] at hc0
  clear g10 FTs HL
  clear x0 x1 x2 x3 x4 x5 p0 p1 p2 p3 p4 p5 q0 q1 q2 q3 q4 q5 t0 t1 d0 d1
  obtain ⟨x0,x1,x2,x3,x4,x5,_⟩:=HL10.out.mc.mb.box
  obtain ⟨p0,p1,p2,p3,p4,p5⟩:=HL10.out.s0
  obtain ⟨q0,q1,q2,q3,q4,q5⟩:=HL10.out.s6
  have t0:=HL10.out.t0
  have t1:=HL10.out.t1
  have d0:=HL10.out.mc.d0
  have d1:=HL10.out.mc.d1
  obtain ⟨u0,hu0⟩:∃ u,la[0]=u:=⟨_,rfl⟩
  rw [hu0] at hc0 HG0
  clear hu0
  go_wp2_with fail
  clear x0 x1 x2 x3 x4 x5 p0 p1 p2 p3 p4 p5 q0 q1 q2 q3 q4 q5 t0 t1 d0 d1
  clear hc0
  go_loopw [10,11] (fun g i wr=>∃ k:Nat,k≤m.vers.length∧i=.int .i64 k∧g=.bool (gF m la k)∧Lm m p pr la ll a1 a2 (some ⟨b9,o9,none⟩) y2 c1 c2 z1 z2 H8 H9 w wr) (fun _ i _=>m.vers.length - (intOf i).toNat)
  case atStart=>exact ⟨0,by omega,rfl,by rw [HG0.out];rfl,HL10.out⟩
  case round =>
   obtain ⟨wo,rfl⟩:∃ wo:World,wo=wr:=⟨_,rfl⟩
   obtain ⟨k,hk,rfl,rfl,hlm⟩:=hrel
   have HLo:=Lib.hid hlm
   clear hlm HL10
   obtain ⟨x0,x1,x2,x3,x4,x5,_⟩:=HLo.out.mc.mb.box
   obtain ⟨p0,p1,p2,p3,p4,p5⟩:=HLo.out.s0
   obtain ⟨q0,q1,q2,q3,q4,q5⟩:=HLo.out.s6
   have t0:=HLo.out.t0
   have t1:=HLo.out.t1
   have d0:=HLo.out.mc.d0
   have d1:=HLo.out.mc.d1
   by_cases hlt:k<m.vers.length
   · have hI:(k:Int)<(m.vers.length:Int):=by omega
     have HPv:=Lib.hid (HGs.out k)
     have HPd:Hid (pvM m la k=(!isA m la k || ((chainM m k).all (isA m la) && (ownM m k).all fun r=>decide (0≤atL la r)))):=Lib.hid rfl
     have ISk:=Lib.hid (IS.out wo HLo.out (k:Int))
     obtain ⟨g0,hg0⟩:∃ b,gF m la k=b:=⟨_,rfl⟩
     rw [hg0] at HPv ⊢
     clear hg0
     obtain ⟨is,his⟩:∃ b,isA m la (k:Int)=b:=⟨_,rfl⟩
     rw [his] at ISk HPd
     clear his
     cases is with
     | false =>
      have hg1:Hid (gF m la (k+1)=g0):=Lib.hid (by rw [HPv.out,HPd.out];simp)
      go_wp2_with fail
      (with_reducible refine (ISk.out).mono ?_)
      rintro e w11 ⟨rfl,g11⟩
      have HL11:=Lib.hid (HLo.out.below g11)
      go_wp2_with fail
      go_roundw
      case rel=>exact ⟨k+1,by omega,by go_num,by rw [hg1.out],HL11.out⟩
      case measure=>simp [intOf] <;> omega
     | true =>
      go_wp2_with fail
      (with_reducible refine (ISk.out).mono ?_)
      rintro e w11 ⟨rfl,g11⟩
      have HL11:=Lib.hid (HLo.out.below g11)
      clear g11 HLo
      clear x0 x1 x2 x3 x4 x5 p0 p1 p2 p3 p4 p5 q0 q1 q2 q3 q4 q5 t0 t1 d0 d1
      obtain ⟨x0,x1,x2,x3,x4,x5,_⟩:=HL11.out.mc.mb.box
      obtain ⟨p0,p1,p2,p3,p4,p5⟩:=HL11.out.s0
      obtain ⟨q0,q1,q2,q3,q4,q5⟩:=HL11.out.s6
      have t0:=HL11.out.t0
      have t1:=HL11.out.t1
      have d0:=HL11.out.mc.d0
      have d1:=HL11.out.mc.d1
      have CHk:=Lib.hid (CH.out w11 HL11.out (k:Int))
      go_wp2_with fail
      (with_reducible refine (CHk.out).mono ?_)
      rintro e w12 ⟨v12,rfl,o12,g12⟩
      have HL12:=Lib.hid (HL11.out.below g12)
      have HR12:=Lib.hid (fun (wx:World) (g:Below w12.heap.size w12 wx)=>((RowIn.own o12).below g).len)
      obtain ⟨a12,c12,rfl⟩:=ownsRow_slice o12
      have hlc:(chainM m k).length≤64:=by rw [chainM_len H0.out hlt,← (len_par H0.out hlt).1];exact (len_par H0.out hlt).2.1
      have HcF:=Lib.hid (fun j (hj:j<(chainM m k).length)=>chF_succ m la (chainM m k) hj)
      have HcE:Hid (chF m la (chainM m k) (chainM m k).length=(chainM m k).all (isA m la)):=Lib.hid (by unfold chF;rw [List.take_length])
      have Hc0:Hid (chF m la (chainM m k) 0=true):=Lib.hid rfl
      generalize chainM m k=K at *
      obtain ⟨n12,hn12⟩:∃ n,K.length=n:=⟨_,rfl⟩
      have HN12:=Lib.hid hn12
      rw [hn12] at hlc HcE ⊢
      clear g12 o12 HL11 CHk hn12
      clear x0 x1 x2 x3 x4 x5 p0 p1 p2 p3 p4 p5 q0 q1 q2 q3 q4 q5 t0 t1 d0 d1
      go_wp2_with fail
      go_loopw [10,13] (fun g i wr=>∃ j:Nat,j≤n12∧i=.int .i64 j∧g=.bool (g0 && chF m la K j)∧Below w12.heap.size w12 wr) (fun _ i _=>n12 - (intOf i).toNat)
      case atStart=>exact ⟨0,by omega,rfl,by rw [Hc0.out,Bool.and_true],Below.refl _ _⟩
      case round =>
       obtain ⟨wp,rfl⟩:∃ wo:World,wo=wr:=⟨_,rfl⟩
       obtain ⟨j,hj,rfl,rfl,hb⟩:=hrel
       have HBp:=Lib.hid hb
       have HLp:=Lib.hid (HL12.out.below hb)
       clear hb
       by_cases hjl:j<n12
       · have hJ:(j:Int)<(n12:Int):=by omega
         have hJ0:(0:Int)≤(j:Int):=by omega
         have hjK:j<K.length:=by rw [HN12.out];exact hjl
         obtain ⟨a',c',e,hcap12,q⟩:=HR12.out wp HBp.out
         obtain ⟨b12,o12,ea,hb12,hc12⟩:=q j hjK
         simp only [Value.slice.injEq] at e
         obtain ⟨rfl,e',rfl⟩:=e
         clear e'
         subst ea
         rw [HN12.out] at hcap12
         have HSj:=Lib.hid (HcF.out j hjK)
         obtain ⟨y,hy⟩:∃ y,K[j]'hjK=y:=⟨_,rfl⟩
         rw [hy] at hc12 HSj
         have ISy0:=Lib.hid (fun wx (g:Below wp.heap.size wp wx)=>IS.out wx (HLp.out.below g) y)
         generalize isA m la y=iy at HSj ISy0
         have HS19:Hid (∀ W',Below wp.heap.size wp W'→(W'.cell? ⟨H8,0,none⟩=some (.string m.nm)∧W'.cell? ⟨H8,1,none⟩=some (.slice pr.a1 m.vars.length pr.c1)∧W'.cell? ⟨H8,2,none⟩=some (.slice pr.a2 m.evs.length pr.c2)∧W'.cell? ⟨H8,3,none⟩=some (.slice pr.a3 m.regs.length pr.c3)∧W'.cell? ⟨H8,4,none⟩=some (.slice pr.a4 m.vers.length pr.c4)∧W'.cell? ⟨H8,5,none⟩=some (.slice pr.a5 m.trns.length pr.c5))∧(W'.cell? ⟨H8,6,none⟩=some (.string m.nm)∧W'.cell? ⟨H8,7,none⟩=some (.slice pr.a1 m.vars.length pr.c1)∧W'.cell? ⟨H8,8,none⟩=some (.slice pr.a2 m.evs.length pr.c2)∧W'.cell? ⟨H8,9,none⟩=some (.slice pr.a3 m.regs.length pr.c3)∧W'.cell? ⟨H8,10,none⟩=some (.slice pr.a4 m.vers.length pr.c4)∧W'.cell? ⟨H8,11,none⟩=some (.slice pr.a5 m.trns.length pr.c5))∧W'.cell? ⟨H9,0,none⟩=some (.slice (some ⟨b9,o9,none⟩) la.length z1)∧W'.cell? ⟨H9,1,none⟩=some (.slice y2 ll.length z2)∧W'.cell? ⟨b12,o12+j,none⟩=some (.int .i64 y)):=Lib.hid fun W' g =>
           ⟨(HLp.out.below g).s0,(HLp.out.below g).s6,(HLp.out.below g).t0,(HLp.out.below g).t1,(g.cell (p:=⟨b12,o12+j,none⟩) hb12).trans hc12⟩
         have hB0:Below wp.heap.size wp wp:=Below.refl _ _
         have ISy:=ISy0
         clear q hy ISy0
         obtain ⟨gg,hgg⟩:∃ b,(g0 && chF m la K j)=b:=⟨_,rfl⟩
         rw [hgg]
         have HGG:Hid ((g0 && chF m la K (j+1))=(gg && iy)):=Lib.hid (by rw [HSj.out,← hgg,Bool.and_assoc])
         clear hgg HSj
         cases gg with
         | false =>
          have hgn:Hid ((g0 && chF m la K (j+1))=false):=Lib.hid (by rw [HGG.out];rfl)
          clear HGG ISy
          obtain ⟨x0,x1,x2,x3,x4,x5,_⟩:=HLp.out.mc.mb.box
          obtain ⟨p0,p1,p2,p3,p4,p5⟩:=HLp.out.s0
          obtain ⟨q0,q1,q2,q3,q4,q5⟩:=HLp.out.s6
          have t0:=HLp.out.t0
          have t1:=HLp.out.t1
          have d0:=HLp.out.mc.d0
          have d1:=HLp.out.mc.d1
          go_wp2_with fail
          go_quiet (fail)
          go_wp2_with fail
          go_roundw
          case rel=>exact ⟨j+1,by omega,by go_num,by rw [hgn.out],below_drewN HBp.out _⟩
          case measure=>simp [intOf] <;> omega
         | true =>
          have hgn:Hid ((g0 && chF m la K (j+1))=iy):=Lib.hid (by rw [HGG.out];rfl)
          clear HGG
          go_wp2_with fail
          refine wp_region_any (by kernel_rfl) ?_
          change wpAny _ _ _ _ _ _ _ (World.drew _)
          refine wpAny_of_heldS (S:=(fun W'=>(W'.cell? ⟨H8,0,none⟩=some (.string m.nm)∧W'.cell? ⟨H8,1,none⟩=some (.slice pr.a1 m.vars.length pr.c1)∧W'.cell? ⟨H8,2,none⟩=some (.slice pr.a2 m.evs.length pr.c2)∧W'.cell? ⟨H8,3,none⟩=some (.slice pr.a3 m.regs.length pr.c3)∧W'.cell? ⟨H8,4,none⟩=some (.slice pr.a4 m.vers.length pr.c4)∧W'.cell? ⟨H8,5,none⟩=some (.slice pr.a5 m.trns.length pr.c5))∧(W'.cell? ⟨H8,6,none⟩=some (.string m.nm)∧W'.cell? ⟨H8,7,none⟩=some (.slice pr.a1 m.vars.length pr.c1)∧W'.cell? ⟨H8,8,none⟩=some (.slice pr.a2 m.evs.length pr.c2)∧W'.cell? ⟨H8,9,none⟩=some (.slice pr.a3 m.regs.length pr.c3)∧W'.cell? ⟨H8,10,none⟩=some (.slice pr.a4 m.vers.length pr.c4)∧W'.cell? ⟨H8,11,none⟩=some (.slice pr.a5 m.trns.length pr.c5))∧W'.cell? ⟨H9,0,none⟩=some (.slice (some ⟨b9,o9,none⟩) la.length z1)∧W'.cell? ⟨H9,1,none⟩=some (.slice y2 ll.length z2)∧W'.cell? ⟨b12,o12+j,none⟩=some (.int .i64 y))) ?_ (fun hHeld=>?_)
          · (try dsimp only) <;> (first | exact HS19.out _ (by assumption) | exact HS19.out _ hB0.drew)
          refine tk 0 rfl ?_
          try simp only [Act.put,lyA,lyZ,lyS]
          refine tk 1 rfl ?_
          try simp only [Act.put,lyA,lyZ,lyS]
          refine tk 2 rfl ?_
          try simp only [Act.put,lyA,lyZ,lyS]
          refine tk 3 rfl ?_
          try simp only [Act.put,lyA,lyZ,lyS]
          refine tk 4 rfl ?_
          try simp only [Act.put,lyA,lyZ,lyS]
          refine tk 5 rfl ?_
          try simp only [Act.put,lyA,lyZ,lyS]
          refine tk 6 rfl ?_
          try simp only [Act.put,lyA,lyZ,lyS]
          refine tk 7 rfl ?_
          try simp only [Act.put,lyA,lyZ,lyS]
          refine rdy [8] ?_
          refine rdC rfl (fun K hK=>?_) ?_
          (go_simp;(with_reducible refine (ISy.out _ (by first | assumption | exact hB0.drew)).mono ?_);rintro e w14 ⟨rfl,hb14⟩;have hB14:=below_ch (by first | assumption | exact hB0.drew) hb14;go_wp2_with fail)
          refine hK.out _ _ ?_ (fun hH1=>?_)
          · (try dsimp only) <;> (first | exact HS19.out _ (by assumption) | exact HS19.out _ hB0.drew)
          clear hK K hHeld
          try simp only [Act.put,lyA,lyZ,lyS]
          refine tk 9 rfl ?_
          try simp only [Act.put,lyA,lyZ,lyS]
          refine tk 10 rfl ?_
          try simp only [Act.put,lyA,lyZ,lyS]
          refine wpAnyH_done (by kernel_rfl) ?_ _
          rotate_left
          exact AllReadyH.nil
          all_goals
            go_wp2_with fail
            go_roundw
            case rel=>exact ⟨j+1,by omega,by go_num,by rw [hgn.out];first | done | rfl | simp,below_ch HBp.out hB14⟩
            case measure=>simp [intOf] <;> omega
       · obtain rfl:j=n12:=by omega
         rw [HcE.out]
         have HLq:=HLp
         clear HcF HcE Hc0 HR12 HN12 HLp
         obtain ⟨x0,x1,x2,x3,x4,x5,_⟩:=HLq.out.mc.mb.box
         obtain ⟨p0,p1,p2,p3,p4,p5⟩:=HLq.out.s0
         obtain ⟨q0,q1,q2,q3,q4,q5⟩:=HLq.out.s6
         have t0:=HLq.out.t0
         have t1:=HLq.out.t1
         have d0:=HLq.out.mc.d0
         have d1:=HLq.out.mc.d1
         have RGk:=Lib.hid (RG.out wp HLq.out (k:Int))
         go_wp2_with fail
         (with_reducible refine (RGk.out).mono ?_)
         rintro e w15 ⟨v15,rfl,o15,g15⟩
         have HL15:=Lib.hid (HLq.out.below g15)
         have HR15:=Lib.hid (fun (wx:World) (g:Below w15.heap.size w15 wx)=>((RowIn.own o15).below g).len)
         obtain ⟨a15,c15,rfl⟩:=ownsRow_slice o15
         have hlr:(ownM m k).length≤100:=by have:=sel_len (isOwn (k:Int)) m.regs;have e:(ownM m k).length≤m.regs.length:=this;omega
         have HrIn:Hid (∀ j (hj:j<(ownM m k).length),∃ q:Nat,q<la.length∧(ownM m k)[j]=(q:Int)):=Lib.hid fun j hj=>by
           obtain ⟨q,hq,e,_⟩:=(sel_mem _ _ _).1 (List.getElem_mem hj)
           exact ⟨q,by rw [HLen.out];exact hq,e⟩
         have HrF:=Lib.hid (fun j (hj:j<(ownM m k).length)=>rgF_succ la (ownM m k) hj)
         have HrE:Hid (rgF la (ownM m k) (ownM m k).length=(ownM m k).all fun r=>decide (0≤atL la r)):=Lib.hid (by unfold rgF;rw [List.take_length])
         have Hr0:Hid (rgF la (ownM m k) 0=true):=Lib.hid rfl
         generalize ownM m k=R at *
         obtain ⟨n15,hn15⟩:∃ n,R.length=n:=⟨_,rfl⟩
         have HN15:=Lib.hid hn15
         rw [hn15] at hlr HrE ⊢
         obtain ⟨ga,hga⟩:∃ b,(g0 && K.all (isA m la))=b:=⟨_,rfl⟩
         have HGa:=Lib.hid hga
         rw [hga]
         clear g15 o15 HLq RGk hn15 hga
         clear x0 x1 x2 x3 x4 x5 p0 p1 p2 p3 p4 p5 q0 q1 q2 q3 q4 q5 t0 t1 d0 d1
         go_wp2_with fail
         go_loopw [10,15] (fun g i wr=>∃ j:Nat,j≤n15∧i=.int .i64 j∧g=.bool (ga && rgF la R j)∧Below w15.heap.size w15 wr) (fun _ i _=>n15 - (intOf i).toNat)
         case atStart=>exact ⟨0,by omega,rfl,by rw [Hr0.out,Bool.and_true],Below.refl _ _⟩
         case round =>
          obtain ⟨wq,rfl⟩:∃ wo:World,wo=wr:=⟨_,rfl⟩
          obtain ⟨j,hj,rfl,rfl,hb⟩:=hrel
          have HBq:=Lib.hid hb
          have HLq:=Lib.hid (HL15.out.below hb)
          clear hb
          by_cases hjl:j<n15
          · have hJ:(j:Int)<(n15:Int):=by omega
            have hJ0:(0:Int)≤(j:Int):=by omega
            have hjR:j<R.length:=by rw [HN15.out];exact hjl
            obtain ⟨a',c',e,hcap15,q⟩:=HR15.out wq HBq.out
            obtain ⟨b15,o15,ea,hb15,hc15⟩:=q j hjR
            simp only [Value.slice.injEq] at e
            obtain ⟨rfl,e',rfl⟩:=e
            clear e'
            subst ea
            rw [HN15.out] at hcap15
            obtain ⟨r,hr,er⟩:=HrIn.out j hjR
            have HSj:=Lib.hid (HrF.out j hjR)
            rw [er,atL_at hr] at HSj
            rw [er] at hc15
            obtain ⟨hb9,hcr⟩:=HCell.out wq HLq.out r hr
            obtain ⟨y,hy⟩:∃ y,la[r]'hr=y:=⟨_,rfl⟩
            rw [hy] at hcr HSj
            have hrI:(r:Int)<(la.length:Int):=by omega
            have hrI0:(0:Int)≤(r:Int):=by omega
            clear q hy er
            obtain ⟨gg,hgg⟩:∃ b,(ga && rgF la R j)=b:=⟨_,rfl⟩
            rw [hgg]
            have HGG:Hid ((ga && rgF la R (j+1))=(gg && decide (0≤y))):=Lib.hid (by rw [HSj.out,← hgg,Bool.and_assoc])
            clear hgg HSj
            obtain ⟨x0,x1,x2,x3,x4,x5,_⟩:=HLq.out.mc.mb.box
            obtain ⟨p0,p1,p2,p3,p4,p5⟩:=HLq.out.s0
            obtain ⟨q0,q1,q2,q3,q4,q5⟩:=HLq.out.s6
            have t0:=HLq.out.t0
            have t1:=HLq.out.t1
            have d0:=HLq.out.mc.d0
            have d1:=HLq.out.mc.d1
            cases gg with
            | false =>
             have hgn:Hid ((ga && rgF la R (j+1))=false):=Lib.hid (by rw [HGG.out];rfl)
             clear HGG
             go_wp2_with fail
             go_quiet (fail)
             go_wp2_with fail
             go_roundw
             case rel=>exact ⟨j+1,by omega,by go_num,by rw [hgn.out],below_drewN HBq.out _⟩
             case measure=>simp [intOf] <;> omega
            | true =>
             have hgn:Hid ((ga && rgF la R (j+1))=decide (0≤y)):=Lib.hid (by rw [HGG.out];rfl)
             clear HGG
             go_wp2_with fail
             go_quiet (fail)
             go_wp2_with fail
             go_roundw
             case rel=>exact ⟨j+1,by omega,by go_num,by rw [hgn.out];first | done | rfl | simp,below_drewN HBq.out _⟩
             case measure=>simp [intOf] <;> omega
          · obtain rfl:j=n15:=by omega
            have hfin:Hid (gF m la (k+1)=(ga && rgF la R j)):=Lib.hid (by rw [HPv.out,HPd.out,HrE.out,← HGa.out];simp [Bool.and_assoc])
            go_wp2_with fail
            go_roundw
            case rel=>exact ⟨k+1,by omega,by go_num,by rw [hfin.out],HLq.out⟩
            case measure=>simp [intOf] <;> omega
   · obtain rfl:k=m.vers.length:=by omega
     have LGo:=Lib.hid (HLG.out wo HLo.out.mc)
     rw [← HGe.out] at LGo
     generalize gF m la m.vers.length=g0 at LGo
     have hgg:(g0 == g0)=true:=by simp
     go_wp2_with fail
     (with_reducible refine (LGo.out).mono ?_)
     rintro e w11 ⟨rfl,g11⟩
     have HL11:=Lib.hid (HLo.out.below g11)
     go_wp2_with fail
     (with_reducible refine (WK.out _ HL11.out.mc.mb.bel).mono ?_)
     rintro e w12 ⟨rfl,g12⟩
     go_wp2_with fail
     go_ret
     exact ⟨rfl,(HL11.out.below g12).mc.mb.bel⟩
end Go.Proofs
