/- Walks: 'small' of law 16; the index behind what is written over. -/
import Derived.Test.YtiimoclbmaggjaaGreatDoorIIxVX
import Derived.Test.YtiimoclbmaggjaaGreatDoorIMdSp
import Derived.Test.YtiimoclbmaggjaaGreatDoorIMdK
namespace Go.Proofs
open Go.RowKit Go.Lx Go.Md Go.Shelf Go.BigFrame
set_option linter.unusedVariables false
theorem few_sml {m:MdlD} (h:FewP m):Sml m :=
 ⟨by have:=h.vars;omega,by have:=h.evs;omega,by have:=h.regs;omega,by have:=h.vers;omega,by have:=h.trns;omega,fun x hx=>by have:=h.df x hx;omega,fun x hx=>by have:=h.tr x hx;omega⟩
structure Sm16 (m:MdlD):Prop where
 rg:m.regs.length≤30
 vr:m.vers.length≤40
 tr:m.trns.length≤40
 few:FewP m
set_option maxHeartbeats 1000000 in
theorem small16_any {Q:Nat→BP} (m:MdlD) (p:Ph) (w:World) (h:Mod Q w m p) (hm:MdlOk m) :
   Calls Tryz.prog 74 #[mdV m p] w fun e w'=>BoolSays (Sm16 m) e∧Below w.heap.size w w':=by
 have HF:=Lib.hid (fun wx (hb:Below w.heap.size w wx)=>few_any m p wx (h.kept fun _=>Kept.of_below hb) hm)
 have HB:Hid (∀ o wx,Below (w.alloc o).heap.size (w.alloc o) wx→Below w.heap.size w wx):=fun o wx g=>below_bx1 g
 unfold mdV at HF ⊢
 have b1:=hm.regs
 have b2:=hm.vers
 have b3:=hm.trns
 clear h hm
 by_cases h1:m.regs.length≤30
 · have d1:((m.regs.length:Int)≤30):=by omega
   by_cases h2:m.vers.length≤40
   · have d2:((m.vers.length:Int)≤40):=by omega
     by_cases h3:m.trns.length≤40
     · have d3:((m.trns.length:Int)≤40):=by omega
       go_enter Tryz.func74,Tryz.ntmps74
       go_wp2_with ((with_reducible refine (HF.out _ (below_al1 w _)).mono ?_);rintro e w' ⟨⟨b,rfl,hs⟩,hb⟩)
       go_ret
       exact ⟨⟨b,rfl,fun ht=>⟨h1,h2,h3,hs ht⟩⟩,HB.out _ _ hb⟩
     · have d3:¬ ((m.trns.length:Int)≤40):=by omega
       go_enter Tryz.func74,Tryz.ntmps74
       go_wp2_with fail
       go_ret
       exact ⟨⟨false,rfl,fun ht=>by cases ht⟩,below_al1 w _⟩
   · have d2:¬ ((m.vers.length:Int)≤40):=by omega
     go_enter Tryz.func74,Tryz.ntmps74
     go_wp2_with fail
     go_ret
     exact ⟨⟨false,rfl,fun ht=>by cases ht⟩,below_al1 w _⟩
 · have d1:¬ ((m.regs.length:Int)≤30):=by omega
   go_enter Tryz.func74,Tryz.ntmps74
   go_wp2_with fail
   go_ret
   exact ⟨⟨false,rfl,fun ht=>by cases ht⟩,below_al1 w _⟩
theorem IxSt.keepC {W W':World} {np nk N1 PB KB MO MP IB XB:Nat} {pl:Nat→PlD} {F:RI→List Int} {V:RI→Value} {co cp:Nat} {wx wy:World} (h:IxSt W np nk N1 PB KB MO MP IB XB pl F V co cp wx) (D:Dst W.heap.size N1 PB KB MO MP IB XB) (hb:Below W'.heap.size W' wy)
   (k1:∀ b,W.heap.size≤b→b<wx.heap.size→wy.heap[b]? = wx.heap[b]?) (hN:W.heap.size≤N1) (hz:wx.heap.size≤wy.heap.size):IxSt W' np nk N1 PB KB MO MP IB XB pl F V co cp wy:=by
 obtain ⟨h1,h2,h3,h4,h5,h6⟩:=D.hi
 obtain ⟨l1,l2,l3,l4,l5,l6⟩:=D.lo
 have z:=h.z
 have kc:∀ b k,W.heap.size≤b→b<wx.heap.size→wy.cell? ⟨b,k,none⟩=wx.cell? ⟨b,k,none⟩:=fun b k h1 h2=>World.cell?_of_block (w:=wx) (k1 b h1 h2)
 have kf:∀ b k,W.heap.size≤b→b<wx.heap.size→wy.frozen? ⟨b,k,none⟩=wx.frozen? ⟨b,k,none⟩:=fun b k h1 h2=>World.frozen?_of_block (w:=wx) (k1 b h1 h2)
 exact ⟨hb,(kc _ _ l6 (by omega)).trans h.x,(k1 _ l5 (by omega)).trans h.i,fun i hi=>(h.pl i hi).keep fun j _=>kc _ _ l1 (by omega),fun k=>(kf _ _ l1 (by omega)).trans (h.pf k),fun r hr=>(kc _ _ l2 (by omega)).trans (h.kd r hr),fun k=>(kf _ _ l2 (by omega)).trans (h.kf k),h.mo.keep (k1 _ l3 (by omega)),h.mp.keep (k1 _ l4 (by omega)),h.rw.keep (fun i g hg=>k1 g (by have:=(h.rw.lt hg).1;omega) (h.rw.lt hg).2),by omega⟩
theorem IdxAt.keep {B:Nat} {m:MdlD} {IB:Nat} {wx wy:World} (h:IdxAt B m IB wx) (hz:wx.heap.size≤wy.heap.size) (k1:∀ b,B≤b→b<wx.heap.size→wy.heap[b]? = wx.heap[b]?):IdxAt B m IB wy:=by
 obtain ⟨W,N1,PB,KB,MO,MP,XB,cp,V,h1,h2,D,h⟩:=h
 have hW:W.heap.size≤wy.heap.size:=Nat.le_trans h.bel.size hz
 have hs:({ wy with heap:=wy.heap.extract 0 W.heap.size }:World).heap.size=W.heap.size:=by simp;omega
 refine ⟨{ wy with heap:=wy.heap.extract 0 W.heap.size },N1,PB,KB,MO,MP,XB,cp,V,by rw [hs];exact h1,by rw [hs];exact h2,by rw [hs];exact D,h.keepC D ⟨rfl,rfl,rfl,by rw [hs];exact hW,fun b hb=>?_⟩ (fun b hb hl=>k1 b (Nat.le_trans h1 hb) hl) h2 hz⟩
 rw [hs] at hb
 show wy.heap[b]? = (wy.heap.extract 0 W.heap.size)[b]?
 rw [Array.getElem?_extract]
 simp;omega
theorem IdxAt.pl {B:Nat} {m:MdlD} {IB lo hi:Nat} {wx wy:World} (h:IdxAt B m IB wx) (g:Pl lo hi wx wy) (hB:hi≤B):IdxAt B m IB wy :=
 h.keep g.size fun b hb hl=>g.block b hl (.inr (by omega))
theorem Box.plx {w wx:World} {lo hi H:Nat} {v0 v1 v2 v3 v4 v5:Value} (h:Box w H v0 v1 v2 v3 v4 v5) (hb:Pl lo hi w wx) (hB:H<lo∨hi≤H):Box wx H v0 v1 v2 v3 v4 v5:=by
 have hl:H<w.heap.size:=World.block_lt_of_cell? w _ h.c0
 have hk:=hb.block H hl (by omega)
 have hc:∀ k,wx.cell? ⟨H,k,none⟩=w.cell? ⟨H,k,none⟩:=fun k=>World.cell?_of_block (w:=w) hk
 have hf:∀ k,wx.frozen? ⟨H,k,none⟩=w.frozen? ⟨H,k,none⟩:=fun k=>World.frozen?_of_block (w:=w) hk
 exact ⟨(hc 0).trans h.c0,(hc 1).trans h.c1,(hc 2).trans h.c2,(hc 3).trans h.c3,(hc 4).trans h.c4,(hc 5).trans h.c5,(hf 0).trans h.f0,(hf 1).trans h.f1,(hf 2).trans h.f2,(hf 3).trans h.f3,(hf 4).trans h.f4,(hf 5).trans h.f5⟩
structure K1 (m:MdlD) (p:Ph) (w wx:World):Prop where
 bel:Below w.heap.size w wx
 mod:Mod (fun _=>OldB w.heap.size) wx m p
 box:Box wx w.heap.size (.string m.nm) (.slice p.a1 m.vars.length p.c1) (.slice p.a2 m.evs.length p.c2) (.slice p.a3 m.regs.length p.c3) (.slice p.a4 m.vers.length p.c4) (.slice p.a5 m.trns.length p.c5)
theorem K1.below {m:MdlD} {p:Ph} {w wx wy:World} (h:K1 m p w wx) (g:Below wx.heap.size wx wy):K1 m p w wy:=⟨h.bel.trans (g.mono h.bel.size),h.mod.below g,h.box.below g h.box.sl⟩
structure K2 (m:MdlD) (p pa:Ph) (q:Nat→Nat) (R:Nat) (w wx:World):Prop where
 k1:K1 m p w wx
 mod:Mod (Lay q) wx m pa
 mono:∀ j,q j≤q (j+1)
 lo:w.heap.size<q 0
 top:q 7≤R
 box:Box wx R (.string m.nm) (.slice pa.a1 m.vars.length pa.c1) (.slice pa.a2 m.evs.length pa.c2) (.slice pa.a3 m.regs.length pa.c3) (.slice pa.a4 m.vers.length pa.c4) (.slice pa.a5 m.trns.length pa.c5)
theorem K2.below {m:MdlD} {p pa:Ph} {q:Nat→Nat} {R:Nat} {w wx wy:World} (h:K2 m p pa q R w wx) (g:Below wx.heap.size wx wy):K2 m p pa q R w wy:=⟨h.k1.below g,h.mod.below g,h.mono,h.lo,h.top,h.box.below g h.box.sl⟩
theorem K2.made {m:MdlD} {p pa:Ph} {q:Nat→Nat} {w w3 w4:World} (h:K1 m p w w3) (hc:Mod (Lay q) w4 m pa) (h0:w3.heap.size≤q 0) (hq:∀ j,q j≤q (j+1)) (hz:q 7≤w4.heap.size) (g:Below w3.heap.size w3 w4) :
   K2 m p pa q w4.heap.size w (w4.alloc (.cells #[.string m.nm,.slice pa.a1 m.vars.length pa.c1,.slice pa.a2 m.evs.length pa.c2,.slice pa.a3 m.regs.length pa.c3,.slice pa.a4 m.vers.length pa.c4,.slice pa.a5 m.trns.length pa.c5] 28)) :=
 ⟨(h.below g).below (below_al1 w4 _),hc.below (below_al1 w4 _),hq,by have:=h.box.sl;omega,hz,box6 w4 m pa⟩
set_option maxRecDepth 100000 in
set_option maxHeartbeats 8000000 in
theorem indexKeeps_any {Q:Nat→BP} (m:MdlD) (p:Ph) (a:Int) (w:World) (h1:Mod Q w m p) (hm:MdlOk m) (hT:Tab w) (ha:(Lit.int .i64 a).wf=true) :
   Calls Tryz.prog 20 #[mdV m p,.int .i64 a] w fun e w'=>e=.returned (.bool true)∧Below w.heap.size w w':=by
 have F1:=Lib.hid (fun wx (hb:Below w.heap.size w wx)=>small16_any m p wx (h1.below hb) hm)
 have CM:=Lib.hid (fun (hs:Sml m) (px:Ph) wx (hx:Mod anyM wx m px)=>copy_any m px wx hx hs)
 have SP:=Lib.hid (fun (hs:Sml m) (px:Ph) (qx:Nat→Nat) wx (hx:Mod (Lay qx) wx m px) (hq:∀ j,qx j≤qx (j+1)) (hz:qx 7≤wx.heap.size)=>spoil_any (q:=qx) m px wx hx hq hz hs)
 have WK:=Lib.hid (fun wx (hb:Below w.heap.size w wx)=>works16 wx (hT.next hb))
 have NW:=Lib.hid (fun (hs:Sm16 m) (px:Ph) wx (hb:Below w.heap.size w wx) (hx:Mod anyM wx m px)=>new_any m px wx hx hm (hT.next hb) (by have:=hs.vr;omega) (by have:=hs.rg;omega) (by have:=hs.tr;omega))
 have S1:Hid (∀ wx,Below (w.alloc (.cells #[.string m.nm,.slice p.a1 m.vars.length p.c1,.slice p.a2 m.evs.length p.c2,.slice p.a3 m.regs.length p.c3,.slice p.a4 m.vers.length p.c4,.slice p.a5 m.trns.length p.c5] 28)).heap.size (w.alloc (.cells #[.string m.nm,.slice p.a1 m.vars.length p.c1,.slice p.a2 m.evs.length p.c2,.slice p.a3 m.regs.length p.c3,.slice p.a4 m.vers.length p.c4,.slice p.a5 m.trns.length p.c5] 28)) wx→K1 m p w wx):=fun wx g =>
   ⟨below_bx1 g,(h1.weaken fun _ _ h _=>h).below (below_bx1 g),(box6 w m p).below g (by simp)⟩
 have HA:=Lib.hid ha
 unfold mdV at F1 CM SP NW ⊢
 clear h1 hm hT ha
 go_enter Tryz.func20,Tryz.ntmps20
 go_wp2_with fail
 refine (F1.out _ (below_al1 w _)).mono ?_
 rintro e w3 ⟨⟨b1,rfl,s1⟩,g3⟩
 have H3:=Lib.hid (S1.out w3 g3)
 obtain ⟨x0,x1,x2,x3,x4,x5,_⟩:=H3.out.box
 cases b1
 · go_wp2_with fail
   refine (WK.out _ H3.out.bel).mono ?_
   rintro e w4 ⟨rfl,g4⟩
   go_wp2_with fail
   go_ret
   exact ⟨rfl,H3.out.bel.trans (g4.mono H3.out.bel.size)⟩
 have hS:=Lib.hid (s1 rfl)
 have hs:=Lib.hid (few_sml hS.out.few)
 clear s1 F1 S1 g3
 go_wp2_with fail
 refine (CM.out hs.out p _ H3.out.mod.any).mono ?_
 rintro e w4 ⟨pa,qa,rfl,hc,h0,hq,hz,g4⟩
 unfold mdV
 have H5:=Lib.hid (K2.made H3.out hc h0 hq hz g4)
 clear hc h0 hq hz g4 x0 x1 x2 x3 x4 x5
 go_upto_region 4 with fail
 generalize (w4.alloc (.cells #[.string m.nm,.slice pa.a1 m.vars.length pa.c1,.slice pa.a2 m.evs.length pa.c2,.slice pa.a3 m.regs.length pa.c3,.slice pa.a4 m.vers.length pa.c4,.slice pa.a5 m.trns.length pa.c5] 28))=w5 at *
 obtain ⟨x0,x1,x2,x3,x4,x5,_⟩:=H5.out.box
 go_wp2_with fail
 refine (NW.out hS.out pa _ H5.out.k1.bel H5.out.mod.any).mono ?_
 rintro e w6 ⟨g6,(⟨hr,IB1,rfl,hi⟩ | ⟨hr,rfl⟩)⟩
 rotate_left
 · have hz2:(((riM m).2.2:Int) != 0)=true:=by simp only [bne_iff_ne,ne_eq];omega
   have hz1:(((riM m).2.2:Int) == 0)=false:=by simp only [beq_eq_false_iff_ne,ne_eq];omega
   have HB6:Hid (Below w.heap.size w w6):=H5.out.k1.bel.trans (g6.mono H5.out.k1.bel.size)
   clear hr g6 NW SP CM
   go_wp2_with fail
   refine (WK.out _ HB6.out).mono ?_
   rintro e w7 ⟨rfl,g7⟩
   go_wp2_with fail
   go_ret
   exact ⟨rfl,HB6.out.trans (g7.mono HB6.out.size)⟩
 have H6:=Lib.hid (H5.out.below g6)
 have hw56:w5.heap.size≤w6.heap.size:=g6.size
 have HI6:=Lib.hid hi
 have h0:=Lib.hid hr
 have hq5:Hid (qa 7≤w5.heap.size):=Nat.le_of_lt (Nat.lt_of_le_of_lt H5.out.top H5.out.box.sl)
 clear x0 x1 x2 x3 x4 x5 hi hr g6
 obtain ⟨x0,x1,x2,x3,x4,x5,_⟩:=H6.out.k1.box
 go_wp2_with fail
 refine (NW.out hS.out p _ H6.out.k1.bel H6.out.k1.mod.any).mono ?_
 rintro e w7 ⟨g7,(⟨_,IB2,rfl,hj⟩ | ⟨hr,rfl⟩)⟩
 rotate_left
 · exact absurd (by rw [h0.out]) hr
 have H7:=Lib.hid (H6.out.below g7)
 have HI7:=Lib.hid (HI6.out.grown g7)
 have HJ7:=Lib.hid hj
 clear x0 x1 x2 x3 x4 x5 hj H5 HI6 NW CM H3
 obtain ⟨x0,x1,x2,x3,x4,x5,_⟩:=H7.out.box
 have hw67:w6.heap.size≤w7.heap.size:=g7.size
 clear g7
 go_wp2_with fail
 refine (SP.out hs.out pa qa _ H7.out.mod H7.out.mono (by have:=hq5.out;omega)).mono ?_
 rintro e w8 ⟨rfl,g8⟩
 have HI8:Hid (IdxAt w5.heap.size m IB1 w8):=HI7.out.pl g8 hq5.out
 have HJ8:Hid (IdxAt w6.heap.size m IB2 w8):=HJ7.out.pl g8 (by have:=hq5.out;omega)
 have HB8:Hid (Below w.heap.size w w8):=H7.out.k1.bel.trans (g8.below (by have:=H7.out.lo;omega) H7.out.k1.bel.size)
 clear x0 x1 x2 x3 x4 x5 H6 H7 HI7 HJ7 hw67 g8 SP hq5
 go_wp2_with fail
 have HX:=Lib.hid (fun (wx:World) (g:Below w8.heap.size w8 wx)=>HI8.out.grown g)
 have HY:=Lib.hid (fun (wx:World) (g:Below w8.heap.size w8 wx)=>HJ8.out.grown g)
 have KK:=Lib.hid (fun (B I:Nat) (wx:World) (h:IdxAt B m I wx)=>kids_any h a (by have:=hS.out.vr;omega))
 have KC:=Lib.hid (fun (B I:Nat) (wx:World) (h:IdxAt B m I wx)=>chain_any h a h0.out)
 have KP:=Lib.hid (fun (B I:Nat) (wx:World) (h:IdxAt B m I wx)=>parent_any h a HA.out)
 have KO:=Lib.hid (fun (B I:Nat) (wx:World) (h:IdxAt B m I wx)=>out_any h a (by have:=hS.out.tr;omega))
 have KR:=Lib.hid (fun (B I:Nat) (wx:World) (h:IdxAt B m I wx)=>regions_any h a HA.out (by have:=hS.out.rg;omega))
 have L1:Hid ((kidsR m a).length≤1000):=by
   have h1:(kidsR m a).length≤m.vers.length:=by unfold kidsR;split;exact sel_len _ _;simp
   have h2:=hS.out.vr
   exact Lib.hid (by omega)
 have L2:Hid ((chainM m a).length≤1000):=by
   cases hv:hasV m a with
   | false=>exact Lib.hid (by unfold chainM;rw [hv];simp)
   | true =>
    obtain ⟨k,rfl,hk⟩:=hasV_yes hv
    have:=deep_right h0.out hk
    exact Lib.hid (by rw [chainM_len h0.out hk];omega)
 have L3:Hid ((outR m a).length≤1000):=by
   have h1:(outR m a).length≤m.trns.length:=by unfold outR;split;exact sel_len _ _;simp
   have h2:=hS.out.tr
   exact Lib.hid (by omega)
 have L4:Hid ((ownM m a).length≤1000):=by
   have h1:(ownM m a).length≤m.regs.length:=sel_len _ _
   have h2:=hS.out.rg
   exact Lib.hid (by omega)
 clear HI8 HJ8 hS hs HA
 go_loopw [10] (fun i wr=>∃ k:Nat,k≤2∧i=.int .i64 k∧Below w8.heap.size w8 wr) (fun i _=>2 - (intOf i).toNat)
 case atStart=>exact ⟨0,by omega,rfl,Below.refl _ _⟩
 case round =>
  obtain ⟨wo,rfl⟩:∃ wo:World,wo=wr:=⟨_,rfl⟩
  obtain ⟨k,hk,rfl,hb⟩:=hrel
  have HB:=Lib.hid hb
  clear hb
  by_cases hlt:k<2
  · have hI:(k:Int)<2:=by omega
    -- ROUND
    go_wp2_with fail
    refine (KK.out _ _ _ (HX.out _ HB.out)).mono ?_
    rintro e w11 ⟨v1,rfl,ov1,bv1⟩
    have Bw11:Hid (Below w8.heap.size w8 w11):=HB.out.trans (bv1.mono HB.out.size)
    have Rv1:=Lib.hid (RowIn.own ov1)
    have Ov1:=Lib.hid ov1
    have Tv1w11:Hid (Below w11.heap.size w11 w11):=Below.refl _ _
    clear ov1 bv1
    go_wp2_with fail
    refine (KK.out _ _ _ (HY.out _ Bw11.out)).mono ?_
    rintro e w12 ⟨v2,rfl,ov2,bv2⟩
    have Bw12:Hid (Below w8.heap.size w8 w12):=Bw11.out.trans (bv2.mono Bw11.out.size)
    have Tv1w12:Hid (Below w11.heap.size w11 w12):=Tv1w11.out.trans (bv2.mono Tv1w11.out.size)
    have Z112:Hid (w11.heap.size≤w12.heap.size):=Tv1w12.out.size
    clear Tv1w11
    clear Bw11
    have Rv2:=Lib.hid (RowIn.own ov2)
    have Ov2:=Lib.hid ov2
    have Tv2w12:Hid (Below w12.heap.size w12 w12):=Below.refl _ _
    clear ov2 bv2
    go_wp2_with fail
    refine (KC.out _ _ _ (HX.out _ Bw12.out)).mono ?_
    rintro e w13 ⟨v3,rfl,ov3,bv3⟩
    have Bw13:Hid (Below w8.heap.size w8 w13):=Bw12.out.trans (bv3.mono Bw12.out.size)
    have Tv1w13:Hid (Below w11.heap.size w11 w13):=Tv1w12.out.trans (bv3.mono Tv1w12.out.size)
    clear Tv1w12
    have Tv2w13:Hid (Below w12.heap.size w12 w13):=Tv2w12.out.trans (bv3.mono Tv2w12.out.size)
    clear Tv2w12
    have Z12:Hid (w8.heap.size≤w12.heap.size):=Bw12.out.size
    clear Bw12
    have Rv3:=Lib.hid (RowIn.own ov3)
    have Ov3:=Lib.hid ov3
    have Tv3w13:Hid (Below w13.heap.size w13 w13):=Below.refl _ _
    clear ov3 bv3
    go_wp2_with fail
    refine (KC.out _ _ _ (HY.out _ Bw13.out)).mono ?_
    rintro e w14 ⟨v4,rfl,ov4,bv4⟩
    have Bw14:Hid (Below w8.heap.size w8 w14):=Bw13.out.trans (bv4.mono Bw13.out.size)
    have Tv1w14:Hid (Below w11.heap.size w11 w14):=Tv1w13.out.trans (bv4.mono Tv1w13.out.size)
    clear Tv1w13
    have Tv2w14:Hid (Below w12.heap.size w12 w14):=Tv2w13.out.trans (bv4.mono Tv2w13.out.size)
    clear Tv2w13
    have Tv3w14:Hid (Below w13.heap.size w13 w14):=Tv3w13.out.trans (bv4.mono Tv3w13.out.size)
    clear Tv3w13
    clear Bw13
    have Rv4:=Lib.hid (RowIn.own ov4)
    have Ov4:=Lib.hid ov4
    have Tv4w14:Hid (Below w14.heap.size w14 w14):=Below.refl _ _
    clear ov4 bv4
    go_wp2_with fail
    refine (same_self _ _ _ _ (Rv1.out.below Tv1w14.out) (Rv2.out.below Tv2w14.out) (by have:=L1.out;omega)).mono ?_
    rintro e w15 ⟨rfl,bs⟩
    have Bw15:Hid (Below w8.heap.size w8 w15):=Bw14.out.trans (bs.mono Bw14.out.size)
    have Tv1w15:Hid (Below w11.heap.size w11 w15):=Tv1w14.out.trans (bs.mono Tv1w14.out.size)
    clear Tv1w14
    have Tv2w15:Hid (Below w12.heap.size w12 w15):=Tv2w14.out.trans (bs.mono Tv2w14.out.size)
    clear Tv2w14
    have Tv3w15:Hid (Below w13.heap.size w13 w15):=Tv3w14.out.trans (bs.mono Tv3w14.out.size)
    clear Tv3w14
    have Tv4w15:Hid (Below w14.heap.size w14 w15):=Tv4w14.out.trans (bs.mono Tv4w14.out.size)
    clear Tv4w14
    clear Bw14
    clear bs
    clear Rv2 Ov2 Tv2w15
    go_wp2_with fail
    refine (same_self _ _ _ _ (Rv3.out.below Tv3w15.out) (Rv4.out.below Tv4w15.out) (by have:=L2.out;omega)).mono ?_
    rintro e w16 ⟨rfl,bs⟩
    have Bw16:Hid (Below w8.heap.size w8 w16):=Bw15.out.trans (bs.mono Bw15.out.size)
    have Tv1w16:Hid (Below w11.heap.size w11 w16):=Tv1w15.out.trans (bs.mono Tv1w15.out.size)
    clear Tv1w15
    have Tv3w16:Hid (Below w13.heap.size w13 w16):=Tv3w15.out.trans (bs.mono Tv3w15.out.size)
    clear Tv3w15
    have Tv4w16:Hid (Below w14.heap.size w14 w16):=Tv4w15.out.trans (bs.mono Tv4w15.out.size)
    clear Tv4w15
    clear Bw15
    clear bs
    clear Rv4 Ov4 Tv4w16
    go_wp2_with fail
    refine (KP.out _ _ _ (HX.out _ Bw16.out)).mono ?_
    rintro e w' ⟨rfl,rfl⟩
    go_wp2_with fail
    refine (KP.out _ _ _ (HY.out _ Bw16.out)).mono ?_
    rintro e w' ⟨rfl,rfl⟩
    go_wp2_with fail
    refine (KO.out _ _ _ (HX.out _ Bw16.out)).mono ?_
    rintro e w17 ⟨v5,rfl,ov5,bv5⟩
    have Bw17:Hid (Below w8.heap.size w8 w17):=Bw16.out.trans (bv5.mono Bw16.out.size)
    have Tv1w17:Hid (Below w11.heap.size w11 w17):=Tv1w16.out.trans (bv5.mono Tv1w16.out.size)
    clear Tv1w16
    have Tv3w17:Hid (Below w13.heap.size w13 w17):=Tv3w16.out.trans (bv5.mono Tv3w16.out.size)
    clear Tv3w16
    clear Bw16
    have Rv5:=Lib.hid (RowIn.own ov5)
    have Ov5:=Lib.hid ov5
    have Tv5w17:Hid (Below w17.heap.size w17 w17):=Below.refl _ _
    clear ov5 bv5
    go_wp2_with fail
    refine (KO.out _ _ _ (HY.out _ Bw17.out)).mono ?_
    rintro e w18 ⟨v6,rfl,ov6,bv6⟩
    have Bw18:Hid (Below w8.heap.size w8 w18):=Bw17.out.trans (bv6.mono Bw17.out.size)
    have Tv1w18:Hid (Below w11.heap.size w11 w18):=Tv1w17.out.trans (bv6.mono Tv1w17.out.size)
    clear Tv1w17
    have Tv3w18:Hid (Below w13.heap.size w13 w18):=Tv3w17.out.trans (bv6.mono Tv3w17.out.size)
    clear Tv3w17
    have Tv5w18:Hid (Below w17.heap.size w17 w18):=Tv5w17.out.trans (bv6.mono Tv5w17.out.size)
    clear Tv5w17
    clear Bw17
    have Rv6:=Lib.hid (RowIn.own ov6)
    have Ov6:=Lib.hid ov6
    have Tv6w18:Hid (Below w18.heap.size w18 w18):=Below.refl _ _
    clear ov6 bv6
    go_wp2_with fail
    refine (same_self _ _ _ _ (Rv5.out.below Tv5w18.out) (Rv6.out.below Tv6w18.out) (by have:=L3.out;omega)).mono ?_
    rintro e w19 ⟨rfl,bs⟩
    have Bw19:Hid (Below w8.heap.size w8 w19):=Bw18.out.trans (bs.mono Bw18.out.size)
    have Tv1w19:Hid (Below w11.heap.size w11 w19):=Tv1w18.out.trans (bs.mono Tv1w18.out.size)
    clear Tv1w18
    have Tv3w19:Hid (Below w13.heap.size w13 w19):=Tv3w18.out.trans (bs.mono Tv3w18.out.size)
    clear Tv3w18
    have Tv5w19:Hid (Below w17.heap.size w17 w19):=Tv5w18.out.trans (bs.mono Tv5w18.out.size)
    clear Tv5w18
    have Tv6w19:Hid (Below w18.heap.size w18 w19):=Tv6w18.out.trans (bs.mono Tv6w18.out.size)
    clear Tv6w18
    clear Bw18
    clear bs
    clear Rv5 Ov5 Tv5w19
    clear Rv6 Ov6 Tv6w19
    go_wp2_with fail
    refine (KR.out _ _ _ (HX.out _ Bw19.out)).mono ?_
    rintro e w20 ⟨v7,rfl,ov7,bv7⟩
    have Bw20:Hid (Below w8.heap.size w8 w20):=Bw19.out.trans (bv7.mono Bw19.out.size)
    have Tv1w20:Hid (Below w11.heap.size w11 w20):=Tv1w19.out.trans (bv7.mono Tv1w19.out.size)
    clear Tv1w19
    have Tv3w20:Hid (Below w13.heap.size w13 w20):=Tv3w19.out.trans (bv7.mono Tv3w19.out.size)
    clear Tv3w19
    clear Bw19
    have Rv7:=Lib.hid (RowIn.own ov7)
    have Ov7:=Lib.hid ov7
    have Tv7w20:Hid (Below w20.heap.size w20 w20):=Below.refl _ _
    clear ov7 bv7
    go_wp2_with fail
    refine (KR.out _ _ _ (HY.out _ Bw20.out)).mono ?_
    rintro e w21 ⟨v8,rfl,ov8,bv8⟩
    have Bw21:Hid (Below w8.heap.size w8 w21):=Bw20.out.trans (bv8.mono Bw20.out.size)
    have Tv1w21:Hid (Below w11.heap.size w11 w21):=Tv1w20.out.trans (bv8.mono Tv1w20.out.size)
    clear Tv1w20
    have Tv3w21:Hid (Below w13.heap.size w13 w21):=Tv3w20.out.trans (bv8.mono Tv3w20.out.size)
    clear Tv3w20
    have Tv7w21:Hid (Below w20.heap.size w20 w21):=Tv7w20.out.trans (bv8.mono Tv7w20.out.size)
    clear Tv7w20
    clear Bw20
    have Rv8:=Lib.hid (RowIn.own ov8)
    have Ov8:=Lib.hid ov8
    have Tv8w21:Hid (Below w21.heap.size w21 w21):=Below.refl _ _
    clear ov8 bv8
    go_wp2_with fail
    refine (same_self _ _ _ _ (Rv7.out.below Tv7w21.out) (Rv8.out.below Tv8w21.out) (by have:=L4.out;omega)).mono ?_
    rintro e w22 ⟨rfl,bs⟩
    have Bw22:Hid (Below w8.heap.size w8 w22):=Bw21.out.trans (bs.mono Bw21.out.size)
    have Tv1w22:Hid (Below w11.heap.size w11 w22):=Tv1w21.out.trans (bs.mono Tv1w21.out.size)
    clear Tv1w21
    have Tv3w22:Hid (Below w13.heap.size w13 w22):=Tv3w21.out.trans (bs.mono Tv3w21.out.size)
    clear Tv3w21
    have Tv7w22:Hid (Below w20.heap.size w20 w22):=Tv7w21.out.trans (bs.mono Tv7w21.out.size)
    clear Tv7w21
    have Tv8w22:Hid (Below w21.heap.size w21 w22):=Tv8w21.out.trans (bs.mono Tv8w21.out.size)
    clear Tv8w21
    clear Bw21
    clear bs
    clear Rv7 Ov7 Tv7w22
    clear Rv8 Ov8 Tv8w22
    clear HX HY KK KC KP KO KR L3 L4
    have P1:=Lib.hid (ownsRow_keep Ov1.out Tv1w22.out)
    have P3:=Lib.hid (ownsRow_keep Ov3.out Tv3w22.out)
    have z1:Hid (w8.heap.size≤wo.heap.size):=HB.out.size
    have z3:Hid (w8.heap.size≤w12.heap.size):=Hid.out (show Hid (w8.heap.size≤w12.heap.size) from Z12)
    have A1:Hid (∀ g,v1.ownBlock=some g→wo.heap.size≤g∧g<w12.heap.size):=fun g hg=>⟨(Ov1.out.lt g hg).1,Nat.lt_of_lt_of_le (Ov1.out.lt g hg).2 Z112.out⟩
    clear Rv1 Ov1 Rv3 Ov3 Tv1w22 Tv3w22
    obtain ⟨a1,c1,rfl⟩:∃ a' c,v1=.slice a' (kidsR m a).length c:=by
      rcases P1.out.2 with ⟨e,h0⟩ | ⟨g,cap,_,e,_⟩
      · exact ⟨_,_,by rw [e,h0]⟩
      · exact ⟨_,_,e⟩
    obtain ⟨a3,c3,rfl⟩:∃ a' c,v3=.slice a' (chainM m a).length c:=by
      rcases P3.out.2 with ⟨e,h0⟩ | ⟨g,cap,_,e,_⟩
      · exact ⟨_,_,by rw [e,h0]⟩
      · exact ⟨_,_,e⟩
    obtain ⟨n1,hn1⟩:∃ n,(kidsR m a).length=n:=⟨_,rfl⟩
    obtain ⟨n3,hn3⟩:∃ n,(chainM m a).length=n:=⟨_,rfl⟩
    have Q1:Hid (∃ xs,w22.ownsRow wo.heap.size 3 1 (.slice a1 n1 c1) n1 xs):=⟨_,by rw [← hn1];exact P1.out⟩
    have Q3:Hid (∃ xs,w22.ownsRow w12.heap.size 3 1 (.slice a3 n3 c3) n3 xs):=⟨_,by rw [← hn3];exact P3.out⟩
    have hl1:n1≤1000:=by rw [← hn1];exact L1.out
    have hl3:n3≤1000:=by rw [← hn3];exact L2.out
    rw [hn1,hn3]
    clear hn1 hn3 P1 P3 L1 L2
    go_wp2_with fail
    go_loopw [15] (fun i wr=>∃ j:Nat,j≤n1∧i=.int .i64 j∧Below w8.heap.size w8 wr∧(∃ xs,wr.ownsRow wo.heap.size 3 1 (.slice a1 n1 c1) n1 xs)∧(∃ xs,wr.ownsRow w12.heap.size 3 1 (.slice a3 n3 c3) n3 xs)) (fun i _=>n1 - (intOf i).toNat)
    case atStart=>exact ⟨0,by omega,rfl,Bw22.out,Q1.out,Q3.out⟩
    case round =>
     obtain ⟨wi,rfl⟩:∃ wi:World,wi=wr:=⟨_,rfl⟩
     obtain ⟨j,hj,rfl,hb,⟨xs,h1⟩,⟨ys,h3⟩⟩:=hrel
     by_cases hjn:j<n1
     · have hjI:(j:Int)<(n1:Int):=by omega
       have hj0:(0:Int)≤(j:Int):=by omega
       obtain ⟨g,c1',e⟩:=ownsRow_pos h1 (by omega)
       simp only [Value.slice.injEq,true_and] at e
       obtain ⟨rfl,rfl⟩:=e
       obtain ⟨hg1,hg2⟩:=A1.out g rfl
       obtain ⟨u,hu⟩:∃ u,xs[j]? = some u:=⟨xs[j]'(by have:=h1.1;omega),List.getElem?_eq_getElem _⟩
       have hc:=(h1.cellAt j (by omega)).trans hu
       have hf:=h1.frozenAt j
       have hcap:n1≤c1:=by
         rcases h1.2 with ⟨e,_⟩ | ⟨g',c',_,e,_,_,hc,_⟩
         · cases e
         · simp only [Value.slice.injEq] at e;omega
       have HFin:Hid (Below w8.heap.size w8 (wi.setCell ⟨g,j,none⟩ (.int .i64 99))∧(∃ xs,(wi.setCell ⟨g,j,none⟩ (.int .i64 99)).ownsRow wo.heap.size 3 1 (.slice (some ⟨g,0,none⟩) n1 c1) n1 xs)∧(∃ xs,(wi.setCell ⟨g,j,none⟩ (.int .i64 99)).ownsRow w12.heap.size 3 1 (.slice a3 n3 c3) n3 xs)) :=
         ⟨hb.setCell (p:=⟨g,j,none⟩) (by have:=z1.out;simp only;omega) _,⟨_,(h1.stored j (.int .i64 99)).1⟩,⟨_,ownsRow_setCell_below h3 (a:=⟨g,j,none⟩) hg2 _⟩⟩
       clear h1 h3 hu hb
       go_wp2_with fail
       go_roundw
       case rel=>exact ⟨j+1,by omega,by go_num,HFin.out⟩
       case measure=>simp [intOf] <;> omega
     · have hjI:¬ ((j:Int)<(n1:Int)):=by omega
       have H3:=Lib.hid h3
       have HBi:=Lib.hid hb
       clear h1 h3 hb
       go_wp2_with fail
       go_loopw [16] (fun i wr=>∃ j:Nat,j≤n3∧i=.int .i64 j∧Below w8.heap.size w8 wr∧(∃ xs,wr.ownsRow w12.heap.size 3 1 (.slice a3 n3 c3) n3 xs)) (fun i _=>n3 - (intOf i).toNat)
       case atStart=>exact ⟨0,by omega,rfl,HBi.out,⟨_,H3.out⟩⟩
       case round =>
        obtain ⟨wj,rfl⟩:∃ wj:World,wj=wr:=⟨_,rfl⟩
        obtain ⟨i,hi,rfl,hb,⟨ys2,h3⟩⟩:=hrel
        by_cases hin:i<n3
        · have hiI:(i:Int)<(n3:Int):=by omega
          have hi0:(0:Int)≤(i:Int):=by omega
          obtain ⟨g,c1',e⟩:=ownsRow_pos h3 (by omega)
          simp only [Value.slice.injEq,true_and] at e
          obtain ⟨rfl,rfl⟩:=e
          have hg1:=(h3.lt g rfl).1
          obtain ⟨u,hu⟩:∃ u,ys2[i]? = some u:=⟨ys2[i]'(by have:=h3.1;omega),List.getElem?_eq_getElem _⟩
          have hc:=(h3.cellAt i (by omega)).trans hu
          have hf:=h3.frozenAt i
          have hcap:n3≤c3:=by
            rcases h3.2 with ⟨e,_⟩ | ⟨g',c',_,e,_,_,hc,_⟩
            · cases e
            · simp only [Value.slice.injEq] at e;omega
          have HFin:Hid (Below w8.heap.size w8 (wj.setCell ⟨g,i,none⟩ (.int .i64 99))∧(∃ xs,(wj.setCell ⟨g,i,none⟩ (.int .i64 99)).ownsRow w12.heap.size 3 1 (.slice (some ⟨g,0,none⟩) n3 c3) n3 xs)) :=
            ⟨hb.setCell (p:=⟨g,i,none⟩) (by have:=z3.out;simp only;omega) _,⟨_,(h3.stored i (.int .i64 99)).1⟩⟩
          clear h3 hu hb
          go_wp2_with fail
          go_roundw
          case rel=>exact ⟨i+1,by omega,by go_num,HFin.out⟩
          case measure=>simp [intOf] <;> omega
        · have hiI:¬ ((i:Int)<(n3:Int)):=by omega
          have HBj:=Lib.hid hb
          clear h3 hb
          go_wp2_with fail
          go_roundw
          case rel=>exact ⟨k+1,by omega,by go_num,HBj.out⟩
          case measure=>simp [intOf] <;> omega
    -- END
  · have hI:¬ ((k:Int)<2):=by omega
    go_wp2_with fail
    refine (WK.out _ (HB8.out.trans (HB.out.mono HB8.out.size))).mono ?_
    rintro e w9 ⟨rfl,g9⟩
    have HB9:=HB8.out.trans (HB.out.mono HB8.out.size)
    go_wp2_with fail
    go_ret
    exact ⟨rfl,HB9.trans (g9.mono HB9.size)⟩
end Go.Proofs
