/- Walks: the law ExpandRight. -/
import Derived.Test.YtfladiadgkfebaaGreatDoorKEwE
import Derived.Test.YtfladiadgkfebaaGreatDoorKEwBC
namespace Go.Md
open Go.RowKit Go.Lx Go.Proofs
open Lib(hid)
set_option maxRecDepth 100000
set_option maxHeartbeats 0
set_option linter.unusedVariables false
theorem expM_is {l:List MdlD} (h:(expM l).2.2=0):l.length≠0/\(wrgM l).2=0/\(expM l).1=madeM l:=by
 unfold expM at h |-
 by_cases h0:l.length=0
 . rw [if_pos h0] at h;simp at h
 rw [if_neg h0] at h |-
 by_cases h1:(wrgM l).2≠0
 . rw [if_pos h1] at h;exact absurd h h1
 rw [if_neg h1] at h |-
 by_cases h2:(riM (madeM l)).2.2≠0
 . rw [if_pos h2] at h;exact absurd h h2
 rw [if_neg h2]
 exact ⟨h0,Decidable.not_not.1 h1,rfl⟩
theorem expM_fit {l:List MdlD} (hp:∀ m ∈ l,Prt m) (h:(expM l).2.2=0):MdlOk (expM l).1/\Prt (expM l).1:=by
 obtain ⟨h0,h1,h2⟩:=expM_is h
 obtain ⟨_,hri,_⟩:=expM_law hp h
 have hL:=libP_of hp h1
 obtain ⟨k1,k2,k3⟩:=made_prt hL (by omega) (Smal.of_size (wrgM_zero h1).2)
 rw [h2] at hri |-
 obtain ⟨v1,v2,_⟩:=right_len hri
 exact ⟨k1.ok k2 (by omega) (by omega) (B:=512) (by omega) k3,k1⟩
end Go.Md
namespace Go.Proofs
open Go.RowKit Go.Lx Go.Md Go.Shelf Go.BigFrame Go.Rgi
open Lib(hid)
set_option maxRecDepth 100000
set_option maxHeartbeats 0
set_option linter.unusedVariables false
theorem LibV.up {N N':Nat} {w:World} {v:Value} {l:List MdlD} (h:LibV N w v l) (hN:N<=N'):LibV N' w v l :=
 Sl.weaken h (fun b _ hb=>Nat.lt_of_lt_of_le hb hN) fun b o x ⟨p,hm,h⟩=>⟨p,hm.weaken fun _ b _ hb=>Nat.lt_of_lt_of_le hb hN,h⟩
theorem expandR {l:List MdlD} {a:Option Addr} {c:Nat} {W:World} (hl:LibV W.heap.size W (.slice a l.length c) l) (hll:l.length<=100) (hok:∀ m ∈ l,MdlOk m/\Prt m) (hT:Tab W) {R:MdlD} {k f:Nat} (he:expM l=(R,(k,f))) (w:World) (g:Below W.heap.size W w):Calls Tryz.prog 9 #[.slice a l.length c] w (ExA R k f w) :=
 (expand_any l a c w ((hl.below g).up g.size) hll hok (hT.next g)).mono fun _ _ h=>h.any he
theorem worksR {W:World} (hT:Tab W) (w:World) (g:Below W.heap.size W w):Calls Tryz.prog 6 #[] w fun e w'=>e=.returned (.bool true)/\Below w.heap.size w w':=works18_any w (hT.next g)
theorem ba_nil {s:ByteArray} (h:s.size=0):s=⟨#[]⟩:=by
 cases s with
 | mk d =>
  congr
  exact Array.eq_empty_of_size_eq_zero h
theorem expandRight_any (l:List MdlD) (a:Option Addr) (c:Nat) (W:World) (hl:LibV W.heap.size W (.slice a l.length c) l) (hll:l.length<=140737488355328) (hok:∀ m ∈ l,MdlOk m) (hT:Tab W) :
   Calls Tryz.prog 14 #[.slice a l.length c] W fun e w'=>e=.returned (.bool true)/\Below W.heap.size W w':=by
 have HF:=hid (few18_any W.heap.size l a c W hl (Nat.le_refl _) hll hok)
 have HWk:=hid (worksR hT)
 have HL:=hid hl
 have HOK:=hid hok
 have HT:=hid hT
 clear hl hok hT
 go_enter Tryz.func14,Tryz.ntmps14
 go_wp2_with (first | ((with_reducible refine (HF.o).mono ?_);rintro e w1 ⟨⟨b,rfl,hs⟩,hb1⟩;rcases b with _ | _))
 . go_wp2_with ((with_reducible refine (HWk.o _ hb1).mono ?_);rintro e w2 ⟨rfl,hb2⟩)
   go_ret
   exact ⟨rfl,hb1.trans (hb2.mono hb1.size)⟩
 . have hFw:=hs rfl
   have hl5:=hFw.len
   have hPr:∀ m ∈ l,MdlOk m/\Prt m:=fun m hm=>⟨HOK.o m hm,Prt.of (HOK.o m hm) (hFw.mem hm).sml⟩
   obtain ⟨R,hR⟩:=ex2 ((expM l).1)
   obtain ⟨k,hk⟩:=ex2 ((expM l).2.1)
   obtain ⟨f,hf⟩:=ex2 ((expM l).2.2)
   have he:expM l=(R,(k,f)):=by rw [<- hR,<- hk,<- hf]
   have HEx:=hid (expandR HL.o (by omega) hPr HT.o he w1 hb1)
   have HHe:=hid he
   have HPr:=hid hPr
   have HB1:=hid hb1
   clear hs hFw hPr hR hk hf he hb1 HF
   go_upto_region 4 with ((with_reducible refine (HEx.o).mono ?_);rintro e w2 ⟨p,rfl,oR,hb2⟩;unfold mdV)
   have hbW:=(HB1.o.trans (hb2.mono HB1.o.size)).trans ((below_al1 w2 (.cells #[.string R.nm,.slice p.a1 R.vars.length p.c1,.slice p.a2 R.evs.length p.c2,.slice p.a3 R.regs.length p.c3,.slice p.a4 R.vers.length p.c4,.slice p.a5 R.trns.length p.c5] 42)).mono (HB1.o.trans (hb2.mono HB1.o.size)).size)
   have oR3:=oR.below (below_al1 w2 (.cells #[.string R.nm,.slice p.a1 R.vars.length p.c1,.slice p.a2 R.evs.length p.c2,.slice p.a3 R.regs.length p.c3,.slice p.a4 R.vers.length p.c4,.slice p.a5 R.trns.length p.c5] 42))
   have onR:=on_new w2 (.cells #[.string R.nm,.slice p.a1 R.vars.length p.c1,.slice p.a2 R.evs.length p.c2,.slice p.a3 R.regs.length p.c3,.slice p.a4 R.vers.length p.c4,.slice p.a5 R.trns.length p.c5] 42)
   clear hb2 oR HEx
   generalize w2.alloc (.cells #[.string R.nm,.slice p.a1 R.vars.length p.c1,.slice p.a2 R.evs.length p.c2,.slice p.a3 R.regs.length p.c3,.slice p.a4 R.vers.length p.c4,.slice p.a5 R.trns.length p.c5] 42)=W3 at *
   generalize w2.heap.size=NB at *
   have HB3:=hid hbW
   by_cases hf0:f=0
   . subst hf0
     have hRz:(expM l).2.2=0:=by rw [HHe.o]
     obtain ⟨hl0,hri,hlaw,hone⟩:=expM_law (fun m hm=>(HPr.o m hm).2) hRz
     have hfit:=expM_fit (fun m hm=>(HPr.o m hm).2) hRz
     rw [HHe.o] at hri hlaw hone hfit
     dsimp only at hri hlaw hone hfit
     obtain ⟨_,_,_,hR4,hR5⟩:=right_len hri
     have hRi:Calls Tryz.prog 31 #[mdV R p] W3 fun e w'=>e=.returned (.tuple #[.int .u8 0,.int .i64 0,.int .i64 0])/\Below W3.heap.size W3 w':=by
       have:=right_any R p W3 oR3.any (HT.o.next HB3.o) hfit.1
       rw [hri] at this
       exact this
     unfold mdV at hRi
     have HRi:=hid hRi
     have HX1:=hid (expand1 hone hfit)
     have HTw:=hid fun q (g:Below W3.heap.size W3 q)=>HT.o.next (HB3.o.trans (g.mono HB3.o.size))
     obtain ⟨x0,x1,x2,x3,x4,x5,_⟩:=box_at onR
     have HSm:=hid fun (q:World) (p9:Ph) (h1:TM q R p) (h2:TM q R p9)=>same_any R R p p9 q h1.any h2.any hfit.1
     have HLw:=hid hlaw
     rw [show ((0:Nat):Int)=0 from rfl]
     clear hRz hri hlaw hone hfit hRi hbW
     go_upto_region 8 with (first
       | ((with_reducible refine (HRi.o).mono ?_);rintro e w5 ⟨rfl,g5⟩;obtain ⟨x0,x1,x2,x3,x4,x5,_⟩:=box_at (onR.next g5))
       | ((with_reducible refine (HX1.o _ _ _ (on_new _ _) (TM.any ((oR3.below g5).below (below_al1 _ _))) (HTw.o _ (g5.trans ((below_al1 w5 _).mono g5.size)))).mono ?_);rintro e w8 ⟨p9,rfl,o8,g8⟩;unfold mdV))
     have hb9:=((g5.trans ((below_al1 w5 (.cells #[.string R.nm,.slice p.a1 R.vars.length p.c1,.slice p.a2 R.evs.length p.c2,.slice p.a3 R.regs.length p.c3,.slice p.a4 R.vers.length p.c4,.slice p.a5 R.trns.length p.c5] 42)).mono g5.size)).trans (g8.mono (g5.trans ((below_al1 w5 (.cells #[.string R.nm,.slice p.a1 R.vars.length p.c1,.slice p.a2 R.evs.length p.c2,.slice p.a3 R.regs.length p.c3,.slice p.a4 R.vers.length p.c4,.slice p.a5 R.trns.length p.c5] 42)).mono g5.size)).size)).trans ((below_al1 w8 (.cells #[.string R.nm,.slice p9.a1 R.vars.length p9.c1,.slice p9.a2 R.evs.length p9.c2,.slice p9.a3 R.regs.length p9.c3,.slice p9.a4 R.vers.length p9.c4,.slice p9.a5 R.trns.length p9.c5] 42)).mono ((g5.trans ((below_al1 w5 (.cells #[.string R.nm,.slice p.a1 R.vars.length p.c1,.slice p.a2 R.evs.length p.c2,.slice p.a3 R.regs.length p.c3,.slice p.a4 R.vers.length p.c4,.slice p.a5 R.trns.length p.c5] 42)).mono g5.size)).trans (g8.mono (g5.trans ((below_al1 w5 (.cells #[.string R.nm,.slice p.a1 R.vars.length p.c1,.slice p.a2 R.evs.length p.c2,.slice p.a3 R.regs.length p.c3,.slice p.a4 R.vers.length p.c4,.slice p.a5 R.trns.length p.c5] 42)).mono g5.size)).size)).size)
     have o9:=o8.below (below_al1 w8 (.cells #[.string R.nm,.slice p9.a1 R.vars.length p9.c1,.slice p9.a2 R.evs.length p9.c2,.slice p9.a3 R.regs.length p9.c3,.slice p9.a4 R.vers.length p9.c4,.slice p9.a5 R.trns.length p9.c5] 42))
     have on9:=on_new w8 (.cells #[.string R.nm,.slice p9.a1 R.vars.length p9.c1,.slice p9.a2 R.evs.length p9.c2,.slice p9.a3 R.regs.length p9.c3,.slice p9.a4 R.vers.length p9.c4,.slice p9.a5 R.trns.length p9.c5] 42)
     have oR9:=oR3.below hb9
     have onR9:=onR.next hb9
     clear g5 g8 o8 oR3 onR x0 x1 x2 x3 x4 x5 HRi HX1 HTw
     generalize w8.alloc (.cells #[.string R.nm,.slice p9.a1 R.vars.length p9.c1,.slice p9.a2 R.evs.length p9.c2,.slice p9.a3 R.regs.length p9.c3,.slice p9.a4 R.vers.length p9.c4,.slice p9.a5 R.trns.length p9.c5] 42)=W9 at *
     generalize w8.heap.size=N9 at *
     have HB9:=hid (HB3.o.trans (hb9.mono HB3.o.size))
     clear hb9
     obtain ⟨b1,o1,e1,hb1,pm,hmo,r0,r1,r2,r3,r4,r5⟩:=(HL.o.below HB9.o).get hl0
     have hg0:l.getD 0 D0=l[0]:=by rw [List.getD_eq_getElem?_getD,List.getElem?_eq_getElem hl0];rfl
     obtain ⟨M,hM⟩:=ex2 (l[0])
     rw [hg0,hM] at HLw
     rw [hM] at hmo r0 r1 r2 r3 r4 r5
     simp only [Nat.zero_mul,Nat.add_zero] at r0 r1 r2 r3 r4 r5
     have HS:Hid (∀ W',Below W9.heap.size W9 W'->(W'.cell? ⟨NB,0,none⟩=some (.string R.nm)/\W'.cell? ⟨NB,1,none⟩=some (.slice p.a1 R.vars.length p.c1)/\W'.cell? ⟨NB,2,none⟩=some (.slice p.a2 R.evs.length p.c2)/\W'.cell? ⟨NB,3,none⟩=some (.slice p.a3 R.regs.length p.c3)/\W'.cell? ⟨NB,4,none⟩=some (.slice p.a4 R.vers.length p.c4)/\W'.cell? ⟨NB,5,none⟩=some (.slice p.a5 R.trns.length p.c5))/\(W'.cell? ⟨N9,0,none⟩=some (.string R.nm)/\W'.cell? ⟨N9,1,none⟩=some (.slice p9.a1 R.vars.length p9.c1)/\W'.cell? ⟨N9,2,none⟩=some (.slice p9.a2 R.evs.length p9.c2)/\W'.cell? ⟨N9,3,none⟩=some (.slice p9.a3 R.regs.length p9.c3)/\W'.cell? ⟨N9,4,none⟩=some (.slice p9.a4 R.vers.length p9.c4)/\W'.cell? ⟨N9,5,none⟩=some (.slice p9.a5 R.trns.length p9.c5))/\W'.cell? ⟨b1,o1+3,none⟩=some (.slice pm.a3 M.regs.length pm.c3)/\W'.cell? ⟨b1,o1+4,none⟩=some (.slice pm.a4 M.vers.length pm.c4)/\W'.cell? ⟨b1,o1+5,none⟩=some (.slice pm.a5 M.trns.length pm.c5)):=hid fun W' g=>by
       have h1:=onR9.next g
       have h2:=on9.next g
       have k:∀ b o u,W9.cell? ⟨b,o,none⟩=some u->W'.cell? ⟨b,o,none⟩=some u:=fun b o u h=>(g.cell (p:=⟨b,o,none⟩) (World.block_lt_of_cell? W9 _ h)).trans h
       exact ⟨⟨cell_row h1,cell_row h1,cell_row h1,cell_row h1,cell_row h1,cell_row h1⟩,⟨cell_row h2,cell_row h2,cell_row h2,cell_row h2,cell_row h2,cell_row h2⟩,k _ _ _ r3,k _ _ _ r4,k _ _ _ r5⟩
     have HSm2:Hid (∀ q,Below W9.heap.size W9 q->Calls Tryz.prog 35 #[mdV R p,mdV R p9] q fun e w'=>e=.returned (.bool true)/\Below q.heap.size q w'):=hid fun q g=>by
       have:=HSm.o q p9 (oR9.below g) (o9.below g)
       rw [sameM_refl] at this
       exact this
     unfold mdV at HSm2
     have HMM:=hid fun q (g:Below W9.heap.size W9 q)=>hmo.keptN (g.mono HB9.o.size)
     have HRR:=hid fun q (g:Below W9.heap.size W9 q)=>oR9.below g
     have hv1:¬ R.vers.length<M.vers.length:=Nat.not_lt.2 HLw.o.vl
     have hv2:¬ R.regs.length<M.regs.length:=Nat.not_lt.2 HLw.o.rl
     have hv3:¬ R.trns.length<M.trns.length:=Nat.not_lt.2 HLw.o.tl
     have hlI:((l.length:Int) == 0)=false:=by rw [beq_eq_false_iff_ne];omega
     have hlI0:(0:Int)<(l.length:Int):=by omega
     have hb:Below W9.heap.size W9 (World.drew W9):=(Below.refl _ _).drew
     have HSz:Hid (NB<W9.heap.size/\N9<W9.heap.size/\b1<W9.heap.size):=hid ⟨(Array.getElem?_eq_some_iff.1 onR9).1,(Array.getElem?_eq_some_iff.1 on9).1,hb1⟩
     subst e1
     clear hb1 HSm oR9 o9 on9 onR9 hmo r0 r1 r2 r3 r4 r5 hg0
     as_aux_lemma =>
     refine wp_region_any (by kernel_rfl) ?_
     change wpAny _ _ _ _ _ _ _ (World.drew _)
     (generalize World.drew W9=Wd at hb |-)
     refine wpAny_of_heldS (S:=(fun W'=>(W'.cell? ⟨NB,0,none⟩=some (.string R.nm)/\W'.cell? ⟨NB,1,none⟩=some (.slice p.a1 R.vars.length p.c1)/\W'.cell? ⟨NB,2,none⟩=some (.slice p.a2 R.evs.length p.c2)/\W'.cell? ⟨NB,3,none⟩=some (.slice p.a3 R.regs.length p.c3)/\W'.cell? ⟨NB,4,none⟩=some (.slice p.a4 R.vers.length p.c4)/\W'.cell? ⟨NB,5,none⟩=some (.slice p.a5 R.trns.length p.c5))/\(W'.cell? ⟨N9,0,none⟩=some (.string R.nm)/\W'.cell? ⟨N9,1,none⟩=some (.slice p9.a1 R.vars.length p9.c1)/\W'.cell? ⟨N9,2,none⟩=some (.slice p9.a2 R.evs.length p9.c2)/\W'.cell? ⟨N9,3,none⟩=some (.slice p9.a3 R.regs.length p9.c3)/\W'.cell? ⟨N9,4,none⟩=some (.slice p9.a4 R.vers.length p9.c4)/\W'.cell? ⟨N9,5,none⟩=some (.slice p9.a5 R.trns.length p9.c5))/\W'.cell? ⟨b1,o1+3,none⟩=some (.slice pm.a3 M.regs.length pm.c3)/\W'.cell? ⟨b1,o1+4,none⟩=some (.slice pm.a4 M.vers.length pm.c4)/\W'.cell? ⟨b1,o1+5,none⟩=some (.slice pm.a5 M.trns.length pm.c5))) ?_ (fun hHeld=>?_)
     (exact HS.o _ hb)
     refine tk 0 rfl ?_
     refine tk 1 rfl ?_
     refine tk 2 rfl ?_
     refine tk 3 rfl ?_
     refine tk 4 rfl ?_
     refine tk 5 rfl ?_
     refine tk 6 rfl ?_
     refine tk 7 rfl ?_
     refine tk 8 rfl ?_
     refine rd1 9 (fun K hK=>?_)
     (go_simp;(with_reducible refine (HSm2.o _ hb).mono ?_);rintro e q9 ⟨rfl,g⟩;replace hb:=hb.trans (g.mono hb.size);clear g;go_wp2_with fail)
     refine nx hK ?_ (fun hH1=>?_)
     (exact HS.o _ hb)
     clear hK K hHeld
     refine tk 10 rfl ?_
     refine tk 11 rfl ?_
     refine tk 12 rfl ?_
     refine tk 13 rfl ?_
     refine tk 14 rfl ?_
     refine tk 15 rfl ?_
     refine tk 16 rfl ?_
     refine tk 17 rfl ?_
     refine tk 18 rfl ?_
     refine tk 19 rfl ?_
     refine tk 20 rfl ?_
     refine tk 21 rfl ?_
     refine tk 22 rfl ?_
     refine tk 23 rfl ?_
     refine tk 24 rfl ?_
     refine tk 25 rfl ?_
     refine tk 26 rfl ?_
     refine tk 27 rfl ?_
     refine tk 28 rfl ?_
     refine tk 29 rfl ?_
     refine tk 30 rfl ?_
     refine tk 31 rfl ?_
     refine tk 32 rfl ?_
     refine tk 33 rfl ?_
     refine tk 34 rfl ?_
     refine tk 35 rfl ?_
     refine tk 36 rfl ?_
     refine tk 37 rfl ?_
     refine tk 38 rfl ?_
     refine tk 39 rfl ?_
     refine tk 40 rfl ?_
     refine tk 41 rfl ?_
     refine tk 42 rfl ?_
     refine tk 43 rfl ?_
     refine tk 44 rfl ?_
     refine tk 45 rfl ?_
     refine tk 46 rfl ?_
     refine tk 47 rfl ?_
     refine tk 48 rfl ?_
     refine tk 49 rfl ?_
     refine dn ?_
     rotate_left
     have HB:=hid hb
     clear hb hlI hlI0 hv1 hv2 hv3 HSm2
     have hlI0:(0:Int)<(l.length:Int):=by omega
     go_wp2_with fail
     go_loopw [12] (fun i wr=>∃ v:Nat,v<=R.vers.length/\i=.int .i64 v/\Below W9.heap.size W9 wr) (fun i _=>R.vers.length - (intOf i).toNat)
     case atStart=>exact ⟨0,by omega,rfl,HB.o⟩
     case round =>
      obtain ⟨wo,rfl⟩:=ex1 wr
      obtain ⟨v,hv,rfl,hb⟩:=hrel
      clear HB
      have HB:=hid hb
      obtain ⟨⟨x0,x1,x2,x3,x4,x5⟩,_,r3,r4,r5⟩:=HS.o wo hb
      have hzN:NB<wo.heap.size:=Nat.lt_of_lt_of_le HSz.o.1 hb.size
      have hz1:b1<wo.heap.size:=Nat.lt_of_lt_of_le HSz.o.2.2 hb.size
      by_cases hlt:v<R.vers.length
      . have hvI:(v:Int)<(R.vers.length:Int):=by omega
        have hv0:(0:Int)<=(v:Int):=by omega
        obtain ⟨lo,hmR⟩:=HRR.o wo hb
        obtain ⟨b4,o4,e4,hb4,dv,hdv,s0,s1,s2,s3,s4,s5,s6,s7⟩:=hmR.vers.get hlt
        obtain ⟨da,dc,rfl⟩:=hdv.len
        have hsb:=ba_nil (HLw.o.ns _ (List.getElem_mem hlt))
        rw [hsb] at s7
        rw [e4] at x4
        by_cases hvm:v<M.vers.length
        . have hvm2:¬ M.vers.length<=v:=by omega
          have hvmI:(v:Int)<(M.vers.length:Int):=by omega
          have hver:=HLw.o.ver v hvm
          obtain ⟨b6,o6,e6,hb6,dw,hdw,t0,t1,t2,t3,t4,t5,t6,t7⟩:=(HMM.o wo hb).vers.get hvm
          obtain ⟨ea,ec,rfl⟩:=hdw.len
          rw [e6] at r4
          have q0:=congrArg VerD.nm hver
          have q1:=congrArg VerD.kd hver
          have q2:=congrArg VerD.rg hver
          have q3:=congrArg VerD.ofv hver
          have q4:=congrArg VerD.en hver
          have q5:=congrArg VerD.ex hver
          dsimp only at q0 q1 q2 q3 q4 q5
          rw [q0] at s0
          rw [q1] at s1
          rw [q2] at s2
          rw [q3] at s3
          rw [q4] at s4
          rw [q5] at s5
          obtain ⟨df1,hdf1⟩:=ex2 (R.vers[v].df)
          rw [hdf1] at s6
          obtain ⟨xv,hxv⟩:=ex2 (M.vers[v])
          rw [hxv] at s0 s1 s2 s3 s4 s5 t0 t1 t2 t3 t4 t5 t6 t7
          clear q0 q1 q2 q3 q4 q5 hver hdf1 hxv hdv hdw hmR hsb e4 e6 hb
          have HB2:=hid ((HB.o.trans ((below_al1 wo (.cells #[.string xv.nm,.int .u8 xv.kd,.int .i64 xv.rg,.int .i64 xv.ofv,.string xv.en,.string xv.ex,.slice ea xv.df.length ec,.string xv.sb] 49)).mono HB.o.size)).trans ((below_al1 (wo.alloc (.cells #[.string xv.nm,.int .u8 xv.kd,.int .i64 xv.rg,.int .i64 xv.ofv,.string xv.en,.string xv.ex,.slice ea xv.df.length ec,.string xv.sb] 49)) (.cells #[.string xv.nm,.int .u8 xv.kd,.int .i64 xv.rg,.int .i64 xv.ofv,.string xv.en,.string xv.ex,.slice da df1.length dc,.string ⟨#[]⟩] 49)).mono (HB.o.trans ((below_al1 wo (.cells #[.string xv.nm,.int .u8 xv.kd,.int .i64 xv.rg,.int .i64 xv.ofv,.string xv.en,.string xv.ex,.slice ea xv.df.length ec,.string xv.sb] 49)).mono HB.o.size)).size))
          go_wp2_with fail
          go_roundw
          case rel=>exact ⟨v+1,by omega,by go_num,HB2.o⟩
          case measure=>simp [intOf] <;> omega
        . have hvm2:M.vers.length<=v:=by omega
          clear hdv hmR hsb e4 hb s0 s1 s2 s3 s4 s5 s6
          go_wp2_with fail
          go_roundw
          case rel=>exact ⟨v+1,by omega,by go_num,HB.o⟩
          case measure=>simp [intOf] <;> omega
      . obtain rfl:v=R.vers.length:=by omega
        clear hlt x0 x1 x2 x3 x5 r3 r4 r5 hb
        as_aux_lemma =>
        go_wp2_with fail
        go_loopw [15] (fun i wr=>∃ t:Nat,t<=R.trns.length/\i=.int .i64 t/\Below W9.heap.size W9 wr) (fun i _=>R.trns.length - (intOf i).toNat)
        case atStart=>exact ⟨0,by omega,rfl,HB.o⟩
        case round =>
         obtain ⟨wo2,rfl⟩:=ex1 wr
         obtain ⟨t,ht,rfl,hb⟩:=hrel
         clear HB
         have HB:=hid hb
         obtain ⟨⟨x0,x1,x2,x3,x4,x5⟩,_,r3,r4,r5⟩:=HS.o wo2 hb
         have hzN:NB<wo2.heap.size:=Nat.lt_of_lt_of_le HSz.o.1 hb.size
         have hz1:b1<wo2.heap.size:=Nat.lt_of_lt_of_le HSz.o.2.2 hb.size
         by_cases hlt:t<R.trns.length
         . have htI:(t:Int)<(R.trns.length:Int):=by omega
           have ht0:(0:Int)<=(t:Int):=by omega
           obtain ⟨lo,hmR⟩:=HRR.o wo2 hb
           obtain ⟨b5,o5,e5,hb5,dt,hdt,s0,s1,s2,s3,s4,s5,s6,s7⟩:=hmR.trns.get hlt
           have hsan:=HLw.o.san.trn _ (List.getElem_mem hlt)
           have hway:=HLw.o.way t hlt
           have hown:=HLw.o.own t hlt
           obtain ⟨na,hna⟩:=Int.eq_ofNat_of_zero_le hsan.1
           obtain ⟨nb,hnb⟩:=Int.eq_ofNat_of_zero_le hsan.2.2.1
           unfold WayOk at hway
           rw [hna,hnb] at hway hown hsan
           rw [hna] at s1
           rw [hnb] at s2
           have hal:na<R.vers.length:=by omega
           have hbl:nb<R.vers.length:=by omega
           have haI:(na:Int)<(R.vers.length:Int):=by omega
           have hbI:(nb:Int)<(R.vers.length:Int):=by omega
           have ha0:(0:Int)<=(na:Int):=by omega
           have hb0:(0:Int)<=(nb:Int):=by omega
           obtain ⟨b4,o4,e4,hb4,dv,hdv,_,ka,_⟩:=hmR.vers.get hal
           obtain ⟨b4',o4',e4',_,dw,hdw,_,kb,_⟩:=hmR.vers.get hbl
           rw [e4] at e4'
           simp only [Option.some.injEq,Addr.mk.injEq] at e4'
           obtain ⟨rfl,rfl,_⟩:=e4'
           rw [e5] at x5
           rw [e4] at x4
           have hkd:∀ n,(h:n<R.vers.length)->n<M.vers.length->(verG M n).kd=R.vers[n].kd:=fun n h h2=>by
             have:=congrArg VerD.kd (HLw.o.ver n h2)
             dsimp only at this
             rw [this];unfold verG;simp [h2]
           have HK:=hid hkd
           have hcase:(t<M.trns.length->na<M.vers.length/\nb<M.vers.length):=fun h=>by have:=hown h;omega
           clear hkd hown hdt hdv hdw hmR s0 s3 s4 s5 s6 s7 hna hnb hsan hb
           go_upto_region 23 with fail
           go_quiet (fail)
           have HBn:=hid (below_drewN HB.o nq)
           rcases hway with ⟨h1,h2⟩ | ⟨h1,h2⟩ | ⟨h1,h2,h3⟩ | ⟨h1,h2,h3⟩
           . have g1:na<M.vers.length:=by omega
             have g2:nb<M.vers.length:=by omega
             have g3:¬ M.vers.length<=na:=by omega
             have g4:¬ M.vers.length<=nb:=by omega
             clear h1 h2
             by_cases htm:t<M.trns.length
             . go_wp2_with fail
               go_roundw
               case rel=>exact ⟨t+1,by omega,by go_num,HBn.o⟩
               case measure=>simp [intOf] <;> omega
             . go_wp2_with fail
               go_roundw
               case rel=>exact ⟨t+1,by omega,by go_num,HBn.o⟩
               case measure=>simp [intOf] <;> omega
           . have g1:¬ na<M.vers.length:=by omega
             have g2:¬ nb<M.vers.length:=by omega
             have g3:M.vers.length<=na:=by omega
             have g4:M.vers.length<=nb:=by omega
             have htm:¬ t<M.trns.length:=fun h=>by have:=hcase h;omega
             clear h1 h2
             go_wp2_with fail
             go_roundw
             case rel=>exact ⟨t+1,by omega,by go_num,HBn.o⟩
             case measure=>simp [intOf] <;> omega
           . have g1:na<M.vers.length:=by omega
             have g2:¬ nb<M.vers.length:=by omega
             have g3:¬ M.vers.length<=na:=by omega
             have g4:M.vers.length<=nb:=by omega
             have htm:¬ t<M.trns.length:=fun h=>by have:=hcase h;omega
             rw [<- HK.o na hal g1,h3] at ka
             clear h1 h2 h3
             go_wp2_with fail
             go_roundw
             case rel=>exact ⟨t+1,by omega,by go_num,HBn.o⟩
             case measure=>simp [intOf] <;> omega
           . have g1:¬ na<M.vers.length:=by omega
             have g2:nb<M.vers.length:=by omega
             have g3:M.vers.length<=na:=by omega
             have g4:¬ M.vers.length<=nb:=by omega
             have htm:¬ t<M.trns.length:=fun h=>by have:=hcase h;omega
             rw [<- HK.o nb hbl g2,h3] at kb
             clear h1 h2 h3
             go_wp2_with fail
             go_roundw
             case rel=>exact ⟨t+1,by omega,by go_num,HBn.o⟩
             case measure=>simp [intOf] <;> omega
         . obtain rfl:t=R.trns.length:=by omega
           go_wp2_with ((with_reducible refine (HWk.o _ (HB9.o.trans (HB.o.mono HB9.o.size))).mono ?_);rintro e w8 ⟨rfl,hb8⟩)
           go_ret
           exact ⟨rfl,(HB9.o.trans (HB.o.mono HB9.o.size)).trans (hb8.mono (HB9.o.trans (HB.o.mono HB9.o.size)).size)⟩
   . have hfI:((f:Int) != 0)=true:=by rw [bne_iff_ne];omega
     have hR0:R=D0:=by have:=expM_nil1 (l:=l) (by rw [HHe.o];exact hf0);rw [HHe.o] at this;exact this
     subst hR0
     obtain ⟨x0,x1,x2,x3,x4,x5,_⟩:=box_at onR
     clear onR oR3 hbW
     go_wp2_with ((with_reducible refine (HWk.o _ HB3.o).mono ?_);rintro e w2 ⟨rfl,hb2⟩)
     go_ret
     exact ⟨rfl,HB3.o.trans (hb2.mono HB3.o.size)⟩
end Go.Proofs

namespace Go.Proofs
open Go.RowKit Go.Lx Go.Md Go.Shelf Go.BigFrame Go.Rgi
open Lib(hid)
set_option maxRecDepth 100000
set_option maxHeartbeats 0
set_option linter.unusedVariables false
theorem info_Mdl:(Tryz.prog.info? 42).map (fun i=>(i.zero,i.size,i.bytes))=some (some (.agg #[.string ⟨#[]⟩,.slice none 0 0,.slice none 0 0,.slice none 0 0,.slice none 0 0,.slice none 0 0]),6,136):=by kernel_rfl
theorem ModE.moves {N:Nat}:Moves 6 (ModE N) (Kept (OldB N)) where
 cell:=fun w b o x ⟨p,hm,h0,h1,h2,h3,h4,h5⟩ j hj=>by
   have:j=0\/j=1\/j=2\/j=3\/j=4\/j=5:=by omega
   rcases this with rfl | rfl | rfl | rfl | rfl | rfl
   . exact ⟨_,h0,rfl⟩
   . exact ⟨_,h1,rfl⟩
   . exact ⟨_,h2,rfl⟩
   . exact ⟨_,h3,rfl⟩
   . exact ⟨_,h4,rfl⟩
   . exact ⟨_,h5,rfl⟩
 move:=fun w w' b o b' o' x ⟨p,hm,h0,h1,h2,h3,h4,h5⟩ hk hc =>
   ⟨p,hm.kept fun _=>hk,(hc 0 (by omega)).trans h0,(hc 1 (by omega)).trans h1,(hc 2 (by omega)).trans h2,(hc 3 (by omega)).trans h3,(hc 4 (by omega)).trans h4,(hc 5 (by omega)).trans h5⟩
theorem emp_iff {s:ByteArray}:s.toList.isEmpty=true↔s.size=0:=by
 rw [toList_eq',List.isEmpty_iff,<- List.length_eq_zero_iff];simp
theorem eq_txt {s t:ByteArray}:(s.toList == t.toList)=true↔s=t:=eqS_iff
theorem ne_txt {s t:ByteArray} (h:(s.toList == t.toList)=false):s≠t:=fun e=>by
 rw [eq_txt.2 e] at h;cases h
theorem ModE.monoQ {Q:BP} {N:Nat}:Mono Q (OldB N) (ModE N):=fun w w' b o x ⟨p,hm,h0,h1,h2,h3,h4,h5⟩ hb hq hw hr=>by
 have hc:∀ j u,w.cell? ⟨b,o+j,none⟩=some u->w'.cell? ⟨b,o+j,none⟩=some u:=fun j u h=>(hw.cell hb hq).trans h
 exact ⟨p,hm.kept fun _=>hr,hc 0 _ h0,hc 1 _ h1,hc 2 _ h2,hc 3 _ h3,hc 4 _ h4,hc 5 _ h5⟩
theorem oldB_keep {N:Nat} {w w':World} (g:Below N w w'):Kept (OldB N) w w':=⟨g.size,fun b _ hb=>g.block b hb⟩
theorem row_mdl {N:Nat} {q:World} {u:Nat} {m:MdlD} {p:Ph} (h:On q u (.cells #[.string m.nm,.slice p.a1 m.vars.length p.c1,.slice p.a2 m.evs.length p.c2,.slice p.a3 m.regs.length p.c3,.slice p.a4 m.vers.length p.c4,.slice p.a5 m.trns.length p.c5] 42)) (hm:Mod (fun _=>OldB N) q m p):Sl anyB 6 (ModE N) q (.slice (some ⟨u,0,none⟩) [m].length 1) [m] :=
 .inr ⟨u,0,1,rfl,Nat.le_refl _,(Array.getElem?_eq_some_iff.1 h).1,trivial,fun i hi=>by
   obtain rfl:i=0:=by simp at hi;exact hi
   exact ⟨p,hm,cell_row h,cell_row h,cell_row h,cell_row h,cell_row h,cell_row h⟩⟩
theorem expM_ok2 {l:List MdlD} (hp:∀ m ∈ l,MdlOk m/\Prt m):MdlOk (expM l).1:=by
 by_cases h:(expM l).2.2=0
 . exact (expM_fit (fun m hm=>(hp m hm).2) h).1
 . rw [expM_nil1 h]
   exact ⟨by decide,by decide,fun x hx=>by (cases hx),by decide,fun x hx=>by (cases hx),by decide,fun x hx=>by (cases hx),fun x hx=>by (cases hx),by decide,fun x hx=>by (cases hx),by decide,fun x hx=>by (cases hx)⟩
theorem expandOthers_any (l:List MdlD) (a:Option Addr) (c:Nat) (x:MdlD) (px:Ph) (W:World) (hl:LibV W.heap.size W (.slice a l.length c) l) (hll:l.length<=140737488355328) (hok:∀ m ∈ l,MdlOk m) (hx:Mod anyM W x px) (okx:MdlOk x) (hT:Tab W) :
   Calls Tryz.prog 15 #[.slice a l.length c,mdV x px] W fun e w'=>e=.returned (.bool true)/\Below W.heap.size W w':=by
 have HWk:=hid (worksR hT)
 have HL:=hid hl
 have HOK:=hid hok
 have HT:=hid hT
 have HX:=hid fun q (g:Below W.heap.size W q)=>hx.below g
 have hB1:=below_al1 W (.cells #[.string x.nm,.slice px.a1 x.vars.length px.c1,.slice px.a2 x.evs.length px.c2,.slice px.a3 x.regs.length px.c3,.slice px.a4 x.vers.length px.c4,.slice px.a5 x.trns.length px.c5] 42)
 have hon:=on_new W (.cells #[.string x.nm,.slice px.a1 x.vars.length px.c1,.slice px.a2 x.evs.length px.c2,.slice px.a3 x.regs.length px.c3,.slice px.a4 x.vers.length px.c4,.slice px.a5 x.trns.length px.c5] 42)
 have HF:=hid (few18_any W.heap.size l a c (W.alloc (.cells #[.string x.nm,.slice px.a1 x.vars.length px.c1,.slice px.a2 x.evs.length px.c2,.slice px.a3 x.regs.length px.c3,.slice px.a4 x.vers.length px.c4,.slice px.a5 x.trns.length px.c5] 42)) (hl.below hB1) hB1.size hll hok)
 have HF2:Hid (∀ (q:World) (u:Nat),On q u (.cells #[.string x.nm,.slice px.a1 x.vars.length px.c1,.slice px.a2 x.evs.length px.c2,.slice px.a3 x.regs.length px.c3,.slice px.a4 x.vers.length px.c4,.slice px.a5 x.trns.length px.c5] 42)->Mod anyM q x px->Calls Tryz.prog 5 #[.slice (some ⟨u,0,none⟩) 1 1] q fun e w'=>BoolSays (Fw [x]) e/\Below q.heap.size q w'):=hid fun q u h hm=>few18_any q.heap.size [x] (some ⟨u,0,none⟩) 1 q (lib1 h hm) (Nat.le_refl _) (show 1<=140737488355328 by decide) (fun m hm=>by rw [List.mem_singleton] at hm;subst hm;exact okx)
 have HOX:=hid okx
 have HXO:=hid fun q (g:Below W.heap.size W q)=>(hx.weaken (Q':=fun _=>OldB W.heap.size) fun _ _ hb _=>hb).kept fun _=>oldB_keep g
 unfold mdV
 clear hl hok hT hx okx
 by_cases h4:l.length<=4
 . have d4:((l.length:Int)<=4):=by omega
   go_enter Tryz.func15,Tryz.ntmps15
   go_upto_region 1 with fail
   generalize W.alloc (.cells #[.string x.nm,.slice px.a1 x.vars.length px.c1,.slice px.a2 x.evs.length px.c2,.slice px.a3 x.regs.length px.c3,.slice px.a4 x.vers.length px.c4,.slice px.a5 x.trns.length px.c5] 42)=W1 at *
   generalize hNB:W.heap.size=NB at hB1 hon |-
   subst hNB
   have HON:=hid hon
   have HB1:=hid hB1
   obtain ⟨x0,x1,x2,x3,x4,x5,_⟩:=box_at hon
   clear hon hB1
   have hNl:W.heap.size<W1.heap.size:=(Array.getElem?_eq_some_iff.1 HON.o).1
   go_wp2_with ((with_reducible refine (HF.o).mono ?_);rintro e w1 ⟨⟨b,rfl,hs⟩,hb1⟩;obtain ⟨x0,x1,x2,x3,x4,x5,_⟩:=box_at (HON.o.next hb1);have hbw:=HB1.o.trans (hb1.mono HB1.o.size);rcases b with _ | _)
   . go_wp2_with ((with_reducible refine (HWk.o _ hbw).mono ?_);rintro e w9 ⟨rfl,hb9⟩)
     go_ret
     exact ⟨rfl,hbw.trans (hb9.mono hbw.size)⟩
   go_wp2_with ((with_reducible refine (HF2.o _ _ (on_new _ _) ((HX.o _ hbw).below (below_al1 _ _))).mono ?_);rintro e w2 ⟨⟨b,rfl,hs2⟩,hb2⟩;have hb12:=(hb1.trans ((below_al1 w1 (.cells #[.string x.nm,.slice px.a1 x.vars.length px.c1,.slice px.a2 x.evs.length px.c2,.slice px.a3 x.regs.length px.c3,.slice px.a4 x.vers.length px.c4,.slice px.a5 x.trns.length px.c5] 42)).mono hb1.size)).trans (hb2.mono (hb1.trans ((below_al1 w1 (.cells #[.string x.nm,.slice px.a1 x.vars.length px.c1,.slice px.a2 x.evs.length px.c2,.slice px.a3 x.regs.length px.c3,.slice px.a4 x.vers.length px.c4,.slice px.a5 x.trns.length px.c5] 42)).mono hb1.size)).size);obtain ⟨x0,x1,x2,x3,x4,x5,_⟩:=box_at (HON.o.next hb12);rcases b with _ | _)
   . go_wp2_with ((with_reducible refine (HWk.o _ (HB1.o.trans (hb12.mono HB1.o.size))).mono ?_);rintro e w9 ⟨rfl,hb9⟩)
     go_ret
     exact ⟨rfl,(HB1.o.trans (hb12.mono HB1.o.size)).trans (hb9.mono (HB1.o.trans (hb12.mono HB1.o.size)).size)⟩
   . have hFw:=hs rfl
     have hFx:=(hs2 rfl).all 0 (by show 0<1;decide)
     have hPr:∀ m ∈ l,MdlOk m/\Prt m:=fun m hm=>⟨HOK.o m hm,Prt.of (HOK.o m hm) (hFw.mem hm).sml⟩
     have hPx:Prt x:=Prt.of HOX.o hFx.sml
     have HPr:=hid hPr
     have HPx:=hid hPx
     have HS:Hid (∀ q,Below w2.heap.size w2 q->q.cell? ⟨W.heap.size,0,none⟩=some (.string x.nm)/\q.cell? ⟨W.heap.size,1,none⟩=some (.slice px.a1 x.vars.length px.c1)/\q.cell? ⟨W.heap.size,2,none⟩=some (.slice px.a2 x.evs.length px.c2)/\q.cell? ⟨W.heap.size,3,none⟩=some (.slice px.a3 x.regs.length px.c3)/\q.cell? ⟨W.heap.size,4,none⟩=some (.slice px.a4 x.vers.length px.c4)/\q.cell? ⟨W.heap.size,5,none⟩=some (.slice px.a5 x.trns.length px.c5)):=hid fun q g=>by
       have h:=(HON.o.next hb12).next g
       exact ⟨cell_row h,cell_row h,cell_row h,cell_row h,cell_row h,cell_row h⟩
     have HB2:=hid (HB1.o.trans (hb12.mono HB1.o.size))
     have HN2:Hid (W.heap.size<w2.heap.size):=hid (Nat.lt_of_lt_of_le hNl hb12.size)
     have HBx:=hid fun q (g:Below w2.heap.size w2 q)=>(HON.o.next hb12).next g
     clear hs hs2 hFw hFx hPr hPx hb1 hb2 hb12 hbw HON HB1 HF HF2 hNl x0 x1 x2 x3 x4 x5
     obtain ⟨e1,he1⟩:=ex2 ((riM x).2.2)
     have hRi:=right_any x px w2 (HX.o _ HB2.o) (HT.o.next HB2.o) HOX.o
     rw [he1] at hRi
     unfold mdV at hRi
     have HRi:=hid hRi
     have HE1:=hid he1
     clear hRi he1
     obtain ⟨x0,x1,x2,x3,x4,x5⟩:=HS.o w2 (Below.refl _ _)
     by_cases he0:e1=0
     . subst he0
       have hrix:=riM_ok HE1.o
       have HRX:=hid hrix
       obtain ⟨_,_,_,hxv,_⟩:=right_len hrix
       clear hrix
       go_upto_region 6 with ((with_reducible refine (HRi.o).mono ?_);rintro e w3 ⟨rfl,hb3⟩)
       have HB3:=hid hb3
       clear hb3 x0 x1 x2 x3 x4 x5 HRi
       go_wp2_with fail
       go_loopw [8] (fun i wr=>∃ v:Nat,v<=x.vers.length/\i=.int .i64 v/\Below w2.heap.size w2 wr/\Hid (∀ j (h:j<x.vers.length),j<v->x.vers[j].sb.size=0)) (fun i _=>x.vers.length - (intOf i).toNat)
       case atStart=>exact ⟨0,by omega,rfl,HB3.o,hid fun j _ h=>absurd h (Nat.not_lt_zero _)⟩
       case round =>
        obtain ⟨wo,rfl⟩:=ex1 wr
        obtain ⟨v,hv,rfl,hb,HZ⟩:=hrel
        clear HB3
        have HB:=hid hb
        have hbW:=HB2.o.trans (hb.mono HB2.o.size)
        obtain ⟨x0,x1,x2,x3,x4,x5⟩:=HS.o wo hb
        by_cases hlt:v<x.vers.length
        . have hvI:(v:Int)<(x.vers.length:Int):=by omega
          have hv0:(0:Int)<=(v:Int):=by omega
          obtain ⟨b4,o4,e4,hb4,dv,hdv,_,_,_,_,_,_,_,s7⟩:=(HX.o wo hbW).vers.get hlt
          rw [e4] at x4
          obtain ⟨y,hy⟩:=ex2 (x.vers[v].sb)
          rw [hy] at s7
          have HY:=hid hy
          have HBW:=hid hbW
          clear hy hbW hb hdv
          cases hse:y.toList.isEmpty with
          | true =>
           have HZ2:Hid (∀ j (h:j<x.vers.length),j<v+1->x.vers[j].sb.size=0):=hid fun j h hj=>by
             by_cases e:j=v
             . subst e;rw [HY.o];exact emp_iff.1 hse
             . exact HZ.o j h (by omega)
           go_wp2_with fail
           go_roundw
           case rel=>exact ⟨v+1,by omega,by go_num,HB.o,HZ2⟩
           case measure=>simp [intOf] <;> omega
          | false =>
           go_wp2_with ((with_reducible refine (HWk.o _ HBW.o).mono ?_);rintro e w9 ⟨rfl,hb9⟩)
           go_ret
           exact ⟨rfl,HBW.o.trans (hb9.mono HBW.o.size)⟩
        . obtain rfl:v=x.vers.length:=by omega
          have HNs:Hid (NoSub x):=hid fun y hy=>by
            obtain ⟨j,hj,rfl⟩:=List.getElem_of_mem hy
            exact HZ.o j hj hj
          have HW4:=hid hbW
          clear HZ hbW hb
          go_wp2_with fail
          clear x0 x1 x2 x3 x4 x5
          go_loopw [9] (fun i wr=>∃ k:Nat,k<=l.length/\i=.int .i64 k/\Below w2.heap.size w2 wr/\Hid (∀ j (h:j<l.length),j<k->l[j].nm≠x.nm/\∀ v ∈ l[j].vers,v.sb≠x.nm)) (fun i _=>l.length - (intOf i).toNat)
          case atStart=>exact ⟨0,by omega,rfl,HB.o,hid fun j _ h=>absurd h (Nat.not_lt_zero _)⟩
          case round =>
           obtain ⟨wo2,rfl⟩:=ex1 wr
           obtain ⟨k,hk,rfl,hb,HZ⟩:=hrel
           clear HB HW4
           have HB:=hid hb
           have hbW:=HB2.o.trans (hb.mono HB2.o.size)
           obtain ⟨x0,x1,x2,x3,x4,x5⟩:=HS.o wo2 hb
           by_cases hlt:k<l.length
           . have hkI:(k:Int)<(l.length:Int):=by omega
             have hk0:(0:Int)<=(k:Int):=by omega
             obtain ⟨m,hm⟩:=ex2 (l[k])
             obtain ⟨b1,o1,e1,hb1,pm,hmo,r0,_,_,_,r4,_⟩:=(HL.o.below hbW).get hlt
             rw [hm] at hmo r0 r4
             have hmv:m.vers.length<=140737488355328:=by have:=(HPr.o _ (List.getElem_mem hlt)).1.vers;rw [hm] at this;exact this
             have HMo:Hid (Mod (fun _=>OldB W.heap.size) wo2 m pm):=hid hmo
             have HM:=hid hm
             have HBW:=hid hbW
             obtain ⟨y,hy⟩:=ex2 m.nm
             rw [hy] at r0
             have HY:=hid hy
             subst e1
             clear hmo hm hy hb hbW
             cases hq:(y.toList == x.nm.toList) with
             | true =>
              go_upto_region 14 with fail
              go_quiet (fail)
              have hdn:=below_drewN HBW.o nq
              go_wp2_with ((with_reducible refine (HWk.o _ hdn).mono ?_);rintro e w9 ⟨rfl,hb9⟩)
              go_ret
              exact ⟨rfl,hdn.trans (hb9.mono hdn.size)⟩
             | false =>
              have hne:=ne_txt hq
              have HNe:=hid hne
              clear hne
              go_upto_region 14 with fail
              go_quiet (fail)
              have hb':=below_drewN HB.o nq
              have hk':Kept (OldB W.heap.size) wo2 (wo2.drewN nq):=Kept.of_below (below_drewN (Below.refl _ _) nq)
              have HL3:Hid ((wo2.drewN nq).cell? ⟨b1,o1+k * 6+4,none⟩=some (.slice pm.a4 m.vers.length pm.c4)):=hid r4
              have HM3:Hid (Mod (fun _=>OldB W.heap.size) (wo2.drewN nq) m pm):=hid (HMo.o.kept fun _=>hk')
              generalize wo2.drewN nq=wo3 at *
              have HB3:=hid hb'
              clear hb' hk' HMo x0 x1 x2 x3 x4 x5 r0 r4 HB HBW
              have HK3:Hid (∀ q,Below wo3.heap.size wo3 q->Below w2.heap.size w2 q/\q.cell? ⟨b1,o1+k * 6+4,none⟩=some (.slice pm.a4 m.vers.length pm.c4)/\Mod (fun _=>OldB W.heap.size) q m pm):=hid fun q g=>⟨HB3.o.trans (g.mono HB3.o.size),(g.cell (p:=⟨b1,o1+k * 6+4,none⟩) (World.block_lt_of_cell? wo3 _ HL3.o)).trans HL3.o,HM3.o.kept fun _=>Kept.of_below g⟩
              clear HL3 HM3
              go_wp2_with fail
              go_loopw [10] (fun i wr=>∃ v:Nat,v<=m.vers.length/\i=.int .i64 v/\Below wo3.heap.size wo3 wr/\Hid (∀ j (h:j<m.vers.length),j<v->m.vers[j].sb≠x.nm)) (fun i _=>m.vers.length - (intOf i).toNat)
              case atStart=>exact ⟨0,by omega,rfl,Below.refl _ _,hid fun j _ h=>absurd h (Nat.not_lt_zero _)⟩
              case round =>
               obtain ⟨wo4,rfl⟩:=ex1 wr
               obtain ⟨v,hv,rfl,hb,HZv⟩:=hrel
               obtain ⟨hb2,r4,hmo⟩:=HK3.o wo4 hb
               obtain ⟨x0,x1,x2,x3,x4,x5⟩:=HS.o wo4 hb2
               have HB4:=hid hb
               have HBW:=hid (HB2.o.trans (hb2.mono HB2.o.size))
               by_cases hvl:v<m.vers.length
               . have hvI:(v:Int)<(m.vers.length:Int):=by omega
                 have hv0:(0:Int)<=(v:Int):=by omega
                 obtain ⟨b4,o4,e4,hb4,dv,hdv,_,_,_,_,_,_,_,s7⟩:=hmo.vers.get hvl
                 rw [e4] at r4
                 obtain ⟨z,hz⟩:=ex2 (m.vers[v].sb)
                 rw [hz] at s7
                 have HZ':=hid hz
                 clear hz hdv hmo hb hb2
                 cases hzq:(z.toList == x.nm.toList) with
                 | true =>
                  go_upto_region 19 with fail
                  go_quiet (fail)
                  have hdn:=below_drewN HBW.o nq
                  go_wp2_with ((with_reducible refine (HWk.o _ hdn).mono ?_);rintro e w9 ⟨rfl,hb9⟩)
                  go_ret
                  exact ⟨rfl,hdn.trans (hb9.mono hdn.size)⟩
                 | false =>
                  have HZ3:Hid (∀ j (h:j<m.vers.length),j<v+1->m.vers[j].sb≠x.nm):=hid fun j h hj=>by
                    by_cases e:j=v
                    . subst e;rw [HZ'.o];exact ne_txt hzq
                    . exact HZv.o j h (by omega)
                  go_upto_region 19 with fail
                  go_quiet (fail)
                  have HB5:=hid (below_drewN HB4.o nq)
                  go_wp2_with fail
                  go_roundw
                  case rel=>exact ⟨v+1,by omega,by go_num,HB5.o,HZ3⟩
                  case measure=>simp [intOf] <;> omega
               . obtain rfl:v=m.vers.length:=by omega
                 have HZ3:Hid (∀ j (h:j<l.length),j<k+1->l[j].nm≠x.nm/\∀ v ∈ l[j].vers,v.sb≠x.nm):=hid fun j h hj=>by
                   by_cases e:j=k
                   . subst e
                     rw [HM.o,HY.o]
                     refine ⟨HNe.o,fun u hu=>?_⟩
                     obtain ⟨i,hi,rfl⟩:=List.getElem_of_mem hu
                     exact HZv.o i hi hi
                   . exact HZ.o j h (by omega)
                 have HB6:=hid hb2
                 clear hmo hb hb2
                 go_wp2_with fail
                 go_roundw
                 case rel=>exact ⟨k+1,by omega,by go_num,HB6.o,HZ3⟩
                 case measure=>simp [intOf] <;> omega
           . obtain rfl:k=l.length:=by omega
             have HMore:Hid (More l x):=hid ⟨HRX.o,HNs.o,fun m hm=>by
               obtain ⟨j,hj,rfl⟩:=List.getElem_of_mem hm
               exact (HZ.o j hj hj).1,fun m hm=>by
               obtain ⟨j,hj,rfl⟩:=List.getElem_of_mem hm
               exact (HZ.o j hj hj).2⟩
             have HBW:=hid hbW
             have hLr:=HL.o.below hbW
             have hzw:w2.heap.size<=wo2.heap.size:=hb.size
             have hzW:W.heap.size<=wo2.heap.size:=hbW.size
             clear HZ hlt hk hb hbW
             obtain ⟨iM,hiM,zM0,zM1,zM2⟩:=info_parts info_Mdl
             go_upto_region 22 with fail
             go_upto_region 23 with (at_builtin;refine wpList_append_sl (ModE.moves (N:=W.heap.size)) _ rfl _ _ 22 rfl 42 iM _ 136 Tryz.underlying22 hiM zM0 zM1 zM2 rfl (by decide) (by decide) (a:=none) (c:=0) (l:=([]:List MdlD)) (lo:=wo2.heap.size) rfl rfl (.inl ⟨none,0,rfl,rfl⟩) (.inl ⟨none,rfl⟩) hLr (by simp only [List.length_nil];omega) (Nat.le_refl _) ?_;intro a3 c3 w6 ho6 hg6 hs6)
             rw [List.nil_append] at ho6 hs6
             have hb6:Below wo2.heap.size wo2 w6:=hg6.below (Nat.le_refl _) (Nat.le_refl _)
             have hs6':=hs6 (oldB_keep (hb6.mono hzW))
             have HB6:=hid (HB.o.trans (hb6.mono hzw))
             have HBW6:=hid (HB2.o.trans (HB6.o.mono HB2.o.size))
             obtain ⟨x0,x1,x2,x3,x4,x5⟩:=HS.o w6 HB6.o
             have hz6:wo2.heap.size<=w6.heap.size:=hb6.size
             have hk7:=oldB_keep (N:=W.heap.size) ((below_al1 w6 (.cells #[.string x.nm,.slice px.a1 x.vars.length px.c1,.slice px.a2 x.evs.length px.c2,.slice px.a3 x.regs.length px.c3,.slice px.a4 x.vers.length px.c4,.slice px.a5 x.trns.length px.c5] 42)).mono (Nat.le_trans hzW hz6))
             have HO7:=hid (ho6.below (below_al1 w6 (.cells #[.string x.nm,.slice px.a1 x.vars.length px.c1,.slice px.a2 x.evs.length px.c2,.slice px.a3 x.regs.length px.c3,.slice px.a4 x.vers.length px.c4,.slice px.a5 x.trns.length px.c5] 42)))
             have HS7:Hid (Sl (TB wo2.heap.size 42) 6 (ModE W.heap.size) (w6.alloc (.cells #[.string x.nm,.slice px.a1 x.vars.length px.c1,.slice px.a2 x.evs.length px.c2,.slice px.a3 x.regs.length px.c3,.slice px.a4 x.vers.length px.c4,.slice px.a5 x.trns.length px.c5] 42)) (.slice a3 l.length c3) l):=hid (Sl.kept ModE.monoQ hs6' (Kept.of_below (below_al1 w6 (.cells #[.string x.nm,.slice px.a1 x.vars.length px.c1,.slice px.a2 x.evs.length px.c2,.slice px.a3 x.regs.length px.c3,.slice px.a4 x.vers.length px.c4,.slice px.a5 x.trns.length px.c5] 42))) hk7)
             have HX7:Hid (Sl anyB 6 (ModE W.heap.size) (w6.alloc (.cells #[.string x.nm,.slice px.a1 x.vars.length px.c1,.slice px.a2 x.evs.length px.c2,.slice px.a3 x.regs.length px.c3,.slice px.a4 x.vers.length px.c4,.slice px.a5 x.trns.length px.c5] 42)) (.slice (some ⟨w6.heap.size,0,none⟩) [x].length 1) [x]):=hid (row_mdl (on_new w6 (.cells #[.string x.nm,.slice px.a1 x.vars.length px.c1,.slice px.a2 x.evs.length px.c2,.slice px.a3 x.regs.length px.c3,.slice px.a4 x.vers.length px.c4,.slice px.a5 x.trns.length px.c5] 42)) ((HXO.o w6 HBW6.o).kept fun _=>hk7))
             have hn7:l.length+1<=1000000:=by omega
             have hlo7:wo2.heap.size<=(w6.alloc (.cells #[.string x.nm,.slice px.a1 x.vars.length px.c1,.slice px.a2 x.evs.length px.c2,.slice px.a3 x.regs.length px.c3,.slice px.a4 x.vers.length px.c4,.slice px.a5 x.trns.length px.c5] 42)).heap.size:=Nat.le_trans hz6 (below_al1 w6 (.cells #[.string x.nm,.slice px.a1 x.vars.length px.c1,.slice px.a2 x.evs.length px.c2,.slice px.a3 x.regs.length px.c3,.slice px.a4 x.vers.length px.c4,.slice px.a5 x.trns.length px.c5] 42)).size
             clear ho6 hg6 hs6 hs6' hk7 hLr hb6
             go_upto_region 24 with (at_builtin;refine wpList_append_sl (ModE.moves (N:=W.heap.size)) _ rfl _ _ 22 rfl 42 iM _ 136 Tryz.underlying22 hiM zM0 zM1 zM2 rfl (by decide) (by decide) rfl rfl HS7.o HO7.o HX7.o hn7 hlo7 ?_;intro a4 c4 w7 ho7 hg7 hs7)
             have hb7:Below wo2.heap.size (w6.alloc (.cells #[.string x.nm,.slice px.a1 x.vars.length px.c1,.slice px.a2 x.evs.length px.c2,.slice px.a3 x.regs.length px.c3,.slice px.a4 x.vers.length px.c4,.slice px.a5 x.trns.length px.c5] 42)) w7:=hg7.below (Nat.le_refl _) hlo7
             have hs7':=hs7 (oldB_keep (hb7.mono hzW))
             have hB7:Below w2.heap.size w2 w7:=(HB6.o.trans ((below_al1 w6 (.cells #[.string x.nm,.slice px.a1 x.vars.length px.c1,.slice px.a2 x.evs.length px.c2,.slice px.a3 x.regs.length px.c3,.slice px.a4 x.vers.length px.c4,.slice px.a5 x.trns.length px.c5] 42)).mono (Nat.le_trans hzw hz6))).trans (hb7.mono hzw)
             have hW7:=HB2.o.trans (hB7.mono HB2.o.size)
             have hLV:LibV w7.heap.size w7 (.slice a4 (l.length+1) c4) (l ++ [x]):=by
               have:=Sl.weaken (Q':=OldB w7.heap.size) (E':=ModE w7.heap.size) hs7' (fun b hb _=>hb) fun b o y ⟨p,hm,h⟩=>⟨p,hm.weaken fun _ b hb _=>hb,h⟩
               rw [List.length_append] at this
               exact this
             obtain ⟨R1,hR1⟩:=ex2 ((expM l).1)
             obtain ⟨k1,hk1⟩:=ex2 ((expM l).2.1)
             obtain ⟨f1,hf1⟩:=ex2 ((expM l).2.2)
             obtain ⟨R2,hR2⟩:=ex2 ((expM (l ++ [x])).1)
             obtain ⟨k2,hk2⟩:=ex2 ((expM (l ++ [x])).2.1)
             obtain ⟨f2,hf2⟩:=ex2 ((expM (l ++ [x])).2.2)
             have he1:expM l=(R1,(k1,f1)):=by rw [<- hR1,<- hk1,<- hf1]
             have he2:expM (l ++ [x])=(R2,(k2,f2)):=by rw [<- hR2,<- hk2,<- hf2]
             have hPa:∀ m ∈ l ++ [x],MdlOk m/\Prt m:=fun m hm=>by
               rcases List.mem_append.1 hm with hm | hm
               . exact HPr.o m hm
               . rw [List.mem_singleton] at hm;subst hm;exact ⟨HOX.o,HPx.o⟩
             have HEa:=hid fun q (g:Below w7.heap.size w7 q)=>expandR HL.o (by omega) HPr.o HT.o he1 q (hW7.trans (g.mono hW7.size))
             have HEb:Hid (∀ q,Below w7.heap.size w7 q->Calls Tryz.prog 9 #[.slice a4 (l.length+1) c4] q (ExA R2 k2 f2 q)):=hid fun q g=>by
               have:=expandR (l:=l ++ [x]) (a:=a4) (c:=c4) (W:=w7) (by rw [List.length_append];exact hLV) (by rw [List.length_append];show l.length+1<=100;omega) hPa (HT.o.next hW7) he2 q g
               rw [List.length_append] at this
               exact this
             have HE1:=hid he1
             have HE2:=hid he2
             have HB7:=hid hB7
             clear hb7 hs7' hs7 ho7 hg7 hB7 hW7 hLV hR1 hk1 hf1 hR2 hk2 hf2 he1 he2 hPa HO7 HS7 HX7 x0 x1 x2 x3 x4 x5
             go_upto_region 26 with (first
               | ((with_reducible refine (HEa.o _ (Below.refl _ _)).mono ?_);rintro e w8 ⟨p8,rfl,o8,g8⟩;unfold mdV;have g8':=g8.trans ((below_al1 w8 (.cells #[.string R1.nm,.slice p8.a1 R1.vars.length p8.c1,.slice p8.a2 R1.evs.length p8.c2,.slice p8.a3 R1.regs.length p8.c3,.slice p8.a4 R1.vers.length p8.c4,.slice p8.a5 R1.trns.length p8.c5] 42)).mono g8.size))
               | ((with_reducible refine (HEb.o _ g8').mono ?_);rintro e w9 ⟨p9,rfl,o9,g9⟩;unfold mdV))
             have hb10:=(g8'.trans (g9.mono g8'.size)).trans ((below_al1 w9 (.cells #[.string R2.nm,.slice p9.a1 R2.vars.length p9.c1,.slice p9.a2 R2.evs.length p9.c2,.slice p9.a3 R2.regs.length p9.c3,.slice p9.a4 R2.vers.length p9.c4,.slice p9.a5 R2.trns.length p9.c5] 42)).mono (g8'.trans (g9.mono g8'.size)).size)
             have g9':=g9.trans ((below_al1 w9 (.cells #[.string R2.nm,.slice p9.a1 R2.vars.length p9.c1,.slice p9.a2 R2.evs.length p9.c2,.slice p9.a3 R2.regs.length p9.c3,.slice p9.a4 R2.vers.length p9.c4,.slice p9.a5 R2.trns.length p9.c5] 42)).mono g9.size)
             have on8:=(on_new w8 (.cells #[.string R1.nm,.slice p8.a1 R1.vars.length p8.c1,.slice p8.a2 R1.evs.length p8.c2,.slice p8.a3 R1.regs.length p8.c3,.slice p8.a4 R1.vers.length p8.c4,.slice p8.a5 R1.trns.length p8.c5] 42)).next g9'
             have o8':=(o8.below (below_al1 w8 (.cells #[.string R1.nm,.slice p8.a1 R1.vars.length p8.c1,.slice p8.a2 R1.evs.length p8.c2,.slice p8.a3 R1.regs.length p8.c3,.slice p8.a4 R1.vers.length p8.c4,.slice p8.a5 R1.trns.length p8.c5] 42))).below g9'
             have on9:=on_new w9 (.cells #[.string R2.nm,.slice p9.a1 R2.vars.length p9.c1,.slice p9.a2 R2.evs.length p9.c2,.slice p9.a3 R2.regs.length p9.c3,.slice p9.a4 R2.vers.length p9.c4,.slice p9.a5 R2.trns.length p9.c5] 42)
             have o9':=o9.below (below_al1 w9 (.cells #[.string R2.nm,.slice p9.a1 R2.vars.length p9.c1,.slice p9.a2 R2.evs.length p9.c2,.slice p9.a3 R2.regs.length p9.c3,.slice p9.a4 R2.vers.length p9.c4,.slice p9.a5 R2.trns.length p9.c5] 42))
             clear g8 g8' g9 g9' o8 o9 HEa HEb
             generalize w9.alloc (.cells #[.string R2.nm,.slice p9.a1 R2.vars.length p9.c1,.slice p9.a2 R2.evs.length p9.c2,.slice p9.a3 R2.regs.length p9.c3,.slice p9.a4 R2.vers.length p9.c4,.slice p9.a5 R2.trns.length p9.c5] 42)=W10 at *
             generalize w8.heap.size=N8 at *
             generalize w9.heap.size=N9 at *
             have hB10:=HB7.o.trans (hb10.mono HB7.o.size)
             have HW10:=hid (HB2.o.trans (hB10.mono HB2.o.size))
             obtain ⟨x0,x1,x2,x3,x4,x5⟩:=HS.o W10 hB10
             obtain ⟨y0,y1,y2,y3,y4,y5,_⟩:=box_at on8
             obtain ⟨z0,z1,z2,z3,z4,z5,_⟩:=box_at on9
             by_cases hl0:l.length=0
             . have hln:l=[]:=List.eq_nil_of_length_eq_zero hl0
               have h1:=HE1.o
               have h2:=HE2.o
               rw [expM_nil hl0] at h1
               rw [hln,List.nil_append,expM_one HRX.o HNs.o] at h2
               simp only [Prod.mk.injEq] at h1 h2
               obtain ⟨rfl,rfl,rfl⟩:=h1
               obtain ⟨rfl,rfl,rfl⟩:=h2
               have hl0I:((l.length:Int) == 0)=true:=by rw [hl0];rfl
               have hSm:=same_any x x p9 px W10 o9'.any (HX.o _ HW10.o) HOX.o
               rw [sameM_refl] at hSm
               unfold mdV at hSm
               have HSm:=hid hSm
               clear hSm hln on8 on9 o8' o9' hb10 hB10 hl0
               trace_state
               go_wp2_with (first
                 | ((with_reducible refine (HSm.o).mono ?_);rintro e w11 ⟨rfl,hb11⟩)
                 | ((with_reducible refine (HWk.o _ (HW10.o.trans (hb11.mono HW10.o.size))).mono ?_);rintro e w9 ⟨rfl,hb9⟩))
               go_ret
               exact ⟨rfl,(HW10.o.trans (hb11.mono HW10.o.size)).trans (hb9.mono (HW10.o.trans (hb11.mono HW10.o.size)).size)⟩
             . have hl0I:((l.length:Int) == 0)=false:=by rw [beq_eq_false_iff_ne];omega
               have h1:=HE1.o
               have h2:=HE2.o
               rw [expM_more HMore.o (by omega),h1] at h2
               simp only [Prod.mk.injEq] at h2
               obtain ⟨rfl,rfl,rfl⟩:=h2
               have hok1:MdlOk R1:=by have:=expM_ok2 HPr.o;rw [h1] at this;exact this
               have hSm:=same_any R1 R1 p8 p9 W10 o8'.any o9'.any hok1
               rw [sameM_refl] at hSm
               unfold mdV at hSm
               have HSm:=hid hSm
               clear hSm h1 hok1 on8 on9 o8' o9' hb10 hB10 hl0
               go_wp2_with (first
                 | ((with_reducible refine (HSm.o).mono ?_);rintro e w11 ⟨rfl,hb11⟩)
                 | ((with_reducible refine (HWk.o _ (HW10.o.trans (hb11.mono HW10.o.size))).mono ?_);rintro e w9 ⟨rfl,hb9⟩))
               go_ret
               exact ⟨rfl,(HW10.o.trans (hb11.mono HW10.o.size)).trans (hb9.mono (HW10.o.trans (hb11.mono HW10.o.size)).size)⟩
     . have heI:((e1:Int) != 0)=true:=by rw [bne_iff_ne];omega
       go_wp2_with (first
         | ((with_reducible refine (HRi.o).mono ?_);rintro e w3 ⟨rfl,hb3⟩)
         | ((with_reducible refine (HWk.o _ (HB2.o.trans (hb3.mono HB2.o.size))).mono ?_);rintro e w9 ⟨rfl,hb9⟩))
       go_ret
       exact ⟨rfl,(HB2.o.trans (hb3.mono HB2.o.size)).trans (hb9.mono (HB2.o.trans (hb3.mono HB2.o.size)).size)⟩
 . have d4:¬ ((l.length:Int)<=4):=by omega
   go_enter Tryz.func15,Tryz.ntmps15
   go_upto_region 1 with fail
   generalize W.alloc (.cells #[.string x.nm,.slice px.a1 x.vars.length px.c1,.slice px.a2 x.evs.length px.c2,.slice px.a3 x.regs.length px.c3,.slice px.a4 x.vers.length px.c4,.slice px.a5 x.trns.length px.c5] 42)=W1 at *
   have HB1:=hid hB1
   clear hon hB1
   go_wp2_with ((with_reducible refine (HF.o).mono ?_);rintro e w1 ⟨⟨b,rfl,hs⟩,hb1⟩;rcases b with _ | _)
   all_goals
     go_wp2_with ((with_reducible refine (HWk.o _ (HB1.o.trans (hb1.mono HB1.o.size))).mono ?_);rintro e w9 ⟨rfl,hb9⟩)
     go_ret
     exact ⟨rfl,(HB1.o.trans (hb1.mono HB1.o.size)).trans (hb9.mono (HB1.o.trans (hb1.mono HB1.o.size)).size)⟩
end Go.Proofs
