/- Walks: the law ExpandRight. -/
import Derived.Test.YtfladiadgkfebaaDoorCEwE
import Derived.Test.YtfladiadgkfebaaDoorCEwBC
namespace Go.Md
open Go.RowKit Go.Lx Go.Proofs
set_option linter.unusedVariables false
theorem expM_is {l:List MdlD} (h:(expM l).2.2=0):l.length≠0∧(wrgM l).2=0∧(expM l).1=madeM l:=by
 unfold expM at h ⊢
 by_cases h0:l.length=0
 · rw [if_pos h0] at h;simp at h
 rw [if_neg h0] at h ⊢
 by_cases h1:(wrgM l).2≠0
 · rw [if_pos h1] at h;exact absurd h h1
 rw [if_neg h1] at h ⊢
 by_cases h2:(riM (madeM l)).2.2≠0
 · rw [if_pos h2] at h;exact absurd h h2
 rw [if_neg h2]
 exact ⟨h0,Decidable.not_not.1 h1,rfl⟩
theorem expM_fit {l:List MdlD} (hp:∀ m ∈ l,Prt m) (h:(expM l).2.2=0):MdlOk (expM l).1∧Prt (expM l).1:=by
 obtain ⟨h0,h1,h2⟩:=expM_is h
 obtain ⟨_,hri,_⟩:=expM_law hp h
 have hL:=libP_of hp h1
 obtain ⟨k1,k2,k3⟩:=made_prt hL (by omega) (Smal.of_size (wrgM_zero h1).2)
 rw [h2] at hri ⊢
 obtain ⟨v1,v2,_⟩:=right_len hri
 exact ⟨k1.ok k2 (by omega) (by omega) (B:=512) (by omega) k3,k1⟩
end Go.Md
namespace Go.Proofs
open Go.RowKit Go.Lx Go.Md Go.Shelf Go.BigFrame Go.Rgi
set_option linter.unusedVariables false
theorem LibV.up {N N':Nat} {w:World} {v:Value} {l:List MdlD} (h:LibV N w v l) (hN:N≤N'):LibV N' w v l :=
 Sl.weaken h (fun b _ hb=>Nat.lt_of_lt_of_le hb hN) fun b o x ⟨p,hm,h⟩=>⟨p,hm.weaken fun _ b _ hb=>Nat.lt_of_lt_of_le hb hN,h⟩
theorem expandR {l:List MdlD} {a:Option Addr} {c:Nat} {W:World} (hl:LibV W.heap.size W (.slice a l.length c) l) (hll:l.length≤100) (hok:∀ m ∈ l,MdlOk m∧Prt m) (hT:Tab W) {R:MdlD} {k f:Nat} (he:expM l=(R,(k,f))) (w:World) (g:Below W.heap.size W w):Calls Tryd.prog 7 #[.slice a l.length c] w (ExA R k f w) :=
 (expand_any l a c w ((hl.below g).up g.size) hll hok (hT.next g)).mono fun _ _ h=>h.any he
theorem worksR {W:World} (hT:Tab W) (w:World) (g:Below W.heap.size W w):Calls Tryd.prog 6 #[] w fun e w'=>e=.returned (.bool true)∧Below w.heap.size w w':=works18_any w (hT.next g)
theorem ba_nil {s:ByteArray} (h:s.size=0):s=⟨#[]⟩:=by
 cases s with
 | mk d =>
  congr
  exact Array.eq_empty_of_size_eq_zero h
set_option maxRecDepth 100000 in
set_option maxHeartbeats 8000000 in
theorem expandRight_any (l:List MdlD) (a:Option Addr) (c:Nat) (W:World) (hl:LibV W.heap.size W (.slice a l.length c) l) (hll:l.length≤140737488355328) (hok:∀ m ∈ l,MdlOk m) (hT:Tab W) :
   Calls Tryd.prog 3 #[.slice a l.length c] W fun e w'=>e=.returned (.bool true)∧Below W.heap.size W w':=by
 have HF:=Lib.hid (few18_any W.heap.size l a c W hl (Nat.le_refl _) hll hok)
 have HWk:=Lib.hid (worksR hT)
 have HL:=Lib.hid hl
 have HOK:=Lib.hid hok
 have HT:=Lib.hid hT
 clear hl hok hT
 go_enter Tryd.func3,Tryd.ntmps3
 go_wp2_with (first | ((with_reducible refine (HF.out).mono ?_);rintro e w1 ⟨⟨b,rfl,hs⟩,hb1⟩;rcases b with _ | _))
 · go_wp2_with ((with_reducible refine (HWk.out _ hb1).mono ?_);rintro e w2 ⟨rfl,hb2⟩)
   go_ret
   exact ⟨rfl,hb1.trans (hb2.mono hb1.size)⟩
 · have hFw:=hs rfl
   have hl5:=hFw.len
   have hPr:∀ m ∈ l,MdlOk m∧Prt m:=fun m hm=>⟨HOK.out m hm,Prt.of (HOK.out m hm) (hFw.mem hm).sml⟩
   obtain ⟨R,hR⟩:∃ R,(expM l).1=R:=⟨_,rfl⟩
   obtain ⟨k,hk⟩:∃ k,(expM l).2.1=k:=⟨_,rfl⟩
   obtain ⟨f,hf⟩:∃ f,(expM l).2.2=f:=⟨_,rfl⟩
   have he:expM l=(R,(k,f)):=by rw [← hR,← hk,← hf]
   have HEx:=Lib.hid (expandR HL.out (by omega) hPr HT.out he w1 hb1)
   have HHe:=Lib.hid he
   have HPr:=Lib.hid hPr
   have HB1:=Lib.hid hb1
   clear hs hFw hPr hR hk hf he hb1 HF
   go_upto_region 4 with ((with_reducible refine (HEx.out).mono ?_);rintro e w2 ⟨p,rfl,oR,hb2⟩;unfold mdV)
   have hbW:=(HB1.out.trans (hb2.mono HB1.out.size)).trans ((below_al1 w2 (.cells #[.string R.nm,.slice p.a1 R.vars.length p.c1,.slice p.a2 R.evs.length p.c2,.slice p.a3 R.regs.length p.c3,.slice p.a4 R.vers.length p.c4,.slice p.a5 R.trns.length p.c5] 31)).mono (HB1.out.trans (hb2.mono HB1.out.size)).size)
   have oR3:=oR.below (below_al1 w2 (.cells #[.string R.nm,.slice p.a1 R.vars.length p.c1,.slice p.a2 R.evs.length p.c2,.slice p.a3 R.regs.length p.c3,.slice p.a4 R.vers.length p.c4,.slice p.a5 R.trns.length p.c5] 31))
   have onR:=on_new w2 (.cells #[.string R.nm,.slice p.a1 R.vars.length p.c1,.slice p.a2 R.evs.length p.c2,.slice p.a3 R.regs.length p.c3,.slice p.a4 R.vers.length p.c4,.slice p.a5 R.trns.length p.c5] 31)
   clear hb2 oR HEx
   generalize w2.alloc (.cells #[.string R.nm,.slice p.a1 R.vars.length p.c1,.slice p.a2 R.evs.length p.c2,.slice p.a3 R.regs.length p.c3,.slice p.a4 R.vers.length p.c4,.slice p.a5 R.trns.length p.c5] 31)=W3 at *
   generalize w2.heap.size=NB at *
   have HB3:=Lib.hid hbW
   by_cases hf0:f=0
   · subst hf0
     have hRz:(expM l).2.2=0:=by rw [HHe.out]
     obtain ⟨hl0,hri,hlaw,hone⟩:=expM_law (fun m hm=>(HPr.out m hm).2) hRz
     have hfit:=expM_fit (fun m hm=>(HPr.out m hm).2) hRz
     rw [HHe.out] at hri hlaw hone hfit
     dsimp only at hri hlaw hone hfit
     obtain ⟨_,_,_,hR4,hR5⟩:=right_len hri
     have hRi:Calls Tryd.prog 8 #[mdV R p] W3 fun e w'=>e=.returned (.tuple #[.int .u8 0,.int .i64 0,.int .i64 0])∧Below W3.heap.size W3 w':=by
       have:=right_any R p W3 oR3.any (HT.out.next HB3.out) hfit.1
       rw [hri] at this
       exact this
     unfold mdV at hRi
     have HRi:=Lib.hid hRi
     have HX1:=Lib.hid (expand1 hone hfit)
     have HTw:=Lib.hid fun q (g:Below W3.heap.size W3 q)=>HT.out.next (HB3.out.trans (g.mono HB3.out.size))
     obtain ⟨x0,x1,x2,x3,x4,x5,_⟩:=box_at onR
     have HSm:=Lib.hid fun (q:World) (p9:Ph) (h1:TM q R p) (h2:TM q R p9)=>same_any R R p p9 q h1.any h2.any hfit.1
     have HLw:=Lib.hid hlaw
     rw [show ((0:Nat):Int)=0 from rfl]
     clear hRz hri hlaw hone hfit hRi hbW
     go_upto_region 8 with (first
       | ((with_reducible refine (HRi.out).mono ?_);rintro e w5 ⟨rfl,g5⟩;obtain ⟨x0,x1,x2,x3,x4,x5,_⟩:=box_at (onR.next g5))
       | ((with_reducible refine (HX1.out _ _ _ (on_new _ _) (TM.any ((oR3.below g5).below (below_al1 _ _))) (HTw.out _ (g5.trans ((below_al1 w5 _).mono g5.size)))).mono ?_);rintro e w8 ⟨p9,rfl,o8,g8⟩;unfold mdV))
     have hb9:=((g5.trans ((below_al1 w5 (.cells #[.string R.nm,.slice p.a1 R.vars.length p.c1,.slice p.a2 R.evs.length p.c2,.slice p.a3 R.regs.length p.c3,.slice p.a4 R.vers.length p.c4,.slice p.a5 R.trns.length p.c5] 31)).mono g5.size)).trans (g8.mono (g5.trans ((below_al1 w5 (.cells #[.string R.nm,.slice p.a1 R.vars.length p.c1,.slice p.a2 R.evs.length p.c2,.slice p.a3 R.regs.length p.c3,.slice p.a4 R.vers.length p.c4,.slice p.a5 R.trns.length p.c5] 31)).mono g5.size)).size)).trans ((below_al1 w8 (.cells #[.string R.nm,.slice p9.a1 R.vars.length p9.c1,.slice p9.a2 R.evs.length p9.c2,.slice p9.a3 R.regs.length p9.c3,.slice p9.a4 R.vers.length p9.c4,.slice p9.a5 R.trns.length p9.c5] 31)).mono ((g5.trans ((below_al1 w5 (.cells #[.string R.nm,.slice p.a1 R.vars.length p.c1,.slice p.a2 R.evs.length p.c2,.slice p.a3 R.regs.length p.c3,.slice p.a4 R.vers.length p.c4,.slice p.a5 R.trns.length p.c5] 31)).mono g5.size)).trans (g8.mono (g5.trans ((below_al1 w5 (.cells #[.string R.nm,.slice p.a1 R.vars.length p.c1,.slice p.a2 R.evs.length p.c2,.slice p.a3 R.regs.length p.c3,.slice p.a4 R.vers.length p.c4,.slice p.a5 R.trns.length p.c5] 31)).mono g5.size)).size)).size)
     have o9:=o8.below (below_al1 w8 (.cells #[.string R.nm,.slice p9.a1 R.vars.length p9.c1,.slice p9.a2 R.evs.length p9.c2,.slice p9.a3 R.regs.length p9.c3,.slice p9.a4 R.vers.length p9.c4,.slice p9.a5 R.trns.length p9.c5] 31))
     have on9:=on_new w8 (.cells #[.string R.nm,.slice p9.a1 R.vars.length p9.c1,.slice p9.a2 R.evs.length p9.c2,.slice p9.a3 R.regs.length p9.c3,.slice p9.a4 R.vers.length p9.c4,.slice p9.a5 R.trns.length p9.c5] 31)
     have oR9:=oR3.below hb9
     have onR9:=onR.next hb9
     clear g5 g8 o8 oR3 onR x0 x1 x2 x3 x4 x5 HRi HX1 HTw
     generalize w8.alloc (.cells #[.string R.nm,.slice p9.a1 R.vars.length p9.c1,.slice p9.a2 R.evs.length p9.c2,.slice p9.a3 R.regs.length p9.c3,.slice p9.a4 R.vers.length p9.c4,.slice p9.a5 R.trns.length p9.c5] 31)=W9 at *
     generalize w8.heap.size=N9 at *
     have HB9:=Lib.hid (HB3.out.trans (hb9.mono HB3.out.size))
     clear hb9
     obtain ⟨b1,o1,e1,hb1,pm,hmo,r0,r1,r2,r3,r4,r5⟩:=(HL.out.below HB9.out).get hl0
     have hg0:l.getD 0 D0=l[0]:=by rw [List.getD_eq_getElem?_getD,List.getElem?_eq_getElem hl0];rfl
     obtain ⟨M,hM⟩:∃ M,l[0]=M:=⟨_,rfl⟩
     rw [hg0,hM] at HLw
     rw [hM] at hmo r0 r1 r2 r3 r4 r5
     simp only [Nat.zero_mul,Nat.add_zero] at r0 r1 r2 r3 r4 r5
     have HS:Hid (∀ W',Below W9.heap.size W9 W'→(W'.cell? ⟨NB,0,none⟩=some (.string R.nm)∧W'.cell? ⟨NB,1,none⟩=some (.slice p.a1 R.vars.length p.c1)∧W'.cell? ⟨NB,2,none⟩=some (.slice p.a2 R.evs.length p.c2)∧W'.cell? ⟨NB,3,none⟩=some (.slice p.a3 R.regs.length p.c3)∧W'.cell? ⟨NB,4,none⟩=some (.slice p.a4 R.vers.length p.c4)∧W'.cell? ⟨NB,5,none⟩=some (.slice p.a5 R.trns.length p.c5))∧(W'.cell? ⟨N9,0,none⟩=some (.string R.nm)∧W'.cell? ⟨N9,1,none⟩=some (.slice p9.a1 R.vars.length p9.c1)∧W'.cell? ⟨N9,2,none⟩=some (.slice p9.a2 R.evs.length p9.c2)∧W'.cell? ⟨N9,3,none⟩=some (.slice p9.a3 R.regs.length p9.c3)∧W'.cell? ⟨N9,4,none⟩=some (.slice p9.a4 R.vers.length p9.c4)∧W'.cell? ⟨N9,5,none⟩=some (.slice p9.a5 R.trns.length p9.c5))∧W'.cell? ⟨b1,o1+3,none⟩=some (.slice pm.a3 M.regs.length pm.c3)∧W'.cell? ⟨b1,o1+4,none⟩=some (.slice pm.a4 M.vers.length pm.c4)∧W'.cell? ⟨b1,o1+5,none⟩=some (.slice pm.a5 M.trns.length pm.c5)):=Lib.hid fun W' g=>by
       have h1:=onR9.next g
       have h2:=on9.next g
       have k:∀ b o u,W9.cell? ⟨b,o,none⟩=some u→W'.cell? ⟨b,o,none⟩=some u:=fun b o u h=>(g.cell (p:=⟨b,o,none⟩) (World.block_lt_of_cell? W9 _ h)).trans h
       exact ⟨⟨cell_row h1,cell_row h1,cell_row h1,cell_row h1,cell_row h1,cell_row h1⟩,⟨cell_row h2,cell_row h2,cell_row h2,cell_row h2,cell_row h2,cell_row h2⟩,k _ _ _ r3,k _ _ _ r4,k _ _ _ r5⟩
     have HSm2:Hid (∀ q,Below W9.heap.size W9 q→Calls Tryd.prog 9 #[mdV R p,mdV R p9] q fun e w'=>e=.returned (.bool true)∧Below q.heap.size q w'):=Lib.hid fun q g=>by
       have:=HSm.out q p9 (oR9.below g) (o9.below g)
       rw [sameM_refl] at this
       exact this
     unfold mdV at HSm2
     have HMM:=Lib.hid fun q (g:Below W9.heap.size W9 q)=>hmo.keptN (g.mono HB9.out.size)
     have HRR:=Lib.hid fun q (g:Below W9.heap.size W9 q)=>oR9.below g
     have hv1:¬ R.vers.length<M.vers.length:=Nat.not_lt.2 HLw.out.vl
     have hv2:¬ R.regs.length<M.regs.length:=Nat.not_lt.2 HLw.out.rl
     have hv3:¬ R.trns.length<M.trns.length:=Nat.not_lt.2 HLw.out.tl
     have hlI:((l.length:Int) == 0)=false:=by rw [beq_eq_false_iff_ne];omega
     have hlI0:(0:Int)<(l.length:Int):=by omega
     have hb:Below W9.heap.size W9 (World.drew W9):=(Below.refl _ _).drew
     have HSz:Hid (NB<W9.heap.size∧N9<W9.heap.size∧b1<W9.heap.size):=Lib.hid ⟨(Array.getElem?_eq_some_iff.1 onR9).1,(Array.getElem?_eq_some_iff.1 on9).1,hb1⟩
     subst e1
     clear hb1 HSm oR9 o9 on9 onR9 hmo r0 r1 r2 r3 r4 r5 hg0
     as_aux_lemma =>
     refine wp_region_any (by kernel_rfl) ?_
     change wpAny _ _ _ _ _ _ _ (World.drew _)
     (generalize World.drew W9=Wd at hb ⊢)
     refine wpAny_of_heldS (S:=(fun W'=>(W'.cell? ⟨NB,0,none⟩=some (.string R.nm)∧W'.cell? ⟨NB,1,none⟩=some (.slice p.a1 R.vars.length p.c1)∧W'.cell? ⟨NB,2,none⟩=some (.slice p.a2 R.evs.length p.c2)∧W'.cell? ⟨NB,3,none⟩=some (.slice p.a3 R.regs.length p.c3)∧W'.cell? ⟨NB,4,none⟩=some (.slice p.a4 R.vers.length p.c4)∧W'.cell? ⟨NB,5,none⟩=some (.slice p.a5 R.trns.length p.c5))∧(W'.cell? ⟨N9,0,none⟩=some (.string R.nm)∧W'.cell? ⟨N9,1,none⟩=some (.slice p9.a1 R.vars.length p9.c1)∧W'.cell? ⟨N9,2,none⟩=some (.slice p9.a2 R.evs.length p9.c2)∧W'.cell? ⟨N9,3,none⟩=some (.slice p9.a3 R.regs.length p9.c3)∧W'.cell? ⟨N9,4,none⟩=some (.slice p9.a4 R.vers.length p9.c4)∧W'.cell? ⟨N9,5,none⟩=some (.slice p9.a5 R.trns.length p9.c5))∧W'.cell? ⟨b1,o1+3,none⟩=some (.slice pm.a3 M.regs.length pm.c3)∧W'.cell? ⟨b1,o1+4,none⟩=some (.slice pm.a4 M.vers.length pm.c4)∧W'.cell? ⟨b1,o1+5,none⟩=some (.slice pm.a5 M.trns.length pm.c5))) ?_ (fun hHeld=>?_)
     (exact HS.out _ hb)
     refine tk 0 rfl ?_
     refine tk 1 rfl ?_
     refine tk 2 rfl ?_
     refine tk 3 rfl ?_
     refine tk 4 rfl ?_
     refine tk 5 rfl ?_
     refine tk 6 rfl ?_
     refine tk 7 rfl ?_
     refine tk 8 rfl ?_
     refine rd1 9 (fun K hK=>?_)
     (go_simp;(with_reducible refine (HSm2.out _ hb).mono ?_);rintro e q9 ⟨rfl,g⟩;replace hb:=hb.trans (g.mono hb.size);clear g;go_wp2_with fail)
     refine nx hK ?_ (fun hH1=>?_)
     (exact HS.out _ hb)
     clear hK K hHeld
     refine tk 10 rfl ?_
     refine tk 11 rfl ?_
     refine tk 12 rfl ?_
     refine tk 13 rfl ?_
     refine tk 14 rfl ?_
     refine tk 15 rfl ?_
     refine tk 16 rfl ?_
     refine tk 17 rfl ?_
     refine tk 18 rfl ?_
     refine tk 19 rfl ?_
     refine tk 20 rfl ?_
     refine tk 21 rfl ?_
     refine tk 22 rfl ?_
     refine tk 23 rfl ?_
     refine tk 24 rfl ?_
     refine tk 25 rfl ?_
     refine tk 26 rfl ?_
     refine tk 27 rfl ?_
     refine tk 28 rfl ?_
     refine tk 29 rfl ?_
     refine tk 30 rfl ?_
     refine tk 31 rfl ?_
     refine tk 32 rfl ?_
     refine tk 33 rfl ?_
     refine tk 34 rfl ?_
     refine tk 35 rfl ?_
     refine tk 36 rfl ?_
     refine tk 37 rfl ?_
     refine tk 38 rfl ?_
     refine tk 39 rfl ?_
     refine tk 40 rfl ?_
     refine tk 41 rfl ?_
     refine tk 42 rfl ?_
     refine tk 43 rfl ?_
     refine tk 44 rfl ?_
     refine tk 45 rfl ?_
     refine tk 46 rfl ?_
     refine tk 47 rfl ?_
     refine tk 48 rfl ?_
     refine tk 49 rfl ?_
     refine dn ?_
     rotate_left
     have HB:=Lib.hid hb
     clear hb hlI hlI0 hv1 hv2 hv3 HSm2
     have hlI0:(0:Int)<(l.length:Int):=by omega
     go_wp2_with fail
     go_loopw [12] (fun i wr=>∃ v:Nat,v≤R.vers.length∧i=.int .i64 v∧Below W9.heap.size W9 wr) (fun i _=>R.vers.length - (intOf i).toNat)
     case atStart=>exact ⟨0,by omega,rfl,HB.out⟩
     case round =>
      obtain ⟨wo,rfl⟩:∃ wo:World,wo=wr:=⟨_,rfl⟩
      obtain ⟨v,hv,rfl,hb⟩:=hrel
      clear HB
      have HB:=Lib.hid hb
      obtain ⟨⟨x0,x1,x2,x3,x4,x5⟩,_,r3,r4,r5⟩:=HS.out wo hb
      have hzN:NB<wo.heap.size:=Nat.lt_of_lt_of_le HSz.out.1 hb.size
      have hz1:b1<wo.heap.size:=Nat.lt_of_lt_of_le HSz.out.2.2 hb.size
      by_cases hlt:v<R.vers.length
      · have hvI:(v:Int)<(R.vers.length:Int):=by omega
        have hv0:(0:Int)≤(v:Int):=by omega
        obtain ⟨lo,hmR⟩:=HRR.out wo hb
        obtain ⟨b4,o4,e4,hb4,dv,hdv,s0,s1,s2,s3,s4,s5,s6,s7⟩:=hmR.vers.get hlt
        obtain ⟨da,dc,rfl⟩:=hdv.len
        have hsb:=ba_nil (HLw.out.ns _ (List.getElem_mem hlt))
        rw [hsb] at s7
        rw [e4] at x4
        by_cases hvm:v<M.vers.length
        · have hvm2:¬ M.vers.length≤v:=by omega
          have hvmI:(v:Int)<(M.vers.length:Int):=by omega
          have hver:=HLw.out.ver v hvm
          obtain ⟨b6,o6,e6,hb6,dw,hdw,t0,t1,t2,t3,t4,t5,t6,t7⟩:=(HMM.out wo hb).vers.get hvm
          obtain ⟨ea,ec,rfl⟩:=hdw.len
          rw [e6] at r4
          have q0:=congrArg VerD.nm hver
          have q1:=congrArg VerD.kd hver
          have q2:=congrArg VerD.rg hver
          have q3:=congrArg VerD.ofv hver
          have q4:=congrArg VerD.en hver
          have q5:=congrArg VerD.ex hver
          dsimp only at q0 q1 q2 q3 q4 q5
          rw [q0] at s0
          rw [q1] at s1
          rw [q2] at s2
          rw [q3] at s3
          rw [q4] at s4
          rw [q5] at s5
          obtain ⟨df1,hdf1⟩:∃ d,R.vers[v].df=d:=⟨_,rfl⟩
          rw [hdf1] at s6
          obtain ⟨xv,hxv⟩:∃ x,M.vers[v]=x:=⟨_,rfl⟩
          rw [hxv] at s0 s1 s2 s3 s4 s5 t0 t1 t2 t3 t4 t5 t6 t7
          clear q0 q1 q2 q3 q4 q5 hver hdf1 hxv hdv hdw hmR hsb e4 e6 hb
          have HB2:=Lib.hid ((HB.out.trans ((below_al1 wo (.cells #[.string xv.nm,.int .u8 xv.kd,.int .i64 xv.rg,.int .i64 xv.ofv,.string xv.en,.string xv.ex,.slice ea xv.df.length ec,.string xv.sb] 39)).mono HB.out.size)).trans ((below_al1 (wo.alloc (.cells #[.string xv.nm,.int .u8 xv.kd,.int .i64 xv.rg,.int .i64 xv.ofv,.string xv.en,.string xv.ex,.slice ea xv.df.length ec,.string xv.sb] 39)) (.cells #[.string xv.nm,.int .u8 xv.kd,.int .i64 xv.rg,.int .i64 xv.ofv,.string xv.en,.string xv.ex,.slice da df1.length dc,.string ⟨#[]⟩] 39)).mono (HB.out.trans ((below_al1 wo (.cells #[.string xv.nm,.int .u8 xv.kd,.int .i64 xv.rg,.int .i64 xv.ofv,.string xv.en,.string xv.ex,.slice ea xv.df.length ec,.string xv.sb] 39)).mono HB.out.size)).size))
          go_wp2_with fail
          go_roundw
          case rel=>exact ⟨v+1,by omega,by go_num,HB2.out⟩
          case measure=>simp [intOf] <;> omega
        · have hvm2:M.vers.length≤v:=by omega
          clear hdv hmR hsb e4 hb s0 s1 s2 s3 s4 s5 s6
          go_wp2_with fail
          go_roundw
          case rel=>exact ⟨v+1,by omega,by go_num,HB.out⟩
          case measure=>simp [intOf] <;> omega
      · obtain rfl:v=R.vers.length:=by omega
        clear hlt x0 x1 x2 x3 x5 r3 r4 r5 hb
        as_aux_lemma =>
        go_wp2_with fail
        go_loopw [15] (fun i wr=>∃ t:Nat,t≤R.trns.length∧i=.int .i64 t∧Below W9.heap.size W9 wr) (fun i _=>R.trns.length - (intOf i).toNat)
        case atStart=>exact ⟨0,by omega,rfl,HB.out⟩
        case round =>
         obtain ⟨wo2,rfl⟩:∃ wo2:World,wo2=wr:=⟨_,rfl⟩
         obtain ⟨t,ht,rfl,hb⟩:=hrel
         clear HB
         have HB:=Lib.hid hb
         obtain ⟨⟨x0,x1,x2,x3,x4,x5⟩,_,r3,r4,r5⟩:=HS.out wo2 hb
         have hzN:NB<wo2.heap.size:=Nat.lt_of_lt_of_le HSz.out.1 hb.size
         have hz1:b1<wo2.heap.size:=Nat.lt_of_lt_of_le HSz.out.2.2 hb.size
         by_cases hlt:t<R.trns.length
         · have htI:(t:Int)<(R.trns.length:Int):=by omega
           have ht0:(0:Int)≤(t:Int):=by omega
           obtain ⟨lo,hmR⟩:=HRR.out wo2 hb
           obtain ⟨b5,o5,e5,hb5,dt,hdt,s0,s1,s2,s3,s4,s5,s6,s7⟩:=hmR.trns.get hlt
           have hsan:=HLw.out.san.trn _ (List.getElem_mem hlt)
           have hway:=HLw.out.way t hlt
           have hown:=HLw.out.own t hlt
           obtain ⟨na,hna⟩:=Int.eq_ofNat_of_zero_le hsan.1
           obtain ⟨nb,hnb⟩:=Int.eq_ofNat_of_zero_le hsan.2.2.1
           unfold WayOk at hway
           rw [hna,hnb] at hway hown hsan
           rw [hna] at s1
           rw [hnb] at s2
           have hal:na<R.vers.length:=by omega
           have hbl:nb<R.vers.length:=by omega
           have haI:(na:Int)<(R.vers.length:Int):=by omega
           have hbI:(nb:Int)<(R.vers.length:Int):=by omega
           have ha0:(0:Int)≤(na:Int):=by omega
           have hb0:(0:Int)≤(nb:Int):=by omega
           obtain ⟨b4,o4,e4,hb4,dv,hdv,_,ka,_⟩:=hmR.vers.get hal
           obtain ⟨b4',o4',e4',_,dw,hdw,_,kb,_⟩:=hmR.vers.get hbl
           rw [e4] at e4'
           simp only [Option.some.injEq,Addr.mk.injEq] at e4'
           obtain ⟨rfl,rfl,_⟩:=e4'
           rw [e5] at x5
           rw [e4] at x4
           have hkd:∀ n,(h:n<R.vers.length)→n<M.vers.length→(verG M n).kd=R.vers[n].kd:=fun n h h2=>by
             have:=congrArg VerD.kd (HLw.out.ver n h2)
             dsimp only at this
             rw [this];unfold verG;simp [h2]
           have HK:=Lib.hid hkd
           have hcase:(t<M.trns.length→na<M.vers.length∧nb<M.vers.length):=fun h=>by have:=hown h;omega
           clear hkd hown hdt hdv hdw hmR s0 s3 s4 s5 s6 s7 hna hnb hsan hb
           go_upto_region 23 with fail
           go_quiet (fail)
           have HBn:=Lib.hid (below_drewN HB.out nq)
           rcases hway with ⟨h1,h2⟩ | ⟨h1,h2⟩ | ⟨h1,h2,h3⟩ | ⟨h1,h2,h3⟩
           · have g1:na<M.vers.length:=by omega
             have g2:nb<M.vers.length:=by omega
             have g3:¬ M.vers.length≤na:=by omega
             have g4:¬ M.vers.length≤nb:=by omega
             clear h1 h2
             by_cases htm:t<M.trns.length
             · go_wp2_with fail
               go_roundw
               case rel=>exact ⟨t+1,by omega,by go_num,HBn.out⟩
               case measure=>simp [intOf] <;> omega
             · go_wp2_with fail
               go_roundw
               case rel=>exact ⟨t+1,by omega,by go_num,HBn.out⟩
               case measure=>simp [intOf] <;> omega
           · have g1:¬ na<M.vers.length:=by omega
             have g2:¬ nb<M.vers.length:=by omega
             have g3:M.vers.length≤na:=by omega
             have g4:M.vers.length≤nb:=by omega
             have htm:¬ t<M.trns.length:=fun h=>by have:=hcase h;omega
             clear h1 h2
             go_wp2_with fail
             go_roundw
             case rel=>exact ⟨t+1,by omega,by go_num,HBn.out⟩
             case measure=>simp [intOf] <;> omega
           · have g1:na<M.vers.length:=by omega
             have g2:¬ nb<M.vers.length:=by omega
             have g3:¬ M.vers.length≤na:=by omega
             have g4:M.vers.length≤nb:=by omega
             have htm:¬ t<M.trns.length:=fun h=>by have:=hcase h;omega
             rw [← HK.out na hal g1,h3] at ka
             clear h1 h2 h3
             go_wp2_with fail
             go_roundw
             case rel=>exact ⟨t+1,by omega,by go_num,HBn.out⟩
             case measure=>simp [intOf] <;> omega
           · have g1:¬ na<M.vers.length:=by omega
             have g2:nb<M.vers.length:=by omega
             have g3:M.vers.length≤na:=by omega
             have g4:¬ M.vers.length≤nb:=by omega
             have htm:¬ t<M.trns.length:=fun h=>by have:=hcase h;omega
             rw [← HK.out nb hbl g2,h3] at kb
             clear h1 h2 h3
             go_wp2_with fail
             go_roundw
             case rel=>exact ⟨t+1,by omega,by go_num,HBn.out⟩
             case measure=>simp [intOf] <;> omega
         · obtain rfl:t=R.trns.length:=by omega
           go_wp2_with ((with_reducible refine (HWk.out _ (HB9.out.trans (HB.out.mono HB9.out.size))).mono ?_);rintro e w8 ⟨rfl,hb8⟩)
           go_ret
           exact ⟨rfl,(HB9.out.trans (HB.out.mono HB9.out.size)).trans (hb8.mono (HB9.out.trans (HB.out.mono HB9.out.size)).size)⟩
   · have hfI:((f:Int) != 0)=true:=by rw [bne_iff_ne];omega
     have hR0:R=D0:=by have:=expM_nil1 (l:=l) (by rw [HHe.out];exact hf0);rw [HHe.out] at this;exact this
     subst hR0
     obtain ⟨x0,x1,x2,x3,x4,x5,_⟩:=box_at onR
     clear onR oR3 hbW
     go_wp2_with ((with_reducible refine (HWk.out _ HB3.out).mono ?_);rintro e w2 ⟨rfl,hb2⟩)
     go_ret
     exact ⟨rfl,HB3.out.trans (hb2.mono HB3.out.size)⟩
end Go.Proofs
