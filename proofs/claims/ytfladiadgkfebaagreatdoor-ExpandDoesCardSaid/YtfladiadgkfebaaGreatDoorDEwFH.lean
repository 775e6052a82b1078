/- Walks: the law ExpandRight. -/
import Derived.Test.YtfladiadgkfebaaGreatDoorDEwE
import Derived.Test.YtfladiadgkfebaaGreatDoorDEwBC
import Derived.Test.YtfladiadgkfebaaGreatDoorDEdLM
import Derived.Test.YtfladiadgkfebaaGreatDoorDEdN
import Derived.Test.YtfladiadgkfebaaGreatDoorDMdPS
namespace Go.Md
open Go.RowKit Go.Lx Go.Proofs
set_option linter.unusedVariables false
theorem expM_is {l:List MdlD} (h:(expM l).2.2=0):l.length≠0∧(wrgM l).2=0∧(expM l).1=madeM l:=by
 unfold expM at h ⊢
 by_cases h0:l.length=0
 · rw [if_pos h0] at h;simp at h
 rw [if_neg h0] at h ⊢
 by_cases h1:(wrgM l).2≠0
 · rw [if_pos h1] at h;exact absurd h h1
 rw [if_neg h1] at h ⊢
 by_cases h2:(riM (madeM l)).2.2≠0
 · rw [if_pos h2] at h;exact absurd h h2
 rw [if_neg h2]
 exact ⟨h0,Decidable.not_not.1 h1,rfl⟩
theorem expM_fit {l:List MdlD} (hp:∀ m ∈ l,Prt m) (h:(expM l).2.2=0):MdlOk (expM l).1∧Prt (expM l).1:=by
 obtain ⟨h0,h1,h2⟩:=expM_is h
 obtain ⟨_,hri,_⟩:=expM_law hp h
 have hL:=libP_of hp h1
 obtain ⟨k1,k2,k3⟩:=made_prt hL (by omega) (Smal.of_size (wrgM_zero h1).2)
 rw [h2] at hri ⊢
 obtain ⟨v1,v2,_⟩:=right_len hri
 exact ⟨k1.ok k2 (by omega) (by omega) (B:=512) (by omega) k3,k1⟩
end Go.Md
namespace Go.Proofs
open Go.RowKit Go.Lx Go.Md Go.Shelf Go.BigFrame Go.Rgi
set_option linter.unusedVariables false
theorem LibV.up {N N':Nat} {w:World} {v:Value} {l:List MdlD} (h:LibV N w v l) (hN:N≤N'):LibV N' w v l :=
 Sl.weaken h (fun b _ hb=>Nat.lt_of_lt_of_le hb hN) fun b o x ⟨p,hm,h⟩=>⟨p,hm.weaken fun _ b _ hb=>Nat.lt_of_lt_of_le hb hN,h⟩
theorem worksR {W:World} (hT:Tab W) (w:World) (g:Below W.heap.size W w):Calls Tryz.prog 6 #[] w fun e w'=>e=.returned (.bool true)∧Below w.heap.size w w':=works18_any w (hT.next g)
end Go.Proofs


namespace Go.Proofs
open Go.RowKit Go.Lx Go.Md Go.Shelf Go.BigFrame Go.Rgi
set_option linter.unusedVariables false
theorem ModE.moves {N:Nat}:Moves 6 (ModE N) (Kept (OldB N)) where
 cell:=fun w b o x ⟨p,hm,h0,h1,h2,h3,h4,h5⟩ j hj=>by
   have:j=0∨j=1∨j=2∨j=3∨j=4∨j=5:=by omega
   rcases this with rfl | rfl | rfl | rfl | rfl | rfl
   · exact ⟨_,h0,rfl⟩
   · exact ⟨_,h1,rfl⟩
   · exact ⟨_,h2,rfl⟩
   · exact ⟨_,h3,rfl⟩
   · exact ⟨_,h4,rfl⟩
   · exact ⟨_,h5,rfl⟩
 move:=fun w w' b o b' o' x ⟨p,hm,h0,h1,h2,h3,h4,h5⟩ hk hc =>
   ⟨p,hm.kept fun _=>hk,(hc 0 (by omega)).trans h0,(hc 1 (by omega)).trans h1,(hc 2 (by omega)).trans h2,(hc 3 (by omega)).trans h3,(hc 4 (by omega)).trans h4,(hc 5 (by omega)).trans h5⟩
theorem expM_ok2 {l:List MdlD} (hp:∀ m ∈ l,MdlOk m∧Prt m):MdlOk (expM l).1:=by
 by_cases h:(expM l).2.2=0
 · exact (expM_fit (fun m hm=>(hp m hm).2) h).1
 · rw [expM_nil1 h]
   exact ⟨by decide,by decide,fun x hx=>by (cases hx),by decide,fun x hx=>by (cases hx),by decide,fun x hx=>by (cases hx),fun x hx=>by (cases hx),by decide,fun x hx=>by (cases hx),by decide,fun x hx=>by (cases hx)⟩
end Go.Proofs


namespace Go.Proofs
open Go.RowKit Go.Lx Go.Md Go.Shelf Go.BigFrame Go.Rgi
set_option linter.unusedVariables false
theorem expM_sml {l:List MdlD} (hp:∀ m ∈ l,MdlOk m∧Prt m):Sml (expM l).1:=by
 by_cases h:(expM l).2.2=0
 · obtain ⟨_,hri,_⟩:=expM_law (fun m hm=>(hp m hm).2) h
   exact prt_sml hri (expM_fit (fun m hm=>(hp m hm).2) h).2
 · rw [expM_nil1 h]
   exact ⟨by decide,by decide,by decide,by decide,by decide,fun x hx=>by (cases hx),fun x hx=>by (cases hx)⟩
theorem new_of {lo hi:Nat} {w w':World} {m:MdlD} {p:Ph} (h:Mod (fun j=>TB lo (TT j)) w m p) (hs:w.heap.size≤hi) (g:Below w.heap.size w w'):Mod (fun _=>NewB lo hi) w' m p :=
 (h.weaken fun j b hb hq=>⟨hq.1,Nat.lt_of_lt_of_le hb hs,hq.2.elim fun cur e=>⟨cur,TT j,e⟩⟩).below g
set_option maxRecDepth 100000 in
set_option maxHeartbeats 8000000 in
theorem expandDoes_any (l:List MdlD) (a:Option Addr) (c:Nat) (W:World) (hl:LibV W.heap.size W (.slice a l.length c) l) (hll:l.length≤140737488355328) (hok:∀ m ∈ l,MdlOk m) (hT:Tab W) :
   Calls Tryz.prog 3 #[.slice a l.length c] W fun e w'=>e=.returned (.bool true)∧Below W.heap.size W w':=by
 have HF:=Lib.hid (few18_any W.heap.size l a c W hl (Nat.le_refl _) hll hok)
 have HWk:=Lib.hid (worksR hT)
 have HL:=Lib.hid hl
 have HOK:=Lib.hid hok
 have HT:=Lib.hid hT
 clear hl hok hT
 go_enter Tryz.func3,Tryz.ntmps3
 go_wp2_with (first | ((with_reducible refine (HF.out).mono ?_);rintro e w1 ⟨⟨b,rfl,hs⟩,hb1⟩;rcases b with _ | _))
 · go_wp2_with ((with_reducible refine (HWk.out _ hb1).mono ?_);rintro e w2 ⟨rfl,hb2⟩)
   go_ret
   exact ⟨rfl,hb1.trans (hb2.mono hb1.size)⟩
 · have hFw:=hs rfl
   have hl5:=hFw.len
   have hPr:∀ m ∈ l,MdlOk m∧Prt m:=fun m hm=>⟨HOK.out m hm,Prt.of (HOK.out m hm) (hFw.mem hm).sml⟩
   have HPr:=Lib.hid hPr
   have HSl:=Lib.hid fun m (hm:m ∈ l)=>(hFw.mem hm).sml
   have HRf:=Lib.hid fun wx (g:Below W.heap.size W wx)=>refs18_any W.heap.size l a c wx (HL.out.below g) g.size (by omega) (fun m hm=>HSl.out m hm)
   obtain ⟨R,hR⟩:∃ R,(expM l).1=R:=⟨_,rfl⟩
   obtain ⟨k,hk⟩:∃ k,(expM l).2.1=k:=⟨_,rfl⟩
   obtain ⟨f,hf⟩:∃ f,(expM l).2.2=f:=⟨_,rfl⟩
   have HEd:=Lib.hid fun wa wc wx (h:LibV wx.heap.size wx (.slice wa l.length wc) l)=>rexpand_any wx.heap.size l wa wc wx h (Nat.le_refl _) (by omega) hPr
   have HQE:Hid (∀ w e w',ExQE l w e w'→∃ p,e=.returned (.tuple #[mdV R p,.int .i64 k,.int .i64 f])∧Mod anyM w' R p∧Below w.heap.size w w'):=Lib.hid fun w e w' h=>by unfold ExQE at h;rw [hR,hk,hf] at h;exact h
   have HQ:Hid (∀ w e w',ExQ l w e w'→∃ p,e=.returned (.tuple #[mdV R p,.int .i64 k,.int .i64 f])∧Mod (fun j=>TB w.heap.size (TT j)) w' R p∧Below w.heap.size w w'):=Lib.hid fun w e w' h=>by unfold ExQ at h;rw [hR,hk,hf] at h;exact h
   have hRs:=expM_sml hPr
   have hRo:=expM_ok2 hPr
   rw [hR] at hRs hRo
   have HRs:=Lib.hid hRs
   have HRo:=Lib.hid hRo
   have HB1:=Lib.hid hb1
   have HEx:=Lib.hid fun wx (g:Below W.heap.size W wx)=>expand_any l a c wx ((HL.out.below g).up g.size) (by omega) hPr (HT.out.next g)
   have HRf1:=Lib.hid (HRf.out w1 hb1)
   clear hs hFw hPr hR hk hf hb1 HF hRs hRo
   go_upto_region 4 with ((with_reducible refine (HRf1.out).mono ?_);rintro e w2 ⟨wa,wc,rfl,hl2,hb2⟩)
   have HEd2:=Lib.hid (HEd.out wa wc w2 hl2)
   have HL2:=Lib.hid hl2
   have HB2:=Lib.hid (HB1.out.trans (hb2.mono HB1.out.size))
   clear hl2 hb2 HEd HRf1
   go_upto_region 5 with ((with_reducible refine (HEd2.out).mono ?_);rintro e w3 h3;obtain ⟨p,rfl,oR,hb3⟩:=HQE.out _ _ _ h3;clear h3;unfold mdV)
   have oR4:=oR.below (below_al1 w3 (mBoxR R p))
   have hX4:=World.alloc_heap_new w3 (mBoxR R p)
   have hb4:=hb3.trans ((below_al1 w3 (mBoxR R p)).mono hb3.size)
   unfold mBoxR at oR4 hX4 hb4
   generalize w3.alloc (.cells #[.string R.nm,.slice p.a1 R.vars.length p.c1,.slice p.a2 R.evs.length p.c2,.slice p.a3 R.regs.length p.c3,.slice p.a4 R.vers.length p.c4,.slice p.a5 R.trns.length p.c5] 33)=W4 at *
   generalize w3.heap.size=MB at *
   have HW4:Hid (∀ q,Below W4.heap.size W4 q→Below W.heap.size W q∧LibV w2.heap.size q (.slice wa l.length wc) l∧On q MB (mBoxR R p)∧Mod anyM q R p):=Lib.hid fun q g =>
     ⟨HB2.out.trans ((hb4.trans (g.mono hb4.size)).mono HB2.out.size),HL2.out.below (hb4.trans (g.mono hb4.size)),On.next hX4 g,oR4.below g⟩
   clear oR oR4 hX4 hb4 hb3 HEd2
   go_wp2_with fail
   go_loopw [7] (fun i wr=>∃ t:Nat,t≤2∧i=.int .i64 t∧Below W4.heap.size W4 wr) (fun i _=>2 - (intOf i).toNat)
   case atStart=>exact ⟨0,by omega,rfl,Below.refl _ _⟩
   case round =>
    obtain ⟨wo,rfl⟩:∃ wo:World,wo=wr:=⟨_,rfl⟩
    obtain ⟨t,ht,rfl,hb⟩:=hrel
    obtain ⟨hbW,_,_,_⟩:=HW4.out wo hb
    have HB:=Lib.hid hb
    by_cases hlt:t<2
    · have htI:(t:Int)<2:=by omega
      have HExo:=Lib.hid (HEx.out wo hbW)
      clear hb hbW
      go_upto_region 9 with ((with_reducible refine (HExo.out).mono ?_);rintro e w5 h5;obtain ⟨p5,rfl,o5,hb5⟩:=HQ.out _ _ _ h5;clear h5;unfold mdV)
      have on6:=on_new w5 (mBox R p5)
      have hb6:=hb5.trans ((below_al1 w5 (mBox R p5)).mono hb5.size)
      have HN5:=Lib.hid fun q (g:Below w5.heap.size w5 q) hi (h:w5.heap.size≤hi)=>new_of (hi:=hi) o5 h g
      have hb56:Below w5.heap.size w5 (w5.alloc (mBox R p5)):=below_al1 w5 _
      unfold mBox at on6 hb6 hb56
      generalize w5.alloc (.cells #[.string R.nm,.slice p5.a1 R.vars.length p5.c1,.slice p5.a2 R.evs.length p5.c2,.slice p5.a3 R.regs.length p5.c3,.slice p5.a4 R.vers.length p5.c4,.slice p5.a5 R.trns.length p5.c5] 42)=W6 at *
      obtain ⟨N6,hz5⟩:∃ n,n=w5.heap.size:=⟨_,rfl⟩
      rw [← hz5] at on6 ⊢
      have HB6:=Lib.hid (HB.out.trans (hb6.mono HB.out.size))
      have HNw:=Lib.hid fun q (g:Below W6.heap.size W6 q) hi (h:N6≤hi)=>HN5.out q (hb56.trans (g.mono hb56.size)) hi (by rw [← hz5];exact h)
      have HS:Hid (∀ q,Below W6.heap.size W6 q→(q.cell? ⟨N6,0,none⟩=some (.string R.nm)∧q.cell? ⟨N6,1,none⟩=some (.slice p5.a1 R.vars.length p5.c1)∧q.cell? ⟨N6,2,none⟩=some (.slice p5.a2 R.evs.length p5.c2)∧q.cell? ⟨N6,3,none⟩=some (.slice p5.a3 R.regs.length p5.c3)∧q.cell? ⟨N6,4,none⟩=some (.slice p5.a4 R.vers.length p5.c4)∧q.cell? ⟨N6,5,none⟩=some (.slice p5.a5 R.trns.length p5.c5))∧(q.cell? ⟨MB,0,none⟩=some (.string R.nm)∧q.cell? ⟨MB,1,none⟩=some (.slice p.a1 R.vars.length p.c1)∧q.cell? ⟨MB,2,none⟩=some (.slice p.a2 R.evs.length p.c2)∧q.cell? ⟨MB,3,none⟩=some (.slice p.a3 R.regs.length p.c3)∧q.cell? ⟨MB,4,none⟩=some (.slice p.a4 R.vers.length p.c4)∧q.cell? ⟨MB,5,none⟩=some (.slice p.a5 R.trns.length p.c5))):=Lib.hid fun q g=>by
        have h1:=On.next on6 g
        have h2:=(HW4.out q (HB6.out.trans (g.mono HB6.out.size))).2.2.1
        unfold mBoxR at h2
        exact ⟨⟨cell_row h1,cell_row h1,cell_row h1,cell_row h1,cell_row h1,cell_row h1⟩,⟨cell_row h2,cell_row h2,cell_row h2,cell_row h2,cell_row h2,cell_row h2⟩⟩
      have HRx:Hid (∀ q,Below W6.heap.size W6 q→Calls Tryz.prog 11 #[mdV R p5] q (RefP R q)):=Lib.hid fun q g=>ref_any R p5 q (HNw.out q g N6 (Nat.le_refl _)) HRs.out
      have HSa:Hid (∀ q pr,Below W6.heap.size W6 q→Mod anyM q R pr→Calls Tryz.prog 10 #[mdV R pr,mdV R p] q fun e w'=>e=.returned (.bool true)∧Below q.heap.size q w'):=Lib.hid fun q pr g hm=>by
        have:=rsame_any R R pr p q hm (HW4.out q (HB6.out.trans (g.mono HB6.out.size))).2.2.2 HRo.out
        rw [sameM_refl] at this
        exact this
      unfold mdV at HRx HSa
      have hb:Below W6.heap.size W6 (World.drew W6):=(Below.refl _ _).drew
      have hNN:wo.heap.size≤N6:=by rw [hz5];exact hb5.size
      have hNW:N6≤W6.heap.size:=by rw [hz5];exact hb56.size
      clear on6 hb6 hb56 hb5 o5 HExo HN5 hz5
      refine wp_region_any (by kernel_rfl) ?_
      change wpAny _ _ _ _ _ _ _ (World.drew _)
      (generalize World.drew W6=Wd at hb ⊢)
      refine wpAny_of_heldS (S:=(fun q=>(q.cell? ⟨N6,0,none⟩=some (.string R.nm)∧q.cell? ⟨N6,1,none⟩=some (.slice p5.a1 R.vars.length p5.c1)∧q.cell? ⟨N6,2,none⟩=some (.slice p5.a2 R.evs.length p5.c2)∧q.cell? ⟨N6,3,none⟩=some (.slice p5.a3 R.regs.length p5.c3)∧q.cell? ⟨N6,4,none⟩=some (.slice p5.a4 R.vers.length p5.c4)∧q.cell? ⟨N6,5,none⟩=some (.slice p5.a5 R.trns.length p5.c5))∧(q.cell? ⟨MB,0,none⟩=some (.string R.nm)∧q.cell? ⟨MB,1,none⟩=some (.slice p.a1 R.vars.length p.c1)∧q.cell? ⟨MB,2,none⟩=some (.slice p.a2 R.evs.length p.c2)∧q.cell? ⟨MB,3,none⟩=some (.slice p.a3 R.regs.length p.c3)∧q.cell? ⟨MB,4,none⟩=some (.slice p.a4 R.vers.length p.c4)∧q.cell? ⟨MB,5,none⟩=some (.slice p.a5 R.trns.length p.c5)))) ?_ (fun hHeld=>?_)
      (exact HS.out _ hb)
      refine tk 0 rfl ?_
      refine tk 1 rfl ?_
      refine tk 2 rfl ?_
      refine tk 3 rfl ?_
      refine tk 4 rfl ?_
      refine tk 5 rfl ?_
      refine tk 6 rfl ?_
      refine tk 7 rfl ?_
      refine tk 8 rfl ?_
      refine tk 9 rfl ?_
      refine tk 11 rfl ?_
      refine rd1 10 (fun K hK=>?_)
      (go_simp;(with_reducible refine (HRx.out _ hb).mono ?_);rintro e q9 ⟨p9,rfl,om9,g⟩;replace hb:=hb.trans (g.mono hb.size);clear g;unfold mdV;go_wp2_with fail)
      refine nx hK ?_ (fun hH1=>?_)
      (exact HS.out _ hb)
      clear hK K hHeld
      refine rd1 12 (fun K hK=>?_)
      (go_simp;(with_reducible refine (HSa.out _ _ hb om9).mono ?_);rintro e q10 ⟨rfl,g⟩;replace hb:=hb.trans (g.mono hb.size);clear g;go_wp2_with fail)
      refine nx hK ?_ (fun hH2=>?_)
      (exact HS.out _ hb)
      clear hK K hH1
      refine tk 13 rfl ?_
      refine tk 14 rfl ?_
      refine dn ?_
      rotate_left
      obtain ⟨⟨x0,x1,x2,x3,x4,x5⟩,_⟩:=HS.out _ hb
      have hNq:N6≤q10.heap.size:=Nat.le_trans hNW hb.size
      have HSp:=Lib.hid (spoil_row R p5 q10 (HNw.out q10 hb q10.heap.size hNq) (Nat.le_refl _) HRs.out)
      unfold mdV at HSp
      have HB10:=Lib.hid (HB6.out.trans (hb.mono HB6.out.size))
      have hwq:=Nat.le_trans hNN hNq
      clear hb hH2 om9 HS HRx HSa HNw
      go_wp2_with ((with_reducible refine (HSp.out).mono ?_);rintro e w11 ⟨rfl,hp11⟩)
      have HB11:=Lib.hid (HB10.out.trans (hp11.below HB.out.size HB10.out.size))
      go_roundw
      case rel=>exact ⟨t+1,by omega,by go_num,HB11.out⟩
      case measure=>simp [intOf] <;> omega
    · obtain rfl:t=2:=by omega
      have HRfo:=Lib.hid (HRf.out wo hbW)
      clear hb hbW
      go_upto_region 13 with ((with_reducible refine (HRfo.out).mono ?_);rintro e w5 ⟨na,nc,rfl,hl5',hb5⟩)
      have HLn:=Lib.hid fun q (g:Below w5.heap.size w5 q)=>hl5'.below g
      have HW5:=Lib.hid fun q (g:Below w5.heap.size w5 q)=>HW4.out q (HB.out.trans ((hb5.trans (g.mono hb5.size)).mono HB.out.size))
      clear hl5' hb5 HRfo
      go_wp2_with fail
      go_loopw [12] (fun i wr=>∃ j:Nat,j≤l.length∧i=.int .i64 j∧Below w5.heap.size w5 wr) (fun i _=>l.length - (intOf i).toNat)
      case atStart=>exact ⟨0,by omega,rfl,Below.refl _ _⟩
      case round =>
       clear HB
       obtain ⟨wo,rfl⟩:∃ wo:World,wo=wr:=⟨_,rfl⟩
       obtain ⟨j,hj,rfl,hb⟩:=hrel
       obtain ⟨hbW,hlw,_,_⟩:=HW5.out wo hb
       have HB:=Lib.hid hb
       by_cases hlt:j<l.length
       · have hjI:(j:Int)<(l.length:Int):=by omega
         have hj0:(0:Int)≤(j:Int):=by omega
         obtain ⟨m,hm⟩:∃ m,l[j]=m:=⟨_,rfl⟩
         obtain ⟨b1,o1,e1,hb1,pm,hmo,r0,r1,r2,r3,r4,r5⟩:=hlw.get hlt
         obtain ⟨b2,o2,e2,hb2,pn,hno,s0,s1,s2,s3,s4,s5⟩:=(HLn.out wo hb).get hlt
         have hok:=HOK.out _ (List.getElem_mem hlt)
         rw [hm] at hmo r0 r1 r2 r3 r4 r5 hno s0 s1 s2 s3 s4 s5 hok
         have HSa:Hid (∀ q,Below wo.heap.size wo q→Calls Tryz.prog 10 #[mdV m pm,mdV m pn] q fun e w'=>e=.returned (.bool true)∧Below q.heap.size q w'):=Lib.hid fun q g=>by
           have:=rsame_any m m pm pn q (hmo.any.below g) (hno.any.below g) hok
           rw [sameM_refl] at this
           exact this
         unfold mdV at HSa
         have hb1z:b1<wo.heap.size:=World.block_lt_of_cell? wo _ r0
         have hb2z:b2<wo.heap.size:=World.block_lt_of_cell? wo _ s0
         have HS:Hid (∀ q,Below wo.heap.size wo q→(q.cell? ⟨b1,o1+j * 6,none⟩=some (.string m.nm)∧q.cell? ⟨b1,o1+j * 6+1,none⟩=some (.slice pm.a1 m.vars.length pm.c1)∧q.cell? ⟨b1,o1+j * 6+2,none⟩=some (.slice pm.a2 m.evs.length pm.c2)∧q.cell? ⟨b1,o1+j * 6+3,none⟩=some (.slice pm.a3 m.regs.length pm.c3)∧q.cell? ⟨b1,o1+j * 6+4,none⟩=some (.slice pm.a4 m.vers.length pm.c4)∧q.cell? ⟨b1,o1+j * 6+5,none⟩=some (.slice pm.a5 m.trns.length pm.c5))∧(q.cell? ⟨b2,o2+j * 6,none⟩=some (.string m.nm)∧q.cell? ⟨b2,o2+j * 6+1,none⟩=some (.slice pn.a1 m.vars.length pn.c1)∧q.cell? ⟨b2,o2+j * 6+2,none⟩=some (.slice pn.a2 m.evs.length pn.c2)∧q.cell? ⟨b2,o2+j * 6+3,none⟩=some (.slice pn.a3 m.regs.length pn.c3)∧q.cell? ⟨b2,o2+j * 6+4,none⟩=some (.slice pn.a4 m.vers.length pn.c4)∧q.cell? ⟨b2,o2+j * 6+5,none⟩=some (.slice pn.a5 m.trns.length pn.c5))):=Lib.hid fun q g=>by
           have k:∀ b o u,b<wo.heap.size→wo.cell? ⟨b,o,none⟩=some u→q.cell? ⟨b,o,none⟩=some u:=fun b o u hb h=>(g.cell (p:=⟨b,o,none⟩) hb).trans h
           exact ⟨⟨k _ _ _ hb1z r0,k _ _ _ hb1z r1,k _ _ _ hb1z r2,k _ _ _ hb1z r3,k _ _ _ hb1z r4,k _ _ _ hb1z r5⟩,⟨k _ _ _ hb2z s0,k _ _ _ hb2z s1,k _ _ _ hb2z s2,k _ _ _ hb2z s3,k _ _ _ hb2z s4,k _ _ _ hb2z s5⟩⟩
         have hbd:Below wo.heap.size wo (World.drew wo):=(Below.refl _ _).drew
         subst e1
         subst e2
         clear hb hbW hlw hmo hno hok hm r0 r1 r2 r3 r4 r5 s0 s1 s2 s3 s4 s5 hb1 hb2 hb1z hb2z
         go_upto_region 16 with fail
         refine wp_region_any (by kernel_rfl) ?_
         change wpAny _ _ _ _ _ _ _ (World.drew _)
         (generalize World.drew wo=Wd at hbd ⊢)
         refine wpAny_of_heldS (S:=(fun q=>(q.cell? ⟨b1,o1+j * 6,none⟩=some (.string m.nm)∧q.cell? ⟨b1,o1+j * 6+1,none⟩=some (.slice pm.a1 m.vars.length pm.c1)∧q.cell? ⟨b1,o1+j * 6+2,none⟩=some (.slice pm.a2 m.evs.length pm.c2)∧q.cell? ⟨b1,o1+j * 6+3,none⟩=some (.slice pm.a3 m.regs.length pm.c3)∧q.cell? ⟨b1,o1+j * 6+4,none⟩=some (.slice pm.a4 m.vers.length pm.c4)∧q.cell? ⟨b1,o1+j * 6+5,none⟩=some (.slice pm.a5 m.trns.length pm.c5))∧(q.cell? ⟨b2,o2+j * 6,none⟩=some (.string m.nm)∧q.cell? ⟨b2,o2+j * 6+1,none⟩=some (.slice pn.a1 m.vars.length pn.c1)∧q.cell? ⟨b2,o2+j * 6+2,none⟩=some (.slice pn.a2 m.evs.length pn.c2)∧q.cell? ⟨b2,o2+j * 6+3,none⟩=some (.slice pn.a3 m.regs.length pn.c3)∧q.cell? ⟨b2,o2+j * 6+4,none⟩=some (.slice pn.a4 m.vers.length pn.c4)∧q.cell? ⟨b2,o2+j * 6+5,none⟩=some (.slice pn.a5 m.trns.length pn.c5)))) ?_ (fun hHeld=>?_)
         (exact HS.out _ hbd)
         refine tk 0 rfl ?_
         refine tk 1 rfl ?_
         refine tk 2 rfl ?_
         refine tk 3 rfl ?_
         refine tk 4 rfl ?_
         refine tk 5 rfl ?_
         refine tk 6 rfl ?_
         refine tk 7 rfl ?_
         refine rd1 8 (fun K hK=>?_)
         (go_simp;(with_reducible refine (HSa.out _ hbd).mono ?_);rintro e q9 ⟨rfl,g⟩;replace hbd:=hbd.trans (g.mono hbd.size);clear g;go_wp2_with fail)
         refine nx hK ?_ (fun hH1=>?_)
         (exact HS.out _ hbd)
         clear hK K hHeld
         refine tk 9 rfl ?_
         refine dn ?_
         rotate_left
         have HB9:=Lib.hid (HB.out.trans (hbd.mono HB.out.size))
         clear hbd
         go_wp2_with fail
         go_roundw
         case rel=>exact ⟨j+1,by omega,by go_num,HB9.out⟩
         case measure=>simp [intOf] <;> omega
       · obtain rfl:j=l.length:=by omega
         clear hlw
         go_wp2_with ((with_reducible refine (HWk.out _ hbW).mono ?_);rintro e w9 ⟨rfl,hb9⟩)
         go_ret
         exact ⟨rfl,hbW.trans (hb9.mono hbW.size)⟩
end Go.Proofs
