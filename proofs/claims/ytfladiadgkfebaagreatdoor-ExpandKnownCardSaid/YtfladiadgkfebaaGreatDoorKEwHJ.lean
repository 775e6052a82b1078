/- Walks: the law ExpandDoes. -/
import Derived.Test.YtfladiadgkfebaaGreatDoorKEwFG
import Derived.Test.YtfladiadgkfebaaGreatDoorKEdLM
import Derived.Test.YtfladiadgkfebaaGreatDoorKEdN
import Derived.Test.YtfladiadgkfebaaGreatDoorKMdPS
import Derived.Laws.BytesArg
import Derived.Test.YtfladiadgkfebaaGreatDoorKDpDr
import Derived.Test.YtfladiadgkfebaaGreatDoorKIxVX
namespace Go.Proofs
open Go.RowKit Go.Lx Go.Md Go.Shelf Go.BigFrame Go.Rgi
open Lib(hid)
set_option maxRecDepth 100000
set_option maxHeartbeats 0
set_option linter.unusedVariables false
theorem expM_sml {l:List MdlD} (hp:∀ m ∈ l,MdlOk m/\Prt m):Sml (expM l).1:=by
 by_cases h:(expM l).2.2=0
 . obtain ⟨_,hri,_⟩:=expM_law (fun m hm=>(hp m hm).2) h
   exact prt_sml hri (expM_fit (fun m hm=>(hp m hm).2) h).2
 . rw [expM_nil1 h]
   exact ⟨by decide,by decide,by decide,by decide,by decide,fun x hx=>by (cases hx),fun x hx=>by (cases hx)⟩
theorem new_of {lo hi:Nat} {w w':World} {m:MdlD} {p:Ph} (h:Mod (fun j=>TB lo (TT j)) w m p) (hs:w.heap.size<=hi) (g:Below w.heap.size w w'):Mod (fun _=>NewB lo hi) w' m p :=
 (h.weaken fun j b hb hq=>⟨hq.1,Nat.lt_of_lt_of_le hb hs,hq.2.elim fun cur e=>⟨cur,TT j,e⟩⟩).below g
theorem expandDoes_any (l:List MdlD) (a:Option Addr) (c:Nat) (W:World) (hl:LibV W.heap.size W (.slice a l.length c) l) (hll:l.length<=140737488355328) (hok:∀ m ∈ l,MdlOk m) (hT:Tab W) :
   Calls Tryz.prog 3 #[.slice a l.length c] W fun e w'=>e=.returned (.bool true)/\Below W.heap.size W w':=by
 have HF:=hid (few18_any W.heap.size l a c W hl (Nat.le_refl _) hll hok)
 have HWk:=hid (worksR hT)
 have HL:=hid hl
 have HOK:=hid hok
 have HT:=hid hT
 clear hl hok hT
 go_enter Tryz.func3,Tryz.ntmps3
 go_wp2_with (first | ((with_reducible refine (HF.o).mono ?_);rintro e w1 ⟨⟨b,rfl,hs⟩,hb1⟩;rcases b with _ | _))
 . go_wp2_with ((with_reducible refine (HWk.o _ hb1).mono ?_);rintro e w2 ⟨rfl,hb2⟩)
   go_ret
   exact ⟨rfl,hb1.trans (hb2.mono hb1.size)⟩
 . have hFw:=hs rfl
   have hl5:=hFw.len
   have hPr:∀ m ∈ l,MdlOk m/\Prt m:=fun m hm=>⟨HOK.o m hm,Prt.of (HOK.o m hm) (hFw.mem hm).sml⟩
   have HPr:=hid hPr
   have HSl:=hid fun m (hm:m ∈ l)=>(hFw.mem hm).sml
   have HRf:=hid fun wx (g:Below W.heap.size W wx)=>refs18_any W.heap.size l a c wx (HL.o.below g) g.size (by omega) (fun m hm=>HSl.o m hm)
   obtain ⟨R,hR⟩:=ex2 ((expM l).1)
   obtain ⟨k,hk⟩:=ex2 ((expM l).2.1)
   obtain ⟨f,hf⟩:=ex2 ((expM l).2.2)
   have HEd:=hid fun wa wc wx (h:LibV wx.heap.size wx (.slice wa l.length wc) l)=>rexpand_any wx.heap.size l wa wc wx h (Nat.le_refl _) (by omega) hPr
   have HQE:Hid (∀ w e w',ExQE l w e w'->∃ p,e=.returned (.tuple #[mdV R p,.int .i64 k,.int .i64 f])/\Mod anyM w' R p/\Below w.heap.size w w'):=hid fun w e w' h=>by unfold ExQE at h;rw [hR,hk,hf] at h;exact h
   have HQ:Hid (∀ w e w',ExQ l w e w'->∃ p,e=.returned (.tuple #[mdV R p,.int .i64 k,.int .i64 f])/\Mod (fun j=>TB w.heap.size (TT j)) w' R p/\Below w.heap.size w w'):=hid fun w e w' h=>by unfold ExQ at h;rw [hR,hk,hf] at h;exact h
   have hRs:=expM_sml hPr
   have hRo:=expM_ok2 hPr
   rw [hR] at hRs hRo
   have HRs:=hid hRs
   have HRo:=hid hRo
   have HB1:=hid hb1
   have HEx:=hid fun wx (g:Below W.heap.size W wx)=>expand_any l a c wx ((HL.o.below g).up g.size) (by omega) hPr (HT.o.next g)
   have HRf1:=hid (HRf.o w1 hb1)
   clear hs hFw hPr hR hk hf hb1 HF hRs hRo
   go_upto_region 4 with ((with_reducible refine (HRf1.o).mono ?_);rintro e w2 ⟨wa,wc,rfl,hl2,hb2⟩)
   have HEd2:=hid (HEd.o wa wc w2 hl2)
   have HL2:=hid hl2
   have HB2:=hid (HB1.o.trans (hb2.mono HB1.o.size))
   clear hl2 hb2 HEd HRf1
   go_upto_region 5 with ((with_reducible refine (HEd2.o).mono ?_);rintro e w3 h3;obtain ⟨p,rfl,oR,hb3⟩:=HQE.o _ _ _ h3;clear h3;unfold mdV)
   have oR4:=oR.below (below_al1 w3 (mBoxR R p))
   have hX4:=World.alloc_heap_new w3 (mBoxR R p)
   have hb4:=hb3.trans ((below_al1 w3 (mBoxR R p)).mono hb3.size)
   unfold mBoxR at oR4 hX4 hb4
   generalize w3.alloc (.cells #[.string R.nm,.slice p.a1 R.vars.length p.c1,.slice p.a2 R.evs.length p.c2,.slice p.a3 R.regs.length p.c3,.slice p.a4 R.vers.length p.c4,.slice p.a5 R.trns.length p.c5] 33)=W4 at *
   generalize w3.heap.size=MB at *
   have HW4:Hid (∀ q,Below W4.heap.size W4 q->Below W.heap.size W q/\LibV w2.heap.size q (.slice wa l.length wc) l/\On q MB (mBoxR R p)/\Mod anyM q R p):=hid fun q g =>
     ⟨HB2.o.trans ((hb4.trans (g.mono hb4.size)).mono HB2.o.size),HL2.o.below (hb4.trans (g.mono hb4.size)),On.next hX4 g,oR4.below g⟩
   clear oR oR4 hX4 hb4 hb3 HEd2
   go_wp2_with fail
   go_loopw [7] (fun i wr=>∃ t:Nat,t<=2/\i=.int .i64 t/\Below W4.heap.size W4 wr) (fun i _=>2 - (intOf i).toNat)
   case atStart=>exact ⟨0,by omega,rfl,Below.refl _ _⟩
   case round =>
    obtain ⟨wo,rfl⟩:=ex1 wr
    obtain ⟨t,ht,rfl,hb⟩:=hrel
    obtain ⟨hbW,_,_,_⟩:=HW4.o wo hb
    have HB:=hid hb
    by_cases hlt:t<2
    . have htI:(t:Int)<2:=by omega
      have HExo:=hid (HEx.o wo hbW)
      clear hb hbW
      go_upto_region 9 with ((with_reducible refine (HExo.o).mono ?_);rintro e w5 h5;obtain ⟨p5,rfl,o5,hb5⟩:=HQ.o _ _ _ h5;clear h5;unfold mdV)
      have on6:=on_new w5 (mBox R p5)
      have hb6:=hb5.trans ((below_al1 w5 (mBox R p5)).mono hb5.size)
      have HN5:=hid fun q (g:Below w5.heap.size w5 q) hi (h:w5.heap.size<=hi)=>new_of (hi:=hi) o5 h g
      have hb56:Below w5.heap.size w5 (w5.alloc (mBox R p5)):=below_al1 w5 _
      unfold mBox at on6 hb6 hb56
      generalize w5.alloc (.cells #[.string R.nm,.slice p5.a1 R.vars.length p5.c1,.slice p5.a2 R.evs.length p5.c2,.slice p5.a3 R.regs.length p5.c3,.slice p5.a4 R.vers.length p5.c4,.slice p5.a5 R.trns.length p5.c5] 42)=W6 at *
      obtain ⟨N6,hz5⟩:∃ n,n=w5.heap.size:=⟨_,rfl⟩
      rw [<- hz5] at on6 |-
      have HB6:=hid (HB.o.trans (hb6.mono HB.o.size))
      have HNw:=hid fun q (g:Below W6.heap.size W6 q) hi (h:N6<=hi)=>HN5.o q (hb56.trans (g.mono hb56.size)) hi (by rw [<- hz5];exact h)
      have HS:Hid (∀ q,Below W6.heap.size W6 q->(q.cell? ⟨N6,0,none⟩=some (.string R.nm)/\q.cell? ⟨N6,1,none⟩=some (.slice p5.a1 R.vars.length p5.c1)/\q.cell? ⟨N6,2,none⟩=some (.slice p5.a2 R.evs.length p5.c2)/\q.cell? ⟨N6,3,none⟩=some (.slice p5.a3 R.regs.length p5.c3)/\q.cell? ⟨N6,4,none⟩=some (.slice p5.a4 R.vers.length p5.c4)/\q.cell? ⟨N6,5,none⟩=some (.slice p5.a5 R.trns.length p5.c5))/\(q.cell? ⟨MB,0,none⟩=some (.string R.nm)/\q.cell? ⟨MB,1,none⟩=some (.slice p.a1 R.vars.length p.c1)/\q.cell? ⟨MB,2,none⟩=some (.slice p.a2 R.evs.length p.c2)/\q.cell? ⟨MB,3,none⟩=some (.slice p.a3 R.regs.length p.c3)/\q.cell? ⟨MB,4,none⟩=some (.slice p.a4 R.vers.length p.c4)/\q.cell? ⟨MB,5,none⟩=some (.slice p.a5 R.trns.length p.c5))):=hid fun q g=>by
        have h1:=On.next on6 g
        have h2:=(HW4.o q (HB6.o.trans (g.mono HB6.o.size))).2.2.1
        unfold mBoxR at h2
        exact ⟨⟨cell_row h1,cell_row h1,cell_row h1,cell_row h1,cell_row h1,cell_row h1⟩,⟨cell_row h2,cell_row h2,cell_row h2,cell_row h2,cell_row h2,cell_row h2⟩⟩
      have HRx:Hid (∀ q,Below W6.heap.size W6 q->Calls Tryz.prog 11 #[mdV R p5] q (RefP R q)):=hid fun q g=>ref_any R p5 q (HNw.o q g N6 (Nat.le_refl _)) HRs.o
      have HSa:Hid (∀ q pr,Below W6.heap.size W6 q->Mod anyM q R pr->Calls Tryz.prog 10 #[mdV R pr,mdV R p] q fun e w'=>e=.returned (.bool true)/\Below q.heap.size q w'):=hid fun q pr g hm=>by
        have:=rsame_any R R pr p q hm (HW4.o q (HB6.o.trans (g.mono HB6.o.size))).2.2.2 HRo.o
        rw [sameM_refl] at this
        exact this
      unfold mdV at HRx HSa
      have hb:Below W6.heap.size W6 (World.drew W6):=(Below.refl _ _).drew
      have hNN:wo.heap.size<=N6:=by rw [hz5];exact hb5.size
      have hNW:N6<=W6.heap.size:=by rw [hz5];exact hb56.size
      clear on6 hb6 hb56 hb5 o5 HExo HN5 hz5
      refine wp_region_any (by kernel_rfl) ?_
      change wpAny _ _ _ _ _ _ _ (World.drew _)
      (generalize World.drew W6=Wd at hb |-)
      refine wpAny_of_heldS (S:=(fun q=>(q.cell? ⟨N6,0,none⟩=some (.string R.nm)/\q.cell? ⟨N6,1,none⟩=some (.slice p5.a1 R.vars.length p5.c1)/\q.cell? ⟨N6,2,none⟩=some (.slice p5.a2 R.evs.length p5.c2)/\q.cell? ⟨N6,3,none⟩=some (.slice p5.a3 R.regs.length p5.c3)/\q.cell? ⟨N6,4,none⟩=some (.slice p5.a4 R.vers.length p5.c4)/\q.cell? ⟨N6,5,none⟩=some (.slice p5.a5 R.trns.length p5.c5))/\(q.cell? ⟨MB,0,none⟩=some (.string R.nm)/\q.cell? ⟨MB,1,none⟩=some (.slice p.a1 R.vars.length p.c1)/\q.cell? ⟨MB,2,none⟩=some (.slice p.a2 R.evs.length p.c2)/\q.cell? ⟨MB,3,none⟩=some (.slice p.a3 R.regs.length p.c3)/\q.cell? ⟨MB,4,none⟩=some (.slice p.a4 R.vers.length p.c4)/\q.cell? ⟨MB,5,none⟩=some (.slice p.a5 R.trns.length p.c5)))) ?_ (fun hHeld=>?_)
      (exact HS.o _ hb)
      refine tk 0 rfl ?_
      refine tk 1 rfl ?_
      refine tk 2 rfl ?_
      refine tk 3 rfl ?_
      refine tk 4 rfl ?_
      refine tk 5 rfl ?_
      refine tk 6 rfl ?_
      refine tk 7 rfl ?_
      refine tk 8 rfl ?_
      refine tk 9 rfl ?_
      refine tk 11 rfl ?_
      refine rd1 10 (fun K hK=>?_)
      (go_simp;(with_reducible refine (HRx.o _ hb).mono ?_);rintro e q9 ⟨p9,rfl,om9,g⟩;replace hb:=hb.trans (g.mono hb.size);clear g;unfold mdV;go_wp2_with fail)
      refine nx hK ?_ (fun hH1=>?_)
      (exact HS.o _ hb)
      clear hK K hHeld
      refine rd1 12 (fun K hK=>?_)
      (go_simp;(with_reducible refine (HSa.o _ _ hb om9).mono ?_);rintro e q10 ⟨rfl,g⟩;replace hb:=hb.trans (g.mono hb.size);clear g;go_wp2_with fail)
      refine nx hK ?_ (fun hH2=>?_)
      (exact HS.o _ hb)
      clear hK K hH1
      refine tk 13 rfl ?_
      refine tk 14 rfl ?_
      refine dn ?_
      rotate_left
      obtain ⟨⟨x0,x1,x2,x3,x4,x5⟩,_⟩:=HS.o _ hb
      have hNq:N6<=q10.heap.size:=Nat.le_trans hNW hb.size
      have HSp:=hid (spoil_row R p5 q10 (HNw.o q10 hb q10.heap.size hNq) (Nat.le_refl _) HRs.o)
      unfold mdV at HSp
      have HB10:=hid (HB6.o.trans (hb.mono HB6.o.size))
      have hwq:=Nat.le_trans hNN hNq
      clear hb hH2 om9 HS HRx HSa HNw
      go_wp2_with ((with_reducible refine (HSp.o).mono ?_);rintro e w11 ⟨rfl,hp11⟩)
      have HB11:=hid (HB10.o.trans (hp11.below HB.o.size HB10.o.size))
      go_roundw
      case rel=>exact ⟨t+1,by omega,by go_num,HB11.o⟩
      case measure=>simp [intOf] <;> omega
    . obtain rfl:t=2:=by omega
      have HRfo:=hid (HRf.o wo hbW)
      clear hb hbW
      go_upto_region 13 with ((with_reducible refine (HRfo.o).mono ?_);rintro e w5 ⟨na,nc,rfl,hl5',hb5⟩)
      have HLn:=hid fun q (g:Below w5.heap.size w5 q)=>hl5'.below g
      have HW5:=hid fun q (g:Below w5.heap.size w5 q)=>HW4.o q (HB.o.trans ((hb5.trans (g.mono hb5.size)).mono HB.o.size))
      clear hl5' hb5 HRfo
      go_wp2_with fail
      go_loopw [12] (fun i wr=>∃ j:Nat,j<=l.length/\i=.int .i64 j/\Below w5.heap.size w5 wr) (fun i _=>l.length - (intOf i).toNat)
      case atStart=>exact ⟨0,by omega,rfl,Below.refl _ _⟩
      case round =>
       clear HB
       obtain ⟨wo,rfl⟩:=ex1 wr
       obtain ⟨j,hj,rfl,hb⟩:=hrel
       obtain ⟨hbW,hlw,_,_⟩:=HW5.o wo hb
       have HB:=hid hb
       by_cases hlt:j<l.length
       . have hjI:(j:Int)<(l.length:Int):=by omega
         have hj0:(0:Int)<=(j:Int):=by omega
         obtain ⟨m,hm⟩:=ex2 (l[j])
         obtain ⟨b1,o1,e1,hb1,pm,hmo,r0,r1,r2,r3,r4,r5⟩:=hlw.get hlt
         obtain ⟨b2,o2,e2,hb2,pn,hno,s0,s1,s2,s3,s4,s5⟩:=(HLn.o wo hb).get hlt
         have hok:=HOK.o _ (List.getElem_mem hlt)
         rw [hm] at hmo r0 r1 r2 r3 r4 r5 hno s0 s1 s2 s3 s4 s5 hok
         have HSa:Hid (∀ q,Below wo.heap.size wo q->Calls Tryz.prog 10 #[mdV m pm,mdV m pn] q fun e w'=>e=.returned (.bool true)/\Below q.heap.size q w'):=hid fun q g=>by
           have:=rsame_any m m pm pn q (hmo.any.below g) (hno.any.below g) hok
           rw [sameM_refl] at this
           exact this
         unfold mdV at HSa
         have hb1z:b1<wo.heap.size:=World.block_lt_of_cell? wo _ r0
         have hb2z:b2<wo.heap.size:=World.block_lt_of_cell? wo _ s0
         have HS:Hid (∀ q,Below wo.heap.size wo q->(q.cell? ⟨b1,o1+j * 6,none⟩=some (.string m.nm)/\q.cell? ⟨b1,o1+j * 6+1,none⟩=some (.slice pm.a1 m.vars.length pm.c1)/\q.cell? ⟨b1,o1+j * 6+2,none⟩=some (.slice pm.a2 m.evs.length pm.c2)/\q.cell? ⟨b1,o1+j * 6+3,none⟩=some (.slice pm.a3 m.regs.length pm.c3)/\q.cell? ⟨b1,o1+j * 6+4,none⟩=some (.slice pm.a4 m.vers.length pm.c4)/\q.cell? ⟨b1,o1+j * 6+5,none⟩=some (.slice pm.a5 m.trns.length pm.c5))/\(q.cell? ⟨b2,o2+j * 6,none⟩=some (.string m.nm)/\q.cell? ⟨b2,o2+j * 6+1,none⟩=some (.slice pn.a1 m.vars.length pn.c1)/\q.cell? ⟨b2,o2+j * 6+2,none⟩=some (.slice pn.a2 m.evs.length pn.c2)/\q.cell? ⟨b2,o2+j * 6+3,none⟩=some (.slice pn.a3 m.regs.length pn.c3)/\q.cell? ⟨b2,o2+j * 6+4,none⟩=some (.slice pn.a4 m.vers.length pn.c4)/\q.cell? ⟨b2,o2+j * 6+5,none⟩=some (.slice pn.a5 m.trns.length pn.c5))):=hid fun q g=>by
           have k:∀ b o u,b<wo.heap.size->wo.cell? ⟨b,o,none⟩=some u->q.cell? ⟨b,o,none⟩=some u:=fun b o u hb h=>(g.cell (p:=⟨b,o,none⟩) hb).trans h
           exact ⟨⟨k _ _ _ hb1z r0,k _ _ _ hb1z r1,k _ _ _ hb1z r2,k _ _ _ hb1z r3,k _ _ _ hb1z r4,k _ _ _ hb1z r5⟩,⟨k _ _ _ hb2z s0,k _ _ _ hb2z s1,k _ _ _ hb2z s2,k _ _ _ hb2z s3,k _ _ _ hb2z s4,k _ _ _ hb2z s5⟩⟩
         have hbd:Below wo.heap.size wo (World.drew wo):=(Below.refl _ _).drew
         subst e1
         subst e2
         clear hb hbW hlw hmo hno hok hm r0 r1 r2 r3 r4 r5 s0 s1 s2 s3 s4 s5 hb1 hb2 hb1z hb2z
         go_upto_region 16 with fail
         refine wp_region_any (by kernel_rfl) ?_
         change wpAny _ _ _ _ _ _ _ (World.drew _)
         (generalize World.drew wo=Wd at hbd |-)
         refine wpAny_of_heldS (S:=(fun q=>(q.cell? ⟨b1,o1+j * 6,none⟩=some (.string m.nm)/\q.cell? ⟨b1,o1+j * 6+1,none⟩=some (.slice pm.a1 m.vars.length pm.c1)/\q.cell? ⟨b1,o1+j * 6+2,none⟩=some (.slice pm.a2 m.evs.length pm.c2)/\q.cell? ⟨b1,o1+j * 6+3,none⟩=some (.slice pm.a3 m.regs.length pm.c3)/\q.cell? ⟨b1,o1+j * 6+4,none⟩=some (.slice pm.a4 m.vers.length pm.c4)/\q.cell? ⟨b1,o1+j * 6+5,none⟩=some (.slice pm.a5 m.trns.length pm.c5))/\(q.cell? ⟨b2,o2+j * 6,none⟩=some (.string m.nm)/\q.cell? ⟨b2,o2+j * 6+1,none⟩=some (.slice pn.a1 m.vars.length pn.c1)/\q.cell? ⟨b2,o2+j * 6+2,none⟩=some (.slice pn.a2 m.evs.length pn.c2)/\q.cell? ⟨b2,o2+j * 6+3,none⟩=some (.slice pn.a3 m.regs.length pn.c3)/\q.cell? ⟨b2,o2+j * 6+4,none⟩=some (.slice pn.a4 m.vers.length pn.c4)/\q.cell? ⟨b2,o2+j * 6+5,none⟩=some (.slice pn.a5 m.trns.length pn.c5)))) ?_ (fun hHeld=>?_)
         (exact HS.o _ hbd)
         refine tk 0 rfl ?_
         refine tk 1 rfl ?_
         refine tk 2 rfl ?_
         refine tk 3 rfl ?_
         refine tk 4 rfl ?_
         refine tk 5 rfl ?_
         refine tk 6 rfl ?_
         refine tk 7 rfl ?_
         refine rd1 8 (fun K hK=>?_)
         (go_simp;(with_reducible refine (HSa.o _ hbd).mono ?_);rintro e q9 ⟨rfl,g⟩;replace hbd:=hbd.trans (g.mono hbd.size);clear g;go_wp2_with fail)
         refine nx hK ?_ (fun hH1=>?_)
         (exact HS.o _ hbd)
         clear hK K hHeld
         refine tk 9 rfl ?_
         refine dn ?_
         rotate_left
         have HB9:=hid (HB.o.trans (hbd.mono HB.o.size))
         clear hbd
         go_wp2_with fail
         go_roundw
         case rel=>exact ⟨j+1,by omega,by go_num,HB9.o⟩
         case measure=>simp [intOf] <;> omega
       . obtain rfl:j=l.length:=by omega
         clear hlw
         go_wp2_with ((with_reducible refine (HWk.o _ hbW).mono ?_);rintro e w9 ⟨rfl,hb9⟩)
         go_ret
         exact ⟨rfl,hbW.trans (hb9.mono hbW.size)⟩
def ModT (lo:Nat) (w:World) (b o:Nat) (x:MdlD):Prop:=∃ p:Ph,Mod (fun j=>TB lo (TT j)) w x p/\w.cell? ⟨b,o,none⟩=some (.string x.nm)/\w.cell? ⟨b,o+1,none⟩=some (.slice p.a1 x.vars.length p.c1)/\w.cell? ⟨b,o+2,none⟩=some (.slice p.a2 x.evs.length p.c2) /\
 w.cell? ⟨b,o+3,none⟩=some (.slice p.a3 x.regs.length p.c3)/\w.cell? ⟨b,o+4,none⟩=some (.slice p.a4 x.vers.length p.c4)/\w.cell? ⟨b,o+5,none⟩=some (.slice p.a5 x.trns.length p.c5)
theorem ModT.moves {lo:Nat}:Moves 6 (ModT lo) (fun w w'=>∀ j,Kept (TB lo (TT j)) w w') where
 cell:=fun w b o x ⟨p,hm,h0,h1,h2,h3,h4,h5⟩ j hj=>by
   have:j=0\/j=1\/j=2\/j=3\/j=4\/j=5:=by omega
   rcases this with rfl | rfl | rfl | rfl | rfl | rfl
   . exact ⟨_,h0,rfl⟩
   . exact ⟨_,h1,rfl⟩
   . exact ⟨_,h2,rfl⟩
   . exact ⟨_,h3,rfl⟩
   . exact ⟨_,h4,rfl⟩
   . exact ⟨_,h5,rfl⟩
 move:=fun w w' b o b' o' x ⟨p,hm,h0,h1,h2,h3,h4,h5⟩ hk hc =>
   ⟨p,hm.kept hk,(hc 0 (by omega)).trans h0,(hc 1 (by omega)).trans h1,(hc 2 (by omega)).trans h2,(hc 3 (by omega)).trans h3,(hc 4 (by omega)).trans h4,(hc 5 (by omega)).trans h5⟩
theorem ModT.mono {Q:BP} {lo:Nat}:Mono Q anyB (ModT lo):=fun w w' b o x ⟨p,hm,h0,h1,h2,h3,h4,h5⟩ hb hq hw hr=>by
 have hc:∀ j u,w.cell? ⟨b,o+j,none⟩=some u->w'.cell? ⟨b,o+j,none⟩=some u:=fun j u h=>(hw.cell hb hq).trans h
 exact ⟨p,hm.kept fun _=>⟨hr.1,fun b hb _=>hr.2 b hb trivial⟩,hc 0 _ h0,hc 1 _ h1,hc 2 _ h2,hc 3 _ h3,hc 4 _ h4,hc 5 _ h5⟩
structure RowL (lo:Nat) (w:World) (a:Option Addr) (c:Nat) (L:List MdlD):Prop where
 sl:Sl (TB lo 42) 6 (ModT lo) w (.slice a L.length c) L
 ow:OwnV lo 42 6 w (.slice a L.length c)
theorem RowL.below {lo:Nat} {w w':World} {a:Option Addr} {c:Nat} {L:List MdlD} (h:RowL lo w a c L) (g:Below w.heap.size w w'):RowL lo w' a c L :=
 ⟨h.sl.kept ModT.mono (Kept.of_below g) (Kept.of_below g),h.ow.below g⟩
theorem RowL.nil (lo:Nat) (w:World):RowL lo w none 0 []:=⟨.inl ⟨_,_,rfl,rfl⟩,.inl ⟨_,rfl⟩⟩
theorem RowL.lib {lo:Nat} {w:World} {a:Option Addr} {c:Nat} {L:List MdlD} (h:RowL lo w a c L):LibV w.heap.size w (.slice a L.length c) L :=
 h.sl.weaken (fun b hb _=>hb) fun b o x ⟨p,hm,hc⟩=>⟨p,hm.weaken fun j b hb _=>hb,hc⟩
theorem rowT_mdl {lo:Nat} {q:World} {u:Nat} {m:MdlD} {p:Ph} (h:On q u (.cells #[.string m.nm,.slice p.a1 m.vars.length p.c1,.slice p.a2 m.evs.length p.c2,.slice p.a3 m.regs.length p.c3,.slice p.a4 m.vers.length p.c4,.slice p.a5 m.trns.length p.c5] 42)) (hm:Mod (fun j=>TB lo (TT j)) q m p):Sl anyB 6 (ModT lo) q (.slice (some ⟨u,0,none⟩) [m].length 1) [m] :=
 .inr ⟨u,0,1,rfl,Nat.le_refl _,(Array.getElem?_eq_some_iff.1 h).1,trivial,fun i hi=>by
   obtain rfl:i=0:=by simp at hi;exact hi
   exact ⟨p,hm,cell_row h,cell_row h,cell_row h,cell_row h,cell_row h,cell_row h⟩⟩
theorem mdl_keep {lo lo':Nat} {w w':World} (g:GrT lo (· = 42) w w') (j:Nat):Kept (TB lo' (TT j)) w w':=g.keep (TT_ne j)
structure RowU (lo:Nat) (w:World) (a:Option Addr) (c:Nat) (S:List ByteArray):Prop where
 sl:Sl (TB lo 9) 1 TxtE w (.slice a S.length c) S
 ow:OwnV lo 9 1 w (.slice a S.length c)
theorem RowU.below {lo:Nat} {w w':World} {a:Option Addr} {c:Nat} {S:List ByteArray} (h:RowU lo w a c S) (g:Below w.heap.size w w'):RowU lo w' a c S :=
 ⟨h.sl.kept (TxtE.mono (R:=anyB)) (Kept.of_below g) (Kept.of_below g),h.ow.below g⟩
theorem RowU.nil (lo:Nat) (w:World):RowU lo w none 0 []:=⟨.inl ⟨_,_,rfl,rfl⟩,.inl ⟨_,rfl⟩⟩
theorem bytes_two (wx:World) (c:Int):(convert 91 9 (.slice (some ⟨wx.heap.size,0,none⟩) 2 2)).run Tryz.prog (wx.alloc (.cells #[.int .u8 77,.int .u8 c] 5))=.ok (.string (strOfNums [77,c])) (wx.alloc (.cells #[.int .u8 77,.int .u8 c] 5)) :=
 run_convert_bytes_arg (P:=Tryz.prog) _ 91 5 Tryz.underlying91 Tryz.underlying5 _ 0 2 2 [77,c] rfl (fun i hi=>by
   have:i=0\/i=1:=by omega
   rcases this with rfl | rfl
   . exact cell_row (on_new _ _)
   . exact cell_row (on_new _ _)) 9 Tryz.underlying9
theorem two_size (c:Int):(strOfNums [77,c]).size<=2:=by rw [strOfNums_size];exact Nat.le_refl _
theorem mem_snoc {α:Type} {P:α->Prop} {l:List α} {x:α} (h:∀ y ∈ l,P y) (hx:P x):∀ y ∈ l ++ [x],P y:=fun y hy=>by
 rcases List.mem_append.1 hy with hy | hy
 . exact h y hy
 . rw [List.mem_singleton] at hy;subst hy;exact hx
theorem large18_any (w:World) (hT:Tab w):Calls Tryz.prog 18 #[] w fun e w'=>e=.returned (.bool true)/\Below w.heap.size w w':=by
 obtain ⟨iM,hiM,zM0,zM1,zM2⟩:=info_parts info_Mdl
 obtain ⟨iS,hiS,zS0,zS1,zS2⟩:=info_parts info_Txt
 have hcv:=bytes_two
 have HT:=hid hT
 clear hT
 go_enter Tryz.func18,Tryz.ntmps18
 go_wp2_with fail
 go_loopw [1] (fun i wr=>∃ n:Nat,2<=n/\n<=6/\i=.int .i64 n/\Below w.heap.size w wr) (fun i _=>6 - (intOf i).toNat)
 case atStart=>exact ⟨2,by omega,by omega,rfl,Below.refl _ _⟩
 case round =>
  obtain ⟨wo,rfl⟩:=ex1 wr
  obtain ⟨n,hn2,hn6,rfl,hb⟩:=hrel
  by_cases hlt:n<6
  . have hnI:(n:Int)<6:=by omega
    have HB:=hid hb
    clear hb
    go_wp2_with fail
    go_loopw [2,3] (fun v i wr=>∃ (k:Nat) (L:List MdlD),k<=n/\i=.int .i64 k/\Hid (L.length=k/\∀ m ∈ L,MdlOk m)/\∃ a c,v=.slice a L.length c/\RowL w.heap.size wr a c L/\Below w.heap.size w wr) (fun _ i _=>n - (intOf i).toNat)
    case atStart=>exact ⟨0,[],by omega,rfl,hid ⟨rfl,fun m hm=>by cases hm⟩,none,0,rfl,RowL.nil _ _,HB.o⟩
    case round =>
     clear HB
     obtain ⟨wo,rfl⟩:=ex1 wr
     obtain ⟨k,L,hk,rfl,HLk,a,c,rfl,hL,hb⟩:=hrel
     have HB:=hid hb
     have HL:=hid hL
     by_cases hlt2:k<n
     . have hkI:(k:Int)<(n:Int):=by omega
       have hbs:=hb.size
       clear hb hL
       go_wp2_with fail
       go_loopw [4,5] (fun v i wr=>∃ (j:Nat) (S:List ByteArray),j<=15/\i=.int .i64 j/\Hid (S.length=j/\∀ s ∈ S,s.size<=2)/\∃ a c,v=.slice a S.length c/\RowU wo.heap.size wr a c S/\Below wo.heap.size wo wr) (fun _ i _=>15 - (intOf i).toNat)
       case atStart=>exact ⟨0,[],by omega,rfl,hid ⟨rfl,fun m hm=>by cases hm⟩,none,0,rfl,RowU.nil _ _,Below.refl _ _⟩
       case round =>
        obtain ⟨wp,rfl⟩:∃ wo:World,wo=wr:=⟨_,rfl⟩
        obtain ⟨j,S,hj,rfl,HSj,a',c',rfl,hU,hb⟩:=hrel
        have HBp:=hid hb
        have HU:=hid hU
        have hps:=hb.size
        clear hb hU
        by_cases hlt3:j<15
        . have hjI:(j:Int)<15:=by omega
          have hSl:S.length<=15:=by rw [HSj.o.1];omega
          by_cases d1:k+1<n
          . have d1I:(k:Int)+1<(n:Int):=by omega
            by_cases d2:j<9
            . have d2I:(j:Int)<9:=by omega
              go_upto_region 15 with fail
              have hU2:=HU.o.below (below_al1 wp (.cells #[.int .u8 77,.int .u8 (49+(k:Int))] 5))
              have hB2:=HBp.o.trans ((below_al1 wp (.cells #[.int .u8 77,.int .u8 (49+(k:Int))] 5)).mono hps)
              have hs2:=two_size (49+(k:Int))
              generalize wp.alloc (.cells #[.int .u8 77,.int .u8 (49+(k:Int))] 5)=W2 at *
              generalize strOfNums [77,49+(k:Int)]=s at *
              have HU2:=hid hU2
              have HB2:=hid hB2
              have hz2:=hB2.size
              clear hU2 hB2
              go_wp2_with (at_builtin;refine wpList_append_sl TxtE.moves _ rfl _ _ 28 rfl 9 iS _ 16 Tryz.underlying28 hiS zS0 zS1 zS2 rfl (by decide) (by decide) rfl rfl (HU2.o.below (below_al1 W2 _)).sl (HU2.o.below (below_al1 W2 _)).ow (txt_sl W2 s _) (by simp;omega) (by simp;omega) ?_;intro a6 c6 w6 ho6 hg6 hs6)
              have HU6:Hid (RowU wo.heap.size w6 a6 c6 (S ++ [s])):=hid ⟨hs6 trivial,ho6⟩
              have HB6:Hid (Below wo.heap.size wo w6):=hid ((HB2.o.trans ((below_al1 W2 (.cells #[.string s] 9)).mono hz2)).trans (hg6.below (Nat.le_refl _) (by simp;omega)))
              have HS6:Hid ((S ++ [s]).length=j+1/\∀ s' ∈ S ++ [s],s'.size<=2):=hid ⟨by rw [List.length_append,HSj.o.1];rfl,mem_snoc HSj.o.2 hs2⟩
              clear ho6 hg6 hs6
              go_roundw
              case rel=>exact ⟨j+1,S ++ [s],by omega,by go_num,HS6,a6,c6,by rw [List.length_append];rfl,HU6.o,HB6.o⟩
              case measure=>simp [intOf] <;> omega
            . have d2I:¬ (j:Int)<9:=by omega
              go_upto_region 15 with fail
              have hs2:(⟨#[]⟩:ByteArray).size<=2:=by decide
              generalize (⟨#[]⟩:ByteArray)=s at hs2 |-
              have HU2:=HU
              have HB2:=HBp
              have hz2:=hps
              obtain ⟨W2,hW2⟩:=ex2 wp
              rw [hW2] at HU2 HB2 hz2 |-
              clear hW2
              go_wp2_with (at_builtin;refine wpList_append_sl TxtE.moves _ rfl _ _ 28 rfl 9 iS _ 16 Tryz.underlying28 hiS zS0 zS1 zS2 rfl (by decide) (by decide) rfl rfl (HU2.o.below (below_al1 W2 _)).sl (HU2.o.below (below_al1 W2 _)).ow (txt_sl W2 s _) (by simp;omega) (by simp;omega) ?_;intro a6 c6 w6 ho6 hg6 hs6)
              have HU6:Hid (RowU wo.heap.size w6 a6 c6 (S ++ [s])):=hid ⟨hs6 trivial,ho6⟩
              have HB6:Hid (Below wo.heap.size wo w6):=hid ((HB2.o.trans ((below_al1 W2 (.cells #[.string s] 9)).mono hz2)).trans (hg6.below (Nat.le_refl _) (by simp;omega)))
              have HS6:Hid ((S ++ [s]).length=j+1/\∀ s' ∈ S ++ [s],s'.size<=2):=hid ⟨by rw [List.length_append,HSj.o.1];rfl,mem_snoc HSj.o.2 hs2⟩
              clear ho6 hg6 hs6
              go_roundw
              case rel=>exact ⟨j+1,S ++ [s],by omega,by go_num,HS6,a6,c6,by rw [List.length_append];rfl,HU6.o,HB6.o⟩
              case measure=>simp [intOf] <;> omega
          . have d1I:¬ (k:Int)+1<(n:Int):=by omega
            go_upto_region 15 with fail
            have hs2:(⟨#[]⟩:ByteArray).size<=2:=by decide
            generalize (⟨#[]⟩:ByteArray)=s at hs2 |-
            have HU2:=HU
            have HB2:=HBp
            have hz2:=hps
            obtain ⟨W2,hW2⟩:=ex2 wp
            rw [hW2] at HU2 HB2 hz2 |-
            clear hW2
            go_wp2_with (at_builtin;refine wpList_append_sl TxtE.moves _ rfl _ _ 28 rfl 9 iS _ 16 Tryz.underlying28 hiS zS0 zS1 zS2 rfl (by decide) (by decide) rfl rfl (HU2.o.below (below_al1 W2 _)).sl (HU2.o.below (below_al1 W2 _)).ow (txt_sl W2 s _) (by simp;omega) (by simp;omega) ?_;intro a6 c6 w6 ho6 hg6 hs6)
            have HU6:Hid (RowU wo.heap.size w6 a6 c6 (S ++ [s])):=hid ⟨hs6 trivial,ho6⟩
            have HB6:Hid (Below wo.heap.size wo w6):=hid ((HB2.o.trans ((below_al1 W2 (.cells #[.string s] 9)).mono hz2)).trans (hg6.below (Nat.le_refl _) (by simp;omega)))
            have HS6:Hid ((S ++ [s]).length=j+1/\∀ s' ∈ S ++ [s],s'.size<=2):=hid ⟨by rw [List.length_append,HSj.o.1];rfl,mem_snoc HSj.o.2 hs2⟩
            clear ho6 hg6 hs6
            go_roundw
            case rel=>exact ⟨j+1,S ++ [s],by omega,by go_num,HS6,a6,c6,by rw [List.length_append];rfl,HU6.o,HB6.o⟩
            case measure=>simp [intOf] <;> omega
        . obtain rfl:j=15:=by omega
          have hSl:S.length<=100:=by rw [HSj.o.1];decide
          have hLl:L.length<=6:=by rw [HLk.o.1];omega
          by_cases hk0:k=0
          . have hk0I:¬ (0:Int)<(k:Int):=by omega
            clear hk0
            go_upto_region 19 with fail
            have hs2:(⟨#[77]⟩:ByteArray).size<=2:=by decide
            generalize (⟨#[77]⟩:ByteArray)=s at hs2 |-
            have HU2:=HU
            have HB2:=HBp
            have HL2:=hid (HL.o.below HBp.o)
            obtain ⟨W2,hW2⟩:=ex2 wp
            rw [hW2] at HU2 HB2 HL2 |-
            have hz2:=HB2.o.size
            clear hW2
            obtain ⟨M,hM⟩:=ex2 (machM s S [])
            have HMa:Hid (Calls Tryz.prog 13 #[.string s,.slice a' S.length c',.slice none 0 0] W2 (MachP M W2)):=hid (by rw [<- hM];exact machine_any (Q:=TB wo.heap.size 9) (Q2:=anyB) (R:=anyB) s S [] a' c' none 0 W2 (SlS.sl.2 HU2.o.sl) (.inl ⟨_,_,rfl,rfl⟩) (fun x hx=>by cases hx) (by omega) (by decide) (by omega))
            have HOk:Hid (MdlOk M):=hid (by rw [<- hM];exact (mach_ok (by omega) (fun x hx=>by have:=HSj.o.2 x hx;omega) (fun x hx=>by cases hx) (by omega) (by decide)).1)
            clear hM
            go_wp2_with (first | ((with_reducible refine (HMa.o).mono ?_);rintro e w4 ⟨p4,rfl,ho4,g4⟩;unfold mdV) | (at_builtin;go_loud (refine wpList_append_sl ModT.moves _ rfl _ _ 22 rfl 42 iM _ 136 Tryz.underlying22 hiM zM0 zM1 zM2 rfl (by decide) (by decide) rfl rfl ((HL2.o.below g4).below (below_al1 w4 _)).sl ((HL2.o.below g4).below (below_al1 w4 _)).ow (rowT_mdl (m:=M) (p:=p4) (on_new w4 _) (((ho4.mono (lo':=w.heap.size) (by omega)).below (below_al1 w4 _)).mod)) (by simp;omega) (by have:=g4.size;simp;omega) ?_;intro a6 c6 w6 ho6 hg6 hs6)))
            have HL6:Hid (RowL w.heap.size w6 a6 c6 (L ++ [M])):=hid ⟨hs6 (mdl_keep hg6),ho6⟩
            have HB6:Hid (Below w.heap.size w w6):=hid ((HB.o.trans (((HB2.o.trans (g4.mono hz2)).trans ((below_al1 w4 (.cells #[.string M.nm,.slice p4.a1 M.vars.length p4.c1,.slice p4.a2 M.evs.length p4.c2,.slice p4.a3 M.regs.length p4.c3,.slice p4.a4 M.vers.length p4.c4,.slice p4.a5 M.trns.length p4.c5] 42)).mono (Nat.le_trans hz2 g4.size))).mono hbs)).trans (hg6.below (Nat.le_refl _) (by have:=g4.size;simp;omega)))
            have HK6:Hid ((L ++ [M]).length=k+1/\∀ m ∈ L ++ [M],MdlOk m):=hid ⟨by rw [List.length_append,HLk.o.1];rfl,mem_snoc HLk.o.2 HOk.o⟩
            clear ho6 hg6 hs6 ho4 g4
            go_roundw
            case rel=>exact ⟨k+1,L ++ [M],by omega,by go_num,HK6,a6,c6,by rw [List.length_append];rfl,HL6.o,HB6.o⟩
            case measure=>simp [intOf] <;> omega
          . have hk0I:(0:Int)<(k:Int):=by omega
            go_upto_region 19 with fail
            have hU2:=HU.o.below (below_al1 wp (.cells #[.int .u8 77,.int .u8 (48+(k:Int))] 5))
            have hB2:=HBp.o.trans ((below_al1 wp (.cells #[.int .u8 77,.int .u8 (48+(k:Int))] 5)).mono hps)
            have hL2:=HL.o.below hB2
            have hs2:=two_size (48+(k:Int))
            generalize wp.alloc (.cells #[.int .u8 77,.int .u8 (48+(k:Int))] 5)=W2 at *
            generalize strOfNums [77,48+(k:Int)]=s at *
            have HU2:=hid hU2
            have HB2:=hid hB2
            have HL2:=hid hL2
            have hz2:=hB2.size
            clear hU2 hB2 hL2
            obtain ⟨M,hM⟩:=ex2 (machM s S [])
            have HMa:Hid (Calls Tryz.prog 13 #[.string s,.slice a' S.length c',.slice none 0 0] W2 (MachP M W2)):=hid (by rw [<- hM];exact machine_any (Q:=TB wo.heap.size 9) (Q2:=anyB) (R:=anyB) s S [] a' c' none 0 W2 (SlS.sl.2 HU2.o.sl) (.inl ⟨_,_,rfl,rfl⟩) (fun x hx=>by cases hx) (by omega) (by decide) (by omega))
            have HOk:Hid (MdlOk M):=hid (by rw [<- hM];exact (mach_ok (by omega) (fun x hx=>by have:=HSj.o.2 x hx;omega) (fun x hx=>by cases hx) (by omega) (by decide)).1)
            clear hM
            go_wp2_with (first | ((with_reducible refine (HMa.o).mono ?_);rintro e w4 ⟨p4,rfl,ho4,g4⟩;unfold mdV) | (at_builtin;go_loud (refine wpList_append_sl ModT.moves _ rfl _ _ 22 rfl 42 iM _ 136 Tryz.underlying22 hiM zM0 zM1 zM2 rfl (by decide) (by decide) rfl rfl ((HL2.o.below g4).below (below_al1 w4 _)).sl ((HL2.o.below g4).below (below_al1 w4 _)).ow (rowT_mdl (m:=M) (p:=p4) (on_new w4 _) (((ho4.mono (lo':=w.heap.size) (by omega)).below (below_al1 w4 _)).mod)) (by simp;omega) (by have:=g4.size;simp;omega) ?_;intro a6 c6 w6 ho6 hg6 hs6)))
            have HL6:Hid (RowL w.heap.size w6 a6 c6 (L ++ [M])):=hid ⟨hs6 (mdl_keep hg6),ho6⟩
            have HB6:Hid (Below w.heap.size w w6):=hid ((HB.o.trans (((HB2.o.trans (g4.mono hz2)).trans ((below_al1 w4 (.cells #[.string M.nm,.slice p4.a1 M.vars.length p4.c1,.slice p4.a2 M.evs.length p4.c2,.slice p4.a3 M.regs.length p4.c3,.slice p4.a4 M.vers.length p4.c4,.slice p4.a5 M.trns.length p4.c5] 42)).mono (Nat.le_trans hz2 g4.size))).mono hbs)).trans (hg6.below (Nat.le_refl _) (by have:=g4.size;simp;omega)))
            have HK6:Hid ((L ++ [M]).length=k+1/\∀ m ∈ L ++ [M],MdlOk m):=hid ⟨by rw [List.length_append,HLk.o.1];rfl,mem_snoc HLk.o.2 HOk.o⟩
            clear ho6 hg6 hs6 ho4 g4
            go_roundw
            case rel=>exact ⟨k+1,L ++ [M],by omega,by go_num,HK6,a6,c6,by rw [List.length_append];rfl,HL6.o,HB6.o⟩
            case measure=>simp [intOf] <;> omega
     . obtain rfl:k=n:=by omega
       have HDo:=hid (expandDoes_any L a c wo hL.lib (by rw [HLk.o.1];omega) HLk.o.2 (HT.o.next hb))
       clear hL hb
       go_wp2_with ((with_reducible refine (HDo.o).mono ?_);rintro e w5 ⟨rfl,g5⟩)
       have HB5:=hid (HB.o.trans (g5.mono HB.o.size))
       go_roundw
       case rel=>exact ⟨k+1,by omega,by omega,by go_num,HB5.o⟩
       case measure=>simp [intOf] <;> omega
  . go_wp2_with fail
    go_ret
    exact ⟨rfl,hb⟩
def pVx (nm:ByteArray) (kd:Nat):VerD:=⟨nm,kd,0,0,⟨#[]⟩,⟨#[]⟩,[],⟨#[]⟩⟩
def ptsK:List (List VerD):=[[],[pVx ⟨#[116]⟩ 10,pVx ⟨#[100,111,110,101]⟩ 11],[pVx ⟨#[100,111,110,101]⟩ 10],[pVx ⟨#[116]⟩ 11],[pVx ⟨#[]⟩ 10],[pVx ⟨#[100,111,110,101]⟩ 11,pVx ⟨#[100,111,110,101]⟩ 11]]
def subsK:List (List ByteArray):=[[⟨#[]⟩],[⟨#[78]⟩],[⟨#[78]⟩,⟨#[78]⟩],[⟨#[79]⟩],[⟨#[77]⟩],[⟨#[]⟩,⟨#[79]⟩],[⟨#[78]⟩,⟨#[]⟩,⟨#[79]⟩]]
theorem pVx_ok {nm:ByteArray} {kd:Nat} (h:nm.size<=1000) (hk:kd<256):VerOk (pVx nm kd)/\(pVx nm kd).df=[] :=
 ⟨⟨by show nm.size<=_;omega,hk,by show (⟨#[]⟩:ByteArray).size<=_;decide,by show (⟨#[]⟩:ByteArray).size<=_;decide,Nat.zero_le _,fun s h=>by (cases h),by show (⟨#[]⟩:ByteArray).size<=_;decide,by show -9223372036854775808<=(0:Int)/\(0:Int)<=_;decide,by show -9223372036854775808<=(0:Int)/\(0:Int)<=_;decide⟩,rfl⟩
theorem ptsK_ok {l:List VerD} (h:l ∈ ptsK):l.length<=100/\∀ x ∈ l,VerOk x/\x.df=[]:=by
 simp only [ptsK,List.mem_cons,List.not_mem_nil,or_false] at h
 rcases h with rfl | rfl | rfl | rfl | rfl | rfl
 . exact ⟨by decide,fun x hx=>by (cases hx)⟩
 all_goals
   refine ⟨by show (_:Nat)<=_;decide,fun x hx=>?_⟩
   simp only [List.mem_cons,List.not_mem_nil,or_false] at hx
   rcases hx with rfl | rfl <;> exact pVx_ok (by decide) (by decide)
theorem subsK_ok {l:List ByteArray} (h:l ∈ subsK):l.length<=100/\∀ s ∈ l,s.size<=1000:=by
 simp only [subsK,List.mem_cons,List.not_mem_nil,or_false] at h
 rcases h with rfl | rfl | rfl | rfl | rfl | rfl | rfl <;> exact ⟨by decide,by decide⟩
def verC0 (x:VerD):List Value:=[.string x.nm,.int .u8 x.kd,.int .i64 x.rg,.int .i64 x.ofv,.string x.en,.string x.ex,.slice none 0 0,.string x.sb]
theorem row_pts {q:World} {u:Nat} {l:List VerD} {T:TypeId} (h:On q u (.cells (l.flatMap verC0).toArray T)) (hd:∀ x ∈ l,x.df=[]):Sl anyB 8 (VerE anyB) q (.slice (some ⟨u,0,none⟩) l.length l.length) l :=
 .inr ⟨u,0,l.length,rfl,Nat.le_refl _,(Array.getElem?_eq_some_iff.1 h).1,trivial,fun i hi=>by
   have k:∀ j,j<8->q.cell? ⟨u,0+i * 8+j,none⟩=(verC0 l[i])[j]? := fun j hj=>by
     rw [cell_row h,List.getElem?_toArray,List.flatMap_def,Nat.zero_add]
     have:=flatten_get (sz:=8) (css:=l.map verC0) (fun cs hc=>by
       obtain ⟨x,_,rfl⟩:=List.mem_map.1 hc
       rfl) i (by simpa using hi) j hj
     rw [this,List.getElem_map]
   exact ⟨.slice none 0 0,.inl ⟨_,_,rfl,hd _ (List.getElem_mem hi)⟩,k 0 (by decide),k 1 (by decide),k 2 (by decide),k 3 (by decide),k 4 (by decide),k 5 (by decide),k 6 (by decide),k 7 (by decide)⟩⟩
theorem row_txt {q:World} {u:Nat} {l:List ByteArray} {T:TypeId} (h:On q u (.cells (l.map Value.string).toArray T)):SlS anyB q (.slice (some ⟨u,0,none⟩) l.length l.length) l :=
 .inr ⟨u,0,l.length,rfl,Nat.le_refl _,(Array.getElem?_eq_some_iff.1 h).1,trivial,fun i hi=>by
   rw [cell_row h,List.getElem?_toArray,Nat.zero_add,List.getElem?_map,List.getElem?_eq_getElem hi];rfl⟩
def PtT (W:World) (PB:Nat):Prop:=∀ j (h:j<ptsK.length),∃ a c,∀ q,Below W.heap.size W q->q.cell? ⟨PB,j,none⟩=some (.slice a (ptsK[j]).length c)/\Sl anyB 8 (VerE anyB) q (.slice a (ptsK[j]).length c) ptsK[j]
def SbT (W:World) (SB:Nat):Prop:=∀ j (h:j<subsK.length),∃ a c,∀ q,Below W.heap.size W q->q.cell? ⟨SB,j,none⟩=some (.slice a (subsK[j]).length c)/\SlS anyB q (.slice a (subsK[j]).length c) subsK[j]
theorem PtT.next {W W':World} {PB:Nat} (h:PtT W PB) (g:Below W.heap.size W W'):PtT W' PB:=fun j hj=>by
 obtain ⟨a,c,k⟩:=h j hj
 exact ⟨a,c,fun q gq=>k q (g.trans (gq.mono g.size))⟩
theorem pt_of {W q:World} {PB u j:Nat} {cur:Array Value} {T T':TypeId} {l:List VerD} {n:Nat} (hn:n=l.length) (h:On W PB (.cells cur T)) (k:On W u (.cells (l.flatMap verC0).toArray T')) (hc:cur[j]? = some (.slice (some ⟨u,0,none⟩) n n)) (hd:∀ x ∈ l,x.df=[]) (g:Below W.heap.size W q):q.cell? ⟨PB,j,none⟩=some (.slice (some ⟨u,0,none⟩) l.length n)/\Sl anyB 8 (VerE anyB) q (.slice (some ⟨u,0,none⟩) l.length n) l:=by
 subst hn
 exact ⟨by rw [cell_row (h.next g)];exact hc,row_pts (k.next g) hd⟩
theorem sb_of {W q:World} {PB u j:Nat} {cur:Array Value} {T T':TypeId} {l:List ByteArray} {n:Nat} (hn:n=l.length) (h:On W PB (.cells cur T)) (k:On W u (.cells (l.map Value.string).toArray T')) (hc:cur[j]? = some (.slice (some ⟨u,0,none⟩) n n)) (g:Below W.heap.size W q):q.cell? ⟨PB,j,none⟩=some (.slice (some ⟨u,0,none⟩) l.length n)/\SlS anyB q (.slice (some ⟨u,0,none⟩) l.length n) l:=by
 subst hn
 exact ⟨by rw [cell_row (h.next g)];exact hc,row_txt (k.next g)⟩
theorem df_of {l:List VerD} (h:l ∈ ptsK):∀ x ∈ l,x.df=[]:=fun x hx=>((ptsK_ok h).2 x hx).2
theorem pts_tab {W:World} {u1 u2 u3 u4 u5 PB:Nat} {T T6:TypeId} (h1:On W u1 (.cells (ptsK[1].flatMap verC0).toArray T)) (h2:On W u2 (.cells (ptsK[2].flatMap verC0).toArray T)) (h3:On W u3 (.cells (ptsK[3].flatMap verC0).toArray T)) (h4:On W u4 (.cells (ptsK[4].flatMap verC0).toArray T)) (h5:On W u5 (.cells (ptsK[5].flatMap verC0).toArray T))
   (h6:On W PB (.cells #[.slice none 0 0,.slice (some ⟨u1,0,none⟩) 2 2,.slice (some ⟨u2,0,none⟩) 1 1,.slice (some ⟨u3,0,none⟩) 1 1,.slice (some ⟨u4,0,none⟩) 1 1,.slice (some ⟨u5,0,none⟩) 2 2] T6)):PtT W PB:=fun j hj=>by
 have hj':j<6:=hj
 match j,hj' with
 | 0,_=>exact ⟨none,0,fun q g=>⟨by rw [cell_row (h6.next g)];rfl,.inl ⟨_,_,rfl,rfl⟩⟩⟩
 | 1,_=>exact ⟨_,_,fun q g=>pt_of (l:=ptsK[1]) rfl h6 h1 rfl (df_of (List.getElem_mem _)) g⟩
 | 2,_=>exact ⟨_,_,fun q g=>pt_of (l:=ptsK[2]) rfl h6 h2 rfl (df_of (List.getElem_mem _)) g⟩
 | 3,_=>exact ⟨_,_,fun q g=>pt_of (l:=ptsK[3]) rfl h6 h3 rfl (df_of (List.getElem_mem _)) g⟩
 | 4,_=>exact ⟨_,_,fun q g=>pt_of (l:=ptsK[4]) rfl h6 h4 rfl (df_of (List.getElem_mem _)) g⟩
 | 5,_=>exact ⟨_,_,fun q g=>pt_of (l:=ptsK[5]) rfl h6 h5 rfl (df_of (List.getElem_mem _)) g⟩
theorem sbs_tab {W:World} {u0 u1 u2 u3 u4 u5 u6 PB:Nat} {T T6:TypeId} (h0:On W u0 (.cells (subsK[0].map Value.string).toArray T)) (h1:On W u1 (.cells (subsK[1].map Value.string).toArray T)) (h2:On W u2 (.cells (subsK[2].map Value.string).toArray T)) (h3:On W u3 (.cells (subsK[3].map Value.string).toArray T)) (h4:On W u4 (.cells (subsK[4].map Value.string).toArray T)) (h5:On W u5 (.cells (subsK[5].map Value.string).toArray T)) (h6:On W u6 (.cells (subsK[6].map Value.string).toArray T))
   (h7:On W PB (.cells #[.slice (some ⟨u0,0,none⟩) 1 1,.slice (some ⟨u1,0,none⟩) 1 1,.slice (some ⟨u2,0,none⟩) 2 2,.slice (some ⟨u3,0,none⟩) 1 1,.slice (some ⟨u4,0,none⟩) 1 1,.slice (some ⟨u5,0,none⟩) 2 2,.slice (some ⟨u6,0,none⟩) 3 3] T6)):SbT W PB:=fun j hj=>by
 have hj':j<7:=hj
 match j,hj' with
 | 0,_=>exact ⟨_,_,fun q g=>sb_of (l:=subsK[0]) rfl h7 h0 rfl g⟩
 | 1,_=>exact ⟨_,_,fun q g=>sb_of (l:=subsK[1]) rfl h7 h1 rfl g⟩
 | 2,_=>exact ⟨_,_,fun q g=>sb_of (l:=subsK[2]) rfl h7 h2 rfl g⟩
 | 3,_=>exact ⟨_,_,fun q g=>sb_of (l:=subsK[3]) rfl h7 h3 rfl g⟩
 | 4,_=>exact ⟨_,_,fun q g=>sb_of (l:=subsK[4]) rfl h7 h4 rfl g⟩
 | 5,_=>exact ⟨_,_,fun q g=>sb_of (l:=subsK[5]) rfl h7 h5 rfl g⟩
 | 6,_=>exact ⟨_,_,fun q g=>sb_of (l:=subsK[6]) rfl h7 h6 rfl g⟩
theorem objs8 (w W:World) (a b c d e f g h:Obj) (hW:((((((((w.alloc a).alloc b).alloc c).alloc d).alloc e).alloc f).alloc g).alloc h)=W):On W w.heap.size a/\On W (w.heap.size+1) b/\On W (w.heap.size+1+1) c/\On W (w.heap.size+1+1+1) d/\On W (w.heap.size+1+1+1+1) e/\On W (w.heap.size+1+1+1+1+1) f/\On W (w.heap.size+1+1+1+1+1+1) g/\On W (w.heap.size+1+1+1+1+1+1+1) h/\Below w.heap.size w W:=by
 subst hW
 obtain ⟨k1,k2,k3,k4,k5,k6,kb⟩:=objs6 w a b c d e f
 have e6:(((((((w.alloc a).alloc b).alloc c).alloc d).alloc e).alloc f)).heap.size=w.heap.size+1+1+1+1+1+1:=by simp
 generalize (((((((w.alloc a).alloc b).alloc c).alloc d).alloc e).alloc f))=W6 at *
 have b7:=below_al1 W6 g
 have o7:On (W6.alloc g) (w.heap.size+1+1+1+1+1+1) g:=by rw [<- e6];exact on_new W6 g
 have e7:(W6.alloc g).heap.size=w.heap.size+1+1+1+1+1+1+1:=by rw [World.size_alloc,e6]
 have b8:=below_al1 (W6.alloc g) h
 have o8:On ((W6.alloc g).alloc h) (w.heap.size+1+1+1+1+1+1+1) h:=by rw [<- e7];exact on_new _ h
 have n:∀ {u:Nat} {o:Obj},On W6 u o->On ((W6.alloc g).alloc h) u o:=fun hu=>(hu.next b7).next b8
 exact ⟨n k1,n k2,n k3,n k4,n k5,n k6,o7.next b8,o8,(kb.trans (b7.mono kb.size)).trans (b8.mono (by omega))⟩
theorem lib3 {q:World} {u:Nat} {m n o:MdlD} {p r s:Ph} (h:On q u (.cells #[.string m.nm,.slice p.a1 m.vars.length p.c1,.slice p.a2 m.evs.length p.c2,.slice p.a3 m.regs.length p.c3,.slice p.a4 m.vers.length p.c4,.slice p.a5 m.trns.length p.c5,.string n.nm,.slice r.a1 n.vars.length r.c1,.slice r.a2 n.evs.length r.c2,.slice r.a3 n.regs.length r.c3,.slice r.a4 n.vers.length r.c4,.slice r.a5 n.trns.length r.c5,.string o.nm,.slice s.a1 o.vars.length s.c1,.slice s.a2 o.evs.length s.c2,.slice s.a3 o.regs.length s.c3,.slice s.a4 o.vers.length s.c4,.slice s.a5 o.trns.length s.c5] 42)) (hm:Mod anyM q m p) (hn:Mod anyM q n r) (ho:Mod anyM q o s) :
   LibV q.heap.size q (.slice (some ⟨u,0,none⟩) [m,n,o].length 3) [m,n,o]/\LibV q.heap.size q (.slice (some ⟨u,0,none⟩) [m,n].length 3) [m,n]/\LibV q.heap.size q (.slice (some ⟨u,6,none⟩) [n,o].length 2) [n,o]/\LibV q.heap.size q (.slice (some ⟨u,0,none⟩) [m].length 3) [m]:=by
 have hu:=(Array.getElem?_eq_some_iff.1 h).1
 have hm':Mod (fun _=>OldB q.heap.size) q m p:=hm.weaken fun _ b hb _=>hb
 have hn':Mod (fun _=>OldB q.heap.size) q n r:=hn.weaken fun _ b hb _=>hb
 have ho':Mod (fun _=>OldB q.heap.size) q o s:=ho.weaken fun _ b hb _=>hb
 have k0:ModE q.heap.size q u 0 m:=⟨p,hm',cell_row h,cell_row h,cell_row h,cell_row h,cell_row h,cell_row h⟩
 have k1:ModE q.heap.size q u 6 n:=⟨r,hn',cell_row h,cell_row h,cell_row h,cell_row h,cell_row h,cell_row h⟩
 have k2:ModE q.heap.size q u 12 o:=⟨s,ho',cell_row h,cell_row h,cell_row h,cell_row h,cell_row h,cell_row h⟩
 refine ⟨.inr ⟨u,0,3,rfl,Nat.le_refl _,hu,hu,fun i hi=>?_⟩,.inr ⟨u,0,3,rfl,by show 2<=3;decide,hu,hu,fun i hi=>?_⟩,.inr ⟨u,6,2,rfl,Nat.le_refl _,hu,hu,fun i hi=>?_⟩,.inr ⟨u,0,3,rfl,by show 1<=3;decide,hu,hu,fun i hi=>?_⟩⟩
 . match i,hi with
   | 0,_=>exact k0
   | 1,_=>exact k1
   | 2,_=>exact k2
 . match i,hi with
   | 0,_=>exact k0
   | 1,_=>exact k1
 . match i,hi with
   | 0,_=>exact k1
   | 1,_=>exact k2
 . match i,hi with
   | 0,_=>exact k0
def smallD:MdlD:={ smallM with vers:=[⟨⟨#[]⟩,3,0,-1,⟨#[]⟩,⟨#[]⟩,[],⟨#[]⟩⟩,⟨⟨#[115]⟩,1,0,-1,⟨#[]⟩,⟨#[]⟩,[],⟨#[68,111,111,114]⟩⟩] }
theorem on_ne {q:World} {u v:Nat} {c d:Array Value} {T T':TypeId} (h:On q u (.cells c T)) (k:On q v (.cells d T')) (hT:T≠T'):u≠v:=fun e=>by
 subst e
 have:=h.symm.trans k
 simp only [Option.some.injEq,Obj.cells.injEq] at this
 exact hT this.2.1
theorem On.at {q q':World} {V u:Nat} {o:Obj} (h:On q u o) (g:AtB V q q') (hu:u≠V):On q' u o:=(g.block u hu).trans h
theorem v16_set {q:World} {V:Nat} {T:TypeId} (h:On q V (.cells #[.string ⟨#[]⟩,.int .u8 3,.int .i64 0,.int .i64 (-1),.string ⟨#[]⟩,.string ⟨#[]⟩,.slice none 0 0,.string ⟨#[]⟩,.string ⟨#[115]⟩,.int .u8 1,.int .i64 0,.int .i64 (-1),.string ⟨#[]⟩,.string ⟨#[]⟩,.slice none 0 0,.string ⟨#[]⟩] T)) (s:ByteArray) :
   ∃ q',((((((((q.setCell ⟨V,8,none⟩ (.string ⟨#[115]⟩)).setCell ⟨V,9,none⟩ (.int .u8 1)).setCell ⟨V,10,none⟩ (.int .i64 0)).setCell ⟨V,11,none⟩ (.int .i64 (-1))).setCell ⟨V,12,none⟩ (.string ⟨#[]⟩)).setCell ⟨V,13,none⟩ (.string ⟨#[]⟩)).setCell ⟨V,14,none⟩ (.slice none 0 0)).setCell ⟨V,15,none⟩ (.string s))=q'/\AtB V q q'/\On q' V (.cells #[.string ⟨#[]⟩,.int .u8 3,.int .i64 0,.int .i64 (-1),.string ⟨#[]⟩,.string ⟨#[]⟩,.slice none 0 0,.string ⟨#[]⟩,.string ⟨#[115]⟩,.int .u8 1,.int .i64 0,.int .i64 (-1),.string ⟨#[]⟩,.string ⟨#[]⟩,.slice none 0 0,.string s] T):=by
 refine ⟨_,rfl,((((((((AtB.refl V q).set 8 _).set 9 _).set 10 _).set 11 _).set 12 _).set 13 _).set 14 _).set 15 _,?_⟩
 have:=box_set (box_set (box_set (box_set (box_set (box_set (box_set (box_set h 8 (.string ⟨#[115]⟩)) 9 (.int .u8 1)) 10 (.int .i64 0)) 11 (.int .i64 (-1))) 12 (.string ⟨#[]⟩)) 13 (.string ⟨#[]⟩)) 14 (.slice none 0 0)) 15 (.string s)
 exact this
def SmV (w:World) (e:Ending) (w':World):Prop:=∃ R V T,e=.returned (.agg #[.string ⟨#[77]⟩,.slice none 0 0,.slice none 0 0,.slice (some ⟨R,0,none⟩) 1 1,.slice (some ⟨V,0,none⟩) 2 2,.slice (some ⟨T,0,none⟩) 1 1])/\Below w.heap.size w w'/\w.heap.size<=V /\
 On w' R (.cells #[.string ⟨#[]⟩,.int .i64 (-1)] 57) /\
 On w' V (.cells #[.string ⟨#[]⟩,.int .u8 3,.int .i64 0,.int .i64 (-1),.string ⟨#[]⟩,.string ⟨#[]⟩,.slice none 0 0,.string ⟨#[]⟩,.string ⟨#[115]⟩,.int .u8 1,.int .i64 0,.int .i64 (-1),.string ⟨#[]⟩,.string ⟨#[]⟩,.slice none 0 0,.string ⟨#[]⟩] 49) /\
 On w' T (.cells #[.string ⟨#[]⟩,.int .i64 0,.int .i64 1,.slice none 0 0,.int .i64 0,.string ⟨#[]⟩,.string ⟨#[]⟩,.int .u8 1] 59)
theorem reg_row {q:World} {u:Nat} {x:RegD} {T:TypeId} (h:On q u (.cells #[.string x.nm,.int .i64 x.own] T)):Sl anyB 2 RegE q (.slice (some ⟨u,0,none⟩) [x].length 1) [x] :=
 .inr ⟨u,0,1,rfl,Nat.le_refl _,(Array.getElem?_eq_some_iff.1 h).1,trivial,fun i hi=>by
   obtain rfl:i=0:=by simp at hi;exact hi
   exact ⟨cell_row h,cell_row h⟩⟩
theorem trn_row {q:World} {u:Nat} {x:TrnD} {T:TypeId} (h:On q u (.cells #[.string x.nm,.int .i64 x.src,.int .i64 x.tgt,.slice none 0 0,.int .i64 x.af,.string x.gd,.string x.ef,.int .u8 x.kd] T)) (hd:x.tr=[]):Sl anyB 8 (TrnE anyB) q (.slice (some ⟨u,0,none⟩) [x].length 1) [x] :=
 .inr ⟨u,0,1,rfl,Nat.le_refl _,(Array.getElem?_eq_some_iff.1 h).1,trivial,fun i hi=>by
   obtain rfl:i=0:=by simp at hi;exact hi
   exact ⟨.slice none 0 0,.inl ⟨_,_,rfl,hd⟩,cell_row h,cell_row h,cell_row h,cell_row h,cell_row h,cell_row h,cell_row h,cell_row h⟩⟩
theorem small_v (w:World):Calls Tryz.prog 17 #[] w (SmV w):=(small_lay w).mono fun e w' ⟨he,hb,h1,h2,h3⟩=>⟨w.heap.size+1,w.heap.size+2,w.heap.size+3,he,hb,by omega,h1,h2,h3⟩
theorem smallD_ok:MdlOk smallD:=okB_of (by kernel_rfl)
theorem smallD_mod {q:World} {R V T:Nat} (h1:On q R (.cells #[.string ⟨#[]⟩,.int .i64 (-1)] 57))
   (h2:On q V (.cells #[.string ⟨#[]⟩,.int .u8 3,.int .i64 0,.int .i64 (-1),.string ⟨#[]⟩,.string ⟨#[]⟩,.slice none 0 0,.string ⟨#[]⟩,.string ⟨#[115]⟩,.int .u8 1,.int .i64 0,.int .i64 (-1),.string ⟨#[]⟩,.string ⟨#[]⟩,.slice none 0 0,.string ⟨#[68,111,111,114]⟩] 49))
   (h3:On q T (.cells #[.string ⟨#[]⟩,.int .i64 0,.int .i64 1,.slice none 0 0,.int .i64 0,.string ⟨#[]⟩,.string ⟨#[]⟩,.int .u8 1] 59)):Mod anyM q smallD ⟨none,0,none,0,some ⟨R,0,none⟩,1,some ⟨V,0,none⟩,2,some ⟨T,0,none⟩,1⟩ :=
 ⟨.inl ⟨_,_,rfl,rfl⟩,.inl ⟨_,_,rfl,rfl⟩,reg_row (x:=⟨⟨#[]⟩,-1⟩) h1,row_pts (l:=smallD.vers) h2 (fun x hx=>by
   simp only [smallD,List.mem_cons,List.not_mem_nil,or_false] at hx
   rcases hx with rfl | rfl <;> rfl),trn_row (x:=⟨⟨#[]⟩,0,1,[],0,⟨#[]⟩,⟨#[]⟩,1⟩) h3 rfl⟩
end Go.Proofs
