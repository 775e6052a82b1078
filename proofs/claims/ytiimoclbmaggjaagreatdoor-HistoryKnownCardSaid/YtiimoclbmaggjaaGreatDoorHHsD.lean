/- Walks: the law 'HistoryLies'. -/
import Derived.Test.YtiimoclbmaggjaaGreatDoorHHsC
namespace Go.Proofs
open Go.RowKit Go.Lx Go.Md Go.Shelf Go.BigFrame Go.Rgi
set_option linter.unusedVariables false
set_option maxRecDepth 100000 in
set_option maxHeartbeats 16000000 in
theorem historyLies_any {Q:Nat→BP} (m:MdlD) (p:Ph) (left:List Int) (ev:Value) (h:Int) (w:World) (h1:Mod Q w m p) (hm:MdlOk m) (hT:Tab w) (hr:RowIn w ev left) (hl:left.length≤140737488355328) :
   Calls Tryz.prog 12 #[mdV m p,ev,.int .i64 h] w fun e w'=>e=.returned (.bool true)∧Below w.heap.size w w':=by
 obtain ⟨a1,c1,rfl,_,_⟩:=hr.len
 have HB:=Lib.hid (Mb.made h1)
 have SM:=Lib.hid (fun wx (g:Mb m p w.heap.size w wx)=>small21_any m p a1 none left.length c1 0 0 wx g.mod hm hl (by omega))
 have WK:=Lib.hid (fun wx (g:Below w.heap.size w wx)=>works21 wx (hT.next g))
 have NO:=Lib.hid (fun (hs:Sm21 m left.length 0) wx (g:Mb m p w.heap.size w wx)=>none21_any m p wx g.mod (by have:=hs.rg;omega))
 have NT:=Lib.hid (fun (hs:Sm21 m left.length 0) wx (g:Mb m p w.heap.size w wx) (lv':Value) (hr':RowIn wx lv' (List.replicate m.regs.length (-1)))=>note_any m p _ left lv' (.slice a1 left.length c1) wx g.mod hm (hT.next g.bel) hr' (by have:=hs.rg;simp;omega) (hr.below g.bel) (by have:=hs.a;omega))
 obtain ⟨L,hL⟩:∃ L,noteM m (List.replicate m.regs.length (-1)) left=L:=⟨_,rfl⟩
 have hLl:Hid (Sm21 m left.length 0→L.length≤1000):=Lib.hid (fun hs=>by
   rw [← hL]
   unfold noteM
   split
   · rw [notes_len,List.length_replicate];have:=hs.rg;omega
   · simp)
 rw [hL] at NT
 have ET:=Lib.hid (fun (hs:Sm21 m left.length 0) wx (g:Mb m p w.heap.size w wx) (lv':Value) (hr':RowIn wx lv' L)=>ends_any m p L lv' h wx g.mod hm (hT.next g.bel) hr' (by have:=hLl.out hs;omega) (by have:=hs.rg;omega) (by have:=hs.vr;omega) (by have:=hs.tr;omega))
 have RF:=Lib.hid (fun (hs:Sml m) wx (g:Mb m p w.heap.size w wx)=>ref_any m p wx g.mod hs)
 have HP:=Lib.hid (fun (z:Int) wx=>(show Calls Tryz.prog 69 #[.int .i64 z,.int .i64 m.vers.length] wx fun e w'=>e=.returned (.bool (hasV m z))∧wx=w' from place_any z m.vers.length wx))
 have HLies:=Lib.hid (fun (he:(endsM m L h).2=true)=>ends_lies he)
 have HNil:=Lib.hid (show (endsM m L h).2=false→(endsM m L h).1=[] from fun he=>by
   unfold endsM at he ⊢
   split at he
   · cases he
   · rename_i hc;rw [if_neg hc])
 have HV:=Lib.hid (fun wx (g:Mb m p w.heap.size w wx) (j:Nat) (hj:j<m.vers.length)=>g.mod.vers.get hj)
 have hcapv:=Lib.hid (fun h0=>h1.vers.cap h0)
 have hvl:=hm.vers
 have hrl:=hm.regs
 have HUn:=Lib.hid (fun (h0:riM m=(0,0,0)) (pr:Ph) wx (hx:Mod anyM wx m pr) (a b:Int)=>runder16_any m pr a b wx hx h0 hvl hrl)
 have HIn:=Lib.hid (fun (h0:riM m=(0,0,0)) (pr:Ph) wx (hx:Mod anyM wx m pr) (a b:Int)=>rin16_any m pr a b wx hx h0 hvl hrl)
 have HRg:=Lib.hid (fun (hs:Sm21 m left.length 0) (pr:Ph) wx (hx:Mod anyM wx m pr) (a:Int)=>rregions16_any m pr a wx hx (by have:=hs.rg;omega))
 unfold EndsP at ET
 generalize endsM m L h=en at ET HLies HNil
 obtain ⟨el,eb⟩:=en
 unfold mdV at SM NO NT ET RF ⊢
 unfold ixV mdV at HUn HIn HRg
 dsimp only at ET HLies HNil
 obtain ⟨n1,hn1⟩:∃ n,left.length=n:=⟨_,rfl⟩
 rw [hn1] at SM NO NT ET hLl HRg ⊢
 clear h1 hm hT hr hn1 hl hL
 go_enter Tryz.func12,Tryz.ntmps12
 go_wp2_with fail
 (with_reducible refine (SM.out _ HB.out).mono ?_)
 rintro e w3 ⟨⟨b1,rfl,s1⟩,g3⟩
 have HB3:=Lib.hid (HB.out.below g3)
 have HSt:=Lib.hid s1
 clear s1 g3 HB SM
 cases b1
 · go_wp2_with fail
   (with_reducible refine (WK.out _ HB3.out.bel).mono ?_)
   rintro e w4 ⟨rfl,g4⟩
   go_wp2_with fail
   go_ret
   exact ⟨rfl,(HB3.out.below g4).bel⟩
 have hS:=Lib.hid (HSt.out rfl)
 have hs:=Lib.hid (few_sml hS.out.few)
 have NO':=Lib.hid (NO.out hS.out)
 have NT':=Lib.hid (NT.out hS.out)
 have ET':=Lib.hid (ET.out hS.out)
 have HRg':=Lib.hid (HRg.out hS.out)
 have hLb:=Lib.hid (hLl.out hS.out)
 have HS3:Hid (∀ W',Below w3.heap.size w3 W'→W'.cell? ⟨w.heap.size,0,none⟩=some (.string m.nm)∧W'.cell? ⟨w.heap.size,1,none⟩=some (.slice p.a1 m.vars.length p.c1)∧W'.cell? ⟨w.heap.size,2,none⟩=some (.slice p.a2 m.evs.length p.c2)∧W'.cell? ⟨w.heap.size,3,none⟩=some (.slice p.a3 m.regs.length p.c3)∧W'.cell? ⟨w.heap.size,4,none⟩=some (.slice p.a4 m.vers.length p.c4)∧W'.cell? ⟨w.heap.size,5,none⟩=some (.slice p.a5 m.trns.length p.c5)):=fun W' g=>by
   obtain ⟨x0,x1,x2,x3,x4,x5,_⟩:=(HB3.out.below g).box
   exact ⟨x0,x1,x2,x3,x4,x5⟩
 have hB30:Below w3.heap.size w3 w3:=Below.refl _ _
 clear HSt NO NT ET HRg hLl
 go_wp2_with fail
 refine wp_region_any (by kernel_rfl) ?_
 change wpAny _ _ _ _ _ _ _ (World.drew _)
 refine wpAny_of_heldS (S:=(fun W'=>W'.cell? ⟨w.heap.size,0,none⟩=some (.string m.nm)∧W'.cell? ⟨w.heap.size,1,none⟩=some (.slice p.a1 m.vars.length p.c1)∧W'.cell? ⟨w.heap.size,2,none⟩=some (.slice p.a2 m.evs.length p.c2)∧W'.cell? ⟨w.heap.size,3,none⟩=some (.slice p.a3 m.regs.length p.c3)∧W'.cell? ⟨w.heap.size,4,none⟩=some (.slice p.a4 m.vers.length p.c4)∧W'.cell? ⟨w.heap.size,5,none⟩=some (.slice p.a5 m.trns.length p.c5))) ?_ (fun hHeld=>?_)
 · (try dsimp only) <;> (first | exact HS3.out _ (by assumption) | exact HS3.out _ hB30.drew)
 refine tk 0 rfl ?_
 try simp only [Act.put,lyA,lyZ,lyS]
 refine tk 2 rfl ?_
 try simp only [Act.put,lyA,lyZ,lyS]
 refine tk 3 rfl ?_
 try simp only [Act.put,lyA,lyZ,lyS]
 refine rdy [1] ?_
 refine rdC rfl (fun K hK=>?_) ?_
 (go_simp;(with_reducible refine (NO'.out _ (HB3.out.below hB30.drew)).mono ?_);rintro e w4 ⟨v22,rfl,o22,hb4⟩;have hB34:Below w3.heap.size w3 w4:=hB30.drew.trans hb4;have R22:=Lib.hid (RowIn.own o22);clear o22;go_wp2_with fail)
 refine hK.out _ _ ?_ (fun hH1=>?_)
 · (try dsimp only) <;> (first | exact HS3.out _ (by assumption) | exact HS3.out _ hB30.drew)
 clear hK K hHeld
 try simp only [Act.put,lyA,lyZ,lyS]
 refine rdy [4] ?_
 refine rdC rfl (fun K hK=>?_) ?_
 (go_simp;(with_reducible refine (NT'.out _ (HB3.out.below hB34) _ R22.out).mono ?_);rintro e w5 ⟨v7,rfl,o7,hb5⟩;have hB35:Below w3.heap.size w3 w5:=below_chain hB34 hb5;have R7:=Lib.hid (RowIn.own o7);have O7:=Lib.hid o7;clear o7;go_wp2_with fail)
 refine hK.out _ _ ?_ (fun hH2=>?_)
 · (try dsimp only) <;> (first | exact HS3.out _ (by assumption) | exact HS3.out _ hB30.drew)
 clear hK K hH1
 try simp only [Act.put,lyA,lyZ,lyS]
 refine tk 5 rfl ?_
 try simp only [Act.put,lyA,lyZ,lyS]
 refine wpAnyH_done (by kernel_rfl) ?_ _
 rotate_left
 exact AllReadyH.nil
 exact AllReadyH.nil
 all_goals
   have HB5:=Lib.hid (HB3.out.below hB35)
   obtain ⟨a7,c7,rfl⟩:=ownsRow_slice O7.out
   clear HS3 hB30 hB34 hB35 hb4 hb5 NO' NT' HB3 R22 O7
   obtain ⟨x0,x1,x2,x3,x4,x5,_⟩:=HB5.out.box
   obtain ⟨n7,hn7⟩:∃ n,L.length=n:=⟨_,rfl⟩
   have HN7:=Lib.hid hn7
   have hn7b:n7≤1000:=by rw [← hn7];exact hLb.out
   rw [hn7] at R7 ⊢
   clear hn7
   go_wp2_with fail
   (with_reducible refine (ET'.out _ HB5.out _ R7.out).mono ?_)
   rintro e w6 ⟨v8,rfl,o8,g6⟩
   have HB6:=Lib.hid (HB5.out.below g6)
   have R7':=Lib.hid (R7.out.below g6)
   have R8:=Lib.hid (RowIn.own o8)
   obtain ⟨a8,c8,rfl⟩:=ownsRow_slice o8
   clear g6 o8 HB5 R7 x0 x1 x2 x3 x4 x5 ET'
   cases eb
   · have hnil:=HNil.out rfl
     subst hnil
     clear HLies
     go_wp2_with fail
     (with_reducible refine (WK.out _ HB6.out.bel).mono ?_)
     rintro e w7 ⟨rfl,g7⟩
     go_wp2_with fail
     go_ret
     exact ⟨rfl,(HB6.out.below g7).bel⟩
   have HL:=Lib.hid (HLies.out rfl)
   clear HLies HNil
   obtain ⟨k0,rfl,hk0⟩:=hasV_yes HL.out.has
   have hfit:=HL.out.fits
   unfold fitsM at hfit
   simp only [Bool.and_eq_true,beq_iff_eq] at hfit
   have h0:=riM_ok hfit.1.1
   have hl7:Hid (n7=m.regs.length):=Lib.hid (by rw [← HN7.out];exact hfit.1.2)
   have H0:=Lib.hid h0
   have HPk:Hid (∀ wx,Calls Tryz.prog 69 #[.int .i64 k0,.int .i64 m.vers.length] wx fun e w'=>e=.returned (.bool true)∧wx=w'):=fun wx=>by
     have:=HP.out (k0:Int) wx
     rw [HL.out.has] at this
     exact this
   have d7:((n7:Int) != (m.regs.length:Int))=false:=by simp only [bne_eq_false_iff_eq];have:=hl7.out;omega
   have hn8p:0<el.length:=by
     rcases Nat.eq_zero_or_pos el.length with e | e
     · exact absurd (List.eq_nil_of_length_eq_zero e) HL.out.ne
     · exact e
   have hn8b:el.length≤1000:=by have:=HL.out.le;have:=hS.out.vr;omega
   have HUn':=Lib.hid (HUn.out h0)
   have HIn':=Lib.hid (HIn.out h0)
   obtain ⟨n8,hn8⟩:∃ n,el.length=n:=⟨_,rfl⟩
   have HN8:=Lib.hid hn8
   rw [hn8] at R8 hn8p hn8b ⊢
   have d8:((n8:Int) == 0)=false:=by simp;omega
   have hcp:=hcapv.out (by omega)
   have hki:(k0:Int)<(m.vers.length:Int):=by omega
   have hki0:(0:Int)≤(k0:Int):=by omega
   have HVk:=Lib.hid (fun wx (g:Mb m p w.heap.size w wx)=>HV.out wx g k0 hk0)
   have hrg:rgA m (k0:Int)=m.vers[k0].rg:=by unfold rgA;rw [Int.toNat_natCast,List.getElem?_eq_getElem hk0]
   have hkd:kdA m (k0:Int)=m.vers[k0].kd:=by unfold kdA;rw [Int.toNat_natCast,List.getElem?_eq_getElem hk0]
   obtain ⟨x,hx⟩:∃ x,x=m.vers[k0]:=⟨_,rfl⟩
   rw [← hx] at HVk hrg hkd
   have HRgA:=Lib.hid hrg
   have HKdA:=Lib.hid hkd
   obtain ⟨x0,x1,x2,x3,x4,x5,_⟩:=HB6.out.box
   clear hfit h0 HUn HIn hn8 hrg hkd hx hcapv
   go_wp2_with fail
   (with_reducible refine (RF.out hs.out _ HB6.out).mono ?_)
   rintro e w8 ⟨pr,rfl,hmr,g8⟩
   have HB8:=Lib.hid (HB6.out.below g8)
   have HR9:=Lib.hid (Mb.madeT hmr 93)
   have HB9:=Lib.hid (HB8.out.below (below_al1 w8 (.cells #[.string m.nm,.slice pr.a1 m.vars.length pr.c1,.slice pr.a2 m.evs.length pr.c2,.slice pr.a3 m.regs.length pr.c3,.slice pr.a4 m.vers.length pr.c4,.slice pr.a5 m.trns.length pr.c5] 93)))
   have R8':=Lib.hid ((R8.out.below g8).below (below_al1 w8 (.cells #[.string m.nm,.slice pr.a1 m.vars.length pr.c1,.slice pr.a2 m.evs.length pr.c2,.slice pr.a3 m.regs.length pr.c3,.slice pr.a4 m.vers.length pr.c4,.slice pr.a5 m.trns.length pr.c5] 93)))
   have R7'':=Lib.hid ((R7'.out.below g8).below (below_al1 w8 (.cells #[.string m.nm,.slice pr.a1 m.vars.length pr.c1,.slice pr.a2 m.evs.length pr.c2,.slice pr.a3 m.regs.length pr.c3,.slice pr.a4 m.vers.length pr.c4,.slice pr.a5 m.trns.length pr.c5] 93)))
   have hsl:=HB8.out.box.sl
   obtain ⟨y0,y1,y2,y3,y4,y5,_⟩:=HB8.out.box
   clear g8 hmr R8 R7' HB6 x0 x1 x2 x3 x4 x5 RF
   unfold mdV
   go_wp2_with fail
   (with_reducible refine (HPk.out _).mono ?_)
   rintro e w9 ⟨rfl,rfl⟩
   clear HB8
   go_wp2_with fail
   generalize w8.alloc (.cells #[.string m.nm,.slice pr.a1 m.vars.length pr.c1,.slice pr.a2 m.evs.length pr.c2,.slice pr.a3 m.regs.length pr.c3,.slice pr.a4 m.vers.length pr.c4,.slice pr.a5 m.trns.length pr.c5] 93)=w9 at *
   clear y0 y1 y2 y3 y4 y5 hsl HPk
   have HRL8:=Lib.hid (R8'.out.len)
   have HRL7:=Lib.hid (R7''.out.len)
   obtain ⟨b2,o2,ha2,hbl2,dv,_,r0,r1,r2,_⟩:=HVk.out w9 HB9.out
   have HA2:=Lib.hid ha2
   have r1h:=Lib.hid r1
   have r2h:=Lib.hid r2
   have HCm:Hid (∀ W',Below w9.heap.size w9 W'→(W'.cell? ⟨w8.heap.size,0,none⟩=some (.string m.nm)∧W'.cell? ⟨w8.heap.size,1,none⟩=some (.slice pr.a1 m.vars.length pr.c1)∧W'.cell? ⟨w8.heap.size,2,none⟩=some (.slice pr.a2 m.evs.length pr.c2)∧W'.cell? ⟨w8.heap.size,3,none⟩=some (.slice pr.a3 m.regs.length pr.c3)∧W'.cell? ⟨w8.heap.size,4,none⟩=some (.slice pr.a4 m.vers.length pr.c4)∧W'.cell? ⟨w8.heap.size,5,none⟩=some (.slice pr.a5 m.trns.length pr.c5))∧W'.cell? ⟨w.heap.size,4,none⟩=some (.slice (some ⟨b2,o2,none⟩) m.vers.length p.c4)∧W'.cell? ⟨b2,o2+k0 * 8+2,none⟩=some (.int .i64 x.rg)∧W'.cell? ⟨b2,o2+k0 * 8+1,none⟩=some (.int .u8 x.kd)):=fun W' g=>by
     obtain ⟨y0,y1,y2,y3,y4,y5,_⟩:=(HR9.out.below g).box
     obtain ⟨_,_,_,_,x4,_⟩:=(HB9.out.below g).box
     exact ⟨⟨y0,y1,y2,y3,y4,y5⟩,by rw [← HA2.out];exact x4,(g.cell (p:=⟨b2,o2+k0 * 8+2,none⟩) hbl2).trans r2h.out,(g.cell (p:=⟨b2,o2+k0 * 8+1,none⟩) hbl2).trans r1h.out⟩
   have HUw:=Lib.hid (fun wx (g:Below w9.heap.size w9 wx) (a b:Int)=>HUn'.out pr wx (HR9.out.below g).mod.any a b)
   have HIw:=Lib.hid (fun wx (g:Below w9.heap.size w9 wx) (a b:Int)=>HIn'.out pr wx (HR9.out.below g).mod.any a b)
   have HRw:=Lib.hid (fun wx (g:Below w9.heap.size w9 wx) (a:Int)=>HRg'.out pr wx (HR9.out.below g).mod.any a)
   have HSb:=Lib.hid (fun b o (e:p.a4=some ⟨b,o,none⟩)=>(show b=b2∧o=o2 by rw [HA2.out] at e;simp only [Option.some.injEq,Addr.mk.injEq,and_true] at e;exact ⟨e.1.symm,e.2.symm⟩))
   have HVw:=Lib.hid (fun (j:Nat) (hj:j<m.vers.length)=>HV.out w9 HB9.out j hj)
   have WKw:=Lib.hid (fun wx (g:Below w9.heap.size w9 wx)=>WK.out wx (HB9.out.below g).bel)
   have HBw:=Lib.hid HB9.out.bel
   clear r0 r1 r2 ha2 hbl2 HVk HV HUn' HIn' HRg' HB9 HR9 R8' R7'' WK r1h r2h HA2
   go_loopw [12] (fun a wr=>∃ i:Nat,i≤n8∧a=.int .i64 i∧Below w9.heap.size w9 wr) (fun a _=>n8 - (intOf a).toNat)
   case atStart=>exact ⟨0,by omega,rfl,Below.refl _ _⟩
   case round =>
    obtain ⟨wo,rfl⟩:∃ wo:World,wo=wr:=⟨_,rfl⟩
    obtain ⟨i,hi,rfl,hb⟩:=hrel
    have HBo:=Lib.hid hb
    clear hb
    by_cases hlt:i<n8
    · have hiI:(i:Int)<(n8:Int):=by omega
      have hi0:(0:Int)≤(i:Int):=by omega
      have hil:i<el.length:=by rw [HN8.out];exact hlt
      obtain ⟨a',c',e,_,q8⟩:=HRL8.out
      obtain ⟨b8,o8,ea8,hbl8,hcl8⟩:=q8 i hil
      simp only [Value.slice.injEq] at e
      obtain ⟨rfl,e',rfl⟩:=e
      clear e'
      subst ea8
      have HC8:Hid (∀ W',Below w9.heap.size w9 W'→∀ j (hj:j<el.length),W'.cell? ⟨b8,o8+j,none⟩=some (.int .i64 el[j])):=fun W' g j hj=>by
        obtain ⟨b8',o8',e8,hbl,hc⟩:=q8 j hj
        simp only [Option.some.injEq,Addr.mk.injEq,and_true] at e8
        obtain ⟨rfl,rfl⟩:=e8
        exact (g.cell (p:=⟨b8,o8+j,none⟩) hbl).trans hc
      have hmem:el[i] ∈ el:=List.getElem_mem hil
      have hv1:=HL.out.vtx _ hmem
      have hin:=HL.out.ins _ hmem
      rw [HRgA.out] at hin
      have HAp:=Lib.hid (fun (j:Nat) (hj:j<el.length)=>HL.out.apart _ hmem _ (List.getElem_mem hj))
      have HNd:=Lib.hid (fun (j:Nat) (hj:j<el.length) (hne:i≠j)=>(fun e=>hne ((List.getElem_inj HL.out.nodup).1 e):el[i]≠el[j]))
      have HLf:=Lib.hid (fun (hk8:x.kd≠8)=>HL.out.leaf (by rw [HKdA.out];exact hk8) _ hmem)
      have HPy:Hid (∀ wx,Calls Tryz.prog 69 #[.int .i64 el[i],.int .i64 m.vers.length] wx fun e w'=>e=.returned (.bool true)∧wx=w'):=fun wx=>by
        have:=HP.out el[i] wx
        rw [hv1] at this;exact this
      have HIy:Hid (∀ wx,Below w9.heap.size w9 wx→Calls Tryz.prog 70 #[.agg #[.string m.nm,.slice pr.a1 m.vars.length pr.c1,.slice pr.a2 m.evs.length pr.c2,.slice pr.a3 m.regs.length pr.c3,.slice pr.a4 m.vers.length pr.c4,.slice pr.a5 m.trns.length pr.c5],.int .i64 el[i],.int .i64 x.rg] wx fun e w'=>e=.returned (.bool true)∧Below wx.heap.size wx w'):=fun wx g=>by
        have:=HIw.out wx g el[i] x.rg
        rw [hin] at this;exact this
      have HE8:=Lib.hid (fun W' g=>HC8.out W' g i hil)
      obtain ⟨y,hy⟩:∃ y,el[i]=y:=⟨_,rfl⟩
      rw [hy] at HAp HNd HLf HPy HIy HE8
      clear hmem hv1 hin q8 hcl8
      have HS14:Hid (∀ W',Below w9.heap.size w9 W'→(W'.cell? ⟨w8.heap.size,0,none⟩=some (.string m.nm)∧W'.cell? ⟨w8.heap.size,1,none⟩=some (.slice pr.a1 m.vars.length pr.c1)∧W'.cell? ⟨w8.heap.size,2,none⟩=some (.slice pr.a2 m.evs.length pr.c2)∧W'.cell? ⟨w8.heap.size,3,none⟩=some (.slice pr.a3 m.regs.length pr.c3)∧W'.cell? ⟨w8.heap.size,4,none⟩=some (.slice pr.a4 m.vers.length pr.c4)∧W'.cell? ⟨w8.heap.size,5,none⟩=some (.slice pr.a5 m.trns.length pr.c5))∧W'.cell? ⟨w.heap.size,4,none⟩=some (.slice (some ⟨b2,o2,none⟩) m.vers.length p.c4)∧W'.cell? ⟨b2,o2+k0 * 8+2,none⟩=some (.int .i64 x.rg)∧W'.cell? ⟨b8,o8+i,none⟩=some (.int .i64 y)):=fun W' g=>by
        obtain ⟨q1,q2,q3,_⟩:=HCm.out W' g
        exact ⟨q1,q2,q3,HE8.out W' g⟩
      have HS22:Hid (∀ W',Below w9.heap.size w9 W'→(W'.cell? ⟨w8.heap.size,0,none⟩=some (.string m.nm)∧W'.cell? ⟨w8.heap.size,1,none⟩=some (.slice pr.a1 m.vars.length pr.c1)∧W'.cell? ⟨w8.heap.size,2,none⟩=some (.slice pr.a2 m.evs.length pr.c2)∧W'.cell? ⟨w8.heap.size,3,none⟩=some (.slice pr.a3 m.regs.length pr.c3)∧W'.cell? ⟨w8.heap.size,4,none⟩=some (.slice pr.a4 m.vers.length pr.c4)∧W'.cell? ⟨w8.heap.size,5,none⟩=some (.slice pr.a5 m.trns.length pr.c5))∧W'.cell? ⟨b8,o8+i,none⟩=some (.int .i64 y)):=fun W' g=>by
        obtain ⟨q1,q2,q3,_⟩:=HCm.out W' g
        exact ⟨q1,HE8.out W' g⟩
      clear hy
      go_wp2_with fail
      refine wp_region_any (by kernel_rfl) ?_
      change wpAny _ _ _ _ _ _ _ (World.drew _)
      refine wpAny_of_heldS (S:=(fun W'=>(W'.cell? ⟨w8.heap.size,0,none⟩=some (.string m.nm)∧W'.cell? ⟨w8.heap.size,1,none⟩=some (.slice pr.a1 m.vars.length pr.c1)∧W'.cell? ⟨w8.heap.size,2,none⟩=some (.slice pr.a2 m.evs.length pr.c2)∧W'.cell? ⟨w8.heap.size,3,none⟩=some (.slice pr.a3 m.regs.length pr.c3)∧W'.cell? ⟨w8.heap.size,4,none⟩=some (.slice pr.a4 m.vers.length pr.c4)∧W'.cell? ⟨w8.heap.size,5,none⟩=some (.slice pr.a5 m.trns.length pr.c5))∧W'.cell? ⟨w.heap.size,4,none⟩=some (.slice (some ⟨b2,o2,none⟩) m.vers.length p.c4)∧W'.cell? ⟨b2,o2+k0 * 8+2,none⟩=some (.int .i64 x.rg)∧W'.cell? ⟨b8,o8+i,none⟩=some (.int .i64 y))) ?_ (fun hHeld=>?_)
      · (try dsimp only) <;> (first | exact HS14.out _ (by assumption) | exact HS14.out _ HBo.out.drew)
      refine tk 0 rfl ?_
      try simp only [Act.put,lyA,lyZ,lyS]
      refine tk 1 rfl ?_
      try simp only [Act.put,lyA,lyZ,lyS]
      refine tk 2 rfl ?_
      try simp only [Act.put,lyA,lyZ,lyS]
      refine tk 3 rfl ?_
      try simp only [Act.put,lyA,lyZ,lyS]
      refine tk 4 rfl ?_
      try simp only [Act.put,lyA,lyZ,lyS]
      refine rdy [5] ?_
      refine rdC rfl (fun K hK=>?_) ?_
      (go_simp;(with_reducible refine (HPy.out _).mono ?_);rintro e w10 ⟨rfl,rfl⟩;go_wp2_with fail)
      refine hK.out _ _ ?_ (fun hH1=>?_)
      · (try dsimp only) <;> (first | exact HS14.out _ (by assumption) | exact HS14.out _ HBo.out.drew)
      clear hK K hHeld
      try simp only [Act.put,lyA,lyZ,lyS]
      refine tk 6 rfl ?_
      try simp only [Act.put,lyA,lyZ,lyS]
      refine tk 7 rfl ?_
      try simp only [Act.put,lyA,lyZ,lyS]
      refine tk 8 rfl ?_
      try simp only [Act.put,lyA,lyZ,lyS]
      refine tk 9 rfl ?_
      try simp only [Act.put,lyA,lyZ,lyS]
      refine tk 10 rfl ?_
      try simp only [Act.put,lyA,lyZ,lyS]
      refine tk 11 rfl ?_
      try simp only [Act.put,lyA,lyZ,lyS]
      refine tk 12 rfl ?_
      try simp only [Act.put,lyA,lyZ,lyS]
      refine tk 13 rfl ?_
      try simp only [Act.put,lyA,lyZ,lyS]
      refine tk 14 rfl ?_
      try simp only [Act.put,lyA,lyZ,lyS]
      refine tk 15 rfl ?_
      try simp only [Act.put,lyA,lyZ,lyS]
      refine tk 16 rfl ?_
      try simp only [Act.put,lyA,lyZ,lyS]
      refine tk 17 rfl ?_
      try simp only [Act.put,lyA,lyZ,lyS]
      refine tk 18 rfl ?_
      try simp only [Act.put,lyA,lyZ,lyS]
      refine rdy [19] ?_
      refine rdC rfl (fun K hK=>?_) ?_
      (go_simp;(with_reducible refine (HIy.out _ (by first | assumption | exact HBo.out.drew)).mono ?_);rintro e w11 ⟨rfl,hb11⟩;have hB11:Below w9.heap.size w9 w11:=below_chain (by first | assumption | exact HBo.out.drew) hb11;go_wp2_with fail)
      refine hK.out _ _ ?_ (fun hH2=>?_)
      · (try dsimp only) <;> (first | exact HS14.out _ (by assumption) | exact HS14.out _ HBo.out.drew)
      clear hK K hH1
      try simp only [Act.put,lyA,lyZ,lyS]
      refine tk 20 rfl ?_
      try simp only [Act.put,lyA,lyZ,lyS]
      refine tk 21 rfl ?_
      try simp only [Act.put,lyA,lyZ,lyS]
      refine wpAnyH_done (by kernel_rfl) ?_ _
      rotate_left
      exact AllReadyH.nil
      exact AllReadyH.nil
      all_goals
        have HB11:=Lib.hid hB11
        clear hB11 hb11 HPy HIy HS14
        go_wp2_with fail
        go_loopw [13] (fun a wr=>∃ j:Nat,j≤n8∧a=.int .i64 j∧Below w9.heap.size w9 wr) (fun a _=>n8 - (intOf a).toNat)
        case atStart=>exact ⟨0,by omega,rfl,HB11.out⟩
        case round =>
         obtain ⟨wp,rfl⟩:∃ wp:World,wp=wr:=⟨_,rfl⟩
         obtain ⟨j,hj,rfl,hb⟩:=hrel
         have HBp:=Lib.hid hb
         clear hb
         by_cases hjlt:j<n8
         · have hjI:(j:Int)<(n8:Int):=by omega
           have hj0:(0:Int)≤(j:Int):=by omega
           have hjl:j<el.length:=by rw [HN8.out];exact hjlt
           have hap:=HAp.out j hjl
           have hnd:=HNd.out j hjl
           have HE8j:=Lib.hid (fun W' g=>HC8.out W' g j hjl)
           obtain ⟨z,hz⟩:∃ z,el[j]=z:=⟨_,rfl⟩
           rw [hz] at hap hnd HE8j
           have HUy:Hid (∀ wx,Below w9.heap.size w9 wx→Calls Tryz.prog 71 #[.agg #[.string m.nm,.slice pr.a1 m.vars.length pr.c1,.slice pr.a2 m.evs.length pr.c2,.slice pr.a3 m.regs.length pr.c3,.slice pr.a4 m.vers.length pr.c4,.slice pr.a5 m.trns.length pr.c5],.int .i64 y,.int .i64 z] wx fun e w'=>e=.returned (.bool false)∧Below wx.heap.size wx w'):=fun wx g=>by
             have:=HUw.out wx g y z
             rw [hap] at this;exact this
           have HS19:Hid (∀ W',Below w9.heap.size w9 W'→(W'.cell? ⟨w8.heap.size,0,none⟩=some (.string m.nm)∧W'.cell? ⟨w8.heap.size,1,none⟩=some (.slice pr.a1 m.vars.length pr.c1)∧W'.cell? ⟨w8.heap.size,2,none⟩=some (.slice pr.a2 m.evs.length pr.c2)∧W'.cell? ⟨w8.heap.size,3,none⟩=some (.slice pr.a3 m.regs.length pr.c3)∧W'.cell? ⟨w8.heap.size,4,none⟩=some (.slice pr.a4 m.vers.length pr.c4)∧W'.cell? ⟨w8.heap.size,5,none⟩=some (.slice pr.a5 m.trns.length pr.c5))∧W'.cell? ⟨b8,o8+i,none⟩=some (.int .i64 y)∧W'.cell? ⟨b8,o8+j,none⟩=some (.int .i64 z)):=fun W' g=>⟨(HCm.out W' g).1,HE8.out W' g,HE8j.out W' g⟩
           clear hz hap HE8j
           by_cases hji:j=i
           · have dji:((j:Int) != (i:Int))=false:=by simp only [bne_eq_false_iff_eq];omega
             clear hnd hji
             go_wp2_with fail
             refine wp_region_any (by kernel_rfl) ?_
             change wpAny _ _ _ _ _ _ _ (World.drew _)
             refine wpAny_of_heldS (S:=(fun W'=>(W'.cell? ⟨w8.heap.size,0,none⟩=some (.string m.nm)∧W'.cell? ⟨w8.heap.size,1,none⟩=some (.slice pr.a1 m.vars.length pr.c1)∧W'.cell? ⟨w8.heap.size,2,none⟩=some (.slice pr.a2 m.evs.length pr.c2)∧W'.cell? ⟨w8.heap.size,3,none⟩=some (.slice pr.a3 m.regs.length pr.c3)∧W'.cell? ⟨w8.heap.size,4,none⟩=some (.slice pr.a4 m.vers.length pr.c4)∧W'.cell? ⟨w8.heap.size,5,none⟩=some (.slice pr.a5 m.trns.length pr.c5))∧W'.cell? ⟨b8,o8+i,none⟩=some (.int .i64 y)∧W'.cell? ⟨b8,o8+j,none⟩=some (.int .i64 z))) ?_ (fun hHeld=>?_)
             · (try dsimp only) <;> (first | exact HS19.out _ (by assumption) | exact HS19.out _ HBp.out.drew)
             refine tk 0 rfl ?_
             try simp only [Act.put,lyA,lyZ,lyS]
             refine tk 1 rfl ?_
             try simp only [Act.put,lyA,lyZ,lyS]
             refine tk 2 rfl ?_
             try simp only [Act.put,lyA,lyZ,lyS]
             refine tk 3 rfl ?_
             try simp only [Act.put,lyA,lyZ,lyS]
             refine tk 4 rfl ?_
             try simp only [Act.put,lyA,lyZ,lyS]
             refine tk 5 rfl ?_
             try simp only [Act.put,lyA,lyZ,lyS]
             refine tk 6 rfl ?_
             try simp only [Act.put,lyA,lyZ,lyS]
             refine tk 7 rfl ?_
             try simp only [Act.put,lyA,lyZ,lyS]
             refine tk 8 rfl ?_
             try simp only [Act.put,lyA,lyZ,lyS]
             refine rdy [9] ?_
             refine rdC rfl (fun K hK=>?_) ?_
             (go_simp;(with_reducible refine (HUy.out _ (by first | assumption | exact HBp.out.drew)).mono ?_);rintro e w12 ⟨rfl,hb12⟩;have hB12:Below w9.heap.size w9 w12:=below_chain (by first | assumption | exact HBp.out.drew) hb12;go_wp2_with fail)
             refine hK.out _ _ ?_ (fun hH1=>?_)
             · (try dsimp only) <;> (first | exact HS19.out _ (by assumption) | exact HS19.out _ HBp.out.drew)
             clear hK K hHeld
             try simp only [Act.put,lyA,lyZ,lyS]
             refine tk 10 rfl ?_
             try simp only [Act.put,lyA,lyZ,lyS]
             refine tk 11 rfl ?_
             try simp only [Act.put,lyA,lyZ,lyS]
             refine tk 12 rfl ?_
             try simp only [Act.put,lyA,lyZ,lyS]
             refine tk 13 rfl ?_
             try simp only [Act.put,lyA,lyZ,lyS]
             refine tk 14 rfl ?_
             try simp only [Act.put,lyA,lyZ,lyS]
             refine tkP 15 rfl ?_
             try simp only [Act.put,lyA,lyZ,lyS]
             refine tkP 16 rfl ?_
             try simp only [Act.put,lyA,lyZ,lyS]
             refine tkP 17 rfl ?_
             try simp only [Act.put,lyA,lyZ,lyS]
             refine tkP 18 rfl ?_
             try simp only [Act.put,lyA,lyZ,lyS]
             refine tkP 19 rfl ?_
             try simp only [Act.put,lyA,lyZ,lyS]
             refine tkP 20 rfl ?_
             try simp only [Act.put,lyA,lyZ,lyS]
             refine tkP 21 rfl ?_
             try simp only [Act.put,lyA,lyZ,lyS]
             refine tkP 22 rfl ?_
             try simp only [Act.put,lyA,lyZ,lyS]
             refine tkP 23 rfl ?_
             try simp only [Act.put,lyA,lyZ,lyS]
             refine tk 24 rfl ?_
             try simp only [Act.put,lyA,lyZ,lyS]
             refine tk 25 rfl ?_
             try simp only [Act.put,lyA,lyZ,lyS]
             refine wpAnyH_done (by kernel_rfl) ?_ _
             rotate_left
             exact AllReadyH.nil
             all_goals
               go_wp2_with fail
               go_roundw
               case rel=>exact ⟨j+1,by omega,by go_num,hB12⟩
               case measure=>simp [intOf] <;> omega
           · have dji:((j:Int) != (i:Int))=true:=by simp only [bne_iff_ne,ne_eq];omega
             have dyz:(y == z)=false:=by simp only [beq_eq_false_iff_ne,ne_eq];exact hnd (fun e=>hji e.symm)
             clear hnd hji
             go_wp2_with fail
             refine wp_region_any (by kernel_rfl) ?_
             change wpAny _ _ _ _ _ _ _ (World.drew _)
             refine wpAny_of_heldS (S:=(fun W'=>(W'.cell? ⟨w8.heap.size,0,none⟩=some (.string m.nm)∧W'.cell? ⟨w8.heap.size,1,none⟩=some (.slice pr.a1 m.vars.length pr.c1)∧W'.cell? ⟨w8.heap.size,2,none⟩=some (.slice pr.a2 m.evs.length pr.c2)∧W'.cell? ⟨w8.heap.size,3,none⟩=some (.slice pr.a3 m.regs.length pr.c3)∧W'.cell? ⟨w8.heap.size,4,none⟩=some (.slice pr.a4 m.vers.length pr.c4)∧W'.cell? ⟨w8.heap.size,5,none⟩=some (.slice pr.a5 m.trns.length pr.c5))∧W'.cell? ⟨b8,o8+i,none⟩=some (.int .i64 y)∧W'.cell? ⟨b8,o8+j,none⟩=some (.int .i64 z))) ?_ (fun hHeld=>?_)
             · (try dsimp only) <;> (first | exact HS19.out _ (by assumption) | exact HS19.out _ HBp.out.drew)
             refine tk 0 rfl ?_
             try simp only [Act.put,lyA,lyZ,lyS]
             refine tk 1 rfl ?_
             try simp only [Act.put,lyA,lyZ,lyS]
             refine tk 2 rfl ?_
             try simp only [Act.put,lyA,lyZ,lyS]
             refine tk 3 rfl ?_
             try simp only [Act.put,lyA,lyZ,lyS]
             refine tk 4 rfl ?_
             try simp only [Act.put,lyA,lyZ,lyS]
             refine tk 5 rfl ?_
             try simp only [Act.put,lyA,lyZ,lyS]
             refine tk 6 rfl ?_
             try simp only [Act.put,lyA,lyZ,lyS]
             refine tk 7 rfl ?_
             try simp only [Act.put,lyA,lyZ,lyS]
             refine tk 8 rfl ?_
             try simp only [Act.put,lyA,lyZ,lyS]
             refine rdy [9] ?_
             refine rdC rfl (fun K hK=>?_) ?_
             (go_simp;(with_reducible refine (HUy.out _ (by first | assumption | exact HBp.out.drew)).mono ?_);rintro e w12 ⟨rfl,hb12⟩;have hB12:Below w9.heap.size w9 w12:=below_chain (by first | assumption | exact HBp.out.drew) hb12;go_wp2_with fail)
             refine hK.out _ _ ?_ (fun hH1=>?_)
             · (try dsimp only) <;> (first | exact HS19.out _ (by assumption) | exact HS19.out _ HBp.out.drew)
             clear hK K hHeld
             try simp only [Act.put,lyA,lyZ,lyS]
             refine tk 10 rfl ?_
             try simp only [Act.put,lyA,lyZ,lyS]
             refine tk 11 rfl ?_
             try simp only [Act.put,lyA,lyZ,lyS]
             refine tk 12 rfl ?_
             try simp only [Act.put,lyA,lyZ,lyS]
             refine tk 13 rfl ?_
             try simp only [Act.put,lyA,lyZ,lyS]
             refine tk 14 rfl ?_
             try simp only [Act.put,lyA,lyZ,lyS]
             refine tk 15 rfl ?_
             try simp only [Act.put,lyA,lyZ,lyS]
             refine tk 16 rfl ?_
             try simp only [Act.put,lyA,lyZ,lyS]
             refine tk 17 rfl ?_
             try simp only [Act.put,lyA,lyZ,lyS]
             refine tk 18 rfl ?_
             try simp only [Act.put,lyA,lyZ,lyS]
             refine tk 19 rfl ?_
             try simp only [Act.put,lyA,lyZ,lyS]
             refine tk 20 rfl ?_
             try simp only [Act.put,lyA,lyZ,lyS]
             refine tk 21 rfl ?_
             try simp only [Act.put,lyA,lyZ,lyS]
             refine tk 22 rfl ?_
             try simp only [Act.put,lyA,lyZ,lyS]
             refine tk 23 rfl ?_
             try simp only [Act.put,lyA,lyZ,lyS]
             refine tk 24 rfl ?_
             try simp only [Act.put,lyA,lyZ,lyS]
             refine tk 25 rfl ?_
             try simp only [Act.put,lyA,lyZ,lyS]
             refine wpAnyH_done (by kernel_rfl) ?_ _
             rotate_left
             exact AllReadyH.nil
             all_goals
               go_wp2_with fail
               go_roundw
               case rel=>exact ⟨j+1,by omega,by go_num,hB12⟩
               case measure=>simp [intOf] <;> omega
         · have hjI:¬ ((j:Int)<(n8:Int)):=by omega
           obtain ⟨_,x4,_,rk⟩:=HCm.out wp HBp.out
           clear HAp HNd HUw
           by_cases h8:x.kd=8
           · have d1:((x.kd:Int) == 8)=true:=by simp only [beq_iff_eq];omega
             clear h8 HLf HS22
             go_wp2_with fail
             go_roundw
             case rel=>exact ⟨i+1,by omega,by go_num,HBp.out⟩
             case measure=>simp [intOf] <;> omega
           · have d1:((x.kd:Int) == 8)=false:=by simp only [beq_eq_false_iff_ne,ne_eq];omega
             have HLeaf:=Lib.hid (HLf.out h8)
             have HRy:=Lib.hid (fun wx g=>HRw.out wx g y)
             have HOl:Hid ((ownM m y).length≤1000):=Lib.hid (by have:=sel_len (isOwn y) m.regs;have e:(ownM m y).length≤m.regs.length:=this;have:=hS.out.rg;omega)
             have HOm:Hid (∀ j (hj:j<(ownM m y).length),∃ q:Nat,(ownM m y)[j]=(q:Int)∧q<n7):=Lib.hid (fun j hj=>by
               obtain ⟨q,hq,e,_⟩:=(sel_mem _ _ _).1 (List.getElem_mem hj)
               exact ⟨q,e,by have:=hl7.out;omega⟩)
             clear h8 HLf
             go_wp2_with fail
             clear x4 rk
             refine wp_region_any (by kernel_rfl) ?_
             change wpAny _ _ _ _ _ _ _ (World.drew _)
             refine wpAny_of_heldS (S:=(fun W'=>(W'.cell? ⟨w8.heap.size,0,none⟩=some (.string m.nm)∧W'.cell? ⟨w8.heap.size,1,none⟩=some (.slice pr.a1 m.vars.length pr.c1)∧W'.cell? ⟨w8.heap.size,2,none⟩=some (.slice pr.a2 m.evs.length pr.c2)∧W'.cell? ⟨w8.heap.size,3,none⟩=some (.slice pr.a3 m.regs.length pr.c3)∧W'.cell? ⟨w8.heap.size,4,none⟩=some (.slice pr.a4 m.vers.length pr.c4)∧W'.cell? ⟨w8.heap.size,5,none⟩=some (.slice pr.a5 m.trns.length pr.c5))∧W'.cell? ⟨b8,o8+i,none⟩=some (.int .i64 y))) ?_ (fun hHeld=>?_)
             · (try dsimp only) <;> (first | exact HS22.out _ (by assumption) | exact HS22.out _ HBp.out.drew)
             refine tk 0 rfl ?_
             try simp only [Act.put,lyA,lyZ,lyS]
             refine tk 1 rfl ?_
             try simp only [Act.put,lyA,lyZ,lyS]
             refine tk 2 rfl ?_
             try simp only [Act.put,lyA,lyZ,lyS]
             refine tk 3 rfl ?_
             try simp only [Act.put,lyA,lyZ,lyS]
             refine tk 4 rfl ?_
             try simp only [Act.put,lyA,lyZ,lyS]
             refine rdy [5] ?_
             refine rdC rfl (fun K hK=>?_) ?_
             (go_simp;(with_reducible refine (HRy.out _ (by first | assumption | exact HBp.out.drew)).mono ?_);rintro e w13 ⟨v14,rfl,o14,hb13⟩;have hB13:Below w9.heap.size w9 w13:=below_chain (by first | assumption | exact HBp.out.drew) hb13;have R14:=Lib.hid (RowIn.own o14);clear o14;go_wp2_with fail)
             refine hK.out _ _ ?_ (fun hH1=>?_)
             · (try dsimp only) <;> (first | exact HS22.out _ (by assumption) | exact HS22.out _ HBp.out.drew)
             clear hK K hHeld
             try simp only [Act.put,lyA,lyZ,lyS]
             refine tk 6 rfl ?_
             try simp only [Act.put,lyA,lyZ,lyS]
             refine wpAnyH_done (by kernel_rfl) ?_ _
             rotate_left
             exact AllReadyH.nil
             all_goals
               have HB13:=Lib.hid hB13
               have HRL14:=Lib.hid (R14.out.len)
               obtain ⟨a14,c14,rfl,_,_⟩:=R14.out.len
               obtain ⟨n14,hn14⟩:∃ n,(ownM m y).length=n:=⟨_,rfl⟩
               have HN14:=Lib.hid hn14
               have hn14b:n14≤1000:=by rw [← hn14];exact HOl.out
               rw [hn14]
               clear hb13 hB13 HS22 R14 hn14 HRy
               go_wp2_with fail
               go_loopw [15] (fun a wr=>∃ j:Nat,j≤n14∧a=.int .i64 j∧Below w13.heap.size w13 wr) (fun a _=>n14 - (intOf a).toNat)
               case atStart=>exact ⟨0,by omega,rfl,Below.refl _ _⟩
               case round =>
                obtain ⟨wq,rfl⟩:∃ wq:World,wq=wr:=⟨_,rfl⟩
                obtain ⟨j,hj,rfl,hb⟩:=hrel
                have HBq:=Lib.hid hb
                clear hb
                by_cases hjlt:j<n14
                · have hjI':(j:Int)<(n14:Int):=by omega
                  have hj0:(0:Int)≤(j:Int):=by omega
                  have hjl:j<(ownM m y).length:=by rw [HN14.out];exact hjlt
                  obtain ⟨q,eq,hq7⟩:=HOm.out j hjl
                  have hlf:=HLeaf.out _ (List.getElem_mem hjl)
                  rw [eq] at hlf
                  obtain ⟨a',c',e,_,q14⟩:=HRL14.out
                  obtain ⟨b14,o14,ea,hbl14,hcl14⟩:=q14 j hjl
                  simp only [Value.slice.injEq] at e
                  obtain ⟨rfl,e',rfl⟩:=e
                  clear e'
                  subst ea
                  rw [eq] at hcl14
                  obtain ⟨a',c',e,_,q7⟩:=HRL7.out
                  obtain ⟨b7,o7,ea,hbl7,hcl7⟩:=q7 q (by rw [HN7.out];exact hq7)
                  simp only [Value.slice.injEq] at e
                  obtain ⟨rfl,e',rfl⟩:=e
                  clear e'
                  subst ea
                  have hat:remM m L q=Md.stM m (L[q]'(by rw [HN7.out];exact hq7)):=by
                    unfold remM atL
                    rw [Int.toNat_natCast,List.getD_eq_getElem?_getD,List.getElem?_eq_getElem (by rw [HN7.out];exact hq7)];rfl
                  rw [hat] at hlf
                  have hqI:(q:Int)<(n7:Int):=by omega
                  have hqI0:(0:Int)≤(q:Int):=by omega
                  have HBq9:=Lib.hid (below_chain HB13.out HBq.out)
                  obtain ⟨z,hz⟩:∃ z,(L[q]'(by rw [HN7.out];exact hq7))=z:=⟨_,rfl⟩
                  rw [hz] at hlf hcl7
                  have HPz:=Lib.hid (HP.out z)
                  have HS26:Hid (∀ W',Below wq.heap.size wq W'→W'.cell? ⟨w.heap.size,4,none⟩=some (.slice (some ⟨b2,o2,none⟩) m.vers.length p.c4)∧W'.cell? ⟨b14,o14+j,none⟩=some (.int .i64 q)∧W'.cell? ⟨b7,o7+q,none⟩=some (.int .i64 z)):=fun W' g=>by
                    have g9:=below_chain HBq9.out g
                    have g13:=below_chain HBq.out g
                    exact ⟨(HCm.out W' g9).2.1,(g13.cell (p:=⟨b14,o14+j,none⟩) hbl14).trans hcl14,(g9.cell (p:=⟨b7,o7+q,none⟩) hbl7).trans hcl7⟩
                  have hB0:Below wq.heap.size wq wq:=Below.refl _ _
                  clear hz hat q7 q14 eq hjl hcl14 hcl7
                  cases hvz:hasV m z with
                  | false =>
                   rw [hvz] at HPz
                   clear hvz hlf
                   go_wp2_with fail
                   refine wp_region_any (by kernel_rfl) ?_
                   change wpAny _ _ _ _ _ _ _ (World.drew _)
                   refine wpAny_of_heldS (S:=(fun W'=>W'.cell? ⟨w.heap.size,4,none⟩=some (.slice (some ⟨b2,o2,none⟩) m.vers.length p.c4)∧W'.cell? ⟨b14,o14+j,none⟩=some (.int .i64 q)∧W'.cell? ⟨b7,o7+q,none⟩=some (.int .i64 z))) ?_ (fun hHeld=>?_)
                   · (try dsimp only) <;> (exact HS26.out _ hB0.drew)
                   refine tk 0 rfl ?_
                   try simp only [Act.put,lyA,lyZ,lyS]
                   refine tk 1 rfl ?_
                   try simp only [Act.put,lyA,lyZ,lyS]
                   refine tk 2 rfl ?_
                   try simp only [Act.put,lyA,lyZ,lyS]
                   refine tk 3 rfl ?_
                   try simp only [Act.put,lyA,lyZ,lyS]
                   refine tk 4 rfl ?_
                   try simp only [Act.put,lyA,lyZ,lyS]
                   refine tk 5 rfl ?_
                   try simp only [Act.put,lyA,lyZ,lyS]
                   refine tk 6 rfl ?_
                   try simp only [Act.put,lyA,lyZ,lyS]
                   refine tk 7 rfl ?_
                   try simp only [Act.put,lyA,lyZ,lyS]
                   refine rdy [8] ?_
                   refine rdC rfl (fun K hK=>?_) ?_
                   (go_simp;(with_reducible refine (HPz.out _).mono ?_);rintro e w15 ⟨rfl,rfl⟩;go_wp2_with fail)
                   refine hK.out _ _ ?_ (fun hH1=>?_)
                   · (try dsimp only) <;> (exact HS26.out _ hB0.drew)
                   clear hK K hHeld
                   try simp only [Act.put,lyA,lyZ,lyS]
                   refine tk 9 rfl ?_
                   try simp only [Act.put,lyA,lyZ,lyS]
                   refine tkP 10 rfl ?_
                   try simp only [Act.put,lyA,lyZ,lyS]
                   refine tkP 11 rfl ?_
                   try simp only [Act.put,lyA,lyZ,lyS]
                   refine tkP 12 rfl ?_
                   try simp only [Act.put,lyA,lyZ,lyS]
                   refine tkP 13 rfl ?_
                   try simp only [Act.put,lyA,lyZ,lyS]
                   refine tkP 14 rfl ?_
                   try simp only [Act.put,lyA,lyZ,lyS]
                   refine tkP 15 rfl ?_
                   try simp only [Act.put,lyA,lyZ,lyS]
                   refine tkP 16 rfl ?_
                   try simp only [Act.put,lyA,lyZ,lyS]
                   refine tkP 17 rfl ?_
                   try simp only [Act.put,lyA,lyZ,lyS]
                   refine tkP 18 rfl ?_
                   try simp only [Act.put,lyA,lyZ,lyS]
                   refine tkP 19 rfl ?_
                   try simp only [Act.put,lyA,lyZ,lyS]
                   refine tkP 20 rfl ?_
                   try simp only [Act.put,lyA,lyZ,lyS]
                   refine tkP 21 rfl ?_
                   try simp only [Act.put,lyA,lyZ,lyS]
                   refine tkP 22 rfl ?_
                   try simp only [Act.put,lyA,lyZ,lyS]
                   refine tk 23 rfl ?_
                   try simp only [Act.put,lyA,lyZ,lyS]
                   refine wpAnyH_done (by kernel_rfl) ?_ _
                   rotate_left
                   exact AllReadyH.nil
                   all_goals
                     go_wp2_with fail
                     go_roundw
                     case rel=>exact ⟨j+1,by omega,by go_num,HBq.out.drew⟩
                     case measure=>simp [intOf] <;> omega
                  | true =>
                   obtain ⟨v,rfl,hvk⟩:=hasV_yes hvz
                   rw [hvz] at HPz
                   rw [stM_at hvk] at hlf
                   obtain ⟨b2',o2',ha2',hbl2',dv',hdv',s0,s1,_⟩:=HVw.out v hvk
                   obtain ⟨b2'',o2'',ha2'',_⟩:=HVw.out k0 hk0
                   have hsame:b2'=b2∧o2'=o2:=HSb.out b2' o2' ha2'
                   obtain ⟨rfl,rfl⟩:=hsame
                   obtain ⟨u,hu⟩:∃ u,u=m.vers[v]:=⟨_,rfl⟩
                   rw [← hu] at s1 hlf
                   have du:((u.kd:Int) == 1)=false:=by
                     simp only [beq_eq_false_iff_ne,ne_eq] at hlf ⊢;omega
                   have hvI:(v:Int)<(m.vers.length:Int):=by omega
                   have hvI0:(0:Int)≤(v:Int):=by omega
                   have HS26v:Hid (∀ W',Below wq.heap.size wq W'→W'.cell? ⟨w.heap.size,4,none⟩=some (.slice (some ⟨b2',o2',none⟩) m.vers.length p.c4)∧W'.cell? ⟨b14,o14+j,none⟩=some (.int .i64 q)∧W'.cell? ⟨b7,o7+q,none⟩=some (.int .i64 v)∧W'.cell? ⟨b2',o2'+v * 8+1,none⟩=some (.int .u8 u.kd)):=fun W' g=>by
                     obtain ⟨e1,e2,e3⟩:=HS26.out W' g
                     have g9:=below_chain HBq9.out g
                     exact ⟨e1,e2,e3,(g9.cell (p:=⟨b2',o2'+v * 8+1,none⟩) hbl2').trans s1⟩
                   clear hvz hlf ha2' ha2'' s0 s1 hu HS26 hdv'
                   go_wp2_with fail
                   refine wp_region_any (by kernel_rfl) ?_
                   change wpAny _ _ _ _ _ _ _ (World.drew _)
                   refine wpAny_of_heldS (S:=(fun W'=>W'.cell? ⟨w.heap.size,4,none⟩=some (.slice (some ⟨b2',o2',none⟩) m.vers.length p.c4)∧W'.cell? ⟨b14,o14+j,none⟩=some (.int .i64 q)∧W'.cell? ⟨b7,o7+q,none⟩=some (.int .i64 v)∧W'.cell? ⟨b2',o2'+v * 8+1,none⟩=some (.int .u8 u.kd))) ?_ (fun hHeld=>?_)
                   · (try dsimp only) <;> (exact HS26v.out _ hB0.drew)
                   refine tk 0 rfl ?_
                   try simp only [Act.put,lyA,lyZ,lyS]
                   refine tk 1 rfl ?_
                   try simp only [Act.put,lyA,lyZ,lyS]
                   refine tk 2 rfl ?_
                   try simp only [Act.put,lyA,lyZ,lyS]
                   refine tk 3 rfl ?_
                   try simp only [Act.put,lyA,lyZ,lyS]
                   refine tk 4 rfl ?_
                   try simp only [Act.put,lyA,lyZ,lyS]
                   refine tk 5 rfl ?_
                   try simp only [Act.put,lyA,lyZ,lyS]
                   refine tk 6 rfl ?_
                   try simp only [Act.put,lyA,lyZ,lyS]
                   refine tk 7 rfl ?_
                   try simp only [Act.put,lyA,lyZ,lyS]
                   refine rdy [8] ?_
                   refine rdC rfl (fun K hK=>?_) ?_
                   (go_simp;(with_reducible refine (HPz.out _).mono ?_);rintro e w15 ⟨rfl,rfl⟩;go_wp2_with fail)
                   refine hK.out _ _ ?_ (fun hH1=>?_)
                   · (try dsimp only) <;> (exact HS26v.out _ hB0.drew)
                   clear hK K hHeld
                   try simp only [Act.put,lyA,lyZ,lyS]
                   refine tk 9 rfl ?_
                   try simp only [Act.put,lyA,lyZ,lyS]
                   refine tk 10 rfl ?_
                   try simp only [Act.put,lyA,lyZ,lyS]
                   refine tk 11 rfl ?_
                   try simp only [Act.put,lyA,lyZ,lyS]
                   refine tk 12 rfl ?_
                   try simp only [Act.put,lyA,lyZ,lyS]
                   refine tk 13 rfl ?_
                   try simp only [Act.put,lyA,lyZ,lyS]
                   refine tk 14 rfl ?_
                   try simp only [Act.put,lyA,lyZ,lyS]
                   refine tk 15 rfl ?_
                   try simp only [Act.put,lyA,lyZ,lyS]
                   refine tk 16 rfl ?_
                   try simp only [Act.put,lyA,lyZ,lyS]
                   refine tk 17 rfl ?_
                   try simp only [Act.put,lyA,lyZ,lyS]
                   refine tk 18 rfl ?_
                   try simp only [Act.put,lyA,lyZ,lyS]
                   refine tk 19 rfl ?_
                   try simp only [Act.put,lyA,lyZ,lyS]
                   refine tk 20 rfl ?_
                   try simp only [Act.put,lyA,lyZ,lyS]
                   refine tk 21 rfl ?_
                   try simp only [Act.put,lyA,lyZ,lyS]
                   refine tk 22 rfl ?_
                   try simp only [Act.put,lyA,lyZ,lyS]
                   refine tk 23 rfl ?_
                   try simp only [Act.put,lyA,lyZ,lyS]
                   refine wpAnyH_done (by kernel_rfl) ?_ _
                   rotate_left
                   exact AllReadyH.nil
                   all_goals
                     go_wp2_with fail
                     go_roundw
                     case rel=>exact ⟨j+1,by omega,by go_num,HBq.out.drew⟩
                     case measure=>simp [intOf] <;> omega
                · have hjI':¬ ((j:Int)<(n14:Int)):=by omega
                  go_wp2_with fail
                  go_roundw
                  case rel=>exact ⟨i+1,by omega,by go_num,below_chain HB13.out HBq.out⟩
                  case measure=>simp [intOf] <;> omega
    · have hiI:¬ ((i:Int)<(n8:Int)):=by omega
      go_wp2_with fail
      (with_reducible refine (WKw.out _ HBo.out).mono ?_)
      rintro e w20 ⟨rfl,g20⟩
      go_wp2_with fail
      go_ret
      exact ⟨rfl,HBw.out.trans ((below_chain HBo.out g20).mono HBw.out.size)⟩
end Go.Proofs
