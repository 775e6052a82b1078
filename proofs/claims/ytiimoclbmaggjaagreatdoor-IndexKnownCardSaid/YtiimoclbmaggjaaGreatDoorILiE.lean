/- Walks: the law 'IndexLies'. -/
import Derived.Test.YtiimoclbmaggjaaGreatDoorILiC
import Derived.Test.YtiimoclbmaggjaaGreatDoorILiF
namespace Go.Proofs
open Go.RowKit Go.Lx Go.Md Go.Shelf Go.BigFrame Go.Rgi
set_option linter.unusedVariables false
theorem below_chain2 {w a b:World} (h:Below w.heap.size w a) (g:Below a.heap.size a b):Below w.heap.size w b:=h.trans (g.mono h.size)
theorem own_below16 {w w':World} {base:Nat} {e:TypeId} {size:Nat} {v:Value} {n:Nat} {xs:List Value} (h:w.ownsRow base e size v n xs) (hb:Below w.heap.size w w'):w'.ownsRow base e size v n xs:=by
 refine ⟨h.1,?_⟩
 rcases h.2 with hn | ⟨g,cap,cur,rfl,hb',hgg,rest⟩
 · exact .inl hn
 · exact .inr ⟨g,cap,cur,rfl,hb',(hb.block g (Array.getElem?_eq_some_iff.1 hgg).1).trans hgg,rest⟩
theorem count16_n (n:Nat) (H L:List Int) (a:Option Addr) (c:Nat) (lv:Value) (N M:Nat) (w:World) (hn:H.length=n) (ho:w.ownsRow N 3 1 (.slice a n c) n (nums H)) (hM:∀ g,a=some ⟨g,0,none⟩→g<M) (hr:w.ownsRow M 3 1 lv L.length (nums L)) (hH:n≤1000) (hL:L.length≤1000) (hB:∀ x ∈ H,0≤x∧x≤1000000) (hN:N≤w.heap.size) :
   Calls Tryz.prog 90 #[.slice a n c,lv] w fun e w'=>e=.returned (.slice a n c)∧w'.ownsRow N 3 1 (.slice a n c) n (nums (addL H L))∧Below N w w':=by
 subst hn;exact count16_any H L a c lv N M w ho hM hr hH hL hB hN
theorem made_nums (n:Nat):(madeCells (Value.int .i64 0).cells (n * 1)).toList=nums (List.replicate n 0):=by
 apply List.ext_getElem?
 intro j
 by_cases h:j<n <;> simp [madeCells,nums,Value.cells,Nat.mod_one,h]
set_option maxRecDepth 100000 in
set_option maxHeartbeats 16000000 in
theorem indexLies_any {Q:Nat→BP} (m:MdlD) (p:Ph) (w:World) (h:Mod Q w m p) (hm:MdlOk m) (hT:Tab w) :
   Calls Tryz.prog 21 #[mdV m p] w fun e w'=>e=.returned (.bool true)∧Below w.heap.size w w':=by
 obtain ⟨iI,hiI,zI0,zI1,zI2⟩:=info_parts info_Num
 have HB:=Lib.hid (Mb.made h)
 have F1:=Lib.hid (fun wx (g:Mb m p w.heap.size w wx)=>small16_any m p wx g.mod hm)
 have BT:=Lib.hid (fun (hs:Sm16 m) wx (g:Mb m p w.heap.size w wx)=>both16_any m p wx g.mod hm (hT.next g.bel) hs)
 have WK:=Lib.hid (fun wx (g:Below w.heap.size w wx)=>works16 wx (hT.next g))
 have hvl:=hm.vers
 unfold mdV at F1 BT ⊢
 clear h hm hT
 go_enter Tryz.func21,Tryz.ntmps21
 obtain ⟨x0,x1,x2,x3,x4,x5,_⟩:=HB.out.box
 go_wp2_with fail
 (with_reducible refine (F1.out _ HB.out).mono ?_)
 rintro e w3 ⟨⟨b1,rfl,s1⟩,g3⟩
 have HB3:=Lib.hid (HB.out.below g3)
 clear HB x0 x1 x2 x3 x4 x5 F1
 obtain ⟨x0,x1,x2,x3,x4,x5,_⟩:=HB3.out.box
 cases b1
 · go_wp2_with fail
   (with_reducible refine (WK.out _ HB3.out.bel).mono ?_)
   rintro e w4 ⟨rfl,g4⟩
   go_wp2_with fail
   go_ret
   exact ⟨rfl,HB3.out.bel.trans (g4.mono HB3.out.bel.size)⟩
 have hS:=Lib.hid (s1 rfl)
 clear s1 g3
 by_cases h25:m.vers.length≤25
 rotate_left
 · have d25:(25:Int)<(m.vers.length:Int):=by omega
   clear BT h25
   go_wp2_with fail
   (with_reducible refine (WK.out _ HB3.out.bel).mono ?_)
   rintro e w4 ⟨rfl,g4⟩
   go_wp2_with fail
   go_ret
   exact ⟨rfl,HB3.out.bel.trans (g4.mono HB3.out.bel.size)⟩
 have d25:¬ ((25:Int)<(m.vers.length:Int)):=by omega
 go_wp2_with fail
 (with_reducible refine (BT.out hS.out _ HB3.out).mono ?_)
 rintro e w4 ⟨g4,pr,(⟨hr,IB,rfl,hi,hmr⟩ | ⟨hr,rfl⟩)⟩
 rotate_left
 · have HB4:=Lib.hid (HB3.out.bel.trans (g4.mono HB3.out.bel.size))
   clear x0 x1 x2 x3 x4 x5 HB3 BT
   have G5:=Lib.hid (below_al1 w4 (.cells #[.string m.nm,.slice pr.a1 m.vars.length pr.c1,.slice pr.a2 m.evs.length pr.c2,.slice pr.a3 m.regs.length pr.c3,.slice pr.a4 m.vers.length pr.c4,.slice pr.a5 m.trns.length pr.c5] 93))
   unfold ixV mdV
   go_wp2_with fail
   (with_reducible refine (WK.out _ (HB4.out.trans (G5.out.mono HB4.out.size))).mono ?_)
   rintro e w5 ⟨rfl,g5⟩
   go_wp2_with fail
   go_ret
   exact ⟨rfl,(HB4.out.trans (G5.out.mono HB4.out.size)).trans (g5.mono (HB4.out.trans (G5.out.mono HB4.out.size)).size)⟩
 · have HB4:=Lib.hid (HB3.out.below g4)
   have HI:=Lib.hid (hi.low (Nat.zero_le _))
   have HR:=Lib.hid hr
   clear x0 x1 x2 x3 x4 x5 HB3 BT hi hmr hr
   have hz4:w.heap.size<w4.heap.size:=HB4.out.box.sl
   have HM5:Hid (Mb m p w.heap.size w (w4.alloc (.cells #[.string m.nm,.slice pr.a1 m.vars.length pr.c1,.slice pr.a2 m.evs.length pr.c2,.slice pr.a3 m.regs.length pr.c3,.slice pr.a4 m.vers.length pr.c4,.slice pr.a5 m.trns.length pr.c5] 93))):=Lib.hid (HB4.out.below (below_al1 w4 _))
   have HG5:Hid (Below w4.heap.size w4 (w4.alloc (.cells #[.string m.nm,.slice pr.a1 m.vars.length pr.c1,.slice pr.a2 m.evs.length pr.c2,.slice pr.a3 m.regs.length pr.c3,.slice pr.a4 m.vers.length pr.c4,.slice pr.a5 m.trns.length pr.c5] 93))):=Lib.hid (below_al1 w4 _)
   have hz5:(w4.alloc (.cells #[.string m.nm,.slice pr.a1 m.vars.length pr.c1,.slice pr.a2 m.evs.length pr.c2,.slice pr.a3 m.regs.length pr.c3,.slice pr.a4 m.vers.length pr.c4,.slice pr.a5 m.trns.length pr.c5] 93)).heap.size=w4.heap.size+1:=by simp
   unfold ixV mdV
   have h0:=HR.out
   have hg:=hS.out.rg
   have hAp:Hid (∀ wx,Below w4.heap.size w4 wx→Ap m p IB w.heap.size w wx):=Lib.hid fun wx g=>⟨HB4.out.below g,HI.out.grown g⟩
   have KK:=Lib.hid (fun wx (g:Below w4.heap.size w4 wx) (r:Int)=>(kids_any (hAp.out wx g).idx r (by omega)).mono (fun e w' (q:RowP (kidsR m r) wx e w')=>(show RowP (kidsM m r) wx e w' by rw [← kidsR_eq h0];exact q)))
   have KP:=Lib.hid (fun wx (g:Below w4.heap.size w4 wx) (k:Nat) (hk:k≤1000)=>points_any (hAp.out wx g).idx (k:Int) (WalkArith.wf_i64 ⟨by omega,by omega⟩) (by omega))
   have KI:=Lib.hid (fun wx (g:Below w4.heap.size w4 wx) (x y:Int)=>in_any (hAp.out wx g).idx x y h0)
   have KC:=Lib.hid (fun wx (g:Below w4.heap.size w4 wx) (x:Int)=>chain_any (hAp.out wx g).idx x h0)
   have KD:=Lib.hid (fun wx (g:Below w4.heap.size w4 wx) (k:Nat) (hk:k≤1000)=>ixdepth_any (hAp.out wx g).idx (k:Int) (WalkArith.wf_i64 ⟨by omega,by omega⟩))
   have KM:=Lib.hid (fun wx (g:Below w4.heap.size w4 wx) (x y:Int)=>common_any (hAp.out wx g).idx x y (.slice none 0 0) [] (by simp) (.inl ⟨none,0,rfl,rfl⟩) h0)
   have KA:=Lib.hid (fun wx (g:Below w4.heap.size w4 wx) (a b:Nat) (ha:a<m.vers.length) (hb:b<m.vers.length) (hne:a≠b)=>apart_any m p IB a b wx (hAp.out wx g).mb.mod (hAp.out wx g).idx h0 ha hb hne (by omega))
   unfold mdV at KA
   have HBy:Hid (iI.bytes * m.vers.length≤281474976710656):=Lib.hid (by rw [zI2];omega)
   have hmk:Hid (m.vers.length≤maxLen):=Lib.hid (by unfold maxLen;omega)
   clear h0
   obtain ⟨z0,z1,z2,z3,z4,z5,_⟩:=HM5.out.box
   go_upto_region 7 with fail
   generalize w4.alloc (.cells #[.string m.nm,.slice pr.a1 m.vars.length pr.c1,.slice pr.a2 m.evs.length pr.c2,.slice pr.a3 m.regs.length pr.c3,.slice pr.a4 m.vers.length pr.c4,.slice pr.a5 m.trns.length pr.c5] 93)=W5 at *
   have hzW:w4.heap.size≤W5.heap.size:=by omega
   go_wp2_with (at_make;refine wpList_make_full _ rfl _ _ 31 rfl w4.heap.size 3 iI (.int .i64 0) 1 Tryz.underlying31 hiI zI0 zI1 .i64 .i64 (m.vers.length:Int) (m.vers.length:Int) m.vers.length rfl rfl rfl rfl HBy.out hmk.out hzW ?_;intro w6 hown6 hgrow6)
   have HO6:Hid (w6.ownsRow w4.heap.size 3 1 (.slice (some ⟨w4.heap.size+1,0,none⟩) m.vers.length m.vers.length) m.vers.length (nums (homK m m.vers.length 0))):=Lib.hid (by
     rw [made_nums,hz5] at hown6;exact hown6)
   have HB6:Hid (Below w4.heap.size w4 w6):=Lib.hid (HG5.out.grown hgrow6 hzW (fun q hq=>by cases hq))
   have HLk:Hid (∀ r:Int,(kidsM m r).length≤1000):=Lib.hid fun r=>by have:=sel_len (isKid r) m.vers;have e:(kidsM m r).length≤m.vers.length:=this;omega
   have HLp:Hid (∀ r:Int,(pntM m r).length≤1000):=Lib.hid fun r=>by have:=sel_len (isPnt r) m.vers;have e:(pntM m r).length≤m.vers.length:=this;omega
   clear hown6 hgrow6 z0 z1 z2 z3 z4 z5 HM5 HG5
   go_loopw [8,9] (fun hv i wr=>∃ k:Nat,k≤m.regs.length∧i=.int .i64 k∧hv=.slice (some ⟨w4.heap.size+1,0,none⟩) m.vers.length m.vers.length∧Below w4.heap.size w4 wr∧wr.ownsRow w4.heap.size 3 1 (.slice (some ⟨w4.heap.size+1,0,none⟩) m.vers.length m.vers.length) m.vers.length (nums (homK m m.vers.length k))) (fun _ i _=>m.regs.length - (intOf i).toNat)
   case atStart=>exact ⟨0,by omega,rfl,rfl,HB6.out,HO6.out⟩
   case round =>
    obtain ⟨wo,rfl⟩:∃ wo:World,wo=wr:=⟨_,rfl⟩
    obtain ⟨k,hk,rfl,rfl,hb,ho⟩:=hrel
    have HBo:=Lib.hid hb
    have HOo:=Lib.hid ho
    have hzo:w4.heap.size≤wo.heap.size:=hb.size
    have hgo:=(ho.lt _ rfl).2
    clear hb ho HB6 HO6
    obtain ⟨z0,z1,z2,z3,z4,z5,_⟩:=(hAp.out wo HBo.out).mb.box
    by_cases hlt:k<m.regs.length
    · have hI:(k:Int)<(m.regs.length:Int):=by omega
      go_wp2_with fail
      (with_reducible refine (KK.out wo HBo.out k).mono ?_)
      rintro e w7 ⟨v7,rfl,o7,g7⟩
      have HB7:=Lib.hid (below_chain2 HBo.out g7)
      have HC7:=Lib.hid (count16_n m.vers.length (homK m m.vers.length k) (kidsM m k) _ _ v7 w4.heap.size wo.heap.size w7 (homK_len m _ _) (own_below16 HOo.out g7) (fun g hg=>by injection hg with hg;injection hg with hg;omega) o7 (by omega) (HLk.out _) (fun x hx=>by have:=homK_bd m _ _ x hx;omega) HB7.out.size)
      clear o7 g7 z0 z1 z2 z3 z4 z5
      go_wp2_with fail
      (with_reducible refine (HC7.out).mono ?_)
      rintro e w8 ⟨rfl,o8,g8⟩
      have HB8:=Lib.hid (HB7.out.trans g8)
      have HO8:=Lib.hid o8
      clear g8 o8
      go_wp2_with fail
      go_roundw
      case rel=>exact ⟨k+1,by omega,by go_num,rfl,HB8.out,HO8.out⟩
      case measure=>simp [intOf] <;> omega
    · obtain rfl:k=m.regs.length:=by omega
      have HO0:Hid (wo.ownsRow w4.heap.size 3 1 (.slice (some ⟨w4.heap.size+1,0,none⟩) m.vers.length m.vers.length) m.vers.length (nums (homP m (homK m m.vers.length m.regs.length) 0))):=Lib.hid HOo.out
      clear HOo hlt hk
      go_wp2_with fail
      clear z0 z1 z2 z3 z4 z5
      go_loopw [8,10] (fun hv i wr=>∃ k:Nat,k≤m.vers.length∧i=.int .i64 k∧hv=.slice (some ⟨w4.heap.size+1,0,none⟩) m.vers.length m.vers.length∧Below w4.heap.size w4 wr∧wr.ownsRow w4.heap.size 3 1 (.slice (some ⟨w4.heap.size+1,0,none⟩) m.vers.length m.vers.length) m.vers.length (nums (homP m (homK m m.vers.length m.regs.length) k))) (fun _ i _=>m.vers.length - (intOf i).toNat)
      case atStart=>exact ⟨0,by omega,rfl,rfl,HBo.out,HO0.out⟩
      case round =>
       obtain ⟨wp,rfl⟩:∃ wo:World,wo=wr:=⟨_,rfl⟩
       obtain ⟨k,hk,rfl,rfl,hb,ho⟩:=hrel
       have HBp:=Lib.hid hb
       have HOp:=Lib.hid ho
       have hzp:w4.heap.size≤wp.heap.size:=hb.size
       have hgp:=(ho.lt _ rfl).2
       clear hb ho HBo HO0 hzo hgo
       by_cases hlt:k<m.vers.length
       · have hI:(k:Int)<(m.vers.length:Int):=by omega
         go_wp2_with fail
         (with_reducible refine (KP.out wp HBp.out k (by omega)).mono ?_)
         rintro e w7 ⟨v7,rfl,o7,g7⟩
         have HB7:=Lib.hid (below_chain2 HBp.out g7)
         have HC7:=Lib.hid (count16_n m.vers.length (homP m (homK m m.vers.length m.regs.length) k) (pntM m k) _ _ v7 w4.heap.size wp.heap.size w7 (by rw [homP_len,homK_len]) (own_below16 HOp.out g7) (fun g hg=>by injection hg with hg;injection hg with hg;omega) o7 (by omega) (HLp.out _) (fun x hx=>by have:=homP_bd m _ m.regs.length k (homK_bd m _ _) x hx;omega) HB7.out.size)
         clear o7 g7
         go_wp2_with fail
         (with_reducible refine (HC7.out).mono ?_)
         rintro e w8 ⟨rfl,o8,g8⟩
         have HB8:=Lib.hid (HB7.out.trans g8)
         have HO8:=Lib.hid o8
         clear g8 o8
         go_wp2_with fail
         go_roundw
         case rel=>exact ⟨k+1,by omega,by go_num,rfl,HB8.out,HO8.out⟩
         case measure=>simp [intOf] <;> omega
       · obtain rfl:k=m.vers.length:=by omega
         have HCe:Hid (∀ wx,Below wp.heap.size wp wx→∀ a:Nat,a<m.vers.length→wx.cell? ⟨w4.heap.size+1,a,none⟩=some (.int .i64 1)):=Lib.hid fun wx g a ha=>by
           refine (g.cell (p:=⟨w4.heap.size+1,a,none⟩) hgp).trans ((HOp.out.cellAt a (by omega)).trans ?_)
           have h1:=hom_one HR.out ha
           have hl:a<(homP m (homK m m.vers.length m.regs.length) m.vers.length).length:=by rw [homP_len,homK_len];exact ha
           rw [List.getD_eq_getElem?_getD,List.getElem?_eq_getElem hl,Option.getD_some] at h1
           simp [nums,hl,h1]
         have HW:Hid (∀ wx,Below wp.heap.size wp wx→Below w4.heap.size w4 wx):=Lib.hid fun wx g=>below_chain2 HBp.out g
         have HTp:=Lib.hid (fun (a:Nat) (ha:a<m.vers.length)=>in_top HR.out ha)
         have HCh:=Lib.hid (fun (a:Nat) (ha:a<m.vers.length)=>chainM_len HR.out ha)
         have HDe:=Lib.hid (fun (a:Nat) (ha:a<m.vers.length)=>(show depM' m (a:Int)=(deM m a:Int) by unfold depM';rw [hasV_at ha];rfl))
         have HCo:=Lib.hid (fun (a b:Nat) (ha:a<m.vers.length) (hb:b<m.vers.length)=>com_two HR.out ha hb)
         have HCn:=Lib.hid (fun (a b c r s:Nat) hc hr hs ho hm hi=>com_none (a:=a) (b:=b) (c:=c) (r:=r) (s:=s) HR.out hc hr hs ho hm hi)
         have HRr:=Lib.hid (fun (r:Nat) (hr:r<m.regs.length)=>reg_right HR.out hr)
         clear HOp KK KP hlt hk hgp hzp
         go_wp2_with fail
         go_loopw [11] (fun i wr=>∃ a:Nat,a≤m.vers.length∧i=.int .i64 a∧Below wp.heap.size wp wr) (fun i _=>m.vers.length - (intOf i).toNat)
         case atStart=>exact ⟨0,by omega,rfl,Below.refl _ _⟩
         case round =>
          obtain ⟨wa,rfl⟩:∃ wo:World,wo=wr:=⟨_,rfl⟩
          obtain ⟨a,ha,rfl,hb⟩:=hrel
          have HBa:=Lib.hid hb
          clear hb
          by_cases hlt:a<m.vers.length
          · have hI:(a:Int)<(m.vers.length:Int):=by omega
            have hI0:(0:Int)≤(a:Int):=by omega
            have hca:=HCe.out wa HBa.out a hlt
            have KIa:=KI.out wa (HW.out wa HBa.out) (a:Int) 0
            rw [HTp.out a hlt] at KIa
            have HKI:=Lib.hid KIa
            clear KIa
            go_wp2_with fail
            (with_reducible refine (HKI.out).mono ?_)
            rintro e w9 ⟨rfl,g9⟩
            have HB9:=Lib.hid (below_chain2 HBa.out g9)
            clear g9 hca HKI
            go_wp2_with fail
            (with_reducible refine (KC.out w9 (HW.out w9 HB9.out) (a:Int)).mono ?_)
            rintro e w10 ⟨v10,rfl,o10,g10⟩
            have HB10:=Lib.hid (below_chain2 HB9.out g10)
            obtain ⟨y10,c10,rfl⟩:=ownsRow_slice o10
            rw [HCh.out a hlt]
            clear g10 o10
            have KDa:=KD.out w10 (HW.out w10 HB10.out) a (by omega)
            rw [HDe.out a hlt] at KDa
            have HKD:=Lib.hid KDa
            clear KDa
            go_wp2_with fail
            (with_reducible refine (HKD.out).mono ?_)
            rintro e w11 ⟨rfl,rfl⟩
            go_wp2_with fail
            go_loopw [12] (fun i wr=>∃ b:Nat,b≤m.vers.length∧i=.int .i64 b∧Below wp.heap.size wp wr) (fun i _=>m.vers.length - (intOf i).toNat)
            case atStart=>exact ⟨0,by omega,rfl,HB10.out⟩
            case round =>
             obtain ⟨wb,rfl⟩:∃ wo:World,wo=wr:=⟨_,rfl⟩
             obtain ⟨b,hb,rfl,hbb⟩:=hrel
             have HBb:=Lib.hid hbb
             clear hbb
             by_cases hlb:b<m.vers.length
             · have hJ:(b:Int)<(m.vers.length:Int):=by omega
               have hJ0:(0:Int)≤(b:Int):=by omega
               obtain ⟨c,hc,ec,ia,ib,hmx⟩:=HCo.out a b hlt hlb
               have HMx:=Lib.hid hmx
               have KMb:=KM.out wb (HW.out wb HBb.out) (a:Int) (b:Int)
               rw [ec] at KMb
               have HKM:=Lib.hid KMb
               have KIa:=Lib.hid (fun wx (g:Below wp.heap.size wp wx)=>(show Calls Tryz.prog 27 #[.pointer (some ⟨IB,0,none⟩),.int .i64 (a:Int),.int .i64 (c:Int)] wx fun e w'=>e=.returned (.bool true)∧Below wx.heap.size wx w' by rw [← ia];exact KI.out wx (HW.out wx g) (a:Int) (c:Int)))
               have KIb:=Lib.hid (fun wx (g:Below wp.heap.size wp wx)=>(show Calls Tryz.prog 27 #[.pointer (some ⟨IB,0,none⟩),.int .i64 (b:Int),.int .i64 (c:Int)] wx fun e w'=>e=.returned (.bool true)∧Below wx.heap.size wx w' by rw [← ib];exact KI.out wx (HW.out wx g) (b:Int) (c:Int)))
               have KAb:=Lib.hid (fun wx (g:Below wp.heap.size wp wx) (hne:a≠b)=>KA.out wx (HW.out wx g) a b hlt hlb hne)
               clear KMb ec ia ib hmx
               go_wp2_with fail
               (with_reducible refine (HKM.out).mono ?_)
               rintro e w12 ⟨rfl,g12⟩
               have HB12:=Lib.hid (below_chain2 HBb.out g12)
               clear g12 HKM
               go_wp2_with fail
               (with_reducible refine (KIa.out w12 HB12.out).mono ?_)
               rintro e w13 ⟨rfl,g13⟩
               have HB13:=Lib.hid (below_chain2 HB12.out g13)
               clear g13 KIa
               go_wp2_with fail
               (with_reducible refine (KIb.out w13 HB13.out).mono ?_)
               rintro e w14 ⟨rfl,g14⟩
               have HB14:=Lib.hid (below_chain2 HB13.out g14)
               clear g14 KIb HB12 HB13
               obtain ⟨z0,z1,z2,z3,z4,z5,_⟩:=(hAp.out w14 (HW.out w14 HB14.out)).mb.box
               by_cases hab:a=b
               · have dab:((a:Int) != (b:Int))=false:=by simp only [bne_eq_false_iff_eq];omega
                 have HB15:Hid (Below wp.heap.size wp w14):=HB14
                 clear hab KAb
                 go_wp2_with fail
                 go_loopw [14] (fun i wr=>∃ r:Nat,r≤m.regs.length∧i=.int .i64 r∧Below wp.heap.size wp wr) (fun i _=>m.regs.length - (intOf i).toNat)
                 case atStart=>exact ⟨0,by omega,rfl,HB15.out⟩
                 case round =>
                  obtain ⟨wq,rfl⟩:∃ wo:World,wo=wr:=⟨_,rfl⟩
                  obtain ⟨r,hr,rfl,hq⟩:=hrel
                  have HBq:=Lib.hid hq
                  have HApq:=Lib.hid (hAp.out wq (HW.out wq hq))
                  clear hq
                  obtain ⟨z0,z1,z2,z3,z4,z5,_⟩:=HApq.out.mb.box
                  by_cases hlr:r<m.regs.length
                  · have hR:(r:Int)<(m.regs.length:Int):=by omega
                    have hR0:(0:Int)≤(r:Int):=by omega
                    obtain ⟨b3,o3,e3,hb3,k30,k31⟩:=HApq.out.mb.mod.regs.get hlr
                    have hcap3:=HApq.out.mb.mod.regs.cap (by omega)
                    rw [e3] at z3
                    rcases HRr.out r hlr with ⟨hr00,ho⟩ | ⟨hr00,s,hs,ho,hk⟩ <;> clear hr00
                    · rw [ho] at k31
                      clear e3 ho
                      go_wp2_with fail
                      go_roundw
                      case rel=>exact ⟨r+1,by omega,by go_num,HBq.out⟩
                      case measure=>simp [intOf] <;> omega
                    · rw [ho] at k31
                      have HNo:=Lib.hid (fun (i1:inM m (a:Int) (r:Int)=true) (i2:inM m (b:Int) (r:Int)=true) (i3:inM m (s:Int) (c:Int)=true)=>HCn.out a b c r s hc hlr hs ho (HMx.out r hlr i1 i2) i3)
                      have hs0:(0:Int)≤(s:Int):=by omega
                      have K1:=Lib.hid (fun wx (g:Below wp.heap.size wp wx)=>KI.out wx (HW.out wx g) (s:Int) (c:Int))
                      have K2:=Lib.hid (fun wx (g:Below wp.heap.size wp wx)=>KI.out wx (HW.out wx g) (a:Int) (r:Int))
                      have K3:=Lib.hid (fun wx (g:Below wp.heap.size wp wx)=>KI.out wx (HW.out wx g) (b:Int) (r:Int))
                      generalize inM m (s:Int) (c:Int)=f3 at K1 HNo
                      generalize inM m (a:Int) (r:Int)=f1 at K2 HNo
                      generalize inM m (b:Int) (r:Int)=f2 at K3 HNo
                      clear e3 ho hk
                      cases f3 with
                      | false =>
                       go_wp2_with fail
                       (with_reducible refine (K1.out wq HBq.out).mono ?_)
                       rintro e w16 ⟨rfl,g16⟩
                       go_wp2_with fail
                       go_roundw
                       case rel=>exact ⟨r+1,by omega,by go_num,below_chain2 HBq.out g16⟩
                       case measure=>simp [intOf] <;> omega
                      | true =>
                       go_wp2_with fail
                       (with_reducible refine (K1.out wq HBq.out).mono ?_)
                       rintro e w16 ⟨rfl,g16⟩
                       have HB16:=Lib.hid (below_chain2 HBq.out g16)
                       clear g16
                       cases f1 with
                       | false =>
                        go_wp2_with fail
                        (with_reducible refine (K2.out w16 HB16.out).mono ?_)
                        rintro e w17 ⟨rfl,g17⟩
                        go_wp2_with fail
                        go_roundw
                        case rel=>exact ⟨r+1,by omega,by go_num,below_chain2 HB16.out g17⟩
                        case measure=>simp [intOf] <;> omega
                       | true =>
                        go_wp2_with fail
                        (with_reducible refine (K2.out w16 HB16.out).mono ?_)
                        rintro e w17 ⟨rfl,g17⟩
                        have HB17:=Lib.hid (below_chain2 HB16.out g17)
                        clear g17
                        cases f2 with
                        | false =>
                         go_wp2_with fail
                         (with_reducible refine (K3.out w17 HB17.out).mono ?_)
                         rintro e w18 ⟨rfl,g18⟩
                         go_wp2_with fail
                         go_roundw
                         case rel=>exact ⟨r+1,by omega,by go_num,below_chain2 HB17.out g18⟩
                         case measure=>simp [intOf] <;> omega
                        | true=>exact (HNo.out (by trivial) (by trivial) (by trivial)).elim
                  · have hR:¬ ((r:Int)<(m.regs.length:Int)):=by omega
                    go_wp2_with fail
                    go_roundw
                    case rel=>exact ⟨b+1,by omega,by go_num,HBq.out⟩
                    case measure=>simp [intOf] <;> omega
               · have dab:((a:Int) != (b:Int))=true:=by simp only [bne_iff_ne,ne_eq];omega
                 have KAc:=Lib.hid (KAb.out w14 HB14.out hab)
                 clear hab KAb
                 go_wp2_with fail
                 (with_reducible refine (KAc.out).mono ?_)
                 rintro e w15 ⟨rfl,g15⟩
                 have HB15:=Lib.hid (below_chain2 HB14.out g15)
                 clear g15 KAc z0 z1 z2 z3 z4 z5
                 go_wp2_with fail
                 go_loopw [14] (fun i wr=>∃ r:Nat,r≤m.regs.length∧i=.int .i64 r∧Below wp.heap.size wp wr) (fun i _=>m.regs.length - (intOf i).toNat)
                 case atStart=>exact ⟨0,by omega,rfl,HB15.out⟩
                 case round =>
                  obtain ⟨wq,rfl⟩:∃ wo:World,wo=wr:=⟨_,rfl⟩
                  obtain ⟨r,hr,rfl,hq⟩:=hrel
                  have HBq:=Lib.hid hq
                  have HApq:=Lib.hid (hAp.out wq (HW.out wq hq))
                  clear hq
                  obtain ⟨z0,z1,z2,z3,z4,z5,_⟩:=HApq.out.mb.box
                  by_cases hlr:r<m.regs.length
                  · have hR:(r:Int)<(m.regs.length:Int):=by omega
                    have hR0:(0:Int)≤(r:Int):=by omega
                    obtain ⟨b3,o3,e3,hb3,k30,k31⟩:=HApq.out.mb.mod.regs.get hlr
                    have hcap3:=HApq.out.mb.mod.regs.cap (by omega)
                    rw [e3] at z3
                    rcases HRr.out r hlr with ⟨hr00,ho⟩ | ⟨hr00,s,hs,ho,hk⟩ <;> clear hr00
                    · rw [ho] at k31
                      clear e3 ho
                      go_wp2_with fail
                      go_roundw
                      case rel=>exact ⟨r+1,by omega,by go_num,HBq.out⟩
                      case measure=>simp [intOf] <;> omega
                    · rw [ho] at k31
                      have HNo:=Lib.hid (fun (i1:inM m (a:Int) (r:Int)=true) (i2:inM m (b:Int) (r:Int)=true) (i3:inM m (s:Int) (c:Int)=true)=>HCn.out a b c r s hc hlr hs ho (HMx.out r hlr i1 i2) i3)
                      have hs0:(0:Int)≤(s:Int):=by omega
                      have K1:=Lib.hid (fun wx (g:Below wp.heap.size wp wx)=>KI.out wx (HW.out wx g) (s:Int) (c:Int))
                      have K2:=Lib.hid (fun wx (g:Below wp.heap.size wp wx)=>KI.out wx (HW.out wx g) (a:Int) (r:Int))
                      have K3:=Lib.hid (fun wx (g:Below wp.heap.size wp wx)=>KI.out wx (HW.out wx g) (b:Int) (r:Int))
                      generalize inM m (s:Int) (c:Int)=f3 at K1 HNo
                      generalize inM m (a:Int) (r:Int)=f1 at K2 HNo
                      generalize inM m (b:Int) (r:Int)=f2 at K3 HNo
                      clear e3 ho hk
                      cases f3 with
                      | false =>
                       go_wp2_with fail
                       (with_reducible refine (K1.out wq HBq.out).mono ?_)
                       rintro e w16 ⟨rfl,g16⟩
                       go_wp2_with fail
                       go_roundw
                       case rel=>exact ⟨r+1,by omega,by go_num,below_chain2 HBq.out g16⟩
                       case measure=>simp [intOf] <;> omega
                      | true =>
                       go_wp2_with fail
                       (with_reducible refine (K1.out wq HBq.out).mono ?_)
                       rintro e w16 ⟨rfl,g16⟩
                       have HB16:=Lib.hid (below_chain2 HBq.out g16)
                       clear g16
                       cases f1 with
                       | false =>
                        go_wp2_with fail
                        (with_reducible refine (K2.out w16 HB16.out).mono ?_)
                        rintro e w17 ⟨rfl,g17⟩
                        go_wp2_with fail
                        go_roundw
                        case rel=>exact ⟨r+1,by omega,by go_num,below_chain2 HB16.out g17⟩
                        case measure=>simp [intOf] <;> omega
                       | true =>
                        go_wp2_with fail
                        (with_reducible refine (K2.out w16 HB16.out).mono ?_)
                        rintro e w17 ⟨rfl,g17⟩
                        have HB17:=Lib.hid (below_chain2 HB16.out g17)
                        clear g17
                        cases f2 with
                        | false =>
                         go_wp2_with fail
                         (with_reducible refine (K3.out w17 HB17.out).mono ?_)
                         rintro e w18 ⟨rfl,g18⟩
                         go_wp2_with fail
                         go_roundw
                         case rel=>exact ⟨r+1,by omega,by go_num,below_chain2 HB17.out g18⟩
                         case measure=>simp [intOf] <;> omega
                        | true=>exact (HNo.out (by trivial) (by trivial) (by trivial)).elim
                  · have hR:¬ ((r:Int)<(m.regs.length:Int)):=by omega
                    go_wp2_with fail
                    go_roundw
                    case rel=>exact ⟨b+1,by omega,by go_num,HBq.out⟩
                    case measure=>simp [intOf] <;> omega
             · have hJ:¬ ((b:Int)<(m.vers.length:Int)):=by omega
               go_wp2_with fail
               go_roundw
               case rel=>exact ⟨a+1,by omega,by go_num,HBb.out⟩
               case measure=>simp [intOf] <;> omega
          · have hI:¬ ((a:Int)<(m.vers.length:Int)):=by omega
            go_wp2_with fail
            (with_reducible refine (WK.out _ (HB4.out.bel.trans ((HW.out wa HBa.out).mono HB4.out.bel.size))).mono ?_)
            rintro e w20 ⟨rfl,g20⟩
            go_wp2_with fail
            go_ret
            exact ⟨rfl,(HB4.out.bel.trans ((HW.out wa HBa.out).mono HB4.out.bel.size)).trans (g20.mono (HB4.out.bel.trans ((HW.out wa HBa.out).mono HB4.out.bel.size)).size)⟩
end Go.Proofs
