/- Walks: 'Copy'. -/
import Derived.Test.YtfladiadgkfebaaGreatDoorKMdIJ
import Derived.Deep.RegionLaw
import Derived.Deep.DeepCutAuto
namespace Go.Proofs
open Go.RowKit Go.Lx Go.Md Go.Shelf
open Lib(hid)
set_option maxRecDepth 100000
set_option maxHeartbeats 0
set_option linter.unusedVariables false

theorem copyX_any {Q:Nat->BP} (m:MdlD) (p:Ph) (w:World) (h:Mod Q w m p) (hm:Sml m) :
   Calls Tryz.prog 50 #[mdV m p] w (CopyX m w):=by
 unfold mdV
 have HV:=hid (fun wx (hb:Bl w wx)=>cloneVar p.a1 p.c1 m.vars wx hm.vars (R:=anyB) (h.vars.kept (VarE.mono (R:=Q 0)) (Kept.of_below hb) (Kept.of_below hb)))
 have HE:=hid (fun wx (hb:Bl w wx)=>cloneTxt p.a2 p.c2 m.evs wx hm.evs (R:=anyB) (SlS.sl.1 (h.evs.kept (Kept.of_below hb))))
 have HR:=hid (fun wx (hb:Bl w wx)=>cloneReg p.a3 p.c3 m.regs wx hm.regs (R:=anyB) (h.regs.kept (RegE.mono (R:=Q 0)) (Kept.of_below hb) (Kept.of_below hb)))
 have HX:=hid (fun wx (hb:Bl w wx)=>cloneVer p.a4 p.c4 m.vers wx hm.vers (Q:=anyB) (R:=OldB w.heap.size) ((h.vers.weaken (fun _ _ _=>trivial) (fun _ _ _ hx=>hx.weaken fun _ hb _=>hb)).kept VerE.mono (Kept.of_below hb) (Kept.of_below hb)))
 have HT:=hid (fun wx (hb:Bl w wx)=>cloneTrn p.a5 p.c5 m.trns wx hm.trns (Q:=anyB) (R:=OldB w.heap.size) ((h.trns.weaken (fun _ _ _=>trivial) (fun _ _ _ hx=>hx.weaken fun _ hb _=>hb)).kept TrnE.mono (Kept.of_below hb) (Kept.of_below hb)))
 have HM:=hid hm
 clear h hm
 go_enter Tryz.func50,Tryz.ntmps50
 go_upto_region 1 with fail
 have B0:Box ((w.alloc (.cells #[.string m.nm,.slice p.a1 m.vars.length p.c1,.slice p.a2 m.evs.length p.c2,.slice p.a3 m.regs.length p.c3,.slice p.a4 m.vers.length p.c4,.slice p.a5 m.trns.length p.c5] 42)).alloc (.cells #[.string ⟨#[]⟩,.slice none 0 0,.slice none 0 0,.slice none 0 0,.slice none 0 0,.slice none 0 0] 42)) w.heap.size (.string m.nm) (.slice p.a1 m.vars.length p.c1) (.slice p.a2 m.evs.length p.c2) (.slice p.a3 m.regs.length p.c3) (.slice p.a4 m.vers.length p.c4) (.slice p.a5 m.trns.length p.c5):=by
   constructor <;> simp
 have R0:Hid (((w.alloc (.cells #[.string m.nm,.slice p.a1 m.vars.length p.c1,.slice p.a2 m.evs.length p.c2,.slice p.a3 m.regs.length p.c3,.slice p.a4 m.vers.length p.c4,.slice p.a5 m.trns.length p.c5] 42)).alloc (.cells #[.string ⟨#[]⟩,.slice none 0 0,.slice none 0 0,.slice none 0 0,.slice none 0 0,.slice none 0 0] 42)).heap[w.heap.size+1]? = some zeroM):=alloc2_at _ _ _
 have G0:Bl w ((w.alloc (.cells #[.string m.nm,.slice p.a1 m.vars.length p.c1,.slice p.a2 m.evs.length p.c2,.slice p.a3 m.regs.length p.c3,.slice p.a4 m.vers.length p.c4,.slice p.a5 m.trns.length p.c5] 42)).alloc (.cells #[.string ⟨#[]⟩,.slice none 0 0,.slice none 0 0,.slice none 0 0,.slice none 0 0,.slice none 0 0] 42)):=((Below.refl _ w).alloc (Nat.le_refl _) _).alloc (by simp) _
 have S0:w.heap.size+2<=((w.alloc (.cells #[.string m.nm,.slice p.a1 m.vars.length p.c1,.slice p.a2 m.evs.length p.c2,.slice p.a3 m.regs.length p.c3,.slice p.a4 m.vers.length p.c4,.slice p.a5 m.trns.length p.c5] 42)).alloc (.cells #[.string ⟨#[]⟩,.slice none 0 0,.slice none 0 0,.slice none 0 0,.slice none 0 0,.slice none 0 0] 42)).heap.size:=by simp
 generalize (w.alloc (.cells #[.string m.nm,.slice p.a1 m.vars.length p.c1,.slice p.a2 m.evs.length p.c2,.slice p.a3 m.regs.length p.c3,.slice p.a4 m.vers.length p.c4,.slice p.a5 m.trns.length p.c5] 42)).alloc (.cells #[.string ⟨#[]⟩,.slice none 0 0,.slice none 0 0,.slice none 0 0,.slice none 0 0,.slice none 0 0] 42)=W0 at *
 have HB0:=hid B0
 obtain ⟨b0,b1,b2,b3,b4,b5,f0,f1,f2,f3,f4,f5⟩:=B0
 go_cut [] (fun wx=>CutA m p w wx)
 case first =>
  go_region_law
    (first
      | (go_simp;go_at_call 86;refine (HV.o _ G0.drew).mono ?_;rintro e w1 ⟨a1,c1,rfl,hs1,o1,g1⟩;have G1:=hid ((Below.refl (w.heap.size+2) W0).drew.trans (g1.mono S0));obtain ⟨b0,b1,b2,b3,b4,b5,f0,f1,f2,f3,f4,f5⟩:=HB0.o.below G1.o (lt2 _))
      | (go_simp;go_at_call 87;refine (HE.o _ (G0.trans (G1.o.mono (le2 _)))).mono ?_;rintro e w2 ⟨a2,c2,rfl,hs2,o2,g2⟩;have G2:=hid (G1.o.trans (g2.mono (Nat.le_trans S0 G1.o.size)));obtain ⟨b0,b1,b2,b3,b4,b5,f0,f1,f2,f3,f4,f5⟩:=HB0.o.below G2.o (lt2 _))
      | (go_simp;go_at_call 88;refine (HR.o _ (G0.trans (G2.o.mono (le2 _)))).mono ?_;rintro e w3 ⟨a3,c3,rfl,hs3,o3,g3⟩;have G3:=hid (G2.o.trans (g3.mono (Nat.le_trans S0 G2.o.size)));obtain ⟨b0,b1,b2,b3,b4,b5,f0,f1,f2,f3,f4,f5⟩:=HB0.o.below G3.o (lt2 _)))
  all_goals
    go_wp2_with fail
    go_meet
    exact cutA_of R0.o G0 S0 HB0.o hs1 o1 g1 hs2 o2 g2 hs3 o3 g3
 case rest =>
  clear b0 b1 b2 b3 b4 b5 f0 f1 f2 f3 f4 f5 HB0 R0 S0 G0 HV HE HR W0
  obtain ⟨W1,hW1,hcut⟩:∃ W1:World,W1=_/\CutA m p w W1:=⟨_,rfl,hcut⟩
  subst hW1
  obtain ⟨a1,c1,a2,c2,a3,c3,q,hc,ho⟩:=hcut
  have HO:=hid ho
  clear ho
  go_upto_region 2 with fail
  have HC:=hid hc
  have G0:=hc.bel
  have S0:w.heap.size+2<=W1.heap.size:=Nat.le_trans hc.q3 (Nat.le_trans (Nat.le_trans (hc.qm 3) (hc.qm 4)) hc.qz)
  have HB0:=hid hc.box
  obtain ⟨b0,b1,b2,b3,b4,b5,f0,f1,f2,f3,f4,f5⟩:=hc.box
  dsimp only at b0 b1 b2 b3 b4 b5
  clear hc
  go_cut [] (fun wx=>CutB m w wx)
  case first =>
   go_region_law
     (first
       | (go_simp;go_at_call 89;refine (HX.o _ G0.drew).mono ?_;rintro e w4 ⟨a4,c4,rfl,hs4,o4,g4⟩;have G4:=hid ((Below.refl (w.heap.size+2) W1).drew.trans (g4.mono S0));obtain ⟨b0,b1,b2,b3,b4,b5,f0,f1,f2,f3,f4,f5⟩:=HB0.o.below G4.o (lt2 _);dsimp only at b0 b1 b2 b3 b4 b5)
       | (go_simp;go_at_call 90;refine (HT.o _ (G0.trans (G4.o.mono (le2 _)))).mono ?_;rintro e w5 ⟨a5,c5,rfl,hs5,o5,g5⟩;have G5:=hid (G4.o.trans (g5.mono (Nat.le_trans S0 G4.o.size)));obtain ⟨b0,b1,b2,b3,b4,b5,f0,f1,f2,f3,f4,f5⟩:=HB0.o.below G5.o (lt2 _);dsimp only at b0 b1 b2 b3 b4 b5))
   all_goals
     go_wp2_with fail
     go_meet
     exact cutB_of HC.o HO.o hs4 o4 g4 hs5 o5 g5
  case rest =>
   obtain ⟨W2,hW2,hcut⟩:∃ W2:World,W2=_/\CutB m w W2:=⟨_,rfl,hcut⟩
   subst hW2
   clear b0 b1 b2 b3 b4 b5 f0 f1 f2 f3 f4 f5 HB0 S0 G0 HC HX HT
   obtain ⟨r,q',hc,ho⟩:=hcut
   have HO:=hid ho
   clear ho
   have HC:=hid hc
   obtain ⟨b0,b1,b2,b3,b4,b5,f0,f1,f2,f3,f4,f5⟩:=hc.box
   have l4:=HM.o.vers
   have l5:=HM.o.trns
   clear hc
   go_wp2_with fail
   go_loopw [28] (fun i wr=>∃ k:Nat,k<=m.vers.length/\i=.int .i64 k/\CSt m w q' r (VerP w q' r m k) (TrnS w q' r m) wr/\Hid (Own5 w.heap.size m r wr)) (fun i _=>m.vers.length - (intOf i).toNat)
   case atStart=>exact ⟨0,by omega,rfl,HC.o.vers0,HO⟩
   case round =>
    obtain ⟨wo,rfl⟩:=ex1 wr
    clear HO
    obtain ⟨k,hk,rfl,hl,HO⟩:=hrel
    have HL:=hid hl
    by_cases hlt:k<m.vers.length
    . have hltI:(k:Int)<(m.vers.length:Int):=by omega
      have hi0:(0:Int)<=(k:Int):=by omega
      obtain ⟨b,off,ha,hq,hh⟩:=Part.get hl.vers hlt
      obtain ⟨dv,hs,hd⟩:=VerE.inn.get _ _ _ _ _ (hh.wait k hlt (Nat.le_refl _))
      have hdl:=HM.o.df _ (List.getElem_mem hlt)
      have HX:Hid (∃ x,x=m.vers[k]):=⟨_,rfl⟩
      obtain ⟨da,dc,rfl⟩:=hs.len
      have HC:=hid (fun wx (hb:Bl wo wx)=>cloneTxt da dc m.vers[k].df wx hdl (R:=anyB) (SlS.sl.1 (hs.kept (Kept.of_below hb))))
      have HB:=hid hl.box
      obtain ⟨b0,b1,b2,b3,b4,b5,f0,f1,f2,f3,f4,f5⟩:=hl.box
      rw [ha] at b4
      have HQ:=hid hq
      have HH:=hid hh
      have HA:=hid ha
      have fb:∀ j,wo.frozen? ⟨b,j,none⟩=false:=fun j=>hq.free
      have fd:=fb (off+k * 8+6)
      have hHs:w.heap.size<wo.heap.size:=hl.box.sl
      have hbs:b<wo.heap.size:=World.block_lt_of_cell? wo _ hd
      generalize hn:m.vers[k].df.length=nd at hd HC
      clear hl ha hq hh hs fb hdl
      go_wp2_with fail
      go_region_law
        (first
          | (go_simp;go_at_call 87;refine (HC.o _ (Below.refl _ wo).drew).mono ?_;rintro e w1 ⟨a1,c1,rfl,hs1,o1,g1⟩;obtain ⟨b0,b1,b2,b3,b4,b5,f0,f1,f2,f3,f4,f5⟩:=HB.o.below ((Below.refl _ wo).drew.trans g1) hHs;rw [HA.o] at b4;have hd1:=(((Below.refl _ wo).drew.trans g1).cell (p:=⟨b,off+k * 8+6,none⟩) hbs).trans hd;have fd1:=(((Below.refl _ wo).drew.trans g1).frozen (p:=⟨b,off+k * 8+6,none⟩) hbs).trans fd))
      all_goals
        go_wp2_with fail
        go_roundw
        case rel=>subst hn;exact ⟨k+1,by omega,by go_num,ver_round HL.o hlt HA.o HQ.o HH.o g1 ((SlS.sl.2 hs1).texts o1),hid (Own5.set (Own5.below HO.o ((Below.refl _ wo).drew.trans g1)) _ _)⟩
        case measure=>simp [intOf] <;> omega
    . have hke:k=m.vers.length:=by omega
      subst hke
      have HD:=hid (ver_done hl)
      have h5:=HL.o.qz
      have HZ:Hid (q' 5<=wo.heap.size):=HL.o.qz
      obtain ⟨q6,hq6⟩:∃ q6,q6=wo.heap.size:=⟨_,rfl⟩
      rw [<- hq6] at HD HZ
      have HQ6:Hid (q6<=wo.heap.size):=Nat.le_of_eq hq6
      obtain ⟨b0,b1,b2,b3,b4,b5,f0,f1,f2,f3,f4,f5⟩:=hl.box
      clear hl hq6 h5 hlt
      go_wp2_with fail
      go_loopw [47] (fun i wr=>∃ k:Nat,k<=m.trns.length/\i=.int .i64 k/\CSt m w q' r (VerF q' q6 r m) (TrnP w q' q6 r m k) wr/\Hid (q6<=wr.heap.size)/\Hid (Own5 w.heap.size m r wr)) (fun i _=>m.trns.length - (intOf i).toNat)
      case atStart=>exact ⟨0,by omega,rfl,HD.o,HQ6,HO⟩
      case round =>
       clear b0 b1 b2 b3 b4 b5 f0 f1 f2 f3 f4 f5 HL HD HQ6 HO
       obtain ⟨wn,rfl⟩:∃ wo:World,wo=wr:=⟨_,rfl⟩
       obtain ⟨k,hk,rfl,hl,HK6,HO⟩:=hrel
       have HL:=hid hl
       by_cases hlt:k<m.trns.length
       . have hltI:(k:Int)<(m.trns.length:Int):=by omega
         have hi0:(0:Int)<=(k:Int):=by omega
         obtain ⟨b,off,ha,hq,hh⟩:=Part.get hl.trns hlt
         obtain ⟨dv,hs,hd⟩:=TrnE.inn.get _ _ _ _ _ (hh.wait k hlt (Nat.le_refl _))
         have hdl:=HM.o.tr _ (List.getElem_mem hlt)
         have HX:Hid (∃ x,x=m.trns[k]):=⟨_,rfl⟩
         obtain ⟨da,dc,rfl⟩:=hs.len
         have HC:=hid (fun wx (hb:Bl wn wx)=>cloneTxt da dc m.trns[k].tr wx hdl (R:=anyB) (SlS.sl.1 (hs.kept (Kept.of_below hb))))
         have HB:=hid hl.box
         obtain ⟨b0,b1,b2,b3,b4,b5,f0,f1,f2,f3,f4,f5⟩:=hl.box
         rw [ha] at b5
         have HQ:=hid hq
         have HH:=hid hh
         have HA:=hid ha
         have fb:∀ j,wn.frozen? ⟨b,j,none⟩=false:=fun j=>hq.free
         have fd:=fb (off+k * 8+3)
         have hHs:w.heap.size<wn.heap.size:=hl.box.sl
         have hbs:b<wn.heap.size:=World.block_lt_of_cell? wn _ hd
         generalize hn:m.trns[k].tr.length=nd at hd HC
         clear hl ha hq hh hs fb hdl
         go_wp2_with fail
         go_region_law
           (first
             | (go_simp;go_at_call 87;refine (HC.o _ (Below.refl _ wn).drew).mono ?_;rintro e w1 ⟨a1,c1,rfl,hs1,o1,g1⟩;obtain ⟨b0,b1,b2,b3,b4,b5,f0,f1,f2,f3,f4,f5⟩:=HB.o.below ((Below.refl _ wn).drew.trans g1) hHs;rw [HA.o] at b5;have hd1:=(((Below.refl _ wn).drew.trans g1).cell (p:=⟨b,off+k * 8+3,none⟩) hbs).trans hd;have fd1:=(((Below.refl _ wn).drew.trans g1).frozen (p:=⟨b,off+k * 8+3,none⟩) hbs).trans fd))
         all_goals
           go_wp2_with fail
           go_roundw
           case rel=>subst hn;exact ⟨k+1,by omega,by go_num,trn_round HL.o HZ.o HK6.o hlt HA.o HQ.o HH.o g1 ((SlS.sl.2 hs1).texts o1),(show Hid _ from Nat.le_trans HK6.o (by have:=g1.size;simp only [World.size_setCell];exact this)),hid (Own5.set (Own5.below HO.o ((Below.refl _ wn).drew.trans g1)) _ _)⟩
           case measure=>simp [intOf] <;> omega
       . have hke:k=m.trns.length:=by omega
         subst hke
         have HD:=hid (trn_done hl)
         have hHs:w.heap.size<wn.heap.size:=hl.box.sl
         obtain ⟨b0,b1,b2,b3,b4,b5,f0,f1,f2,f3,f4,f5⟩:=hl.box
         obtain ⟨z0,z1,z2,z3,z4,z5,y0,y1,y2,y3,y4,y5⟩:=zero_box hl.res
         clear hl hlt
         go_wp2_with fail
         refine bodyPost_ret (v:=mdV m r) (by simp [results,Tryz.results50,go_sem,mdV,z0,z1,z2,z3,z4,z5]) rfl (copy_done HD.o HZ.o HK6.o (Nat.le_refl _) (fun lo hi hl=>?_) ?_ (Own5.set (Own5.set (Own5.set (Own5.set (Own5.set (Own5.set HO.o _ _) _ _) _ _) _ _) _ _) _ _))
         . exact (((((NewB.kept_set (by omega)).trans (NewB.kept_set (by omega))).trans (NewB.kept_set (by omega))).trans (NewB.kept_set (by omega))).trans (NewB.kept_set (by omega))).trans (NewB.kept_set (by omega))
         . exact ((((((Below.refl _ wn).setCell (by simp) _).setCell (by simp) _).setCell (by simp) _).setCell (by simp) _).setCell (by simp) _).setCell (by simp) _
end Go.Proofs
