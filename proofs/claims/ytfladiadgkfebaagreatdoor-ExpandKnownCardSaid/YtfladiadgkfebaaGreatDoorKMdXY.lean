/- Walks: what 'Right' leans on: the closures, part three. -/
import Derived.Test.YtfladiadgkfebaaGreatDoorKMdTU
import Derived.Laws.EntriesVeiled
namespace Go.Proofs
open Go.RowKit Go.Lx Go.Md Go.Shelf
open Lib(hid)
set_option maxRecDepth 100000
set_option maxHeartbeats 0
set_option linter.unusedVariables false
theorem size0 (s:ByteArray):(s.size == 0)=s.toList.isEmpty:=by
 rw [toList_eq',Bool.eq_iff_iff,beq_iff_eq,List.isEmpty_iff,<- List.length_eq_zero_iff]
 simp
theorem vertices1_any {Q:Nat->BP} {Q':BP} (m:MdlD) (p:Ph) (H i:Nat) (x:VerD) (a:Option Addr) (c:Nat) (w:World) (h:MBox Q w m p H) (hT:Tab w) (hm:MdlOk m) (hx:VerOk x) (hs:SlS Q' w (.slice a x.df.length c) x.df) :
   Calls Tryz.prog 107 #[.int .i64 i,verA x a c,.pointer (some ⟨H,0,none⟩)] w fun e w'=>e=.returned (.bool (rVer m x))/\Bl w w':=by
 have HE:Hid (rVer m x=(nmd x.nm && decide (1<=x.kd) && decide (x.kd<=12) && liesM m x && (bare x || x.kd == 1) && nmd x.sb && decide (x.en.size<=4096) && decide (x.ex.size<=4096) && evsG m.evs [] x.df)):=by unfold Hid;rfl
 have HR:Hid (bare x=(x.en.toList.isEmpty && x.ex.toList.isEmpty && x.df.length == 0 && x.sb.toList.isEmpty)):=by unfold Hid bare;rw [size0,size0,size0]
 have HB:=hid h
 have hHs:=h.box.sl
 have HN:=hid (fun wx (hb:Bl w wx)=>named_any x.nm wx (hT.next hb) hx.nm)
 have HN2:=hid (fun wx (hb:Bl w wx)=>named_any x.sb wx (hT.next hb) hx.sb)
 have HL:=hid (fun wx (hb:Bl w wx)=>lies_any m p x a c wx (h.below hb).mod hm)
 have HV:=hid (fun wx (hb:Bl w wx)=>events_any m p a c x.df wx (h.below hb).mod hm.evs (hs.kept (Kept.of_below hb)) hx.df)
 generalize rVer m x=R at HE |-
 generalize bare x=bB at HE HR
 generalize liesM m x=bL at HE HL
 generalize evsG m.evs [] x.df=bV at HE HV
 generalize hdl:x.df.length=dn at HR HV
 unfold verA at HL |-
 unfold mdV at HL HV
 have z4:=hx.en
 have z5:=hx.ex
 have z6:=hx.df
 rw [hdl] at z6
 rw [hdl] at HL
 rw [hdl]
 clear h hT hm hx hs hdl
 obtain ⟨xnm,xkd,xrg,xof,xen,xex,xdf,xsb⟩:=x
 simp only at HE HR HN HN2 HL HV z4 z5 |-
 generalize nmd xnm=bN at HE HN
 generalize nmd xsb=bS at HE HN2
 have HF:Hid (∀ wx,Below (w.alloc (.cells #[.string xnm,.int .u8 xkd,.int .i64 xrg,.int .i64 xof,.string xen,.string xex,.slice a dn c,.string xsb] 49)).heap.size (w.alloc (.cells #[.string xnm,.int .u8 xkd,.int .i64 xrg,.int .i64 xof,.string xen,.string xex,.slice a dn c,.string xsb] 49)) wx ->
     wx.cell? ⟨w.heap.size,0,none⟩=some (.string xnm)/\wx.cell? ⟨w.heap.size,1,none⟩=some (.int .u8 xkd)/\wx.cell? ⟨w.heap.size,2,none⟩=some (.int .i64 xrg)/\wx.cell? ⟨w.heap.size,3,none⟩=some (.int .i64 xof)/\wx.cell? ⟨w.heap.size,4,none⟩=some (.string xen)/\wx.cell? ⟨w.heap.size,5,none⟩=some (.string xex)/\wx.cell? ⟨w.heap.size,6,none⟩=some (.slice a dn c)/\wx.cell? ⟨w.heap.size,7,none⟩=some (.string xsb)):=by
   intro wx G
   exact ⟨bx1 G (by simp),bx1 G (by simp),bx1 G (by simp),bx1 G (by simp),bx1 G (by simp),bx1 G (by simp),bx1 G (by simp),bx1 G (by simp)⟩
 cases hD:((dn:Int) == 0)
 all_goals
  go_enter Tryz.func107,Tryz.ntmps107
  go_upto_region 1 with fail
  go_cut [6] (fun s wx=>s=.bool bB/\wx=w.alloc (.cells #[.string xnm,.int .u8 xkd,.int .i64 xrg,.int .i64 xof,.string xen,.string xex,.slice a dn c,.string xsb] 49))
  case first =>
   go_wp2_with fail
   all_goals
     go_meet
     refine ⟨?_,rfl⟩
     rw [HR.o]
     simp_all
  case rest =>
   obtain ⟨rfl,rfl⟩:=hcut
   go_wp2_with (first
     | (go_at_call_of 104 (Value.string xnm);refine (HN.o _ (below_al1 w _)).mono ?_;rintro e w1 ⟨rfl,g1⟩;have G1:=g1;obtain ⟨p0,p1,p2,p3,p4,p5,p6,p7⟩:=HF.o _ G1;obtain ⟨b0,b1,b2,b3,b4,b5,f0,f1,f2,f3,f4,f5⟩:=(HB.o.below (below_bx1 G1)).box)
     | (go_at_call 108;refine (HL.o _ (below_bx1 G1)).mono ?_;rintro e w2 ⟨rfl,g2⟩;have G2:=G1.trans (g2.mono G1.size);clear p0 p1 p2 p3 p4 p5 p6 p7;clear b0 b1 b2 b3 b4 b5 f0 f1 f2 f3 f4 f5;obtain ⟨p0,p1,p2,p3,p4,p5,p6,p7⟩:=HF.o _ G2;obtain ⟨b0,b1,b2,b3,b4,b5,f0,f1,f2,f3,f4,f5⟩:=(HB.o.below (below_bx1 G2)).box)
     | (go_at_call_of 104 (Value.string xsb);refine (HN2.o _ (below_bx1 G2)).mono ?_;rintro e w3 ⟨rfl,g3⟩;have G3:=G2.trans (g3.mono G2.size);clear p0 p1 p2 p3 p4 p5 p6 p7;clear b0 b1 b2 b3 b4 b5 f0 f1 f2 f3 f4 f5;obtain ⟨p0,p1,p2,p3,p4,p5,p6,p7⟩:=HF.o _ G3;obtain ⟨b0,b1,b2,b3,b4,b5,f0,f1,f2,f3,f4,f5⟩:=(HB.o.below (below_bx1 G3)).box)
     | (go_at_call 109;refine (HV.o _ (below_bx1 G3)).mono ?_;rintro e w4 ⟨rfl,g4⟩;have G4:=G3.trans (g4.mono G3.size);clear p0 p1 p2 p3 p4 p5 p6 p7;clear b0 b1 b2 b3 b4 b5 f0 f1 f2 f3 f4 f5))
   all_goals
     go_ret
     refine ⟨ret_bool ?_,?_⟩
     . rw [HE.o];simp_all <;> omega
     . first | exact below_bx1 G4 | exact below_bx1 G3 | exact below_bx1 G2 | exact below_bx1 G1
def inV (m:MdlD) (v:Int):Bool:=decide (0<=v) && decide (v<m.vers.length)
theorem ways1_any {Q:Nat->BP} (m:MdlD) (p:Ph) (H:Nat) (v:Int) (w:World) (h:MBox Q w m p H) (hm:MdlOk m) :
   Calls Tryz.prog 112 #[.int .i64 v,.pointer (some ⟨H,0,none⟩)] w fun e w'=>e=.returned (.bool (inV m v))/\w=w':=by
 have l4:=hm.vers
 have HE:Hid (inV m v=(decide (0<=v) && decide (v<m.vers.length))):=by unfold Hid;rfl
 have hHs:=h.box.sl
 obtain ⟨b0,b1,b2,b3,b4,b5,f0,f1,f2,f3,f4,f5⟩:=h.box
 clear h hm
 go_enter Tryz.func112,Tryz.ntmps112
 go_wp2_with fail
 all_goals
   go_ret
   refine ⟨ret_bool ?_,rfl⟩
   rw [HE.o];simp_all <;> omega
theorem ways2_any {Q:Nat->BP} {Q':BP} (m:MdlD) (p:Ph) (H V i:Nat) (x:TrnD) (a:Option Addr) (c:Nat) (w:World) (h:MBox Q w m p H) (hT:Tab w) (hm:MdlOk m) (hx:TrnOk x) (hs:SlS Q' w (.slice a x.tr.length c) x.tr)
   (hV:w.cell? ⟨V,0,none⟩=some (.func (.func 112) #[] #[.pointer (some ⟨H,0,none⟩)])) (hVs:V<w.heap.size) :
   Calls Tryz.prog 114 #[.int .i64 i,trnA x a c,.pointer (some ⟨V,0,none⟩),.pointer (some ⟨H,0,none⟩)] w fun e w'=>e=.returned (.bool (rWay m x))/\Bl w w':=by
 have HE:Hid (rWay m x=(nmd x.nm && inV m x.src && inV m x.tgt && evsG m.evs [] x.tr && decide (0<=x.af) && decide (x.af<=65535) && (x.af == 0 || x.tr.length == 0) && decide (1<=x.kd) && decide (x.kd<=3) && decide (x.gd.size<=4096) && decide (x.ef.size<=4096))):=by unfold Hid;rfl
 have HB:=hid h
 have hHs:=h.box.sl
 have HN:=hid (fun wx (hb:Bl w wx)=>named_any x.nm wx (hT.next hb) hx.nm)
 have HS:=hid (fun wx (hb:Bl w wx)=>ways1_any m p H x.src wx (h.below hb) hm)
 have HG:=hid (fun wx (hb:Bl w wx)=>ways1_any m p H x.tgt wx (h.below hb) hm)
 have HV:=hid (fun wx (hb:Bl w wx)=>events_any m p a c x.tr wx (h.below hb).mod hm.evs (hs.kept (Kept.of_below hb)) hx.tr)
 have HC:=hid (fun wx (hb:Bl w wx)=>(hb.cell (p:=⟨V,0,none⟩) hVs).trans hV)
 generalize rWay m x=R at HE |-
 generalize inV m x.src=bI at HE HS
 generalize inV m x.tgt=bJ at HE HG
 generalize evsG m.evs [] x.tr=bV at HE HV
 generalize hdl:x.tr.length=dn at HE HV
 unfold trnA
 unfold mdV at HV
 have z4:=hx.gd
 have z5:=hx.ef
 have z6:=hx.tr
 rw [hdl] at z6
 rw [hdl]
 clear h hT hm hx hs hdl hV
 obtain ⟨xnm,xsrc,xtgt,xtr,xaf,xgd,xef,xkd⟩:=x
 simp only at HE HN HS HG HV z4 z5 |-
 generalize nmd xnm=bN at HE HN
 have HF:Hid (∀ wx,Below (w.alloc (.cells #[.string xnm,.int .i64 xsrc,.int .i64 xtgt,.slice a dn c,.int .i64 xaf,.string xgd,.string xef,.int .u8 xkd] 59)).heap.size (w.alloc (.cells #[.string xnm,.int .i64 xsrc,.int .i64 xtgt,.slice a dn c,.int .i64 xaf,.string xgd,.string xef,.int .u8 xkd] 59)) wx ->
     wx.cell? ⟨w.heap.size,0,none⟩=some (.string xnm)/\wx.cell? ⟨w.heap.size,1,none⟩=some (.int .i64 xsrc)/\wx.cell? ⟨w.heap.size,2,none⟩=some (.int .i64 xtgt)/\wx.cell? ⟨w.heap.size,3,none⟩=some (.slice a dn c)/\wx.cell? ⟨w.heap.size,4,none⟩=some (.int .i64 xaf)/\wx.cell? ⟨w.heap.size,5,none⟩=some (.string xgd)/\wx.cell? ⟨w.heap.size,6,none⟩=some (.string xef)/\wx.cell? ⟨w.heap.size,7,none⟩=some (.int .u8 xkd)):=by
   intro wx G
   exact ⟨bx1 G (by simp),bx1 G (by simp),bx1 G (by simp),bx1 G (by simp),bx1 G (by simp),bx1 G (by simp),bx1 G (by simp),bx1 G (by simp)⟩
 cases hD:((dn:Int) == 0)
 all_goals
  go_enter Tryz.func114,Tryz.ntmps114
  simp only [List.append_eq,List.cons_append,List.nil_append]
  go_wp2_with (first
     | (go_at_call 104;refine (HN.o _ (below_al1 w _)).mono ?_;rintro e w1 ⟨rfl,g1⟩;have G1:=g1;obtain ⟨p0,p1,p2,p3,p4,p5,p6,p7⟩:=HF.o _ G1;have hv:=HC.o _ (below_bx1 G1);obtain ⟨b0,b1,b2,b3,b4,b5,f0,f1,f2,f3,f4,f5⟩:=(HB.o.below (below_bx1 G1)).box)
     | (go_at_call_of 112 (Value.int IntKind.i64 xsrc);refine (HS.o _ (below_bx1 G1)).mono ?_;rintro e w2 ⟨rfl,rfl⟩)
     | (go_at_call_of 112 (Value.int IntKind.i64 xtgt);refine (HG.o _ (below_bx1 G1)).mono ?_;rintro e w2 ⟨rfl,rfl⟩)
     | (go_at_call 109;refine (HV.o _ (below_bx1 G1)).mono ?_;rintro e w4 ⟨rfl,g4⟩;have G4:=G1.trans (g4.mono G1.size);clear p0 p1 p2 p3 p4 p5 p6 p7 hv;clear b0 b1 b2 b3 b4 b5 f0 f1 f2 f3 f4 f5;obtain ⟨p0,p1,p2,p3,p4,p5,p6,p7⟩:=HF.o _ G4))
  all_goals
    go_ret
    refine ⟨ret_bool ?_,?_⟩
    . rw [HE.o];simp_all <;> (first | omega | (rw [Bool.eq_iff_iff];simp <;> omega))
    . first | exact below_bx1 G4 | exact below_bx1 G1
def fltV (f:Flt):Value:=.agg #[.int .u8 f.1,.int .i64 f.2.1,.int .i64 f.2.2]
def FltR (f:Flt) (w:World) (e:Ending) (w':World):Prop:=e=.returned (fltV f)/\Bl w w'
theorem wrVar_any {Q:Nat->BP} (m:MdlD) (p:Ph) (H:Nat) (w:World) (h:MBox Q w m p H) (hT:Tab w) (hm:MdlOk m) :
   Calls Tryz.prog 97 #[.int .u8 2,.slice p.a1 m.vars.length p.c1,.int .i64 64,.func (.func 98) #[] #[.pointer (some ⟨H,0,none⟩)]] w (FltR (wrL 2 64 (rVar m) 0 m.vars) w):=by
 have hl:=hm.vars
 have H1:=hid h.mod.vars
 have HM:=hid hm
 have HC:=hid (fun wx (hb:Bl w wx)=>(⟨h.below hb,hT.next hb⟩:MBox Q wx m p H/\Tab wx))
 have HS0:Hid (∀ k (hk:k<m.vars.length),wrL 2 64 (rVar m) k (m.vars.drop k)=if k=64 then (2,64,3) else if (rVar m) k m.vars[k] then wrL 2 64 (rVar m) (k+1) (m.vars.drop (k+1)) else (2,k,130)):=fun k hk=>wrL_drop hk
 have HX0:Hid (∀ k (hk:k<m.vars.length),m.vars[k].nm.size<=140737488355328):=fun k hk=>hm.varn _ (List.getElem_mem hk)
 clear h hm hT
 go_enter Tryz.func97,Tryz.ntmps97
 go_wp2_with fail
 go_loopw [13] (fun i wr=>∃ k:Nat,k<=m.vars.length/\i=.int .i64 k/\Below (w.heap.size+1) (w.alloc (.cells #[.int .u8 0,.int .i64 0,.int .i64 0] 114)) wr/\Hid (wrL 2 64 (rVar m) 0 m.vars=wrL 2 64 (rVar m) k (m.vars.drop k))) (fun i _=>m.vars.length - (intOf i).toNat)
 case atStart=>exact ⟨0,by omega,rfl,Below.refl _ _,(show Hid _ from rfl)⟩
 case round =>
  obtain ⟨wo,rfl⟩:=ex1 wr
  obtain ⟨k,hk,rfl,hg,HE⟩:=hrel
  have hgw:Bl w wo:=(below_al1 w _).trans (hg.mono (by omega))
  have hzo:w.heap.size+1<=wo.heap.size:=by have:=hg.size;simpa using this
  have hzo':w.heap.size<wo.heap.size:=hzo
  have q0:wo.cell? ⟨w.heap.size,0,none⟩=some (.int .u8 0):=(hg.cell (p:=⟨w.heap.size,0,none⟩) (by simp)).trans (by simp)
  have q1:wo.cell? ⟨w.heap.size,1,none⟩=some (.int .i64 0):=(hg.cell (p:=⟨w.heap.size,1,none⟩) (by simp)).trans (by simp)
  have q2:wo.cell? ⟨w.heap.size,2,none⟩=some (.int .i64 0):=(hg.cell (p:=⟨w.heap.size,2,none⟩) (by simp)).trans (by simp)
  have y0:wo.frozen? ⟨w.heap.size,0,none⟩=false:=(hg.frozen (p:=⟨w.heap.size,0,none⟩) (by simp)).trans (by simp)
  have y1:wo.frozen? ⟨w.heap.size,1,none⟩=false:=(hg.frozen (p:=⟨w.heap.size,1,none⟩) (by simp)).trans (by simp)
  have y2:wo.frozen? ⟨w.heap.size,2,none⟩=false:=(hg.frozen (p:=⟨w.heap.size,2,none⟩) (by simp)).trans (by simp)
  by_cases hlt:k<m.vars.length
  . have hltI:(k:Int)<(m.vars.length:Int):=by omega
    have hi0:(0:Int)<=(k:Int):=by omega
    obtain ⟨b1,o1,ha1,hb1,r0,r1⟩:=H1.o.get hlt
    have HS:=hid (HS0.o k hlt)
    have HX:=hid (HX0.o k hlt)
    generalize m.vars[k]=x at r0 r1 HS HX
    replace r0:=(hgw.cell (p:=⟨b1,o1+k * 2,none⟩) hb1).trans r0
    replace r1:=(hgw.cell (p:=⟨b1,o1+k * 2+1,none⟩) hb1).trans r1
    rw [ha1]
    have HA:=hid ha1
    clear ha1
    by_cases h64:k=64
    . have HF:Hid (wrL 2 64 (rVar m) 0 m.vars=(2,64,3)):=by unfold Hid;rw [HE.o,HS.o,if_pos h64]
      subst h64
      go_wp2_with fail
      refine bodyPost_ret (v:=fltV (2,64,3)) (by simp [results,Tryz.results97,go_sem,fltV,q0,q1,q2,hzo']) rfl ⟨by rw [HF.o],?_⟩
      exact (((hgw.setCell (by simp) _).setCell (by simp) _).setCell (by simp) _).alloc (by simp;omega) _
    . have h64I:((k:Int) == 64)=false:=int_ne_lit (m:=64) h64
      have HS2:Hid (wrL 2 64 (rVar m) 0 m.vars=if rVar m k x then wrL 2 64 (rVar m) (k+1) (m.vars.drop (k+1)) else (2,k,130)):=by unfold Hid;rw [HE.o,HS.o,if_neg h64]
      have HD:=hid (fun wx (hb:Bl w wx)=>vars1_any m p H k x wx (HC.o wx hb).1 (HC.o wx hb).2 HM.o hlt HX.o)
      unfold varA at HD
      have hb0:Bl w (wo.alloc (.cells #[.string x.nm,.int .i64 x.ini] 89)):=hgw.alloc (by omega) _
      generalize rVar m k x=bR at HS2 HD
      go_wp2_with fail
      refine (HD.o _ hb0).mono ?_
      rintro e w2 ⟨rfl,g2⟩
      have hzb:w.heap.size<((wo.alloc (.cells #[.string x.nm,.int .i64 x.ini] 89))).heap.size:=by simp;omega
      have g2':Below (w.heap.size+1) wo w2:=((Below.refl _ wo).alloc hzo _).trans (g2.mono (by simp;omega))
      have q0':=(g2'.cell (p:=⟨w.heap.size,0,none⟩) (by simp)).trans q0
      have q1':=(g2'.cell (p:=⟨w.heap.size,1,none⟩) (by simp)).trans q1
      have q2':=(g2'.cell (p:=⟨w.heap.size,2,none⟩) (by simp)).trans q2
      have y0':=(g2'.frozen (p:=⟨w.heap.size,0,none⟩) (by simp)).trans y0
      have y1':=(g2'.frozen (p:=⟨w.heap.size,1,none⟩) (by simp)).trans y1
      have y2':=(g2'.frozen (p:=⟨w.heap.size,2,none⟩) (by simp)).trans y2
      cases bR with
      | true =>
       go_wp2_with fail
       go_roundw
       case rel=>exact ⟨k+1,by omega,by go_num,hg.trans g2',(show Hid _ from by unfold Hid;have:=HS2.o;simpa using this)⟩
       case measure=>simp [intOf] <;> omega
      | false =>
       have HS3:Hid (wrL 2 64 (rVar m) 0 m.vars=(2,k,130)):=by have:=HS2.o;unfold Hid;simpa using this
       go_wp2_with fail
       refine bodyPost_ret (v:=fltV (2,k,130)) (by simp [results,Tryz.results97,go_sem,fltV,q0',q1',q2']) rfl ⟨by rw [HS3.o],?_⟩
       exact (((hgw.trans (g2'.mono (by omega))).setCell (by simp) _).setCell (by simp) _).setCell (by simp) _
  . have HF:Hid (wrL 2 64 (rVar m) 0 m.vars=(0,0,0)):=by unfold Hid;rw [HE.o,List.drop_eq_nil_of_le (by omega)];rfl
    go_wp2_with fail
    refine bodyPost_ret (v:=fltV (0,0,0)) (by simp [results,Tryz.results97,go_sem,fltV,q0,q1,q2]) rfl ⟨by rw [HF.o],?_⟩
    exact ((hgw.setCell (by simp) _).setCell (by simp) _).setCell (by simp) _
theorem wrEv_any {Q:Nat->BP} (m:MdlD) (p:Ph) (H:Nat) (w:World) (h:MBox Q w m p H) (hT:Tab w) (hm:MdlOk m) :
   Calls Tryz.prog 100 #[.int .u8 3,.slice p.a2 m.evs.length p.c2,.int .i64 64,.func (.func 101) #[] #[.pointer (some ⟨H,0,none⟩)]] w (FltR (wrL 3 64 (rEv m) 0 m.evs) w):=by
 have hl:=hm.evs
 have H1:=hid h.mod.evs
 have HM:=hid hm
 have HC:=hid (fun wx (hb:Bl w wx)=>(⟨h.below hb,hT.next hb⟩:MBox Q wx m p H/\Tab wx))
 have HS0:Hid (∀ k (hk:k<m.evs.length),wrL 3 64 (rEv m) k (m.evs.drop k)=if k=64 then (3,64,3) else if (rEv m) k m.evs[k] then wrL 3 64 (rEv m) (k+1) (m.evs.drop (k+1)) else (3,k,130)):=fun k hk=>wrL_drop hk
 have HX0:Hid (∀ k (hk:k<m.evs.length),m.evs[k].size<=140737488355328):=fun k hk=>hm.evn _ (List.getElem_mem hk)
 clear h hm hT
 go_enter Tryz.func100,Tryz.ntmps100
 go_wp2_with fail
 go_loopw [13] (fun i wr=>∃ k:Nat,k<=m.evs.length/\i=.int .i64 k/\Below (w.heap.size+1) (w.alloc (.cells #[.int .u8 0,.int .i64 0,.int .i64 0] 114)) wr/\Hid (wrL 3 64 (rEv m) 0 m.evs=wrL 3 64 (rEv m) k (m.evs.drop k))) (fun i _=>m.evs.length - (intOf i).toNat)
 case atStart=>exact ⟨0,by omega,rfl,Below.refl _ _,(show Hid _ from rfl)⟩
 case round =>
  obtain ⟨wo,rfl⟩:=ex1 wr
  obtain ⟨k,hk,rfl,hg,HE⟩:=hrel
  have hgw:Bl w wo:=(below_al1 w _).trans (hg.mono (by omega))
  have hzo:w.heap.size+1<=wo.heap.size:=by have:=hg.size;simpa using this
  have hzo':w.heap.size<wo.heap.size:=hzo
  have q0:wo.cell? ⟨w.heap.size,0,none⟩=some (.int .u8 0):=(hg.cell (p:=⟨w.heap.size,0,none⟩) (by simp)).trans (by simp)
  have q1:wo.cell? ⟨w.heap.size,1,none⟩=some (.int .i64 0):=(hg.cell (p:=⟨w.heap.size,1,none⟩) (by simp)).trans (by simp)
  have q2:wo.cell? ⟨w.heap.size,2,none⟩=some (.int .i64 0):=(hg.cell (p:=⟨w.heap.size,2,none⟩) (by simp)).trans (by simp)
  have y0:wo.frozen? ⟨w.heap.size,0,none⟩=false:=(hg.frozen (p:=⟨w.heap.size,0,none⟩) (by simp)).trans (by simp)
  have y1:wo.frozen? ⟨w.heap.size,1,none⟩=false:=(hg.frozen (p:=⟨w.heap.size,1,none⟩) (by simp)).trans (by simp)
  have y2:wo.frozen? ⟨w.heap.size,2,none⟩=false:=(hg.frozen (p:=⟨w.heap.size,2,none⟩) (by simp)).trans (by simp)
  by_cases hlt:k<m.evs.length
  . have hltI:(k:Int)<(m.evs.length:Int):=by omega
    have hi0:(0:Int)<=(k:Int):=by omega
    obtain ⟨b1,o1,ha1,hb1,r0⟩:=H1.o.get hlt
    have HS:=hid (HS0.o k hlt)
    have HX:=hid (HX0.o k hlt)
    generalize m.evs[k]=x at r0 HS HX
    replace r0:=(hgw.cell (p:=⟨b1,o1+k,none⟩) hb1).trans r0
    rw [ha1]
    have HA:=hid ha1
    clear ha1
    by_cases h64:k=64
    . have HF:Hid (wrL 3 64 (rEv m) 0 m.evs=(3,64,3)):=by unfold Hid;rw [HE.o,HS.o,if_pos h64]
      subst h64
      go_wp2_with fail
      refine bodyPost_ret (v:=fltV (3,64,3)) (by simp [results,Tryz.results100,go_sem,fltV,q0,q1,q2]) rfl ⟨by rw [HF.o],?_⟩
      exact ((hgw.setCell (by simp) _).setCell (by simp) _).setCell (by simp) _
    . have h64I:((k:Int) == 64)=false:=int_ne_lit (m:=64) h64
      have HS2:Hid (wrL 3 64 (rEv m) 0 m.evs=if rEv m k x then wrL 3 64 (rEv m) (k+1) (m.evs.drop (k+1)) else (3,k,130)):=by unfold Hid;rw [HE.o,HS.o,if_neg h64]
      have HD:=hid (fun wx (hb:Bl w wx)=>signals1_any m p H k x wx (HC.o wx hb).1 (HC.o wx hb).2 HM.o hlt HX.o)
      have hb0:Bl w wo:=hgw
      generalize rEv m k x=bR at HS2 HD
      go_wp2_with fail
      refine (HD.o _ hb0).mono ?_
      rintro e w2 ⟨rfl,g2⟩
      have hzb:w.heap.size<(wo).heap.size:=by omega
      have g2':Below (w.heap.size+1) wo w2:=g2.mono hzo
      have q0':=(g2'.cell (p:=⟨w.heap.size,0,none⟩) (by simp)).trans q0
      have q1':=(g2'.cell (p:=⟨w.heap.size,1,none⟩) (by simp)).trans q1
      have q2':=(g2'.cell (p:=⟨w.heap.size,2,none⟩) (by simp)).trans q2
      have y0':=(g2'.frozen (p:=⟨w.heap.size,0,none⟩) (by simp)).trans y0
      have y1':=(g2'.frozen (p:=⟨w.heap.size,1,none⟩) (by simp)).trans y1
      have y2':=(g2'.frozen (p:=⟨w.heap.size,2,none⟩) (by simp)).trans y2
      cases bR with
      | true =>
       go_wp2_with fail
       go_roundw
       case rel=>exact ⟨k+1,by omega,by go_num,hg.trans g2',(show Hid _ from by unfold Hid;have:=HS2.o;simpa using this)⟩
       case measure=>simp [intOf] <;> omega
      | false =>
       have HS3:Hid (wrL 3 64 (rEv m) 0 m.evs=(3,k,130)):=by have:=HS2.o;unfold Hid;simpa using this
       go_wp2_with fail
       refine bodyPost_ret (v:=fltV (3,k,130)) (by simp [results,Tryz.results100,go_sem,fltV,q0',q1',q2']) rfl ⟨by rw [HS3.o],?_⟩
       exact (((hgw.trans (g2'.mono (by omega))).setCell (by simp) _).setCell (by simp) _).setCell (by simp) _
  . have HF:Hid (wrL 3 64 (rEv m) 0 m.evs=(0,0,0)):=by unfold Hid;rw [HE.o,List.drop_eq_nil_of_le (by omega)];rfl
    go_wp2_with fail
    refine bodyPost_ret (v:=fltV (0,0,0)) (by simp [results,Tryz.results100,go_sem,fltV,q0,q1,q2]) rfl ⟨by rw [HF.o],?_⟩
    exact ((hgw.setCell (by simp) _).setCell (by simp) _).setCell (by simp) _
theorem wrReg_any {Q:Nat->BP} (m:MdlD) (p:Ph) (H:Nat) (w:World) (h:MBox Q w m p H) (hT:Tab w) (hm:MdlOk m) :
   Calls Tryz.prog 102 #[.int .u8 4,.slice p.a3 m.regs.length p.c3,.int .i64 512,.func (.func 103) #[] #[.pointer (some ⟨H,0,none⟩)]] w (FltR (wrL 4 512 (rReg m) 0 m.regs) w):=by
 have hl:=hm.regs
 have H1:=hid h.mod.regs
 have HM:=hid hm
 have HC:=hid (fun wx (hb:Bl w wx)=>(⟨h.below hb,hT.next hb⟩:MBox Q wx m p H/\Tab wx))
 have HS0:Hid (∀ k (hk:k<m.regs.length),wrL 4 512 (rReg m) k (m.regs.drop k)=if k=512 then (4,512,3) else if (rReg m) k m.regs[k] then wrL 4 512 (rReg m) (k+1) (m.regs.drop (k+1)) else (4,k,130)):=fun k hk=>wrL_drop hk
 have HX0:Hid (∀ k (hk:k<m.regs.length),m.regs[k].nm.size<=140737488355328):=fun k hk=>hm.regn _ (List.getElem_mem hk)
 clear h hm hT
 go_enter Tryz.func102,Tryz.ntmps102
 go_wp2_with fail
 go_loopw [13] (fun i wr=>∃ k:Nat,k<=m.regs.length/\i=.int .i64 k/\Below (w.heap.size+1) (w.alloc (.cells #[.int .u8 0,.int .i64 0,.int .i64 0] 114)) wr/\Hid (wrL 4 512 (rReg m) 0 m.regs=wrL 4 512 (rReg m) k (m.regs.drop k))) (fun i _=>m.regs.length - (intOf i).toNat)
 case atStart=>exact ⟨0,by omega,rfl,Below.refl _ _,(show Hid _ from rfl)⟩
 case round =>
  obtain ⟨wo,rfl⟩:=ex1 wr
  obtain ⟨k,hk,rfl,hg,HE⟩:=hrel
  have hgw:Bl w wo:=(below_al1 w _).trans (hg.mono (by omega))
  have hzo:w.heap.size+1<=wo.heap.size:=by have:=hg.size;simpa using this
  have hzo':w.heap.size<wo.heap.size:=hzo
  have q0:wo.cell? ⟨w.heap.size,0,none⟩=some (.int .u8 0):=(hg.cell (p:=⟨w.heap.size,0,none⟩) (by simp)).trans (by simp)
  have q1:wo.cell? ⟨w.heap.size,1,none⟩=some (.int .i64 0):=(hg.cell (p:=⟨w.heap.size,1,none⟩) (by simp)).trans (by simp)
  have q2:wo.cell? ⟨w.heap.size,2,none⟩=some (.int .i64 0):=(hg.cell (p:=⟨w.heap.size,2,none⟩) (by simp)).trans (by simp)
  have y0:wo.frozen? ⟨w.heap.size,0,none⟩=false:=(hg.frozen (p:=⟨w.heap.size,0,none⟩) (by simp)).trans (by simp)
  have y1:wo.frozen? ⟨w.heap.size,1,none⟩=false:=(hg.frozen (p:=⟨w.heap.size,1,none⟩) (by simp)).trans (by simp)
  have y2:wo.frozen? ⟨w.heap.size,2,none⟩=false:=(hg.frozen (p:=⟨w.heap.size,2,none⟩) (by simp)).trans (by simp)
  by_cases hlt:k<m.regs.length
  . have hltI:(k:Int)<(m.regs.length:Int):=by omega
    have hi0:(0:Int)<=(k:Int):=by omega
    obtain ⟨b1,o1,ha1,hb1,r0,r1⟩:=H1.o.get hlt
    have HS:=hid (HS0.o k hlt)
    have HX:=hid (HX0.o k hlt)
    generalize m.regs[k]=x at r0 r1 HS HX
    replace r0:=(hgw.cell (p:=⟨b1,o1+k * 2,none⟩) hb1).trans r0
    replace r1:=(hgw.cell (p:=⟨b1,o1+k * 2+1,none⟩) hb1).trans r1
    rw [ha1]
    have HA:=hid ha1
    clear ha1
    by_cases h64:k=512
    . have HF:Hid (wrL 4 512 (rReg m) 0 m.regs=(4,512,3)):=by unfold Hid;rw [HE.o,HS.o,if_pos h64]
      subst h64
      go_wp2_with fail
      refine bodyPost_ret (v:=fltV (4,512,3)) (by simp [results,Tryz.results102,go_sem,fltV,q0,q1,q2,hzo']) rfl ⟨by rw [HF.o],?_⟩
      exact (((hgw.setCell (by simp) _).setCell (by simp) _).setCell (by simp) _).alloc (by simp;omega) _
    . have h64I:((k:Int) == 512)=false:=int_ne_lit (m:=512) h64
      have HS2:Hid (wrL 4 512 (rReg m) 0 m.regs=if rReg m k x then wrL 4 512 (rReg m) (k+1) (m.regs.drop (k+1)) else (4,k,130)):=by unfold Hid;rw [HE.o,HS.o,if_neg h64]
      have HD:=hid (fun wx (hb:Bl w wx)=>regions1_any m p H k x wx (HC.o wx hb).1 (HC.o wx hb).2 HM.o hlt HX.o)
      unfold regA at HD
      have hb0:Bl w (wo.alloc (.cells #[.string x.nm,.int .i64 x.own] 57)):=hgw.alloc (by omega) _
      generalize rReg m k x=bR at HS2 HD
      go_wp2_with fail
      refine (HD.o _ hb0).mono ?_
      rintro e w2 ⟨rfl,g2⟩
      have hzb:w.heap.size<((wo.alloc (.cells #[.string x.nm,.int .i64 x.own] 57))).heap.size:=by simp;omega
      have g2':Below (w.heap.size+1) wo w2:=((Below.refl _ wo).alloc hzo _).trans (g2.mono (by simp;omega))
      have q0':=(g2'.cell (p:=⟨w.heap.size,0,none⟩) (by simp)).trans q0
      have q1':=(g2'.cell (p:=⟨w.heap.size,1,none⟩) (by simp)).trans q1
      have q2':=(g2'.cell (p:=⟨w.heap.size,2,none⟩) (by simp)).trans q2
      have y0':=(g2'.frozen (p:=⟨w.heap.size,0,none⟩) (by simp)).trans y0
      have y1':=(g2'.frozen (p:=⟨w.heap.size,1,none⟩) (by simp)).trans y1
      have y2':=(g2'.frozen (p:=⟨w.heap.size,2,none⟩) (by simp)).trans y2
      cases bR with
      | true =>
       go_wp2_with fail
       go_roundw
       case rel=>exact ⟨k+1,by omega,by go_num,hg.trans g2',(show Hid _ from by unfold Hid;have:=HS2.o;simpa using this)⟩
       case measure=>simp [intOf] <;> omega
      | false =>
       have HS3:Hid (wrL 4 512 (rReg m) 0 m.regs=(4,k,130)):=by have:=HS2.o;unfold Hid;simpa using this
       go_wp2_with fail
       refine bodyPost_ret (v:=fltV (4,k,130)) (by simp [results,Tryz.results102,go_sem,fltV,q0',q1',q2']) rfl ⟨by rw [HS3.o],?_⟩
       exact (((hgw.trans (g2'.mono (by omega))).setCell (by simp) _).setCell (by simp) _).setCell (by simp) _
  . have HF:Hid (wrL 4 512 (rReg m) 0 m.regs=(0,0,0)):=by unfold Hid;rw [HE.o,List.drop_eq_nil_of_le (by omega)];rfl
    go_wp2_with fail
    refine bodyPost_ret (v:=fltV (0,0,0)) (by simp [results,Tryz.results102,go_sem,fltV,q0,q1,q2]) rfl ⟨by rw [HF.o],?_⟩
    exact ((hgw.setCell (by simp) _).setCell (by simp) _).setCell (by simp) _
theorem wrVer_any {Q:Nat->BP} (m:MdlD) (p:Ph) (H:Nat) (w:World) (h:MBox Q w m p H) (hT:Tab w) (hm:MdlOk m) :
   Calls Tryz.prog 106 #[.int .u8 5,.slice p.a4 m.vers.length p.c4,.int .i64 512,.func (.func 107) #[] #[.pointer (some ⟨H,0,none⟩)]] w (FltR (wrL 5 512 (fun _=>rVer m) 0 m.vers) w):=by
 have hl:=hm.vers
 have H1:=hid h.mod.vers
 have HM:=hid hm
 have HC:=hid (fun wx (hb:Bl w wx)=>(⟨h.below hb,hT.next hb⟩:MBox Q wx m p H/\Tab wx))
 have HS0:Hid (∀ k (hk:k<m.vers.length),wrL 5 512 (fun _=>rVer m) k (m.vers.drop k)=if k=512 then (5,512,3) else if (fun _=>rVer m) k m.vers[k] then wrL 5 512 (fun _=>rVer m) (k+1) (m.vers.drop (k+1)) else (5,k,130)):=fun k hk=>wrL_drop hk
 have HX0:Hid (∀ k (hk:k<m.vers.length),VerOk m.vers[k]):=fun k hk=>hm.verx _ (List.getElem_mem hk)
 clear h hm hT
 go_enter Tryz.func106,Tryz.ntmps106
 go_wp2_with fail
 go_loopw [13] (fun i wr=>∃ k:Nat,k<=m.vers.length/\i=.int .i64 k/\Below (w.heap.size+1) (w.alloc (.cells #[.int .u8 0,.int .i64 0,.int .i64 0] 114)) wr/\Hid (wrL 5 512 (fun _=>rVer m) 0 m.vers=wrL 5 512 (fun _=>rVer m) k (m.vers.drop k))) (fun i _=>m.vers.length - (intOf i).toNat)
 case atStart=>exact ⟨0,by omega,rfl,Below.refl _ _,(show Hid _ from rfl)⟩
 case round =>
  obtain ⟨wo,rfl⟩:=ex1 wr
  obtain ⟨k,hk,rfl,hg,HE⟩:=hrel
  have hgw:Bl w wo:=(below_al1 w _).trans (hg.mono (by omega))
  have hzo:w.heap.size+1<=wo.heap.size:=by have:=hg.size;simpa using this
  have hzo':w.heap.size<wo.heap.size:=hzo
  have q0:wo.cell? ⟨w.heap.size,0,none⟩=some (.int .u8 0):=(hg.cell (p:=⟨w.heap.size,0,none⟩) (by simp)).trans (by simp)
  have q1:wo.cell? ⟨w.heap.size,1,none⟩=some (.int .i64 0):=(hg.cell (p:=⟨w.heap.size,1,none⟩) (by simp)).trans (by simp)
  have q2:wo.cell? ⟨w.heap.size,2,none⟩=some (.int .i64 0):=(hg.cell (p:=⟨w.heap.size,2,none⟩) (by simp)).trans (by simp)
  have y0:wo.frozen? ⟨w.heap.size,0,none⟩=false:=(hg.frozen (p:=⟨w.heap.size,0,none⟩) (by simp)).trans (by simp)
  have y1:wo.frozen? ⟨w.heap.size,1,none⟩=false:=(hg.frozen (p:=⟨w.heap.size,1,none⟩) (by simp)).trans (by simp)
  have y2:wo.frozen? ⟨w.heap.size,2,none⟩=false:=(hg.frozen (p:=⟨w.heap.size,2,none⟩) (by simp)).trans (by simp)
  by_cases hlt:k<m.vers.length
  . have hltI:(k:Int)<(m.vers.length:Int):=by omega
    have hi0:(0:Int)<=(k:Int):=by omega
    obtain ⟨b1,o1,ha1,hb1,dv,hsd,r0,r1,r2,r3,r4,r5,r6,r7⟩:=H1.o.get hlt
    have HS:=hid (HS0.o k hlt)
    have HX:=hid (HX0.o k hlt)
    generalize m.vers[k]=x at r0 r1 r2 r3 r4 r5 r6 r7 hsd HS HX
    obtain ⟨da,dc,rfl⟩:=hsd.len
    replace r0:=(hgw.cell (p:=⟨b1,o1+k * 8,none⟩) hb1).trans r0
    replace r1:=(hgw.cell (p:=⟨b1,o1+k * 8+1,none⟩) hb1).trans r1
    replace r2:=(hgw.cell (p:=⟨b1,o1+k * 8+2,none⟩) hb1).trans r2
    replace r3:=(hgw.cell (p:=⟨b1,o1+k * 8+3,none⟩) hb1).trans r3
    replace r4:=(hgw.cell (p:=⟨b1,o1+k * 8+4,none⟩) hb1).trans r4
    replace r5:=(hgw.cell (p:=⟨b1,o1+k * 8+5,none⟩) hb1).trans r5
    replace r6:=(hgw.cell (p:=⟨b1,o1+k * 8+6,none⟩) hb1).trans r6
    replace r7:=(hgw.cell (p:=⟨b1,o1+k * 8+7,none⟩) hb1).trans r7
    rw [ha1]
    have HA:=hid ha1
    clear ha1
    by_cases h64:k=512
    . have HF:Hid (wrL 5 512 (fun _=>rVer m) 0 m.vers=(5,512,3)):=by unfold Hid;rw [HE.o,HS.o,if_pos h64]
      subst h64
      go_wp2_with fail
      refine bodyPost_ret (v:=fltV (5,512,3)) (by simp [results,Tryz.results106,go_sem,fltV,q0,q1,q2,hzo']) rfl ⟨by rw [HF.o],?_⟩
      exact (((hgw.setCell (by simp) _).setCell (by simp) _).setCell (by simp) _).alloc (by simp;omega) _
    . have h64I:((k:Int) == 512)=false:=int_ne_lit (m:=512) h64
      have HS2:Hid (wrL 5 512 (fun _=>rVer m) 0 m.vers=if rVer m x then wrL 5 512 (fun _=>rVer m) (k+1) (m.vers.drop (k+1)) else (5,k,130)):=by unfold Hid;rw [HE.o,HS.o,if_neg h64]
      have HD:=hid (fun wx (hb:Bl w wx)=>vertices1_any m p H k x da dc wx (HC.o wx hb).1 (HC.o wx hb).2 HM.o HX.o (hsd.kept (Kept.of_below hb)))
      unfold verA at HD
      have hb0:Bl w (wo.alloc (.cells #[.string x.nm,.int .u8 x.kd,.int .i64 x.rg,.int .i64 x.ofv,.string x.en,.string x.ex,.slice da x.df.length dc,.string x.sb] 49)):=hgw.alloc (by omega) _
      generalize rVer m x=bR at HS2 HD
      go_wp2_with fail
      refine (HD.o _ hb0).mono ?_
      rintro e w2 ⟨rfl,g2⟩
      have hzb:w.heap.size<((wo.alloc (.cells #[.string x.nm,.int .u8 x.kd,.int .i64 x.rg,.int .i64 x.ofv,.string x.en,.string x.ex,.slice da x.df.length dc,.string x.sb] 49))).heap.size:=by simp;omega
      have g2':Below (w.heap.size+1) wo w2:=((Below.refl _ wo).alloc hzo _).trans (g2.mono (by simp;omega))
      have q0':=(g2'.cell (p:=⟨w.heap.size,0,none⟩) (by simp)).trans q0
      have q1':=(g2'.cell (p:=⟨w.heap.size,1,none⟩) (by simp)).trans q1
      have q2':=(g2'.cell (p:=⟨w.heap.size,2,none⟩) (by simp)).trans q2
      have y0':=(g2'.frozen (p:=⟨w.heap.size,0,none⟩) (by simp)).trans y0
      have y1':=(g2'.frozen (p:=⟨w.heap.size,1,none⟩) (by simp)).trans y1
      have y2':=(g2'.frozen (p:=⟨w.heap.size,2,none⟩) (by simp)).trans y2
      cases bR with
      | true =>
       go_wp2_with fail
       go_roundw
       case rel=>exact ⟨k+1,by omega,by go_num,hg.trans g2',(show Hid _ from by unfold Hid;have:=HS2.o;simpa using this)⟩
       case measure=>simp [intOf] <;> omega
      | false =>
       have HS3:Hid (wrL 5 512 (fun _=>rVer m) 0 m.vers=(5,k,130)):=by have:=HS2.o;unfold Hid;simpa using this
       go_wp2_with fail
       refine bodyPost_ret (v:=fltV (5,k,130)) (by simp [results,Tryz.results106,go_sem,fltV,q0',q1',q2']) rfl ⟨by rw [HS3.o],?_⟩
       exact (((hgw.trans (g2'.mono (by omega))).setCell (by simp) _).setCell (by simp) _).setCell (by simp) _
  . have HF:Hid (wrL 5 512 (fun _=>rVer m) 0 m.vers=(0,0,0)):=by unfold Hid;rw [HE.o,List.drop_eq_nil_of_le (by omega)];rfl
    go_wp2_with fail
    refine bodyPost_ret (v:=fltV (0,0,0)) (by simp [results,Tryz.results106,go_sem,fltV,q0,q1,q2]) rfl ⟨by rw [HF.o],?_⟩
    exact ((hgw.setCell (by simp) _).setCell (by simp) _).setCell (by simp) _
theorem wrDeep_any {Q:Nat->BP} (m:MdlD) (p:Ph) (H:Nat) (w:World) (h:MBox Q w m p H) (hT:Tab w) (hm:MdlOk m) (hU:UpOk m) :
   Calls Tryz.prog 106 #[.int .u8 5,.slice p.a4 m.vers.length p.c4,.int .i64 512,.func (.func 110) #[] #[.pointer (some ⟨H,0,none⟩)]] w (FltR (wrL 5 512 (fun i _=>rDeep m i) 0 m.vers) w):=by
 have hl:=hm.vers
 have H1:=hid h.mod.vers
 have HM:=hid hm
 have HC:=hid (fun wx (hb:Bl w wx)=>(⟨h.below hb,hT.next hb⟩:MBox Q wx m p H/\Tab wx))
 have HS0:Hid (∀ k (hk:k<m.vers.length),wrL 5 512 (fun i _=>rDeep m i) k (m.vers.drop k)=if k=512 then (5,512,3) else if (fun i _=>rDeep m i) k m.vers[k] then wrL 5 512 (fun i _=>rDeep m i) (k+1) (m.vers.drop (k+1)) else (5,k,130)):=fun k hk=>wrL_drop hk
 have HX0:Hid (∀ k (hk:k<m.vers.length),VerOk m.vers[k]):=fun k hk=>hm.verx _ (List.getElem_mem hk)
 clear h hm hT
 go_enter Tryz.func106,Tryz.ntmps106
 go_wp2_with fail
 go_loopw [13] (fun i wr=>∃ k:Nat,k<=m.vers.length/\i=.int .i64 k/\Below (w.heap.size+1) (w.alloc (.cells #[.int .u8 0,.int .i64 0,.int .i64 0] 114)) wr/\Hid (wrL 5 512 (fun i _=>rDeep m i) 0 m.vers=wrL 5 512 (fun i _=>rDeep m i) k (m.vers.drop k))) (fun i _=>m.vers.length - (intOf i).toNat)
 case atStart=>exact ⟨0,by omega,rfl,Below.refl _ _,(show Hid _ from rfl)⟩
 case round =>
  obtain ⟨wo,rfl⟩:=ex1 wr
  obtain ⟨k,hk,rfl,hg,HE⟩:=hrel
  have hgw:Bl w wo:=(below_al1 w _).trans (hg.mono (by omega))
  have hzo:w.heap.size+1<=wo.heap.size:=by have:=hg.size;simpa using this
  have hzo':w.heap.size<wo.heap.size:=hzo
  have q0:wo.cell? ⟨w.heap.size,0,none⟩=some (.int .u8 0):=(hg.cell (p:=⟨w.heap.size,0,none⟩) (by simp)).trans (by simp)
  have q1:wo.cell? ⟨w.heap.size,1,none⟩=some (.int .i64 0):=(hg.cell (p:=⟨w.heap.size,1,none⟩) (by simp)).trans (by simp)
  have q2:wo.cell? ⟨w.heap.size,2,none⟩=some (.int .i64 0):=(hg.cell (p:=⟨w.heap.size,2,none⟩) (by simp)).trans (by simp)
  have y0:wo.frozen? ⟨w.heap.size,0,none⟩=false:=(hg.frozen (p:=⟨w.heap.size,0,none⟩) (by simp)).trans (by simp)
  have y1:wo.frozen? ⟨w.heap.size,1,none⟩=false:=(hg.frozen (p:=⟨w.heap.size,1,none⟩) (by simp)).trans (by simp)
  have y2:wo.frozen? ⟨w.heap.size,2,none⟩=false:=(hg.frozen (p:=⟨w.heap.size,2,none⟩) (by simp)).trans (by simp)
  by_cases hlt:k<m.vers.length
  . have hltI:(k:Int)<(m.vers.length:Int):=by omega
    have hi0:(0:Int)<=(k:Int):=by omega
    obtain ⟨b1,o1,ha1,hb1,dv,hsd,r0,r1,r2,r3,r4,r5,r6,r7⟩:=H1.o.get hlt
    have HS:=hid (HS0.o k hlt)
    have HX:=hid (HX0.o k hlt)
    generalize m.vers[k]=x at r0 r1 r2 r3 r4 r5 r6 r7 hsd HS HX
    obtain ⟨da,dc,rfl⟩:=hsd.len
    replace r0:=(hgw.cell (p:=⟨b1,o1+k * 8,none⟩) hb1).trans r0
    replace r1:=(hgw.cell (p:=⟨b1,o1+k * 8+1,none⟩) hb1).trans r1
    replace r2:=(hgw.cell (p:=⟨b1,o1+k * 8+2,none⟩) hb1).trans r2
    replace r3:=(hgw.cell (p:=⟨b1,o1+k * 8+3,none⟩) hb1).trans r3
    replace r4:=(hgw.cell (p:=⟨b1,o1+k * 8+4,none⟩) hb1).trans r4
    replace r5:=(hgw.cell (p:=⟨b1,o1+k * 8+5,none⟩) hb1).trans r5
    replace r6:=(hgw.cell (p:=⟨b1,o1+k * 8+6,none⟩) hb1).trans r6
    replace r7:=(hgw.cell (p:=⟨b1,o1+k * 8+7,none⟩) hb1).trans r7
    rw [ha1]
    have HA:=hid ha1
    clear ha1
    by_cases h64:k=512
    . have HF:Hid (wrL 5 512 (fun i _=>rDeep m i) 0 m.vers=(5,512,3)):=by unfold Hid;rw [HE.o,HS.o,if_pos h64]
      subst h64
      go_wp2_with fail
      refine bodyPost_ret (v:=fltV (5,512,3)) (by simp [results,Tryz.results106,go_sem,fltV,q0,q1,q2,hzo']) rfl ⟨by rw [HF.o],?_⟩
      exact (((hgw.setCell (by simp) _).setCell (by simp) _).setCell (by simp) _).alloc (by simp;omega) _
    . have h64I:((k:Int) == 512)=false:=int_ne_lit (m:=512) h64
      have HS2:Hid (wrL 5 512 (fun i _=>rDeep m i) 0 m.vers=if rDeep m k then wrL 5 512 (fun i _=>rDeep m i) (k+1) (m.vers.drop (k+1)) else (5,k,130)):=by unfold Hid;rw [HE.o,HS.o,if_neg h64]
      have HD:=hid (fun wx (hb:Bl w wx)=>deep1_any m p H k x da dc wx (HC.o wx hb).1 hU HM.o hlt)
      unfold verA at HD
      have hb0:Bl w (wo.alloc (.cells #[.string x.nm,.int .u8 x.kd,.int .i64 x.rg,.int .i64 x.ofv,.string x.en,.string x.ex,.slice da x.df.length dc,.string x.sb] 49)):=hgw.alloc (by omega) _
      generalize rDeep m k=bR at HS2 HD
      go_wp2_with fail
      refine (HD.o _ hb0).mono ?_
      rintro e w2 ⟨rfl,g2⟩
      have hzb:w.heap.size<((wo.alloc (.cells #[.string x.nm,.int .u8 x.kd,.int .i64 x.rg,.int .i64 x.ofv,.string x.en,.string x.ex,.slice da x.df.length dc,.string x.sb] 49))).heap.size:=by simp;omega
      have g2':Below (w.heap.size+1) wo w2:=((Below.refl _ wo).alloc hzo _).trans (g2.mono (by simp;omega))
      have q0':=(g2'.cell (p:=⟨w.heap.size,0,none⟩) (by simp)).trans q0
      have q1':=(g2'.cell (p:=⟨w.heap.size,1,none⟩) (by simp)).trans q1
      have q2':=(g2'.cell (p:=⟨w.heap.size,2,none⟩) (by simp)).trans q2
      have y0':=(g2'.frozen (p:=⟨w.heap.size,0,none⟩) (by simp)).trans y0
      have y1':=(g2'.frozen (p:=⟨w.heap.size,1,none⟩) (by simp)).trans y1
      have y2':=(g2'.frozen (p:=⟨w.heap.size,2,none⟩) (by simp)).trans y2
      cases bR with
      | true =>
       go_wp2_with fail
       go_roundw
       case rel=>exact ⟨k+1,by omega,by go_num,hg.trans g2',(show Hid _ from by unfold Hid;have:=HS2.o;simpa using this)⟩
       case measure=>simp [intOf] <;> omega
      | false =>
       have HS3:Hid (wrL 5 512 (fun i _=>rDeep m i) 0 m.vers=(5,k,130)):=by have:=HS2.o;unfold Hid;simpa using this
       go_wp2_with fail
       refine bodyPost_ret (v:=fltV (5,k,130)) (by simp [results,Tryz.results106,go_sem,fltV,q0',q1',q2']) rfl ⟨by rw [HS3.o],?_⟩
       exact (((hgw.trans (g2'.mono (by omega))).setCell (by simp) _).setCell (by simp) _).setCell (by simp) _
  . have HF:Hid (wrL 5 512 (fun i _=>rDeep m i) 0 m.vers=(0,0,0)):=by unfold Hid;rw [HE.o,List.drop_eq_nil_of_le (by omega)];rfl
    go_wp2_with fail
    refine bodyPost_ret (v:=fltV (0,0,0)) (by simp [results,Tryz.results106,go_sem,fltV,q0,q1,q2]) rfl ⟨by rw [HF.o],?_⟩
    exact ((hgw.setCell (by simp) _).setCell (by simp) _).setCell (by simp) _
theorem wrWay_any {Q:Nat->BP} (m:MdlD) (p:Ph) (H V:Nat) (w:World) (h:MBox Q w m p H) (hT:Tab w) (hm:MdlOk m) (hV:w.cell? ⟨V,0,none⟩=some (.func (.func 112) #[] #[.pointer (some ⟨H,0,none⟩)])) (hVs:V<w.heap.size) :
   Calls Tryz.prog 113 #[.int .u8 6,.slice p.a5 m.trns.length p.c5,.int .i64 512,.func (.func 114) #[] #[.pointer (some ⟨V,0,none⟩),.pointer (some ⟨H,0,none⟩)]] w (FltR (wrL 6 512 (fun _=>rWay m) 0 m.trns) w):=by
 have hl:=hm.trns
 have H1:=hid h.mod.trns
 have HM:=hid hm
 have HC:=hid (fun wx (hb:Bl w wx)=>(⟨h.below hb,hT.next hb⟩:MBox Q wx m p H/\Tab wx))
 have HS0:Hid (∀ k (hk:k<m.trns.length),wrL 6 512 (fun _=>rWay m) k (m.trns.drop k)=if k=512 then (6,512,3) else if (fun _=>rWay m) k m.trns[k] then wrL 6 512 (fun _=>rWay m) (k+1) (m.trns.drop (k+1)) else (6,k,130)):=fun k hk=>wrL_drop hk
 have HX0:Hid (∀ k (hk:k<m.trns.length),TrnOk m.trns[k]):=fun k hk=>hm.trnx _ (List.getElem_mem hk)
 have HVV:=hid (fun wx (hb:Bl w wx)=>(⟨(hb.cell (p:=⟨V,0,none⟩) hVs).trans hV,Nat.lt_of_lt_of_le hVs hb.size⟩:wx.cell? ⟨V,0,none⟩=some (.func (.func 112) #[] #[.pointer (some ⟨H,0,none⟩)])/\V<wx.heap.size))
 clear hV hVs
 clear h hm hT
 go_enter Tryz.func113,Tryz.ntmps113
 go_wp2_with fail
 go_loopw [13] (fun i wr=>∃ k:Nat,k<=m.trns.length/\i=.int .i64 k/\Below (w.heap.size+1) (w.alloc (.cells #[.int .u8 0,.int .i64 0,.int .i64 0] 114)) wr/\Hid (wrL 6 512 (fun _=>rWay m) 0 m.trns=wrL 6 512 (fun _=>rWay m) k (m.trns.drop k))) (fun i _=>m.trns.length - (intOf i).toNat)
 case atStart=>exact ⟨0,by omega,rfl,Below.refl _ _,(show Hid _ from rfl)⟩
 case round =>
  obtain ⟨wo,rfl⟩:=ex1 wr
  obtain ⟨k,hk,rfl,hg,HE⟩:=hrel
  have hgw:Bl w wo:=(below_al1 w _).trans (hg.mono (by omega))
  have hzo:w.heap.size+1<=wo.heap.size:=by have:=hg.size;simpa using this
  have hzo':w.heap.size<wo.heap.size:=hzo
  have q0:wo.cell? ⟨w.heap.size,0,none⟩=some (.int .u8 0):=(hg.cell (p:=⟨w.heap.size,0,none⟩) (by simp)).trans (by simp)
  have q1:wo.cell? ⟨w.heap.size,1,none⟩=some (.int .i64 0):=(hg.cell (p:=⟨w.heap.size,1,none⟩) (by simp)).trans (by simp)
  have q2:wo.cell? ⟨w.heap.size,2,none⟩=some (.int .i64 0):=(hg.cell (p:=⟨w.heap.size,2,none⟩) (by simp)).trans (by simp)
  have y0:wo.frozen? ⟨w.heap.size,0,none⟩=false:=(hg.frozen (p:=⟨w.heap.size,0,none⟩) (by simp)).trans (by simp)
  have y1:wo.frozen? ⟨w.heap.size,1,none⟩=false:=(hg.frozen (p:=⟨w.heap.size,1,none⟩) (by simp)).trans (by simp)
  have y2:wo.frozen? ⟨w.heap.size,2,none⟩=false:=(hg.frozen (p:=⟨w.heap.size,2,none⟩) (by simp)).trans (by simp)
  by_cases hlt:k<m.trns.length
  . have hltI:(k:Int)<(m.trns.length:Int):=by omega
    have hi0:(0:Int)<=(k:Int):=by omega
    obtain ⟨b1,o1,ha1,hb1,dv,hsd,r0,r1,r2,r3,r4,r5,r6,r7⟩:=H1.o.get hlt
    have HS:=hid (HS0.o k hlt)
    have HX:=hid (HX0.o k hlt)
    generalize m.trns[k]=x at r0 r1 r2 r3 r4 r5 r6 r7 hsd HS HX
    obtain ⟨da,dc,rfl⟩:=hsd.len
    replace r0:=(hgw.cell (p:=⟨b1,o1+k * 8,none⟩) hb1).trans r0
    replace r1:=(hgw.cell (p:=⟨b1,o1+k * 8+1,none⟩) hb1).trans r1
    replace r2:=(hgw.cell (p:=⟨b1,o1+k * 8+2,none⟩) hb1).trans r2
    replace r3:=(hgw.cell (p:=⟨b1,o1+k * 8+3,none⟩) hb1).trans r3
    replace r4:=(hgw.cell (p:=⟨b1,o1+k * 8+4,none⟩) hb1).trans r4
    replace r5:=(hgw.cell (p:=⟨b1,o1+k * 8+5,none⟩) hb1).trans r5
    replace r6:=(hgw.cell (p:=⟨b1,o1+k * 8+6,none⟩) hb1).trans r6
    replace r7:=(hgw.cell (p:=⟨b1,o1+k * 8+7,none⟩) hb1).trans r7
    rw [ha1]
    have HA:=hid ha1
    clear ha1
    by_cases h64:k=512
    . have HF:Hid (wrL 6 512 (fun _=>rWay m) 0 m.trns=(6,512,3)):=by unfold Hid;rw [HE.o,HS.o,if_pos h64]
      subst h64
      go_wp2_with fail
      refine bodyPost_ret (v:=fltV (6,512,3)) (by simp [results,Tryz.results113,go_sem,fltV,q0,q1,q2,hzo']) rfl ⟨by rw [HF.o],?_⟩
      exact (((hgw.setCell (by simp) _).setCell (by simp) _).setCell (by simp) _).alloc (by simp;omega) _
    . have h64I:((k:Int) == 512)=false:=int_ne_lit (m:=512) h64
      have HS2:Hid (wrL 6 512 (fun _=>rWay m) 0 m.trns=if rWay m x then wrL 6 512 (fun _=>rWay m) (k+1) (m.trns.drop (k+1)) else (6,k,130)):=by unfold Hid;rw [HE.o,HS.o,if_neg h64]
      have HD:=hid (fun wx (hb:Bl w wx)=>ways2_any m p H V k x da dc wx (HC.o wx hb).1 (HC.o wx hb).2 HM.o HX.o (hsd.kept (Kept.of_below hb)) (HVV.o wx hb).1 (HVV.o wx hb).2)
      unfold trnA at HD
      have hb0:Bl w (wo.alloc (.cells #[.string x.nm,.int .i64 x.src,.int .i64 x.tgt,.slice da x.tr.length dc,.int .i64 x.af,.string x.gd,.string x.ef,.int .u8 x.kd] 59)):=hgw.alloc (by omega) _
      generalize rWay m x=bR at HS2 HD
      go_wp2_with fail
      refine (HD.o _ hb0).mono ?_
      rintro e w2 ⟨rfl,g2⟩
      have hzb:w.heap.size<((wo.alloc (.cells #[.string x.nm,.int .i64 x.src,.int .i64 x.tgt,.slice da x.tr.length dc,.int .i64 x.af,.string x.gd,.string x.ef,.int .u8 x.kd] 59))).heap.size:=by simp;omega
      have g2':Below (w.heap.size+1) wo w2:=((Below.refl _ wo).alloc hzo _).trans (g2.mono (by simp;omega))
      have q0':=(g2'.cell (p:=⟨w.heap.size,0,none⟩) (by simp)).trans q0
      have q1':=(g2'.cell (p:=⟨w.heap.size,1,none⟩) (by simp)).trans q1
      have q2':=(g2'.cell (p:=⟨w.heap.size,2,none⟩) (by simp)).trans q2
      have y0':=(g2'.frozen (p:=⟨w.heap.size,0,none⟩) (by simp)).trans y0
      have y1':=(g2'.frozen (p:=⟨w.heap.size,1,none⟩) (by simp)).trans y1
      have y2':=(g2'.frozen (p:=⟨w.heap.size,2,none⟩) (by simp)).trans y2
      cases bR with
      | true =>
       go_wp2_with fail
       go_roundw
       case rel=>exact ⟨k+1,by omega,by go_num,hg.trans g2',(show Hid _ from by unfold Hid;have:=HS2.o;simpa using this)⟩
       case measure=>simp [intOf] <;> omega
      | false =>
       have HS3:Hid (wrL 6 512 (fun _=>rWay m) 0 m.trns=(6,k,130)):=by have:=HS2.o;unfold Hid;simpa using this
       go_wp2_with fail
       refine bodyPost_ret (v:=fltV (6,k,130)) (by simp [results,Tryz.results113,go_sem,fltV,q0',q1',q2']) rfl ⟨by rw [HS3.o],?_⟩
       exact (((hgw.trans (g2'.mono (by omega))).setCell (by simp) _).setCell (by simp) _).setCell (by simp) _
  . have HF:Hid (wrL 6 512 (fun _=>rWay m) 0 m.trns=(0,0,0)):=by unfold Hid;rw [HE.o,List.drop_eq_nil_of_le (by omega)];rfl
    go_wp2_with fail
    refine bodyPost_ret (v:=fltV (0,0,0)) (by simp [results,Tryz.results113,go_sem,fltV,q0,q1,q2]) rfl ⟨by rw [HF.o],?_⟩
    exact ((hgw.setCell (by simp) _).setCell (by simp) _).setCell (by simp) _
theorem cell_newat (W:World) {n:Nat} {v:Value} {T:TypeId} (h:W.heap.size=n):(W.alloc (.cells #[v] T)).cell? ⟨n,0,none⟩=some v:=by
 subst h;simp
theorem zf0 (w:World) (a:Obj) {wx:World} (g:Below ((w.alloc a).alloc (.cells #[.int .u8 0,.int .i64 0,.int .i64 0] 114)).heap.size ((w.alloc a).alloc (.cells #[.int .u8 0,.int .i64 0,.int .i64 0] 114)) wx) :
   wx.cell? ⟨w.heap.size+1,0,none⟩=some (.int .u8 0)/\wx.cell? ⟨w.heap.size+1,1,none⟩=some (.int .i64 0)/\wx.cell? ⟨w.heap.size+1,2,none⟩=some (.int .i64 0)/\wx.frozen? ⟨w.heap.size+1,0,none⟩=false/\wx.frozen? ⟨w.heap.size+1,1,none⟩=false/\wx.frozen? ⟨w.heap.size+1,2,none⟩=false :=
 ⟨(g.cell (p:=⟨w.heap.size+1,0,none⟩) (by simp)).trans (by simp),(g.cell (p:=⟨w.heap.size+1,1,none⟩) (by simp)).trans (by simp),(g.cell (p:=⟨w.heap.size+1,2,none⟩) (by simp)).trans (by simp),(g.frozen (p:=⟨w.heap.size+1,0,none⟩) (by simp)).trans (by simp),(g.frozen (p:=⟨w.heap.size+1,1,none⟩) (by simp)).trans (by simp),(g.frozen (p:=⟨w.heap.size+1,2,none⟩) (by simp)).trans (by simp)⟩
theorem below_set3 {B:Nat} {w wx:World} {b:Nat} (h:Below B w wx) (hb:B<=b) (x y z:Value):Below B w (((wx.setCell ⟨b,0,none⟩ x).setCell ⟨b,1,none⟩ y).setCell ⟨b,2,none⟩ z):=((h.setCell hb _).setCell hb _).setCell hb _
theorem mVars {Q:Nat->BP} (m:MdlD) (p:Ph) (w:World) (h:Mod Q w m p) (hT:Tab w) (hm:MdlOk m) :
   Calls Tryz.prog 61 #[mdV m p] w (FltR (f2 m) w):=by
 unfold mdV
 have HC:=hid (wrVar_any m p w.heap.size ((w.alloc (.cells #[.string m.nm,.slice p.a1 m.vars.length p.c1,.slice p.a2 m.evs.length p.c2,.slice p.a3 m.regs.length p.c3,.slice p.a4 m.vers.length p.c4,.slice p.a5 m.trns.length p.c5] 42)).alloc (.cells #[.int .u8 0,.int .i64 0,.int .i64 0] 114)) ((MBox.made h).below (below_al1 _ _)) (hT.next (below_al2 w _ _)) hm)
 have HE:Hid (f2 m=wrL 2 64 (rVar m) 0 m.vars):=by unfold Hid;rfl
 rw [<- HE.o] at HC
 unfold FltR fltV at HC
 generalize f2 m=f at HC |-
 clear h hT hm HE
 go_enter Tryz.func61,Tryz.ntmps61
 go_wp2_with (go_at_call 97;refine HC.o.mono ?_;rintro e wx ⟨rfl,g⟩;obtain ⟨q0,q1,q2,y0,y1,y2⟩:=zf0 w _ g)
 refine bodyPost_ret (v:=fltV f) (by simp [results,Tryz.results61,go_sem,fltV,q0,q1,q2]) rfl ⟨rfl,?_⟩
 exact below_set3 (below_box2 g) (by omega) _ _ _
theorem mSignals {Q:Nat->BP} (m:MdlD) (p:Ph) (w:World) (h:Mod Q w m p) (hT:Tab w) (hm:MdlOk m) :
   Calls Tryz.prog 62 #[mdV m p] w (FltR (f3 m) w):=by
 unfold mdV
 have HC:=hid (wrEv_any m p w.heap.size ((w.alloc (.cells #[.string m.nm,.slice p.a1 m.vars.length p.c1,.slice p.a2 m.evs.length p.c2,.slice p.a3 m.regs.length p.c3,.slice p.a4 m.vers.length p.c4,.slice p.a5 m.trns.length p.c5] 42)).alloc (.cells #[.int .u8 0,.int .i64 0,.int .i64 0] 114)) ((MBox.made h).below (below_al1 _ _)) (hT.next (below_al2 w _ _)) hm)
 have HE:Hid (f3 m=wrL 3 64 (rEv m) 0 m.evs):=by unfold Hid;rfl
 rw [<- HE.o] at HC
 unfold FltR fltV at HC
 generalize f3 m=f at HC |-
 clear h hT hm HE
 go_enter Tryz.func62,Tryz.ntmps62
 go_wp2_with (go_at_call 100;refine HC.o.mono ?_;rintro e wx ⟨rfl,g⟩;obtain ⟨q0,q1,q2,y0,y1,y2⟩:=zf0 w _ g)
 refine bodyPost_ret (v:=fltV f) (by simp [results,Tryz.results62,go_sem,fltV,q0,q1,q2]) rfl ⟨rfl,?_⟩
 exact below_set3 (below_box2 g) (by omega) _ _ _
theorem mVertices {Q:Nat->BP} (m:MdlD) (p:Ph) (w:World) (h:Mod Q w m p) (hT:Tab w) (hm:MdlOk m) :
   Calls Tryz.prog 64 #[mdV m p] w (FltR (f5 m) w):=by
 unfold mdV
 have HC:=hid (wrVer_any m p w.heap.size ((w.alloc (.cells #[.string m.nm,.slice p.a1 m.vars.length p.c1,.slice p.a2 m.evs.length p.c2,.slice p.a3 m.regs.length p.c3,.slice p.a4 m.vers.length p.c4,.slice p.a5 m.trns.length p.c5] 42)).alloc (.cells #[.int .u8 0,.int .i64 0,.int .i64 0] 114)) ((MBox.made h).below (below_al1 _ _)) (hT.next (below_al2 w _ _)) hm)
 have HE:Hid (f5 m=wrL 5 512 (fun _=>rVer m) 0 m.vers):=by unfold Hid;rfl
 rw [<- HE.o] at HC
 unfold FltR fltV at HC
 generalize f5 m=f at HC |-
 clear h hT hm HE
 go_enter Tryz.func64,Tryz.ntmps64
 go_wp2_with (go_at_call 106;refine HC.o.mono ?_;rintro e wx ⟨rfl,g⟩;obtain ⟨q0,q1,q2,y0,y1,y2⟩:=zf0 w _ g)
 refine bodyPost_ret (v:=fltV f) (by simp [results,Tryz.results64,go_sem,fltV,q0,q1,q2]) rfl ⟨rfl,?_⟩
 exact below_set3 (below_box2 g) (by omega) _ _ _
theorem mDeep {Q:Nat->BP} (m:MdlD) (p:Ph) (w:World) (h:Mod Q w m p) (hT:Tab w) (hm:MdlOk m) (hU:UpOk m) :
   Calls Tryz.prog 65 #[mdV m p] w (FltR (f6 m) w):=by
 unfold mdV
 have HC:=hid (wrDeep_any m p w.heap.size ((w.alloc (.cells #[.string m.nm,.slice p.a1 m.vars.length p.c1,.slice p.a2 m.evs.length p.c2,.slice p.a3 m.regs.length p.c3,.slice p.a4 m.vers.length p.c4,.slice p.a5 m.trns.length p.c5] 42)).alloc (.cells #[.int .u8 0,.int .i64 0,.int .i64 0] 114)) ((MBox.made h).below (below_al1 _ _)) (hT.next (below_al2 w _ _)) hm hU)
 have HE:Hid (f6 m=wrL 5 512 (fun i _=>rDeep m i) 0 m.vers):=by unfold Hid;rfl
 rw [<- HE.o] at HC
 unfold FltR fltV at HC
 generalize f6 m=f at HC |-
 clear h hT hm HE
 go_enter Tryz.func65,Tryz.ntmps65
 go_wp2_with (go_at_call 106;refine HC.o.mono ?_;rintro e wx ⟨rfl,g⟩;obtain ⟨q0,q1,q2,y0,y1,y2⟩:=zf0 w _ g)
 refine bodyPost_ret (v:=fltV f) (by simp [results,Tryz.results65,go_sem,fltV,q0,q1,q2]) rfl ⟨rfl,?_⟩
 exact below_set3 (below_box2 g) (by omega) _ _ _
theorem mName {Q:Nat->BP} (m:MdlD) (p:Ph) (w:World) (h:Mod Q w m p) (hT:Tab w) (hm:MdlOk m) :
   Calls Tryz.prog 60 #[mdV m p] w (FltR (f1 m) w):=by
 unfold mdV
 have HC:=hid (lis_any m.nm ((w.alloc (.cells #[.string m.nm,.slice p.a1 m.vars.length p.c1,.slice p.a2 m.evs.length p.c2,.slice p.a3 m.regs.length p.c3,.slice p.a4 m.vers.length p.c4,.slice p.a5 m.trns.length p.c5] 42)).alloc (.cells #[.int .u8 0,.int .i64 0,.int .i64 0] 114)) (hT.next (below_al2 w _ _)) hm.nm)
 have HE:Hid (f1 m=if isT m.nm.data.toList == 2 then (0,0,0) else (1,0,130)):=by unfold Hid;rfl
 generalize f1 m=f at HE |-
 generalize isT m.nm.data.toList=kk at HE HC
 clear h hT hm
 by_cases hk:kk=2
 . subst hk
   obtain rfl:f=(0,0,0):=by rw [HE.o];rfl
   go_enter Tryz.func60,Tryz.ntmps60
   go_wp2_with (go_at_call 96;refine HC.o.mono ?_;rintro e wx ⟨rfl,g⟩;obtain ⟨q0,q1,q2,y0,y1,y2⟩:=zf0 w _ g)
   refine bodyPost_ret (v:=fltV (0,0,0)) (by simp [results,Tryz.results60,go_sem,fltV,q0,q1,q2]) rfl ⟨rfl,?_⟩
   first
   | exact below_set3 (below_box2 g) (by omega) _ _ _
   | exact ((below_box2 g).setCell (by simp) _).setCell (by simp) _
 . have hk2:=int_ne2 hk
   obtain rfl:f=(1,0,130):=by rw [HE.o];simp [hk]
   clear hk
   go_enter Tryz.func60,Tryz.ntmps60
   go_wp2_with (go_at_call 96;refine HC.o.mono ?_;rintro e wx ⟨rfl,g⟩;obtain ⟨q0,q1,q2,y0,y1,y2⟩:=zf0 w _ g)
   refine bodyPost_ret (v:=fltV (1,0,130)) (by simp [results,Tryz.results60,go_sem,fltV,q0,q1,q2]) rfl ⟨rfl,?_⟩
   exact below_set3 (below_box2 g) (by omega) _ _ _
theorem mRegions {Q:Nat->BP} (m:MdlD) (p:Ph) (w:World) (h:Mod Q w m p) (hT:Tab w) (hm:MdlOk m) :
   Calls Tryz.prog 63 #[mdV m p] w (FltR (f4 m) w):=by
 unfold mdV
 have HC:=hid (wrReg_any m p w.heap.size ((w.alloc (.cells #[.string m.nm,.slice p.a1 m.vars.length p.c1,.slice p.a2 m.evs.length p.c2,.slice p.a3 m.regs.length p.c3,.slice p.a4 m.vers.length p.c4,.slice p.a5 m.trns.length p.c5] 42)).alloc (.cells #[.int .u8 0,.int .i64 0,.int .i64 0] 114)) ((MBox.made h).below (below_al1 _ _)) (hT.next (below_al2 w _ _)) hm)
 have HE:Hid (f4 m=if m.regs.length=0 then (4,0,130) else wrL 4 512 (rReg m) 0 m.regs):=by unfold Hid;rfl
 unfold FltR fltV at HC
 have l3:=hm.regs
 clear h hT hm
 cases h0:((m.regs.length:Int) == 0) with
 | true =>
  have hz:m.regs.length=0:=by simpa using h0
  have HE2:Hid (f4 m=(4,0,130)):=by unfold Hid;rw [HE.o,if_pos hz]
  generalize f4 m=f at HE2 |-
  obtain rfl:=HE2.o
  clear hz
  go_enter Tryz.func63,Tryz.ntmps63
  go_wp2_with fail
  refine bodyPost_ret (v:=fltV (4,0,130)) (by simp [results,Tryz.results63,go_sem,fltV]) rfl ⟨rfl,?_⟩
  first
  | exact below_al2 w _ _
  | exact below_set3 (below_al2 w _ _) (by omega) _ _ _
 | false =>
  have hz:¬ m.regs.length=0:=by intro h;rw [h] at h0;exact absurd h0 (by decide)
  have HE2:Hid (f4 m=wrL 4 512 (rReg m) 0 m.regs):=by unfold Hid;rw [HE.o,if_neg hz]
  rw [<- HE2.o] at HC
  generalize f4 m=f at HC |-
  clear hz
  go_enter Tryz.func63,Tryz.ntmps63
  go_wp2_with (go_at_call 102;refine HC.o.mono ?_;rintro e wx ⟨rfl,g⟩;obtain ⟨q0,q1,q2,y0,y1,y2⟩:=zf0 w _ g)
  refine bodyPost_ret (v:=fltV f) (by simp [results,Tryz.results63,go_sem,fltV,q0,q1,q2]) rfl ⟨rfl,?_⟩
  exact below_set3 (below_box2 g) (by omega) _ _ _
theorem mWays {Q:Nat->BP} (m:MdlD) (p:Ph) (w:World) (h:Mod Q w m p) (hT:Tab w) (hm:MdlOk m) :
   Calls Tryz.prog 66 #[mdV m p] w (FltR (f7 m) w):=by
 unfold mdV
 have hg3:Bl w (((w.alloc (.cells #[.string m.nm,.slice p.a1 m.vars.length p.c1,.slice p.a2 m.evs.length p.c2,.slice p.a3 m.regs.length p.c3,.slice p.a4 m.vers.length p.c4,.slice p.a5 m.trns.length p.c5] 42)).alloc (.cells #[.int .u8 0,.int .i64 0,.int .i64 0] 114)).alloc (.cells #[.func (.func 112) #[] #[.pointer (some ⟨w.heap.size,0,none⟩)]] 101)):=(below_al2 w _ _).alloc (by simp;omega) _
 have HC:=hid (wrWay_any m p w.heap.size (w.heap.size+2) (((w.alloc (.cells #[.string m.nm,.slice p.a1 m.vars.length p.c1,.slice p.a2 m.evs.length p.c2,.slice p.a3 m.regs.length p.c3,.slice p.a4 m.vers.length p.c4,.slice p.a5 m.trns.length p.c5] 42)).alloc (.cells #[.int .u8 0,.int .i64 0,.int .i64 0] 114)).alloc (.cells #[.func (.func 112) #[] #[.pointer (some ⟨w.heap.size,0,none⟩)]] 101)) (((MBox.made h).below (below_al1 _ _)).below (below_al1 _ _)) (hT.next hg3) hm (cell_newat ((w.alloc (.cells #[.string m.nm,.slice p.a1 m.vars.length p.c1,.slice p.a2 m.evs.length p.c2,.slice p.a3 m.regs.length p.c3,.slice p.a4 m.vers.length p.c4,.slice p.a5 m.trns.length p.c5] 42)).alloc (.cells #[.int .u8 0,.int .i64 0,.int .i64 0] 114)) (by simp)) (by simp <;> omega))
 have HE:Hid (f7 m=wrL 6 512 (fun _=>rWay m) 0 m.trns):=by unfold Hid;rfl
 rw [<- HE.o] at HC
 unfold FltR fltV at HC
 generalize f7 m=f at HC |-
 clear h hT hm HE
 go_enter Tryz.func66,Tryz.ntmps66
 go_wp2_with (go_at_call 113;refine HC.o.mono ?_;rintro e wx ⟨rfl,g0⟩;have g:=(below_al1 ((w.alloc (.cells #[.string m.nm,.slice p.a1 m.vars.length p.c1,.slice p.a2 m.evs.length p.c2,.slice p.a3 m.regs.length p.c3,.slice p.a4 m.vers.length p.c4,.slice p.a5 m.trns.length p.c5] 42)).alloc (.cells #[.int .u8 0,.int .i64 0,.int .i64 0] 114)) (.cells #[.func (.func 112) #[] #[.pointer (some ⟨w.heap.size,0,none⟩)]] 101)).trans (g0.mono (by simp));obtain ⟨q0,q1,q2,y0,y1,y2⟩:=zf0 w _ g)
 refine bodyPost_ret (v:=fltV f) (by simp [results,Tryz.results66,go_sem,fltV,q0,q1,q2]) rfl ⟨rfl,?_⟩
 exact below_set3 (below_box2 g) (by omega) _ _ _
end Go.Proofs
