/- Walks: 'Same', the program's and the reference's. -/
import Derived.Test.YtfladiadgkfebaaGreatDoorKMdAB
import Derived.Deep.RegionHeld3
namespace Go.Proofs
open Go.RowKit Go.Lx Go.Md Go.Shelf
open Lib(hid)
set_option maxRecDepth 100000
set_option maxHeartbeats 0
theorem eqfVer {Q Q' R R':BP} (a1 a2:Option Addr) (c1 c2:Nat) (l1 l2:List VerD) (w:World) (h1:Sl Q 8 (VerE R) w (.slice a1 l1.length c1) l1) (h2:Sl Q' 8 (VerE R') w (.slice a2 l2.length c2) l2) (hl:l1.length<=140737488355328) (hd:∀ x ∈ l1,x.df.length<=140737488355328) :
   Calls Tryz.prog 72 #[.slice a1 l1.length c1,.slice a2 l2.length c2,.func (.func 67) #[] #[]] w fun e w'=>e=.returned (.bool (eqL eqVer l1 l2))/\Bl w w':=by
 by_cases hn:l1.length=l2.length
 . have hnI:(l1.length:Int)=(l2.length:Int):=by omega
   have H1:=hid h1
   have H2:=hid h2
   have HN:=hid hn
   have HD:=hid hd
   clear h1 h2 hn hd
   go_enter Tryz.func72,Tryz.ntmps72
   go_wp2_with fail
   go_loopw [17] (fun i wr=>∃ k:Nat,k<=l1.length/\i=.int .i64 k/\Bl w wr/\Hid (eqL eqVer l1 l2=eqL eqVer (l1.drop k) (l2.drop k))) (fun i _=>l1.length - (intOf i).toNat)
   case atStart=>exact ⟨0,by omega,rfl,Below.refl _ _,(show Hid _ from rfl)⟩
   case round =>
    obtain ⟨wo,rfl⟩:=ex1 wr
    obtain ⟨k,hk,rfl,hg,HE⟩:=hrel
    by_cases hlt:k<l1.length
    . have hltI:(k:Int)<(l1.length:Int):=by omega
      have hi0:(0:Int)<=(k:Int):=by omega
      have hlt2:k<l2.length:=by have:=HN.o;omega
      have hltI2:(k:Int)<(l2.length:Int):=by omega
      obtain ⟨b1,o1,ha1,hb1,dv1,hs1,hc1⟩:=H1.o.get hlt
      obtain ⟨b2,o2,ha2,hb2,dv2,hs2,hc2⟩:=H2.o.get hlt2
      have hdl:=HD.o _ (List.getElem_mem hlt)
      have hdr:=hid (eqL_drop (f:=eqVer) hlt hlt2)
      obtain ⟨x,hx⟩:∃ x,x=l1[k]:=⟨_,rfl⟩
      obtain ⟨y,hy⟩:∃ y,y=l2[k]:=⟨_,rfl⟩
      rw [<- hx] at hc1 hdr hs1 hdl
      rw [<- hy] at hc2 hdr hs2
      subst ha1 ha2
      obtain ⟨da1,dc1,rfl⟩:=hs1.len
      obtain ⟨da2,dc2,rfl⟩:=hs2.len
      have HC:=hid (fun wx (hb:Bl w wx)=>sameVer_any x y da1 da2 dc1 dc2 wx (hs1.kept (Kept.of_below hb)) (hs2.kept (Kept.of_below hb)) hdl)
      obtain ⟨p0,p1,p2,p3,p4,p5,p6,p7⟩:=hc1
      obtain ⟨q0,q1,q2,q3,q4,q5,q6,q7⟩:=hc2
      have hcw:∀ {b o:Nat} {u:Value},b<w.heap.size->w.cell? ⟨b,o,none⟩=some u->wo.cell? ⟨b,o,none⟩=some u:=fun {b o u} hb h=>(hg.cell (p:=⟨b,o,none⟩) hb).trans h
      replace p0:=hcw hb1 p0
      replace p1:=hcw hb1 p1
      replace p2:=hcw hb1 p2
      replace p3:=hcw hb1 p3
      replace p4:=hcw hb1 p4
      replace p5:=hcw hb1 p5
      replace p6:=hcw hb1 p6
      replace p7:=hcw hb1 p7
      replace q0:=hcw hb2 q0
      replace q1:=hcw hb2 q1
      replace q2:=hcw hb2 q2
      replace q3:=hcw hb2 q3
      replace q4:=hcw hb2 q4
      replace q5:=hcw hb2 q5
      replace q6:=hcw hb2 q6
      replace q7:=hcw hb2 q7
      have hbo1:b1<wo.heap.size:=Nat.lt_of_lt_of_le hb1 hg.size
      have hbo2:b2<wo.heap.size:=Nat.lt_of_lt_of_le hb2 hg.size
      clear hx hy hs1 hs2 hcw
      cases hxy:eqVer x y with
      | true =>
       rw [hxy] at HC
       go_wp2_with fail
       refine (HC.o _ ((hg.alloc hg.size _).alloc (by have:=hg.size;simp;omega) _)).mono ?_
       rintro e w3 ⟨rfl,g3⟩
       go_wp2_with fail
       go_roundw
       case rel=>exact ⟨k+1,by omega,by go_num,hg.trans ((below_box2 g3).mono hg.size),(show Hid _ from by unfold Hid;rw [HE.o,hdr.o,hxy,Bool.true_and])⟩
       case measure=>simp [intOf] <;> omega
      | false =>
       rw [hxy] at HC
       go_wp2_with fail
       refine (HC.o _ ((hg.alloc hg.size _).alloc (by have:=hg.size;simp;omega) _)).mono ?_
       rintro e w3 ⟨rfl,g3⟩
       go_wp2_with fail
       go_ret
       exact ⟨ret_bool (by rw [HE.o,hdr.o,hxy,Bool.false_and]),hg.trans ((below_box2 g3).mono hg.size)⟩
    . go_wp2_with fail
      go_ret
      exact ⟨ret_bool (by rw [HE.o,List.drop_eq_nil_of_le (by omega),List.drop_eq_nil_of_le (by have:=HN.o;omega)];rfl),hg⟩
 . have hnI:¬ (l1.length:Int)=(l2.length:Int):=by omega
   have HX:=hid (Bool.eq_false_iff.2 (fun h=>hn (eqL_len h)):eqL eqVer l1 l2=false)
   clear hn h1 h2
   go_enter Tryz.func72,Tryz.ntmps72
   go_wp2_with fail
   go_ret
   exact ⟨ret_bool (by rw [HX.o]),Below.refl _ _⟩
theorem eqfTrn {Q Q' R R':BP} (a1 a2:Option Addr) (c1 c2:Nat) (l1 l2:List TrnD) (w:World) (h1:Sl Q 8 (TrnE R) w (.slice a1 l1.length c1) l1) (h2:Sl Q' 8 (TrnE R') w (.slice a2 l2.length c2) l2) (hl:l1.length<=140737488355328) (hd:∀ x ∈ l1,x.tr.length<=140737488355328) :
   Calls Tryz.prog 73 #[.slice a1 l1.length c1,.slice a2 l2.length c2,.func (.func 69) #[] #[]] w fun e w'=>e=.returned (.bool (eqL eqTrn l1 l2))/\Bl w w':=by
 by_cases hn:l1.length=l2.length
 . have hnI:(l1.length:Int)=(l2.length:Int):=by omega
   have H1:=hid h1
   have H2:=hid h2
   have HN:=hid hn
   have HD:=hid hd
   clear h1 h2 hn hd
   go_enter Tryz.func73,Tryz.ntmps73
   go_wp2_with fail
   go_loopw [17] (fun i wr=>∃ k:Nat,k<=l1.length/\i=.int .i64 k/\Bl w wr/\Hid (eqL eqTrn l1 l2=eqL eqTrn (l1.drop k) (l2.drop k))) (fun i _=>l1.length - (intOf i).toNat)
   case atStart=>exact ⟨0,by omega,rfl,Below.refl _ _,(show Hid _ from rfl)⟩
   case round =>
    obtain ⟨wo,rfl⟩:=ex1 wr
    obtain ⟨k,hk,rfl,hg,HE⟩:=hrel
    by_cases hlt:k<l1.length
    . have hltI:(k:Int)<(l1.length:Int):=by omega
      have hi0:(0:Int)<=(k:Int):=by omega
      have hlt2:k<l2.length:=by have:=HN.o;omega
      have hltI2:(k:Int)<(l2.length:Int):=by omega
      obtain ⟨b1,o1,ha1,hb1,dv1,hs1,hc1⟩:=H1.o.get hlt
      obtain ⟨b2,o2,ha2,hb2,dv2,hs2,hc2⟩:=H2.o.get hlt2
      have hdl:=HD.o _ (List.getElem_mem hlt)
      have hdr:=hid (eqL_drop (f:=eqTrn) hlt hlt2)
      obtain ⟨x,hx⟩:∃ x,x=l1[k]:=⟨_,rfl⟩
      obtain ⟨y,hy⟩:∃ y,y=l2[k]:=⟨_,rfl⟩
      rw [<- hx] at hc1 hdr hs1 hdl
      rw [<- hy] at hc2 hdr hs2
      subst ha1 ha2
      obtain ⟨da1,dc1,rfl⟩:=hs1.len
      obtain ⟨da2,dc2,rfl⟩:=hs2.len
      have HC:=hid (fun wx (hb:Bl w wx)=>sameTrn_any x y da1 da2 dc1 dc2 wx (hs1.kept (Kept.of_below hb)) (hs2.kept (Kept.of_below hb)) hdl)
      obtain ⟨p0,p1,p2,p3,p4,p5,p6,p7⟩:=hc1
      obtain ⟨q0,q1,q2,q3,q4,q5,q6,q7⟩:=hc2
      have hcw:∀ {b o:Nat} {u:Value},b<w.heap.size->w.cell? ⟨b,o,none⟩=some u->wo.cell? ⟨b,o,none⟩=some u:=fun {b o u} hb h=>(hg.cell (p:=⟨b,o,none⟩) hb).trans h
      replace p0:=hcw hb1 p0
      replace p1:=hcw hb1 p1
      replace p2:=hcw hb1 p2
      replace p3:=hcw hb1 p3
      replace p4:=hcw hb1 p4
      replace p5:=hcw hb1 p5
      replace p6:=hcw hb1 p6
      replace p7:=hcw hb1 p7
      replace q0:=hcw hb2 q0
      replace q1:=hcw hb2 q1
      replace q2:=hcw hb2 q2
      replace q3:=hcw hb2 q3
      replace q4:=hcw hb2 q4
      replace q5:=hcw hb2 q5
      replace q6:=hcw hb2 q6
      replace q7:=hcw hb2 q7
      have hbo1:b1<wo.heap.size:=Nat.lt_of_lt_of_le hb1 hg.size
      have hbo2:b2<wo.heap.size:=Nat.lt_of_lt_of_le hb2 hg.size
      clear hx hy hs1 hs2 hcw
      cases hxy:eqTrn x y with
      | true =>
       rw [hxy] at HC
       go_wp2_with fail
       refine (HC.o _ ((hg.alloc hg.size _).alloc (by have:=hg.size;simp;omega) _)).mono ?_
       rintro e w3 ⟨rfl,g3⟩
       go_wp2_with fail
       go_roundw
       case rel=>exact ⟨k+1,by omega,by go_num,hg.trans ((below_box2 g3).mono hg.size),(show Hid _ from by unfold Hid;rw [HE.o,hdr.o,hxy,Bool.true_and])⟩
       case measure=>simp [intOf] <;> omega
      | false =>
       rw [hxy] at HC
       go_wp2_with fail
       refine (HC.o _ ((hg.alloc hg.size _).alloc (by have:=hg.size;simp;omega) _)).mono ?_
       rintro e w3 ⟨rfl,g3⟩
       go_wp2_with fail
       go_ret
       exact ⟨ret_bool (by rw [HE.o,hdr.o,hxy,Bool.false_and]),hg.trans ((below_box2 g3).mono hg.size)⟩
    . go_wp2_with fail
      go_ret
      exact ⟨ret_bool (by rw [HE.o,List.drop_eq_nil_of_le (by omega),List.drop_eq_nil_of_le (by have:=HN.o;omega)];rfl),hg⟩
 . have hnI:¬ (l1.length:Int)=(l2.length:Int):=by omega
   have HX:=hid (Bool.eq_false_iff.2 (fun h=>hn (eqL_len h)):eqL eqTrn l1 l2=false)
   clear hn h1 h2
   go_enter Tryz.func73,Tryz.ntmps73
   go_wp2_with fail
   go_ret
   exact ⟨ret_bool (by rw [HX.o]),Below.refl _ _⟩
theorem same_any {Q Q':Nat->BP} (m n:MdlD) (p q:Ph) (w:World) (h1:Mod Q w m p) (h2:Mod Q' w n q) (hm:MdlOk m) :
   Calls Tryz.prog 35 #[mdV m p,mdV n q] w fun e w'=>e=.returned (.bool (sameM m n))/\Bl w w':=by
 unfold mdV
 have HV:=hid (fun wx (hb:Bl w wx)=>slEq_89 p.a1 q.a1 p.c1 q.c1 m.vars n.vars wx (h1.vars.kept (VarE.mono (R:=Q 0)) (Kept.of_below hb) (Kept.of_below hb)) (h2.vars.kept (VarE.mono (R:=Q' 0)) (Kept.of_below hb) (Kept.of_below hb)) hm.vars)
 have HE:=hid (fun wx (hb:Bl w wx)=>slEqS_any p.a2 q.a2 p.c2 q.c2 m.evs n.evs wx (h1.evs.kept (Kept.of_below hb)) (h2.evs.kept (Kept.of_below hb)) hm.evs)
 have HR:=hid (fun wx (hb:Bl w wx)=>slEq_57 p.a3 q.a3 p.c3 q.c3 m.regs n.regs wx (h1.regs.kept (RegE.mono (R:=Q 0)) (Kept.of_below hb) (Kept.of_below hb)) (h2.regs.kept (RegE.mono (R:=Q' 0)) (Kept.of_below hb) (Kept.of_below hb)) hm.regs)
 have HX:=hid (fun wx (hb:Bl w wx)=>eqfVer p.a4 q.a4 p.c4 q.c4 m.vers n.vers wx (h1.vers.kept VerE.mono (Kept.of_below hb) (Kept.of_below hb)) (h2.vers.kept VerE.mono (Kept.of_below hb) (Kept.of_below hb)) hm.vers (fun x hx=>(hm.verx x hx).df))
 have HT:=hid (fun wx (hb:Bl w wx)=>eqfTrn p.a5 q.a5 p.c5 q.c5 m.trns n.trns wx (h1.trns.kept TrnE.mono (Kept.of_below hb) (Kept.of_below hb)) (h2.trns.kept TrnE.mono (Kept.of_below hb) (Kept.of_below hb)) hm.trns (fun x hx=>(hm.trnx x hx).tr))
 have HS:Hid (sameM m n=(eqS m.nm n.nm && eqL eqVar m.vars n.vars && eqL eqS m.evs n.evs && eqL eqReg m.regs n.regs && eqL eqVer m.vers n.vers && eqL eqTrn m.trns n.trns)):=by unfold Hid;rfl
 have HF:Hid (∀ wx,Below ((w.alloc (.cells #[.string m.nm,.slice p.a1 m.vars.length p.c1,.slice p.a2 m.evs.length p.c2,.slice p.a3 m.regs.length p.c3,.slice p.a4 m.vers.length p.c4,.slice p.a5 m.trns.length p.c5] 42)).alloc (.cells #[.string n.nm,.slice q.a1 n.vars.length q.c1,.slice q.a2 n.evs.length q.c2,.slice q.a3 n.regs.length q.c3,.slice q.a4 n.vers.length q.c4,.slice q.a5 n.trns.length q.c5] 42)).heap.size ((w.alloc (.cells #[.string m.nm,.slice p.a1 m.vars.length p.c1,.slice p.a2 m.evs.length p.c2,.slice p.a3 m.regs.length p.c3,.slice p.a4 m.vers.length p.c4,.slice p.a5 m.trns.length p.c5] 42)).alloc (.cells #[.string n.nm,.slice q.a1 n.vars.length q.c1,.slice q.a2 n.evs.length q.c2,.slice q.a3 n.regs.length q.c3,.slice q.a4 n.vers.length q.c4,.slice q.a5 n.trns.length q.c5] 42)) wx->wx.cell? ⟨w.heap.size,0,none⟩=some (.string m.nm)/\wx.cell? ⟨w.heap.size+1,0,none⟩=some (.string n.nm)/\wx.cell? ⟨w.heap.size,1,none⟩=some (.slice p.a1 m.vars.length p.c1)/\wx.cell? ⟨w.heap.size+1,1,none⟩=some (.slice q.a1 n.vars.length q.c1)/\wx.cell? ⟨w.heap.size,2,none⟩=some (.slice p.a2 m.evs.length p.c2)/\wx.cell? ⟨w.heap.size+1,2,none⟩=some (.slice q.a2 n.evs.length q.c2)/\wx.cell? ⟨w.heap.size,3,none⟩=some (.slice p.a3 m.regs.length p.c3)/\wx.cell? ⟨w.heap.size+1,3,none⟩=some (.slice q.a3 n.regs.length q.c3)/\wx.cell? ⟨w.heap.size,4,none⟩=some (.slice p.a4 m.vers.length p.c4)/\wx.cell? ⟨w.heap.size+1,4,none⟩=some (.slice q.a4 n.vers.length q.c4)/\wx.cell? ⟨w.heap.size,5,none⟩=some (.slice p.a5 m.trns.length p.c5)/\wx.cell? ⟨w.heap.size+1,5,none⟩=some (.slice q.a5 n.trns.length q.c5)):=by
   intro wx G
   exact ⟨box2_0 G (by simp),box2_1 G (by simp),box2_0 G (by simp),box2_1 G (by simp),box2_0 G (by simp),box2_1 G (by simp),box2_0 G (by simp),box2_1 G (by simp),box2_0 G (by simp),box2_1 G (by simp),box2_0 G (by simp),box2_1 G (by simp)⟩
 generalize eqL eqVar m.vars n.vars=bV at HV HS
 generalize eqL eqS m.evs n.evs=bE at HE HS
 generalize eqL eqReg m.regs n.regs=bR at HR HS
 generalize eqL eqVer m.vers n.vers=bX at HX HS
 generalize eqL eqTrn m.trns n.trns=bT at HT HS
 generalize sameM m n=R at HS |-
 simp only [eqS] at HS
 clear h1 h2 hm
 go_enter Tryz.func35,Tryz.ntmps35
 go_wp2_with (first
   | (go_at_call 70;refine (HV.o _ (((Below.refl _ w).alloc (Nat.le_refl _) _).alloc (by simp) _)).mono ?_;rintro e w3 ⟨rfl,G3⟩;obtain ⟨p0,q0,p1,q1,p2,q2,p3,q3,p4,q4,p5,q5⟩:=HF.o _ G3)
   | (go_at_call 68;refine (HE.o _ (below_box2 G3)).mono ?_;rintro e w4 ⟨rfl,g4⟩;have G4:=G3.trans (g4.mono G3.size);obtain ⟨p0,q0,p1,q1,p2,q2,p3,q3,p4,q4,p5,q5⟩:=HF.o _ G4)
   | (go_at_call 71;refine (HR.o _ (below_box2 G4)).mono ?_;rintro e w5 ⟨rfl,g5⟩;have G5:=G4.trans (g5.mono G4.size);obtain ⟨p0,q0,p1,q1,p2,q2,p3,q3,p4,q4,p5,q5⟩:=HF.o _ G5)
   | (go_at_call 72;refine (HX.o _ (below_box2 G5)).mono ?_;rintro e w6 ⟨rfl,g6⟩;have G6:=G5.trans (g6.mono G5.size);obtain ⟨p0,q0,p1,q1,p2,q2,p3,q3,p4,q4,p5,q5⟩:=HF.o _ G6)
   | (go_at_call 73;refine (HT.o _ (below_box2 G6)).mono ?_;rintro e w7 ⟨rfl,g7⟩;have G7:=G6.trans (g7.mono G6.size)))
 all_goals
   go_ret
   refine ⟨ret_bool ?_,?_⟩
   . rw [HS.o]
     simp_all
   . first
     | exact below_box2 G7
     | exact below_box2 G6
     | exact below_box2 G5
     | exact below_box2 G4
     | exact below_box2 G3
     | exact (((Below.refl _ w).alloc (Nat.le_refl _) _).alloc (by simp) _)
theorem sameM_true {m n:MdlD} (h0:eqS m.nm n.nm=true) (h1:eqL eqVar m.vars n.vars=true) (h2:eqL eqS m.evs n.evs=true) (h3:eqL eqReg m.regs n.regs=true) (h4:eqL eqVer m.vers n.vers=true) (h5:eqL eqTrn m.trns n.trns=true):sameM m n=true:=by
 unfold sameM;rw [h0,h1,h2,h3,h4,h5];rfl
theorem sameM_false {m n:MdlD} (h:eqL eqVar m.vars n.vars=false\/eqL eqReg m.regs n.regs=false\/eqL eqVer m.vers n.vers=false\/eqL eqTrn m.trns n.trns=false):sameM m n=false:=by
 unfold sameM;rcases h with h | h | h | h <;> rw [h] <;> simp
def HeadOk (m n:MdlD):Prop:=eqS m.nm n.nm=true/\m.vars.length=n.vars.length/\eqL eqS m.evs n.evs=true/\m.regs.length=n.regs.length/\m.vers.length=n.vers.length/\m.trns.length=n.trns.length
theorem head_false {m n:MdlD} (h:¬ HeadOk m n):sameM m n=false:=by
 rw [Bool.eq_false_iff]
 intro hs
 unfold sameM at hs
 simp only [Bool.and_eq_true] at hs
 exact h ⟨hs.1.1.1.1.1,eqL_len hs.1.1.1.1.2,hs.1.1.1.2,eqL_len hs.1.1.2,eqL_len hs.1.2,eqL_len hs.2⟩
theorem rsame_any {Q Q':Nat->BP} (m n:MdlD) (p q:Ph) (w:World) (h1:Mod Q w m p) (h2:Mod Q' w n q) (hm:MdlOk m) :
   Calls Tryz.prog 10 #[mdV m p,mdV n q] w fun e w'=>e=.returned (.bool (sameM m n))/\Bl w w':=by
 unfold mdV
 have HE:=hid (fun wx (hb:Bl w wx)=>texts_any p.a2 q.a2 p.c2 q.c2 m.evs n.evs wx (h1.evs.kept (Kept.of_below hb)) (h2.evs.kept (Kept.of_below hb)) hm.evs)
 have HF:Hid (∀ wx,Below ((w.alloc (.cells #[.string m.nm,.slice p.a1 m.vars.length p.c1,.slice p.a2 m.evs.length p.c2,.slice p.a3 m.regs.length p.c3,.slice p.a4 m.vers.length p.c4,.slice p.a5 m.trns.length p.c5] 33)).alloc (.cells #[.string n.nm,.slice q.a1 n.vars.length q.c1,.slice q.a2 n.evs.length q.c2,.slice q.a3 n.regs.length q.c3,.slice q.a4 n.vers.length q.c4,.slice q.a5 n.trns.length q.c5] 33)).heap.size ((w.alloc (.cells #[.string m.nm,.slice p.a1 m.vars.length p.c1,.slice p.a2 m.evs.length p.c2,.slice p.a3 m.regs.length p.c3,.slice p.a4 m.vers.length p.c4,.slice p.a5 m.trns.length p.c5] 33)).alloc (.cells #[.string n.nm,.slice q.a1 n.vars.length q.c1,.slice q.a2 n.evs.length q.c2,.slice q.a3 n.regs.length q.c3,.slice q.a4 n.vers.length q.c4,.slice q.a5 n.trns.length q.c5] 33)) wx->wx.cell? ⟨w.heap.size,0,none⟩=some (.string m.nm)/\wx.cell? ⟨w.heap.size+1,0,none⟩=some (.string n.nm)/\wx.cell? ⟨w.heap.size,1,none⟩=some (.slice p.a1 m.vars.length p.c1)/\wx.cell? ⟨w.heap.size+1,1,none⟩=some (.slice q.a1 n.vars.length q.c1)/\wx.cell? ⟨w.heap.size,2,none⟩=some (.slice p.a2 m.evs.length p.c2)/\wx.cell? ⟨w.heap.size+1,2,none⟩=some (.slice q.a2 n.evs.length q.c2)/\wx.cell? ⟨w.heap.size,3,none⟩=some (.slice p.a3 m.regs.length p.c3)/\wx.cell? ⟨w.heap.size+1,3,none⟩=some (.slice q.a3 n.regs.length q.c3)/\wx.cell? ⟨w.heap.size,4,none⟩=some (.slice p.a4 m.vers.length p.c4)/\wx.cell? ⟨w.heap.size+1,4,none⟩=some (.slice q.a4 n.vers.length q.c4)/\wx.cell? ⟨w.heap.size,5,none⟩=some (.slice p.a5 m.trns.length p.c5)/\wx.cell? ⟨w.heap.size+1,5,none⟩=some (.slice q.a5 n.trns.length q.c5)):=by
   intro wx G
   exact ⟨box2_0 G (by simp),box2_1 G (by simp),box2_0 G (by simp),box2_1 G (by simp),box2_0 G (by simp),box2_1 G (by simp),box2_0 G (by simp),box2_1 G (by simp),box2_0 G (by simp),box2_1 G (by simp),box2_0 G (by simp),box2_1 G (by simp)⟩
 by_cases hh:HeadOk m n
 . obtain ⟨e0,e1,e2,e3,e4,e5⟩:=hh
   have HN:=hid (And.intro e0 e2)
   have b0:(m.nm.toList == n.nm.toList)=true:=e0
   have i1:(m.vars.length:Int)=(n.vars.length:Int):=by omega
   have i3:(m.regs.length:Int)=(n.regs.length:Int):=by omega
   have i4:(m.vers.length:Int)=(n.vers.length:Int):=by omega
   have i5:(m.trns.length:Int)=(n.trns.length:Int):=by omega
   have HL:=hid (And.intro e1 (And.intro e3 (And.intro e4 e5)))
   have H1:=hid h1
   have H2:=hid h2
   have HM:=hid hm
   have bl1:=hm.vars
   have bl3:=hm.regs
   have bl4:=hm.vers
   have bl5:=hm.trns
   rw [e2] at HE
   clear e0 e1 e2 e3 e4 e5 h1 h2 hm
   go_enter Tryz.func10,Tryz.ntmps10
   go_wp2_with (first
     | (go_at_call 32;refine (HE.o _ (((Below.refl _ w).alloc (Nat.le_refl _) _).alloc (by simp) _)).mono ?_;rintro e w3 ⟨rfl,G3⟩;obtain ⟨p0,q0,p1,q1,p2,q2,p3,q3,p4,q4,p5,q5⟩:=HF.o _ G3))
   have HB:Hid (∀ wx,Bl w3 wx->wx.cell? ⟨w.heap.size,0,none⟩=some (.string m.nm)/\wx.cell? ⟨w.heap.size+1,0,none⟩=some (.string n.nm)/\wx.cell? ⟨w.heap.size,1,none⟩=some (.slice p.a1 m.vars.length p.c1)/\wx.cell? ⟨w.heap.size+1,1,none⟩=some (.slice q.a1 n.vars.length q.c1)/\wx.cell? ⟨w.heap.size,2,none⟩=some (.slice p.a2 m.evs.length p.c2)/\wx.cell? ⟨w.heap.size+1,2,none⟩=some (.slice q.a2 n.evs.length q.c2)/\wx.cell? ⟨w.heap.size,3,none⟩=some (.slice p.a3 m.regs.length p.c3)/\wx.cell? ⟨w.heap.size+1,3,none⟩=some (.slice q.a3 n.regs.length q.c3)/\wx.cell? ⟨w.heap.size,4,none⟩=some (.slice p.a4 m.vers.length p.c4)/\wx.cell? ⟨w.heap.size+1,4,none⟩=some (.slice q.a4 n.vers.length q.c4)/\wx.cell? ⟨w.heap.size,5,none⟩=some (.slice p.a5 m.trns.length p.c5)/\wx.cell? ⟨w.heap.size+1,5,none⟩=some (.slice q.a5 n.trns.length q.c5)):=fun wx g=>HF.o wx (G3.trans (g.mono G3.size))
   have gw3:Bl w w3:=below_box2 G3
   have hsz3:w.heap.size+2<=w3.heap.size:=by have:=G3.size;simp at this;omega
   clear HF HE p0 q0 p1 q1 p2 q2 p3 q3 p4 q4 p5 q5 G3
   go_loopw [5] (fun i wr=>∃ k:Nat,k<=m.vars.length/\i=.int .i64 k/\Bl w3 wr/\Hid (eqL eqVar m.vars n.vars=eqL eqVar (m.vars.drop k) (n.vars.drop k))) (fun i _=>m.vars.length - (intOf i).toNat)
   case atStart=>exact ⟨0,by omega,rfl,Below.refl _ _,(show Hid _ from rfl)⟩
   case round =>
    obtain ⟨wj1,rfl⟩:=ex1 wr
    obtain ⟨k,hk,rfl,g1,HE1⟩:=hrel
    obtain ⟨p0,q0,p1,q1,p2,q2,p3,q3,p4,q4,p5,q5⟩:=HB.o _ g1
    have gw1j:=gw3.trans (g1.mono gw3.size)
    by_cases hlt:k<m.vars.length
    . have hltI:(k:Int)<(m.vars.length:Int):=by omega
      have hi0:(0:Int)<=(k:Int):=by omega
      have hlt2:k<n.vars.length:=by have:=HL.o;omega
      have hltI2:(k:Int)<(n.vars.length:Int):=by omega
      obtain ⟨b1,o1,ha1,hb1,hc1⟩:=H1.o.vars.get hlt
      obtain ⟨b2,o2,ha2,hb2,hc2⟩:=H2.o.vars.get hlt2
      have hdr:=hid (eqL_drop (f:=eqVar) hlt hlt2)
      obtain ⟨x,hx⟩:∃ x,x=m.vars[k]:=⟨_,rfl⟩
      obtain ⟨y,hy⟩:∃ y,y=n.vars[k]:=⟨_,rfl⟩
      rw [<- hx] at hc1 hdr
      rw [<- hy] at hc2 hdr
      rw [ha1] at p1
      rw [ha2] at q1
      clear ha1 ha2
      have c10:=(gw1j.cell (p:=⟨b1,o1+k * 2,none⟩) hb1).trans hc1.1
      have c11:=(gw1j.cell (p:=⟨b1,o1+k * 2+1,none⟩) hb1).trans hc1.2
      have c20:=(gw1j.cell (p:=⟨b2,o2+k * 2,none⟩) hb2).trans hc2.1
      have c21:=(gw1j.cell (p:=⟨b2,o2+k * 2+1,none⟩) hb2).trans hc2.2
      have hgd':=(neqAt_70).2
      have hne':=(neqAt_70).1
      simp only at hne' hgd'
      unfold GuardAt at hgd'
      clear hc1 hc2 hx hy
      cases hxy:eqVar x y with
      | true =>
       go_wp2_with fail
       go_quiet (fail)
       go_wp2_with fail
       go_roundw
       case rel=>exact ⟨k+1,by omega,by go_num,below_drewN g1 _,(show Hid _ from by unfold Hid;rw [HE1.o,hdr.o,hxy,Bool.true_and])⟩
       case measure=>simp [intOf] <;> omega
      | false =>
       go_wp2_with fail
       go_quiet (fail)
       go_wp2_with fail
       go_ret
       exact ⟨ret_bool (sameM_false (.inl (by rw [HE1.o,hdr.o,hxy,Bool.false_and]))).symm,below_drewN gw1j _⟩
    . have HT1:Hid (eqL eqVar m.vars n.vars=true):=by
        unfold Hid
        rw [HE1.o,List.drop_eq_nil_of_le (by omega),List.drop_eq_nil_of_le (by have:=HL.o;omega)];rfl
      have hltN:¬ k<n.vars.length:=by have:=HL.o;omega
      go_wp2_with fail
      clear HE1 hlt hltN p0 q0 p1 q1 p2 q2 p3 q3 p4 q4 p5 q5
      go_loopw [6] (fun i wr=>∃ k:Nat,k<=m.regs.length/\i=.int .i64 k/\Bl w3 wr/\Hid (eqL eqReg m.regs n.regs=eqL eqReg (m.regs.drop k) (n.regs.drop k))) (fun i _=>m.regs.length - (intOf i).toNat)
      case atStart=>exact ⟨0,by omega,rfl,g1,(show Hid _ from rfl)⟩
      case round =>
       obtain ⟨wj2,rfl⟩:=ex1 wr
       obtain ⟨k,hk,rfl,g2,HE2⟩:=hrel
       obtain ⟨p0,q0,p1,q1,p2,q2,p3,q3,p4,q4,p5,q5⟩:=HB.o _ g2
       have gw2j:=gw3.trans (g2.mono gw3.size)
       by_cases hlt:k<m.regs.length
       . have hltI:(k:Int)<(m.regs.length:Int):=by omega
         have hi0:(0:Int)<=(k:Int):=by omega
         have hlt2:k<n.regs.length:=by have:=HL.o;omega
         have hltI2:(k:Int)<(n.regs.length:Int):=by omega
         obtain ⟨b1,o1,ha1,hb1,hc1⟩:=H1.o.regs.get hlt
         obtain ⟨b2,o2,ha2,hb2,hc2⟩:=H2.o.regs.get hlt2
         have hdr:=hid (eqL_drop (f:=eqReg) hlt hlt2)
         obtain ⟨x,hx⟩:∃ x,x=m.regs[k]:=⟨_,rfl⟩
         obtain ⟨y,hy⟩:∃ y,y=n.regs[k]:=⟨_,rfl⟩
         rw [<- hx] at hc1 hdr
         rw [<- hy] at hc2 hdr
         rw [ha1] at p3
         rw [ha2] at q3
         clear ha1 ha2
         have c10:=(gw2j.cell (p:=⟨b1,o1+k * 2,none⟩) hb1).trans hc1.1
         have c11:=(gw2j.cell (p:=⟨b1,o1+k * 2+1,none⟩) hb1).trans hc1.2
         have c20:=(gw2j.cell (p:=⟨b2,o2+k * 2,none⟩) hb2).trans hc2.1
         have c21:=(gw2j.cell (p:=⟨b2,o2+k * 2+1,none⟩) hb2).trans hc2.2
         have hgd':=(neqAt_84).2
         have hne':=(neqAt_84).1
         simp only at hne' hgd'
         unfold GuardAt at hgd'
         clear hc1 hc2 hx hy
         cases hxy:eqReg x y with
         | true =>
          go_wp2_with fail
          go_quiet (fail)
          go_wp2_with fail
          go_roundw
          case rel=>exact ⟨k+1,by omega,by go_num,below_drewN g2 _,(show Hid _ from by unfold Hid;rw [HE2.o,hdr.o,hxy,Bool.true_and])⟩
          case measure=>simp [intOf] <;> omega
         | false =>
          go_wp2_with fail
          go_quiet (fail)
          go_wp2_with fail
          go_ret
          exact ⟨ret_bool (sameM_false (.inr <| .inl (by rw [HE2.o,hdr.o,hxy,Bool.false_and]))).symm,below_drewN gw2j _⟩
       . have HT2:Hid (eqL eqReg m.regs n.regs=true):=by
           unfold Hid
           rw [HE2.o,List.drop_eq_nil_of_le (by omega),List.drop_eq_nil_of_le (by have:=HL.o;omega)];rfl
         have hltN:¬ k<n.regs.length:=by have:=HL.o;omega
         go_wp2_with fail
         clear HE2 hlt hltN p0 q0 p1 q1 p2 q2 p3 q3 p4 q4 p5 q5
         go_loopw [7] (fun i wr=>∃ k:Nat,k<=m.vers.length/\i=.int .i64 k/\Bl w3 wr/\Hid (eqL eqVer m.vers n.vers=eqL eqVer (m.vers.drop k) (n.vers.drop k))) (fun i _=>m.vers.length - (intOf i).toNat)
         case atStart=>exact ⟨0,by omega,rfl,g2,(show Hid _ from rfl)⟩
         case round =>
          obtain ⟨wj3,rfl⟩:=ex1 wr
          obtain ⟨k,hk,rfl,g3,HE3⟩:=hrel
          obtain ⟨p0,q0,p1,q1,p2,q2,p3,q3,p4,q4,p5,q5⟩:=HB.o _ g3
          have gw3j:=gw3.trans (g3.mono gw3.size)
          by_cases hlt:k<m.vers.length
          . have hltI:(k:Int)<(m.vers.length:Int):=by omega
            have hi0:(0:Int)<=(k:Int):=by omega
            have hlt2:k<n.vers.length:=by have:=HL.o;omega
            have hltI2:(k:Int)<(n.vers.length:Int):=by omega
            obtain ⟨b1,o1,ha1,hb1,hc1⟩:=H1.o.vers.get hlt
            obtain ⟨b2,o2,ha2,hb2,hc2⟩:=H2.o.vers.get hlt2
            have hdr:=hid (eqL_drop (f:=eqVer) hlt hlt2)
            have hdl:=(HM.o.verx _ (List.getElem_mem hlt)).df
            obtain ⟨dv1,hs1,hc1⟩:=hc1
            obtain ⟨dv2,hs2,hc2⟩:=hc2
            obtain ⟨x,hx⟩:∃ x,x=m.vers[k]:=⟨_,rfl⟩
            obtain ⟨y,hy⟩:∃ y,y=n.vers[k]:=⟨_,rfl⟩
            rw [<- hx] at hc1 hdr hs1 hdl
            rw [<- hy] at hc2 hdr
            rw [ha1] at p4
            rw [ha2] at q4
            clear ha1 ha2
            rw [<- hy] at hs2
            obtain ⟨da1,dc1,rfl⟩:=hs1.len
            obtain ⟨da2,dc2,rfl⟩:=hs2.len
            have HC:=hid (fun wx (hb:Bl w wx)=>rsameVer_any x y da1 da2 dc1 dc2 wx (hs1.kept (Kept.of_below hb)) (hs2.kept (Kept.of_below hb)) hdl)
            obtain ⟨r0,r1,r2,r3,r4,r5,r6,r7⟩:=hc1
            obtain ⟨s0,s1,s2,s3,s4,s5,s6,s7⟩:=hc2
            have hcw:∀ {b o:Nat} {u:Value},b<w.heap.size->w.cell? ⟨b,o,none⟩=some u->wj3.cell? ⟨b,o,none⟩=some u:=fun {b o u} hb h=>(gw3j.cell (p:=⟨b,o,none⟩) hb).trans h
            replace r0:=hcw hb1 r0
            replace s0:=hcw hb2 s0
            replace r1:=hcw hb1 r1
            replace s1:=hcw hb2 s1
            replace r2:=hcw hb1 r2
            replace s2:=hcw hb2 s2
            replace r3:=hcw hb1 r3
            replace s3:=hcw hb2 s3
            replace r4:=hcw hb1 r4
            replace s4:=hcw hb2 s4
            replace r5:=hcw hb1 r5
            replace s5:=hcw hb2 s5
            replace r6:=hcw hb1 r6
            replace s6:=hcw hb2 s6
            replace r7:=hcw hb1 r7
            replace s7:=hcw hb2 s7
            clear hx hy hs1 hs2 hcw
            have hszJ:=g3.size
            have hszw:=gw3j.size
            have hbo1:b1<wj3.heap.size:=by omega
            have hbo2:b2<wj3.heap.size:=by omega
            have hw0:w.heap.size<wj3.heap.size:=by omega
            have hw1:w.heap.size+1<wj3.heap.size:=by omega
            clear hszw
            cases hxy:eqVer x y with
            | true =>
             rw [hxy] at HC
             go_wp2_with fail
             go_region_held3 (fun w'=>w'.cell? ⟨w.heap.size,4,none⟩=some (.slice (some ⟨b1,o1,none⟩) m.vers.length p.c4)/\w'.cell? ⟨w.heap.size+1,4,none⟩=some (.slice (some ⟨b2,o2,none⟩) n.vers.length q.c4)/\w'.cell? ⟨b1,o1+k * 8,none⟩=some (.string x.nm)/\w'.cell? ⟨b2,o2+k * 8,none⟩=some (.string y.nm)/\w'.cell? ⟨b1,o1+k * 8+1,none⟩=some (.int .u8 x.kd)/\w'.cell? ⟨b2,o2+k * 8+1,none⟩=some (.int .u8 y.kd)/\w'.cell? ⟨b1,o1+k * 8+2,none⟩=some (.int .i64 x.rg)/\w'.cell? ⟨b2,o2+k * 8+2,none⟩=some (.int .i64 y.rg)/\w'.cell? ⟨b1,o1+k * 8+3,none⟩=some (.int .i64 x.ofv)/\w'.cell? ⟨b2,o2+k * 8+3,none⟩=some (.int .i64 y.ofv)/\w'.cell? ⟨b1,o1+k * 8+4,none⟩=some (.string x.en)/\w'.cell? ⟨b2,o2+k * 8+4,none⟩=some (.string y.en)/\w'.cell? ⟨b1,o1+k * 8+5,none⟩=some (.string x.ex)/\w'.cell? ⟨b2,o2+k * 8+5,none⟩=some (.string y.ex)/\w'.cell? ⟨b1,o1+k * 8+6,none⟩=some (.slice da1 x.df.length dc1)/\w'.cell? ⟨b2,o2+k * 8+6,none⟩=some (.slice da2 y.df.length dc2)/\w'.cell? ⟨b1,o1+k * 8+7,none⟩=some (.string x.sb)/\w'.cell? ⟨b2,o2+k * 8+7,none⟩=some (.string y.sb))
               (first | go_keep | exact ⟨(gc.cell (p:=⟨w.heap.size,4,none⟩) hw0).trans p4,(gc.cell (p:=⟨w.heap.size+1,4,none⟩) hw1).trans q4,(gc.cell (p:=⟨b1,o1+k * 8,none⟩) hbo1).trans r0,(gc.cell (p:=⟨b2,o2+k * 8,none⟩) hbo2).trans s0,(gc.cell (p:=⟨b1,o1+k * 8+1,none⟩) hbo1).trans r1,(gc.cell (p:=⟨b2,o2+k * 8+1,none⟩) hbo2).trans s1,(gc.cell (p:=⟨b1,o1+k * 8+2,none⟩) hbo1).trans r2,(gc.cell (p:=⟨b2,o2+k * 8+2,none⟩) hbo2).trans s2,(gc.cell (p:=⟨b1,o1+k * 8+3,none⟩) hbo1).trans r3,(gc.cell (p:=⟨b2,o2+k * 8+3,none⟩) hbo2).trans s3,(gc.cell (p:=⟨b1,o1+k * 8+4,none⟩) hbo1).trans r4,(gc.cell (p:=⟨b2,o2+k * 8+4,none⟩) hbo2).trans s4,(gc.cell (p:=⟨b1,o1+k * 8+5,none⟩) hbo1).trans r5,(gc.cell (p:=⟨b2,o2+k * 8+5,none⟩) hbo2).trans s5,(gc.cell (p:=⟨b1,o1+k * 8+6,none⟩) hbo1).trans r6,(gc.cell (p:=⟨b2,o2+k * 8+6,none⟩) hbo2).trans s6,(gc.cell (p:=⟨b1,o1+k * 8+7,none⟩) hbo1).trans r7,(gc.cell (p:=⟨b2,o2+k * 8+7,none⟩) hbo2).trans s7⟩)
               (first | (go_at_call 33;refine (HC.o _ gw3j.drew).mono ?_;rintro e w4 ⟨rfl,gc⟩))
             go_wp2_with fail
             go_roundw
             case rel=>exact ⟨k+1,by omega,by go_num,g3.drew.trans (gc.mono g3.size),(show Hid _ from by unfold Hid;rw [HE3.o,hdr.o,hxy,Bool.true_and])⟩
             case measure=>simp [intOf] <;> omega
            | false =>
             rw [hxy] at HC
             go_wp2_with fail
             go_region_held3 (fun w'=>w'.cell? ⟨w.heap.size,4,none⟩=some (.slice (some ⟨b1,o1,none⟩) m.vers.length p.c4)/\w'.cell? ⟨w.heap.size+1,4,none⟩=some (.slice (some ⟨b2,o2,none⟩) n.vers.length q.c4)/\w'.cell? ⟨b1,o1+k * 8,none⟩=some (.string x.nm)/\w'.cell? ⟨b2,o2+k * 8,none⟩=some (.string y.nm)/\w'.cell? ⟨b1,o1+k * 8+1,none⟩=some (.int .u8 x.kd)/\w'.cell? ⟨b2,o2+k * 8+1,none⟩=some (.int .u8 y.kd)/\w'.cell? ⟨b1,o1+k * 8+2,none⟩=some (.int .i64 x.rg)/\w'.cell? ⟨b2,o2+k * 8+2,none⟩=some (.int .i64 y.rg)/\w'.cell? ⟨b1,o1+k * 8+3,none⟩=some (.int .i64 x.ofv)/\w'.cell? ⟨b2,o2+k * 8+3,none⟩=some (.int .i64 y.ofv)/\w'.cell? ⟨b1,o1+k * 8+4,none⟩=some (.string x.en)/\w'.cell? ⟨b2,o2+k * 8+4,none⟩=some (.string y.en)/\w'.cell? ⟨b1,o1+k * 8+5,none⟩=some (.string x.ex)/\w'.cell? ⟨b2,o2+k * 8+5,none⟩=some (.string y.ex)/\w'.cell? ⟨b1,o1+k * 8+6,none⟩=some (.slice da1 x.df.length dc1)/\w'.cell? ⟨b2,o2+k * 8+6,none⟩=some (.slice da2 y.df.length dc2)/\w'.cell? ⟨b1,o1+k * 8+7,none⟩=some (.string x.sb)/\w'.cell? ⟨b2,o2+k * 8+7,none⟩=some (.string y.sb))
               (first | go_keep | exact ⟨(gc.cell (p:=⟨w.heap.size,4,none⟩) hw0).trans p4,(gc.cell (p:=⟨w.heap.size+1,4,none⟩) hw1).trans q4,(gc.cell (p:=⟨b1,o1+k * 8,none⟩) hbo1).trans r0,(gc.cell (p:=⟨b2,o2+k * 8,none⟩) hbo2).trans s0,(gc.cell (p:=⟨b1,o1+k * 8+1,none⟩) hbo1).trans r1,(gc.cell (p:=⟨b2,o2+k * 8+1,none⟩) hbo2).trans s1,(gc.cell (p:=⟨b1,o1+k * 8+2,none⟩) hbo1).trans r2,(gc.cell (p:=⟨b2,o2+k * 8+2,none⟩) hbo2).trans s2,(gc.cell (p:=⟨b1,o1+k * 8+3,none⟩) hbo1).trans r3,(gc.cell (p:=⟨b2,o2+k * 8+3,none⟩) hbo2).trans s3,(gc.cell (p:=⟨b1,o1+k * 8+4,none⟩) hbo1).trans r4,(gc.cell (p:=⟨b2,o2+k * 8+4,none⟩) hbo2).trans s4,(gc.cell (p:=⟨b1,o1+k * 8+5,none⟩) hbo1).trans r5,(gc.cell (p:=⟨b2,o2+k * 8+5,none⟩) hbo2).trans s5,(gc.cell (p:=⟨b1,o1+k * 8+6,none⟩) hbo1).trans r6,(gc.cell (p:=⟨b2,o2+k * 8+6,none⟩) hbo2).trans s6,(gc.cell (p:=⟨b1,o1+k * 8+7,none⟩) hbo1).trans r7,(gc.cell (p:=⟨b2,o2+k * 8+7,none⟩) hbo2).trans s7⟩)
               (first | (go_at_call 33;refine (HC.o _ gw3j.drew).mono ?_;rintro e w4 ⟨rfl,gc⟩))
             go_wp2_with fail
             go_ret
             exact ⟨ret_bool (sameM_false (.inr <| .inr <| .inl (by rw [HE3.o,hdr.o,hxy,Bool.false_and]))).symm,gw3j.drew.trans (gc.mono gw3j.size)⟩
          . have HT3:Hid (eqL eqVer m.vers n.vers=true):=by
              unfold Hid
              rw [HE3.o,List.drop_eq_nil_of_le (by omega),List.drop_eq_nil_of_le (by have:=HL.o;omega)];rfl
            have hltN:¬ k<n.vers.length:=by have:=HL.o;omega
            go_wp2_with fail
            clear HE3 hlt hltN p0 q0 p1 q1 p2 q2 p3 q3 p4 q4 p5 q5
            go_loopw [8] (fun i wr=>∃ k:Nat,k<=m.trns.length/\i=.int .i64 k/\Bl w3 wr/\Hid (eqL eqTrn m.trns n.trns=eqL eqTrn (m.trns.drop k) (n.trns.drop k))) (fun i _=>m.trns.length - (intOf i).toNat)
            case atStart=>exact ⟨0,by omega,rfl,g3,(show Hid _ from rfl)⟩
            case round =>
             obtain ⟨wj4,rfl⟩:=ex1 wr
             obtain ⟨k,hk,rfl,g4,HE4⟩:=hrel
             obtain ⟨p0,q0,p1,q1,p2,q2,p3,q3,p4,q4,p5,q5⟩:=HB.o _ g4
             have gw4j:=gw3.trans (g4.mono gw3.size)
             by_cases hlt:k<m.trns.length
             . have hltI:(k:Int)<(m.trns.length:Int):=by omega
               have hi0:(0:Int)<=(k:Int):=by omega
               have hlt2:k<n.trns.length:=by have:=HL.o;omega
               have hltI2:(k:Int)<(n.trns.length:Int):=by omega
               obtain ⟨b1,o1,ha1,hb1,hc1⟩:=H1.o.trns.get hlt
               obtain ⟨b2,o2,ha2,hb2,hc2⟩:=H2.o.trns.get hlt2
               have hdr:=hid (eqL_drop (f:=eqTrn) hlt hlt2)
               have hdl:=(HM.o.trnx _ (List.getElem_mem hlt)).tr
               obtain ⟨dv1,hs1,hc1⟩:=hc1
               obtain ⟨dv2,hs2,hc2⟩:=hc2
               obtain ⟨x,hx⟩:∃ x,x=m.trns[k]:=⟨_,rfl⟩
               obtain ⟨y,hy⟩:∃ y,y=n.trns[k]:=⟨_,rfl⟩
               rw [<- hx] at hc1 hdr hs1 hdl
               rw [<- hy] at hc2 hdr
               rw [ha1] at p5
               rw [ha2] at q5
               clear ha1 ha2
               rw [<- hy] at hs2
               obtain ⟨da1,dc1,rfl⟩:=hs1.len
               obtain ⟨da2,dc2,rfl⟩:=hs2.len
               have HC:=hid (fun wx (hb:Bl w wx)=>rsameTrn_any x y da1 da2 dc1 dc2 wx (hs1.kept (Kept.of_below hb)) (hs2.kept (Kept.of_below hb)) hdl)
               obtain ⟨r0,r1,r2,r3,r4,r5,r6,r7⟩:=hc1
               obtain ⟨s0,s1,s2,s3,s4,s5,s6,s7⟩:=hc2
               have hcw:∀ {b o:Nat} {u:Value},b<w.heap.size->w.cell? ⟨b,o,none⟩=some u->wj4.cell? ⟨b,o,none⟩=some u:=fun {b o u} hb h=>(gw4j.cell (p:=⟨b,o,none⟩) hb).trans h
               replace r0:=hcw hb1 r0
               replace s0:=hcw hb2 s0
               replace r1:=hcw hb1 r1
               replace s1:=hcw hb2 s1
               replace r2:=hcw hb1 r2
               replace s2:=hcw hb2 s2
               replace r3:=hcw hb1 r3
               replace s3:=hcw hb2 s3
               replace r4:=hcw hb1 r4
               replace s4:=hcw hb2 s4
               replace r5:=hcw hb1 r5
               replace s5:=hcw hb2 s5
               replace r6:=hcw hb1 r6
               replace s6:=hcw hb2 s6
               replace r7:=hcw hb1 r7
               replace s7:=hcw hb2 s7
               clear hx hy hs1 hs2 hcw
               have hszJ:=g4.size
               have hszw:=gw4j.size
               have hbo1:b1<wj4.heap.size:=by omega
               have hbo2:b2<wj4.heap.size:=by omega
               have hw0:w.heap.size<wj4.heap.size:=by omega
               have hw1:w.heap.size+1<wj4.heap.size:=by omega
               clear hszw
               cases hxy:eqTrn x y with
               | true =>
                rw [hxy] at HC
                go_wp2_with fail
                go_region_held3 (fun w'=>w'.cell? ⟨w.heap.size,5,none⟩=some (.slice (some ⟨b1,o1,none⟩) m.trns.length p.c5)/\w'.cell? ⟨w.heap.size+1,5,none⟩=some (.slice (some ⟨b2,o2,none⟩) n.trns.length q.c5)/\w'.cell? ⟨b1,o1+k * 8,none⟩=some (.string x.nm)/\w'.cell? ⟨b2,o2+k * 8,none⟩=some (.string y.nm)/\w'.cell? ⟨b1,o1+k * 8+1,none⟩=some (.int .i64 x.src)/\w'.cell? ⟨b2,o2+k * 8+1,none⟩=some (.int .i64 y.src)/\w'.cell? ⟨b1,o1+k * 8+2,none⟩=some (.int .i64 x.tgt)/\w'.cell? ⟨b2,o2+k * 8+2,none⟩=some (.int .i64 y.tgt)/\w'.cell? ⟨b1,o1+k * 8+3,none⟩=some (.slice da1 x.tr.length dc1)/\w'.cell? ⟨b2,o2+k * 8+3,none⟩=some (.slice da2 y.tr.length dc2)/\w'.cell? ⟨b1,o1+k * 8+4,none⟩=some (.int .i64 x.af)/\w'.cell? ⟨b2,o2+k * 8+4,none⟩=some (.int .i64 y.af)/\w'.cell? ⟨b1,o1+k * 8+5,none⟩=some (.string x.gd)/\w'.cell? ⟨b2,o2+k * 8+5,none⟩=some (.string y.gd)/\w'.cell? ⟨b1,o1+k * 8+6,none⟩=some (.string x.ef)/\w'.cell? ⟨b2,o2+k * 8+6,none⟩=some (.string y.ef)/\w'.cell? ⟨b1,o1+k * 8+7,none⟩=some (.int .u8 x.kd)/\w'.cell? ⟨b2,o2+k * 8+7,none⟩=some (.int .u8 y.kd))
                  (first | go_keep | exact ⟨(gc.cell (p:=⟨w.heap.size,5,none⟩) hw0).trans p5,(gc.cell (p:=⟨w.heap.size+1,5,none⟩) hw1).trans q5,(gc.cell (p:=⟨b1,o1+k * 8,none⟩) hbo1).trans r0,(gc.cell (p:=⟨b2,o2+k * 8,none⟩) hbo2).trans s0,(gc.cell (p:=⟨b1,o1+k * 8+1,none⟩) hbo1).trans r1,(gc.cell (p:=⟨b2,o2+k * 8+1,none⟩) hbo2).trans s1,(gc.cell (p:=⟨b1,o1+k * 8+2,none⟩) hbo1).trans r2,(gc.cell (p:=⟨b2,o2+k * 8+2,none⟩) hbo2).trans s2,(gc.cell (p:=⟨b1,o1+k * 8+3,none⟩) hbo1).trans r3,(gc.cell (p:=⟨b2,o2+k * 8+3,none⟩) hbo2).trans s3,(gc.cell (p:=⟨b1,o1+k * 8+4,none⟩) hbo1).trans r4,(gc.cell (p:=⟨b2,o2+k * 8+4,none⟩) hbo2).trans s4,(gc.cell (p:=⟨b1,o1+k * 8+5,none⟩) hbo1).trans r5,(gc.cell (p:=⟨b2,o2+k * 8+5,none⟩) hbo2).trans s5,(gc.cell (p:=⟨b1,o1+k * 8+6,none⟩) hbo1).trans r6,(gc.cell (p:=⟨b2,o2+k * 8+6,none⟩) hbo2).trans s6,(gc.cell (p:=⟨b1,o1+k * 8+7,none⟩) hbo1).trans r7,(gc.cell (p:=⟨b2,o2+k * 8+7,none⟩) hbo2).trans s7⟩)
                  (first | (go_at_call 34;refine (HC.o _ gw4j.drew).mono ?_;rintro e w4 ⟨rfl,gc⟩))
                go_wp2_with fail
                go_roundw
                case rel=>exact ⟨k+1,by omega,by go_num,g4.drew.trans (gc.mono g4.size),(show Hid _ from by unfold Hid;rw [HE4.o,hdr.o,hxy,Bool.true_and])⟩
                case measure=>simp [intOf] <;> omega
               | false =>
                rw [hxy] at HC
                go_wp2_with fail
                go_region_held3 (fun w'=>w'.cell? ⟨w.heap.size,5,none⟩=some (.slice (some ⟨b1,o1,none⟩) m.trns.length p.c5)/\w'.cell? ⟨w.heap.size+1,5,none⟩=some (.slice (some ⟨b2,o2,none⟩) n.trns.length q.c5)/\w'.cell? ⟨b1,o1+k * 8,none⟩=some (.string x.nm)/\w'.cell? ⟨b2,o2+k * 8,none⟩=some (.string y.nm)/\w'.cell? ⟨b1,o1+k * 8+1,none⟩=some (.int .i64 x.src)/\w'.cell? ⟨b2,o2+k * 8+1,none⟩=some (.int .i64 y.src)/\w'.cell? ⟨b1,o1+k * 8+2,none⟩=some (.int .i64 x.tgt)/\w'.cell? ⟨b2,o2+k * 8+2,none⟩=some (.int .i64 y.tgt)/\w'.cell? ⟨b1,o1+k * 8+3,none⟩=some (.slice da1 x.tr.length dc1)/\w'.cell? ⟨b2,o2+k * 8+3,none⟩=some (.slice da2 y.tr.length dc2)/\w'.cell? ⟨b1,o1+k * 8+4,none⟩=some (.int .i64 x.af)/\w'.cell? ⟨b2,o2+k * 8+4,none⟩=some (.int .i64 y.af)/\w'.cell? ⟨b1,o1+k * 8+5,none⟩=some (.string x.gd)/\w'.cell? ⟨b2,o2+k * 8+5,none⟩=some (.string y.gd)/\w'.cell? ⟨b1,o1+k * 8+6,none⟩=some (.string x.ef)/\w'.cell? ⟨b2,o2+k * 8+6,none⟩=some (.string y.ef)/\w'.cell? ⟨b1,o1+k * 8+7,none⟩=some (.int .u8 x.kd)/\w'.cell? ⟨b2,o2+k * 8+7,none⟩=some (.int .u8 y.kd))
                  (first | go_keep | exact ⟨(gc.cell (p:=⟨w.heap.size,5,none⟩) hw0).trans p5,(gc.cell (p:=⟨w.heap.size+1,5,none⟩) hw1).trans q5,(gc.cell (p:=⟨b1,o1+k * 8,none⟩) hbo1).trans r0,(gc.cell (p:=⟨b2,o2+k * 8,none⟩) hbo2).trans s0,(gc.cell (p:=⟨b1,o1+k * 8+1,none⟩) hbo1).trans r1,(gc.cell (p:=⟨b2,o2+k * 8+1,none⟩) hbo2).trans s1,(gc.cell (p:=⟨b1,o1+k * 8+2,none⟩) hbo1).trans r2,(gc.cell (p:=⟨b2,o2+k * 8+2,none⟩) hbo2).trans s2,(gc.cell (p:=⟨b1,o1+k * 8+3,none⟩) hbo1).trans r3,(gc.cell (p:=⟨b2,o2+k * 8+3,none⟩) hbo2).trans s3,(gc.cell (p:=⟨b1,o1+k * 8+4,none⟩) hbo1).trans r4,(gc.cell (p:=⟨b2,o2+k * 8+4,none⟩) hbo2).trans s4,(gc.cell (p:=⟨b1,o1+k * 8+5,none⟩) hbo1).trans r5,(gc.cell (p:=⟨b2,o2+k * 8+5,none⟩) hbo2).trans s5,(gc.cell (p:=⟨b1,o1+k * 8+6,none⟩) hbo1).trans r6,(gc.cell (p:=⟨b2,o2+k * 8+6,none⟩) hbo2).trans s6,(gc.cell (p:=⟨b1,o1+k * 8+7,none⟩) hbo1).trans r7,(gc.cell (p:=⟨b2,o2+k * 8+7,none⟩) hbo2).trans s7⟩)
                  (first | (go_at_call 34;refine (HC.o _ gw4j.drew).mono ?_;rintro e w4 ⟨rfl,gc⟩))
                go_wp2_with fail
                go_ret
                exact ⟨ret_bool (sameM_false (.inr <| .inr <| .inr (by rw [HE4.o,hdr.o,hxy,Bool.false_and]))).symm,gw4j.drew.trans (gc.mono gw4j.size)⟩
             . have HT4:Hid (eqL eqTrn m.trns n.trns=true):=by
                 unfold Hid
                 rw [HE4.o,List.drop_eq_nil_of_le (by omega),List.drop_eq_nil_of_le (by have:=HL.o;omega)];rfl
               have hltN:¬ k<n.trns.length:=by have:=HL.o;omega
               go_wp2_with fail
               clear HE4 hlt hltN p0 q0 p1 q1 p2 q2 p3 q3 p4 q4 p5 q5
               go_ret
               exact ⟨ret_bool (sameM_true HN.o.1 HT1.o HN.o.2 HT2.o HT3.o HT4.o).symm,gw4j⟩
 . have HX:=hid (head_false hh)
   have HN:=hid hh
   generalize hbE:eqL eqS m.evs n.evs=bE at HE
   have HbE:=hid hbE
   clear hh h1 h2 hm hbE
   go_enter Tryz.func10,Tryz.ntmps10
   go_wp2_with (first
     | (go_at_call 32;refine (HE.o _ (((Below.refl _ w).alloc (Nat.le_refl _) _).alloc (by simp) _)).mono ?_;rintro e w3 ⟨rfl,G3⟩;obtain ⟨p0,q0,p1,q1,p2,q2,p3,q3,p4,q4,p5,q5⟩:=HF.o _ G3))
   all_goals first
     | (go_ret
        refine ⟨ret_bool (by rw [HX.o]),?_⟩
        first
        | exact below_box2 G3
        | exact (((Below.refl _ w).alloc (Nat.le_refl _) _).alloc (by simp) _))
     | (exfalso
        refine HN.o ⟨?_,?_,?_,?_,?_,?_⟩ <;> first | omega | (rw [HbE.o];assumption) | (unfold eqS;rw [beq_iff_eq];assumption) | (simp_all;done) | (simp_all;omega))
end Go.Proofs
