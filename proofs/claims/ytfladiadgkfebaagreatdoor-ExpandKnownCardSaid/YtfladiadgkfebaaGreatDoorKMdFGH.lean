/- Walks: 'Few' and what it stands on. -/
import Derived.Test.YtfladiadgkfebaaGreatDoorKMdCE
namespace Go.Proofs
open Go.RowKit Go.Lx Go.Md Go.Shelf
open Lib(hid)
set_option maxRecDepth 100000
set_option maxHeartbeats 0
def cntB (n:Nat) (most:Int):Bool:=decide (n<=40) || (decide (most<(n:Int)) && decide (n<=600))
def szB (s:ByteArray):Bool:=decide (s.size<=100) || decide (4096<s.size)
theorem cntB_le {n:Nat} {most:Int} (h:cntB n most=true):n<=600:=by
 unfold cntB at h;simp only [Bool.or_eq_true,Bool.and_eq_true,decide_eq_true_iff] at h;omega
structure FewP (m:MdlD):Prop where
 vars:m.vars.length<=600
 evs:m.evs.length<=600
 regs:m.regs.length<=600
 vers:m.vers.length<=600
 trns:m.trns.length<=600
 df:∀ x ∈ m.vers,x.df.length<=40
 tr:∀ x ∈ m.trns,x.tr.length<=40
theorem count_any (n:Nat) (most:Int) (w:World):Calls Tryz.prog 36 #[.int .i64 n,.int .i64 most] w fun e w'=>e=.returned (.bool (cntB n most))/\w=w':=by
 have HX:Hid (cntB n most=(decide (n<=40) || (decide (most<(n:Int)) && decide (n<=600)))):=by unfold Hid;rfl
 go_enter Tryz.func36,Tryz.ntmps36
 go_wp2_with fail
 all_goals
   go_ret
   refine ⟨ret_bool ?_,rfl⟩
   rw [HX.o,Bool.eq_iff_iff]
   simp
   omega
theorem size_any (s:ByteArray) (w:World):Calls Tryz.prog 37 #[.string s] w fun e w'=>e=.returned (.bool (szB s))/\w=w':=by
 have HX:Hid (szB s=(decide (s.size<=100) || decide (4096<s.size))):=by unfold Hid;rfl
 go_enter Tryz.func37,Tryz.ntmps37
 go_wp2_with fail
 all_goals
   go_ret
   refine ⟨ret_bool ?_,rfl⟩
   rw [HX.o,Bool.eq_iff_iff]
   simp
   omega
def Says (b:Bool) (p:Prop):Prop:=b=true->p
def BoolSays (p:Prop) (e:Ending):Prop:=∃ b,e=.returned (.bool b)/\Says b p
theorem sizes_any {Q:BP} (a:Option Addr) (c:Nat) (l:List ByteArray) (w:World) (h:SlS Q w (.slice a l.length c) l) (hl:l.length<=140737488355328) :
   Calls Tryz.prog 39 #[.slice a l.length c] w fun e w'=>BoolSays (l.length<=40) e/\w=w':=by
 have H1:=hid h
 clear h
 go_enter Tryz.func39,Tryz.ntmps39
 go_wp2_with fail
 go_loop [3] (fun i=>∃ k:Nat,k<=l.length/\i=.int .i64 k) (fun i=>l.length - (intOf i).toNat)
 case atStart=>exact ⟨0,by omega,rfl⟩
 case round =>
  obtain ⟨k,hk,rfl⟩:=hrel
  by_cases hlt:k<l.length
  . have hltI:(k:Int)<(l.length:Int):=by omega
    have hi0:(0:Int)<=(k:Int):=by omega
    obtain ⟨b1,o1,ha1,hb1,hc1⟩:=H1.o.get hlt
    generalize l[k]=x at hc1
    subst ha1
    go_wp2_with fail
    refine (size_any _ _).mono ?_
    rintro e w' ⟨rfl,rfl⟩
    cases hx:szB x with
    | true =>
     go_wp2_with fail
     go_round
     case rel=>exact ⟨k+1,by omega,by go_num⟩
     case measure=>simp [intOf] <;> omega
    | false =>
     go_wp2_with fail
     go_ret
     exact ⟨⟨false,rfl,fun h=>by cases h⟩,rfl⟩
  . by_cases h40:l.length<=40
    . have h40I:(l.length:Int)<=40:=by omega
      have H40:=hid h40
      clear h40
      go_wp2_with fail
      go_ret
      exact ⟨⟨_,rfl,fun _=>H40.o⟩,rfl⟩
    . have h40I:¬ (l.length:Int)<=40:=by omega
      go_wp2_with fail
      go_ret
      exact ⟨⟨false,rfl,fun h=>by cases h⟩,rfl⟩
structure DeepP (m:MdlD):Prop where
 vars:m.vars.length=0
 evs:m.evs.length=0
 regs:m.regs.length<=70
 vers:m.vers.length<=70
 trns:m.trns.length<=600
 df:∀ x ∈ m.vers,x.df.length<=9
 tr:∀ x ∈ m.trns,x.tr.length<=9
theorem DeepP.few {m:MdlD} (h:DeepP m):FewP m :=
 ⟨by have:=h.vars;omega,by have:=h.evs;omega,by have:=h.regs;omega,by have:=h.vers;omega,h.trns,fun x hx=>by have:=h.df x hx;omega,fun x hx=>by have:=h.tr x hx;omega⟩
theorem box1 {w w3:World} {o1:Obj} {k:Nat} {u:Value} (g:Below (w.alloc o1).heap.size (w.alloc o1) w3) (h:(w.alloc o1).cell? ⟨w.heap.size,k,none⟩=some u):w3.cell? ⟨w.heap.size,k,none⟩=some u :=
 (g.cell (p:=⟨w.heap.size,k,none⟩) (by simp)).trans h
theorem below_box1 {w w3:World} {o1:Obj} (g:Below (w.alloc o1).heap.size (w.alloc o1) w3):Bl w w3 :=
 ((Below.refl _ w).alloc (Nat.le_refl _) _).trans (g.mono (by simp))
theorem deepest_any {Q:Nat->BP} (m:MdlD) (p:Ph) (w:World) (h:Mod Q w m p) (hm:MdlOk m) :
   Calls Tryz.prog 38 #[mdV m p] w fun e w'=>BoolSays (DeepP m) e/\Bl w w':=by
 unfold mdV
 have HF:Hid (∀ wx,Below (w.alloc (.cells #[.string m.nm,.slice p.a1 m.vars.length p.c1,.slice p.a2 m.evs.length p.c2,.slice p.a3 m.regs.length p.c3,.slice p.a4 m.vers.length p.c4,.slice p.a5 m.trns.length p.c5] 42)).heap.size (w.alloc (.cells #[.string m.nm,.slice p.a1 m.vars.length p.c1,.slice p.a2 m.evs.length p.c2,.slice p.a3 m.regs.length p.c3,.slice p.a4 m.vers.length p.c4,.slice p.a5 m.trns.length p.c5] 42)) wx ->
     wx.cell? ⟨w.heap.size,0,none⟩=some (.string m.nm)/\wx.cell? ⟨w.heap.size,4,none⟩=some (.slice p.a4 m.vers.length p.c4)/\wx.cell? ⟨w.heap.size,5,none⟩=some (.slice p.a5 m.trns.length p.c5)):=by
   intro wx G
   exact ⟨box1 G (by simp),box1 G (by simp),box1 G (by simp)⟩
 have b1:=hm.vars
 have b2:=hm.evs
 have q1:=IntWalk.i64_in ((m.vars.length:Int)+m.evs.length) (by omega)
 by_cases hh:m.vars.length+m.evs.length=0/\m.vers.length<=70/\m.trns.length<=600/\m.regs.length<=70
 . have HH:=hid hh
   obtain ⟨e1,e2,e3,e4⟩:=hh
   have i1:(m.vars.length:Int)+m.evs.length=0:=by omega
   have i2:¬ (70:Int)<m.vers.length:=by omega
   have i3:¬ (600:Int)<m.trns.length:=by omega
   have i4:¬ (70:Int)<m.regs.length:=by omega
   have H1:=hid h
   have HM:=hid hm
   clear e1 e2 e3 e4 h hm
   go_enter Tryz.func38,Tryz.ntmps38
   go_wp2_with fail
   go_loopw [3] (fun i wr=>∃ k:Nat,k<=m.vers.length/\i=.int .i64 k/\Below (w.alloc (.cells #[.string m.nm,.slice p.a1 m.vars.length p.c1,.slice p.a2 m.evs.length p.c2,.slice p.a3 m.regs.length p.c3,.slice p.a4 m.vers.length p.c4,.slice p.a5 m.trns.length p.c5] 42)).heap.size (w.alloc (.cells #[.string m.nm,.slice p.a1 m.vars.length p.c1,.slice p.a2 m.evs.length p.c2,.slice p.a3 m.regs.length p.c3,.slice p.a4 m.vers.length p.c4,.slice p.a5 m.trns.length p.c5] 42)) wr/\Hid (∀ x ∈ m.vers.take k,x.df.length<=9)) (fun i _=>m.vers.length - (intOf i).toNat)
   case atStart=>exact ⟨0,by omega,rfl,Below.refl _ _,(show Hid _ from fun x hx=>by simp at hx)⟩
   case round =>
    obtain ⟨w0,rfl⟩:=ex1 wr
    obtain ⟨k,hk,rfl,g0,HE0⟩:=hrel
    obtain ⟨p0,p4,p5⟩:=HF.o _ g0
    have gw0:=below_box1 g0
    by_cases hlt:k<m.vers.length
    . have hltI:(k:Int)<(m.vers.length:Int):=by omega
      have hi0:(0:Int)<=(k:Int):=by omega
      obtain ⟨c1,o1,ha1,hb1,dv1,hs1,hc1⟩:=H1.o.vers.get hlt
      have hx:=HM.o.verx _ (List.getElem_mem hlt)
      have htk:=hid (List.take_succ_eq_append_getElem hlt)
      obtain ⟨x,hxe⟩:∃ x,x=m.vers[k]:=⟨_,rfl⟩
      rw [<- hxe] at hc1 hs1 hx htk
      obtain ⟨da1,dc1,rfl⟩:=hs1.len
      rw [ha1] at p4
      obtain ⟨r0,r1,r2,r3,r4,r5,r6,r7⟩:=hc1
      have hcw:∀ {b o:Nat} {u:Value},b<w.heap.size->w.cell? ⟨b,o,none⟩=some u->w0.cell? ⟨b,o,none⟩=some u:=fun {b o u} hb h=>(gw0.cell (p:=⟨b,o,none⟩) hb).trans h
      replace r0:=hcw hb1 r0
      replace r1:=hcw hb1 r1
      replace r2:=hcw hb1 r2
      replace r3:=hcw hb1 r3
      replace r4:=hcw hb1 r4
      replace r5:=hcw hb1 r5
      replace r6:=hcw hb1 r6
      replace r7:=hcw hb1 r7
      have hbo1:c1<w0.heap.size:=Nat.lt_of_lt_of_le hb1 gw0.size
      have z0:=hx.nm
      have z1:=hx.en
      have z2:=hx.ex
      have z3:=hx.sb
      have z4:=hx.df
      have y0:=IntWalk.i64_in ((x.nm.size:Int)+x.en.size) (by omega)
      have y1:=IntWalk.i64_in ((x.nm.size:Int)+x.en.size+x.ex.size) (by omega)
      have y2:=IntWalk.i64_in ((x.nm.size:Int)+x.en.size+x.ex.size+x.sb.size) (by omega)
      have y3:=IntWalk.i64_in ((x.nm.size:Int)+x.en.size+x.ex.size+x.sb.size+x.df.length) (by omega)
      have gn:Below (w.alloc (.cells #[.string m.nm,.slice p.a1 m.vars.length p.c1,.slice p.a2 m.evs.length p.c2,.slice p.a3 m.regs.length p.c3,.slice p.a4 m.vers.length p.c4,.slice p.a5 m.trns.length p.c5] 42)).heap.size (w.alloc (.cells #[.string m.nm,.slice p.a1 m.vars.length p.c1,.slice p.a2 m.evs.length p.c2,.slice p.a3 m.regs.length p.c3,.slice p.a4 m.vers.length p.c4,.slice p.a5 m.trns.length p.c5] 42)) (w0.alloc (.cells #[.string x.nm,.int .u8 x.kd,.int .i64 x.rg,.int .i64 x.ofv,.string x.en,.string x.ex,.slice da1 x.df.length dc1,.string x.sb] 49)):=g0.alloc g0.size _
      clear hxe hs1 hcw ha1 hx
      by_cases h9:(x.nm.size:Int)+x.en.size+x.ex.size+x.sb.size+x.df.length<=9
      . have h9':¬ (9:Int)<(x.nm.size:Int)+x.en.size+x.ex.size+x.sb.size+x.df.length:=by omega
        have hd9:=hid (show x.df.length<=9 by omega)
        clear h9
        go_wp2_with fail
        go_roundw
        case rel=>exact ⟨k+1,by omega,by go_num,gn,(show Hid _ from fun z hz=>by
          rw [htk.o,List.mem_append,List.mem_singleton] at hz
          rcases hz with hz | rfl
          . exact HE0.o z hz
          . exact hd9.o)⟩
        case measure=>simp [intOf] <;> omega
      . have h9':(9:Int)<(x.nm.size:Int)+x.en.size+x.ex.size+x.sb.size+x.df.length:=by omega
        clear h9
        go_wp2_with fail
        go_ret
        exact ⟨⟨false,rfl,fun h=>by cases h⟩,below_box1 gn⟩
    . have HT0:Hid (∀ x ∈ m.vers,x.df.length<=9):=by
        have:=HE0.o
        rw [List.take_of_length_le (by omega)] at this
        exact this
      go_wp2_with fail
      clear HE0 hlt p0 p4 p5
      go_loopw [5] (fun i wr=>∃ k:Nat,k<=m.trns.length/\i=.int .i64 k/\Below (w.alloc (.cells #[.string m.nm,.slice p.a1 m.vars.length p.c1,.slice p.a2 m.evs.length p.c2,.slice p.a3 m.regs.length p.c3,.slice p.a4 m.vers.length p.c4,.slice p.a5 m.trns.length p.c5] 42)).heap.size (w.alloc (.cells #[.string m.nm,.slice p.a1 m.vars.length p.c1,.slice p.a2 m.evs.length p.c2,.slice p.a3 m.regs.length p.c3,.slice p.a4 m.vers.length p.c4,.slice p.a5 m.trns.length p.c5] 42)) wr/\Hid (∀ x ∈ m.trns.take k,x.tr.length<=9)) (fun i _=>m.trns.length - (intOf i).toNat)
      case atStart=>exact ⟨0,by omega,rfl,g0,(show Hid _ from fun x hx=>by simp at hx)⟩
      case round =>
       obtain ⟨w1,rfl⟩:=ex1 wr
       obtain ⟨k,hk,rfl,g1,HE1⟩:=hrel
       obtain ⟨p0,p4,p5⟩:=HF.o _ g1
       have gw1:=below_box1 g1
       by_cases hlt:k<m.trns.length
       . have hltI:(k:Int)<(m.trns.length:Int):=by omega
         have hi0:(0:Int)<=(k:Int):=by omega
         obtain ⟨c1,o1,ha1,hb1,dv1,hs1,hc1⟩:=H1.o.trns.get hlt
         have hx:=HM.o.trnx _ (List.getElem_mem hlt)
         have htk:=hid (List.take_succ_eq_append_getElem hlt)
         obtain ⟨x,hxe⟩:∃ x,x=m.trns[k]:=⟨_,rfl⟩
         rw [<- hxe] at hc1 hs1 hx htk
         obtain ⟨da1,dc1,rfl⟩:=hs1.len
         rw [ha1] at p5
         obtain ⟨r0,r1,r2,r3,r4,r5,r6,r7⟩:=hc1
         have hcw:∀ {b o:Nat} {u:Value},b<w.heap.size->w.cell? ⟨b,o,none⟩=some u->w1.cell? ⟨b,o,none⟩=some u:=fun {b o u} hb h=>(gw1.cell (p:=⟨b,o,none⟩) hb).trans h
         replace r0:=hcw hb1 r0
         replace r1:=hcw hb1 r1
         replace r2:=hcw hb1 r2
         replace r3:=hcw hb1 r3
         replace r4:=hcw hb1 r4
         replace r5:=hcw hb1 r5
         replace r6:=hcw hb1 r6
         replace r7:=hcw hb1 r7
         have hbo1:c1<w1.heap.size:=Nat.lt_of_lt_of_le hb1 gw1.size
         have z0:=hx.nm
         have z1:=hx.gd
         have z2:=hx.ef
         have z3:=hx.tr
         have y0:=IntWalk.i64_in ((x.nm.size:Int)+x.gd.size) (by omega)
         have y1:=IntWalk.i64_in ((x.nm.size:Int)+x.gd.size+x.ef.size) (by omega)
         have y2:=IntWalk.i64_in ((x.nm.size:Int)+x.gd.size+x.ef.size+x.tr.length) (by omega)
         have gn:Below (w.alloc (.cells #[.string m.nm,.slice p.a1 m.vars.length p.c1,.slice p.a2 m.evs.length p.c2,.slice p.a3 m.regs.length p.c3,.slice p.a4 m.vers.length p.c4,.slice p.a5 m.trns.length p.c5] 42)).heap.size (w.alloc (.cells #[.string m.nm,.slice p.a1 m.vars.length p.c1,.slice p.a2 m.evs.length p.c2,.slice p.a3 m.regs.length p.c3,.slice p.a4 m.vers.length p.c4,.slice p.a5 m.trns.length p.c5] 42)) (w1.alloc (.cells #[.string x.nm,.int .i64 x.src,.int .i64 x.tgt,.slice da1 x.tr.length dc1,.int .i64 x.af,.string x.gd,.string x.ef,.int .u8 x.kd] 59)):=g1.alloc g1.size _
         clear hxe hs1 hcw ha1 hx
         by_cases h9:(x.nm.size:Int)+x.gd.size+x.ef.size+x.tr.length<=9
         . have h9':¬ (9:Int)<(x.nm.size:Int)+x.gd.size+x.ef.size+x.tr.length:=by omega
           have hd9:=hid (show x.tr.length<=9 by omega)
           clear h9
           go_wp2_with fail
           go_roundw
           case rel=>exact ⟨k+1,by omega,by go_num,gn,(show Hid _ from fun z hz=>by
             rw [htk.o,List.mem_append,List.mem_singleton] at hz
             rcases hz with hz | rfl
             . exact HE1.o z hz
             . exact hd9.o)⟩
           case measure=>simp [intOf] <;> omega
         . have h9':(9:Int)<(x.nm.size:Int)+x.gd.size+x.ef.size+x.tr.length:=by omega
           clear h9
           go_wp2_with fail
           go_ret
           exact ⟨⟨false,rfl,fun h=>by cases h⟩,below_box1 gn⟩
       . have HT1:Hid (∀ x ∈ m.trns,x.tr.length<=9):=by
           have:=HE1.o
           rw [List.take_of_length_le (by omega)] at this
           exact this
         go_wp2_with fail
         clear HE1 hlt p0 p4 p5
         go_ret
         exact ⟨⟨_,rfl,fun _=>⟨by have:=HH.o.1;omega,by have:=HH.o.1;omega,HH.o.2.2.2,HH.o.2.1,HH.o.2.2.1,HT0.o,HT1.o⟩⟩,gw1⟩
 . have HN:=hid hh
   clear hh h hm
   go_enter Tryz.func38,Tryz.ntmps38
   go_wp2_with fail
   all_goals first
     | (go_ret
        exact ⟨⟨false,rfl,fun h=>by cases h⟩,((Below.refl _ w).alloc (Nat.le_refl _) _)⟩)
     | (exfalso
        exact HN.o (by omega))
theorem few_any {Q:Nat->BP} (m:MdlD) (p:Ph) (w:World) (h:Mod Q w m p) (hm:MdlOk m) :
   Calls Tryz.prog 19 #[mdV m p] w fun e w'=>BoolSays (FewP m) e/\Bl w w':=by
 have HD:=hid (fun wx (hb:Bl w wx)=>deepest_any m p wx (h.kept fun _=>Kept.of_below hb) hm)
 unfold mdV at HD |-
 have HF:Hid (∀ wx,Below (w.alloc (.cells #[.string m.nm,.slice p.a1 m.vars.length p.c1,.slice p.a2 m.evs.length p.c2,.slice p.a3 m.regs.length p.c3,.slice p.a4 m.vers.length p.c4,.slice p.a5 m.trns.length p.c5] 42)).heap.size (w.alloc (.cells #[.string m.nm,.slice p.a1 m.vars.length p.c1,.slice p.a2 m.evs.length p.c2,.slice p.a3 m.regs.length p.c3,.slice p.a4 m.vers.length p.c4,.slice p.a5 m.trns.length p.c5] 42)) wx ->
     wx.cell? ⟨w.heap.size,0,none⟩=some (.string m.nm)/\wx.cell? ⟨w.heap.size,4,none⟩=some (.slice p.a4 m.vers.length p.c4)/\wx.cell? ⟨w.heap.size,5,none⟩=some (.slice p.a5 m.trns.length p.c5)):=by
   intro wx G
   exact ⟨box1 G (by simp),box1 G (by simp),box1 G (by simp)⟩
 by_cases hh:cntB m.vars.length 64=true/\cntB m.evs.length 64=true/\cntB m.regs.length 512=true/\cntB m.vers.length 512=true/\cntB m.trns.length 512=true/\szB m.nm=true
 . have HH:=hid hh
   obtain ⟨e1,e2,e3,e4,e5,e6⟩:=hh
   have H1:=hid h
   have HM:=hid hm
   have bl4:=hm.vers
   have bl5:=hm.trns
   clear h hm
   go_enter Tryz.func19,Tryz.ntmps19
   go_wp2_with (first | (go_at_call 36;refine (count_any _ _ _).mono ?_;rintro e w9 ⟨rfl,rfl⟩) | (go_at_call 37;refine (size_any _ _).mono ?_;rintro e w9 ⟨rfl,rfl⟩))
   clear e1 e2 e3 e4 e5 e6
   go_loopw [3] (fun i wr=>∃ k:Nat,k<=m.vers.length/\i=.int .i64 k/\Below (w.alloc (.cells #[.string m.nm,.slice p.a1 m.vars.length p.c1,.slice p.a2 m.evs.length p.c2,.slice p.a3 m.regs.length p.c3,.slice p.a4 m.vers.length p.c4,.slice p.a5 m.trns.length p.c5] 42)).heap.size (w.alloc (.cells #[.string m.nm,.slice p.a1 m.vars.length p.c1,.slice p.a2 m.evs.length p.c2,.slice p.a3 m.regs.length p.c3,.slice p.a4 m.vers.length p.c4,.slice p.a5 m.trns.length p.c5] 42)) wr/\Hid (∀ x ∈ m.vers.take k,x.df.length<=40)) (fun i _=>m.vers.length - (intOf i).toNat)
   case atStart=>exact ⟨0,by omega,rfl,Below.refl _ _,(show Hid _ from fun x hx=>by simp at hx)⟩
   case round =>
    obtain ⟨w0,rfl⟩:=ex1 wr
    obtain ⟨k,hk,rfl,g0,HE0⟩:=hrel
    obtain ⟨p0,p4,p5⟩:=HF.o _ g0
    have gw0:=below_box1 g0
    by_cases hlt:k<m.vers.length
    . have hltI:(k:Int)<(m.vers.length:Int):=by omega
      have hi0:(0:Int)<=(k:Int):=by omega
      obtain ⟨c1,o1,ha1,hb1,dv1,hs1,hc1⟩:=H1.o.vers.get hlt
      have hx:=(HM.o.verx _ (List.getElem_mem hlt)).df
      have htk:=hid (List.take_succ_eq_append_getElem hlt)
      obtain ⟨x,hxe⟩:∃ x,x=m.vers[k]:=⟨_,rfl⟩
      rw [<- hxe] at hc1 hs1 hx htk
      obtain ⟨da1,dc1,rfl⟩:=hs1.len
      rw [ha1] at p4
      obtain ⟨r0,r1,r2,r3,r4,r5,r6,r7⟩:=hc1
      have hcw:∀ {b o:Nat} {u:Value},b<w.heap.size->w.cell? ⟨b,o,none⟩=some u->w0.cell? ⟨b,o,none⟩=some u:=fun {b o u} hb h=>(gw0.cell (p:=⟨b,o,none⟩) hb).trans h
      replace r0:=hcw hb1 r0
      replace r1:=hcw hb1 r1
      replace r2:=hcw hb1 r2
      replace r3:=hcw hb1 r3
      replace r4:=hcw hb1 r4
      replace r5:=hcw hb1 r5
      replace r6:=hcw hb1 r6
      replace r7:=hcw hb1 r7
      have hbo1:c1<w0.heap.size:=Nat.lt_of_lt_of_le hb1 gw0.size
      have gn:Below (w.alloc (.cells #[.string m.nm,.slice p.a1 m.vars.length p.c1,.slice p.a2 m.evs.length p.c2,.slice p.a3 m.regs.length p.c3,.slice p.a4 m.vers.length p.c4,.slice p.a5 m.trns.length p.c5] 42)).heap.size (w.alloc (.cells #[.string m.nm,.slice p.a1 m.vars.length p.c1,.slice p.a2 m.evs.length p.c2,.slice p.a3 m.regs.length p.c3,.slice p.a4 m.vers.length p.c4,.slice p.a5 m.trns.length p.c5] 42)) (w0.alloc (.cells #[.string x.nm,.int .u8 x.kd,.int .i64 x.rg,.int .i64 x.ofv,.string x.en,.string x.ex,.slice da1 x.df.length dc1,.string x.sb] 49)):=g0.alloc g0.size _
      have HSZ:=hid (sizes_any da1 dc1 x.df _ (hs1.kept (Kept.of_below (below_box1 gn))) hx)
      clear hxe hs1 hcw ha1 hx
      by_cases hall:szB x.nm=true/\szB x.en=true/\szB x.ex=true/\szB x.sb=true
      . obtain ⟨j0,j1,j2,j3⟩:=hall
        go_wp2_with (go_at_call 37;refine (size_any _ _).mono ?_;rintro e w9 ⟨rfl,rfl⟩)
        refine HSZ.o.mono ?_
        rintro e w9 ⟨⟨b2,rfl,hb2⟩,rfl⟩
        have HB2:=hid hb2
        clear hb2
        cases b2 with
        | true =>
         go_wp2_with fail
         go_roundw
         case rel=>exact ⟨k+1,by omega,by go_num,gn,(show Hid _ from fun z hz=>by
           rw [htk.o,List.mem_append,List.mem_singleton] at hz
           rcases hz with hz | rfl
           . exact HE0.o z hz
           . exact HB2.o rfl)⟩
         case measure=>simp [intOf] <;> omega
        | false =>
         go_wp2_with fail
         go_ret
         exact ⟨⟨false,rfl,fun h=>by cases h⟩,below_box1 gn⟩
      . have HNA:=hid hall
        clear hall
        go_wp2_with (go_at_call 37;refine (size_any _ _).mono ?_;rintro e w9 ⟨rfl,rfl⟩)
        all_goals first
          | (go_ret
             exact ⟨⟨false,rfl,fun h=>by cases h⟩,below_box1 gn⟩)
          | (exfalso
             refine HNA.o ?_
             simp_all)
    . have HT0:Hid (∀ x ∈ m.vers,x.df.length<=40):=by
        have:=HE0.o
        rw [List.take_of_length_le (by omega)] at this
        exact this
      go_wp2_with fail
      clear HE0 hlt p0 p4 p5
      go_loopw [5] (fun i wr=>∃ k:Nat,k<=m.trns.length/\i=.int .i64 k/\Below (w.alloc (.cells #[.string m.nm,.slice p.a1 m.vars.length p.c1,.slice p.a2 m.evs.length p.c2,.slice p.a3 m.regs.length p.c3,.slice p.a4 m.vers.length p.c4,.slice p.a5 m.trns.length p.c5] 42)).heap.size (w.alloc (.cells #[.string m.nm,.slice p.a1 m.vars.length p.c1,.slice p.a2 m.evs.length p.c2,.slice p.a3 m.regs.length p.c3,.slice p.a4 m.vers.length p.c4,.slice p.a5 m.trns.length p.c5] 42)) wr/\Hid (∀ x ∈ m.trns.take k,x.tr.length<=40)) (fun i _=>m.trns.length - (intOf i).toNat)
      case atStart=>exact ⟨0,by omega,rfl,g0,(show Hid _ from fun x hx=>by simp at hx)⟩
      case round =>
       obtain ⟨w1,rfl⟩:=ex1 wr
       obtain ⟨k,hk,rfl,g1,HE1⟩:=hrel
       obtain ⟨p0,p4,p5⟩:=HF.o _ g1
       have gw1:=below_box1 g1
       by_cases hlt:k<m.trns.length
       . have hltI:(k:Int)<(m.trns.length:Int):=by omega
         have hi0:(0:Int)<=(k:Int):=by omega
         obtain ⟨c1,o1,ha1,hb1,dv1,hs1,hc1⟩:=H1.o.trns.get hlt
         have hx:=(HM.o.trnx _ (List.getElem_mem hlt)).tr
         have htk:=hid (List.take_succ_eq_append_getElem hlt)
         obtain ⟨x,hxe⟩:∃ x,x=m.trns[k]:=⟨_,rfl⟩
         rw [<- hxe] at hc1 hs1 hx htk
         obtain ⟨da1,dc1,rfl⟩:=hs1.len
         rw [ha1] at p5
         obtain ⟨r0,r1,r2,r3,r4,r5,r6,r7⟩:=hc1
         have hcw:∀ {b o:Nat} {u:Value},b<w.heap.size->w.cell? ⟨b,o,none⟩=some u->w1.cell? ⟨b,o,none⟩=some u:=fun {b o u} hb h=>(gw1.cell (p:=⟨b,o,none⟩) hb).trans h
         replace r0:=hcw hb1 r0
         replace r1:=hcw hb1 r1
         replace r2:=hcw hb1 r2
         replace r3:=hcw hb1 r3
         replace r4:=hcw hb1 r4
         replace r5:=hcw hb1 r5
         replace r6:=hcw hb1 r6
         replace r7:=hcw hb1 r7
         have hbo1:c1<w1.heap.size:=Nat.lt_of_lt_of_le hb1 gw1.size
         have gn:Below (w.alloc (.cells #[.string m.nm,.slice p.a1 m.vars.length p.c1,.slice p.a2 m.evs.length p.c2,.slice p.a3 m.regs.length p.c3,.slice p.a4 m.vers.length p.c4,.slice p.a5 m.trns.length p.c5] 42)).heap.size (w.alloc (.cells #[.string m.nm,.slice p.a1 m.vars.length p.c1,.slice p.a2 m.evs.length p.c2,.slice p.a3 m.regs.length p.c3,.slice p.a4 m.vers.length p.c4,.slice p.a5 m.trns.length p.c5] 42)) (w1.alloc (.cells #[.string x.nm,.int .i64 x.src,.int .i64 x.tgt,.slice da1 x.tr.length dc1,.int .i64 x.af,.string x.gd,.string x.ef,.int .u8 x.kd] 59)):=g1.alloc g1.size _
         have HSZ:=hid (sizes_any da1 dc1 x.tr _ (hs1.kept (Kept.of_below (below_box1 gn))) hx)
         clear hxe hs1 hcw ha1 hx
         by_cases hall:szB x.nm=true/\szB x.gd=true/\szB x.ef=true
         . obtain ⟨j0,j1,j2⟩:=hall
           go_wp2_with (go_at_call 37;refine (size_any _ _).mono ?_;rintro e w9 ⟨rfl,rfl⟩)
           refine HSZ.o.mono ?_
           rintro e w9 ⟨⟨b2,rfl,hb2⟩,rfl⟩
           have HB2:=hid hb2
           clear hb2
           cases b2 with
           | true =>
            go_wp2_with fail
            go_roundw
            case rel=>exact ⟨k+1,by omega,by go_num,gn,(show Hid _ from fun z hz=>by
              rw [htk.o,List.mem_append,List.mem_singleton] at hz
              rcases hz with hz | rfl
              . exact HE1.o z hz
              . exact HB2.o rfl)⟩
            case measure=>simp [intOf] <;> omega
           | false =>
            go_wp2_with fail
            go_ret
            exact ⟨⟨false,rfl,fun h=>by cases h⟩,below_box1 gn⟩
         . have HNA:=hid hall
           clear hall
           go_wp2_with (go_at_call 37;refine (size_any _ _).mono ?_;rintro e w9 ⟨rfl,rfl⟩)
           all_goals first
             | (go_ret
                exact ⟨⟨false,rfl,fun h=>by cases h⟩,below_box1 gn⟩)
             | (exfalso
                refine HNA.o ?_
                simp_all)
       . have HT1:Hid (∀ x ∈ m.trns,x.tr.length<=40):=by
           have:=HE1.o
           rw [List.take_of_length_le (by omega)] at this
           exact this
         go_wp2_with fail
         clear HE1 hlt p0 p4 p5
         go_ret
         exact ⟨⟨true,rfl,fun _=>⟨cntB_le HH.o.1,cntB_le HH.o.2.1,cntB_le HH.o.2.2.1,cntB_le HH.o.2.2.2.1,cntB_le HH.o.2.2.2.2.1,HT0.o,HT1.o⟩⟩,gw1⟩
 . have HN:=hid hh
   clear hh h hm
   go_enter Tryz.func19,Tryz.ntmps19
   go_wp2_with (first | (go_at_call 36;refine (count_any _ _ _).mono ?_;rintro e w9 ⟨rfl,rfl⟩) | (go_at_call 37;refine (size_any _ _).mono ?_;rintro e w9 ⟨rfl,rfl⟩) | (go_at_call 38;refine (HD.o _ ((Below.refl _ w).alloc (Nat.le_refl _) _)).mono ?_;rintro e w9 ⟨⟨b2,rfl,hb2⟩,g9⟩;have HB2:=hid hb2;clear hb2))
   all_goals first
     | (go_ret
        exact ⟨⟨_,rfl,fun h=>(HB2.o h).few⟩,((Below.refl _ w).alloc (Nat.le_refl _) _).trans (g9.mono (by simp))⟩)
     | (exfalso
        refine HN.o ?_
        simp_all)
end Go.Proofs
