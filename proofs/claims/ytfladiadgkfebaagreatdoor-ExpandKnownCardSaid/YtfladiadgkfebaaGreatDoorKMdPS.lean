/- A world in which the rows of a range of blocks may have been written over, but for the slices in them. -/
import Derived.Test.YtfladiadgkfebaaGreatDoorKMdIJ
import Derived.Deep.RegionLaw
import Derived.Deep.DeepCutAuto
namespace Go.Proofs
open Go.RowKit Go.Lx Go.Md
open Lib(hid)
set_option maxRecDepth 100000
set_option maxHeartbeats 0
def isSl:Value->Bool
 | .slice ..=>true
 | _=>false
structure Pl (lo hi:Nat) (w w':World):Prop where
 os:w'.os=w.os
 tape:w'.tape=w.tape
 output:w'.output=w.output
 size:w.heap.size<=w'.heap.size
 block:∀ b,b<w.heap.size->(b<lo\/hi<=b)->w'.heap[b]? = w.heap[b]?
 cell:∀ b o u,w.cell? ⟨b,o,none⟩=some u->∃ u',w'.cell? ⟨b,o,none⟩=some u'/\(u'=u\/(isSl u=false/\isSl u'=false))
 frz:∀ b o,b<w.heap.size->w'.frozen? ⟨b,o,none⟩=w.frozen? ⟨b,o,none⟩
theorem Pl.refl (lo hi:Nat) (w:World):Pl lo hi w w:=⟨rfl,rfl,rfl,Nat.le_refl _,fun _ _ _=>rfl,fun _ _ u h=>⟨u,h,.inl rfl⟩,fun _ _ _=>rfl⟩
theorem Pl.drew {lo hi:Nat} {w w':World} (h:Pl lo hi w w'):Pl lo hi w w'.drew:=⟨h.os,h.tape,h.output,h.size,h.block,h.cell,h.frz⟩
theorem Pl.trans {lo hi:Nat} {a b c:World} (h:Pl lo hi a b) (k:Pl lo hi b c):Pl lo hi a c :=
 ⟨k.os.trans h.os,k.tape.trans h.tape,k.output.trans h.output,Nat.le_trans h.size k.size,fun x hx hr=>(k.block x (Nat.lt_of_lt_of_le hx h.size) hr).trans (h.block x hx hr),fun x o u hu=>by
   obtain ⟨u1,h1,e1⟩:=h.cell x o u hu
   obtain ⟨u2,h2,e2⟩:=k.cell x o u1 h1
   refine ⟨u2,h2,?_⟩
   rcases e1 with rfl | ⟨e1,e3⟩
   . exact e2
   . rcases e2 with rfl | ⟨_,e4⟩
     . exact .inr ⟨e1,e3⟩
     . exact .inr ⟨e1,e4⟩,fun x o hx=>(k.frz x o (Nat.lt_of_lt_of_le hx h.size)).trans (h.frz x o hx)⟩
theorem Pl.of_below {lo hi:Nat} {w w':World} (h:Bl w w'):Pl lo hi w w' :=
 ⟨h.os,h.tape,h.output,h.size,fun b hb _=>h.block b hb,fun b o u hu=>⟨u,(h.cell (p:=⟨b,o,none⟩) (World.block_lt_of_cell? w _ hu)).trans hu,.inl rfl⟩,fun b o hb=>h.frozen (p:=⟨b,o,none⟩) hb⟩
theorem Pl.set {lo hi:Nat} {w w':World} (h:Pl lo hi w w') {b o:Nat} {u0 u:Value} (h1:lo<=b) (h2:b<hi) (hc:w.cell? ⟨b,o,none⟩=some u0) (n0:isSl u0=false) (nu:isSl u=false):Pl lo hi w (w'.setCell ⟨b,o,none⟩ u):=by
 have hb:=Below.setCell (B:=0) (Below.refl 0 w') (p:=⟨b,o,none⟩) (Nat.zero_le _) u
 refine ⟨hb.os.trans h.os,hb.tape.trans h.tape,hb.output.trans h.output,Nat.le_trans h.size hb.size,fun x hx hr=>?_,fun x y v hv=>?_,fun x y hx=>?_⟩
 . rw [Below.heap_setCell w' ⟨b,o,none⟩ u x (by simp only;omega)];exact h.block x hx hr
 . by_cases he:(⟨x,y,none⟩:Addr)=⟨b,o,none⟩
   . rw [he] at hv |-
     obtain ⟨u',h3,_⟩:=h.cell b o u0 hc
     rw [hc] at hv
     obtain rfl:=Option.some.inj hv
     exact ⟨u,World.cell?_setCell_same _ _ _ h3,.inr ⟨n0,nu⟩⟩
   . obtain ⟨u',h3,e3⟩:=h.cell x y v hv
     exact ⟨u',by rw [World.cell?_setCell_other w' _ _ u (Ne.symm he)];exact h3,e3⟩
 . have:=h.frz x y hx
   simpa using this
theorem Pl.there {lo hi:Nat} {w w':World} (h:Pl lo hi w w') {b o:Nat} {u:Value} (hu:w.cell? ⟨b,o,none⟩=some u):∃ u',w'.cell? ⟨b,o,none⟩=some u':=by
 obtain ⟨u',h1,_⟩:=h.cell b o u hu
 exact ⟨u',h1⟩
theorem Pl.slc {lo hi:Nat} {w w':World} (h:Pl lo hi w w') {b o:Nat} {a:Option Addr} {n c:Nat} (hu:w.cell? ⟨b,o,none⟩=some (.slice a n c)):w'.cell? ⟨b,o,none⟩=some (.slice a n c):=by
 obtain ⟨u',h1,h2⟩:=h.cell b o _ hu
 rcases h2 with rfl | ⟨h2,_⟩
 . exact h1
 . cases h2
theorem Pl.kept {lo hi:Nat} {w w':World} (h:Pl lo hi w w') {Q:BP} (hQ:∀ b o,Q b o->b<lo\/hi<=b):Kept Q w w':=⟨h.size,fun b hb hq=>h.block b hb (hQ b _ hq)⟩
theorem Pl.below {lo hi:Nat} {w w':World} (h:Pl lo hi w w') {B:Nat} (h1:B<=lo) (h2:B<=w.heap.size):Below B w w':=⟨h.os,h.tape,h.output,h.size,fun b hb=>h.block b (by omega) (.inl (by omega))⟩
theorem Box.pl {w wx:World} {lo hi H:Nat} {v0 v1 v2 v3 v4 v5:Value} (h:Box w H v0 v1 v2 v3 v4 v5) (hb:Pl lo hi w wx) (hB:hi<=H):Box wx H v0 v1 v2 v3 v4 v5:=by
 have hl:H<w.heap.size:=World.block_lt_of_cell? w _ h.c0
 have hk:=hb.block H hl (.inr hB)
 have hc:∀ k,wx.cell? ⟨H,k,none⟩=w.cell? ⟨H,k,none⟩:=fun k=>World.cell?_of_block (w:=w) hk
 have hf:∀ k,wx.frozen? ⟨H,k,none⟩=w.frozen? ⟨H,k,none⟩:=fun k=>World.frozen?_of_block (w:=w) hk
 exact ⟨(hc 0).trans h.c0,(hc 1).trans h.c1,(hc 2).trans h.c2,(hc 3).trans h.c3,(hc 4).trans h.c4,(hc 5).trans h.c5,(hf 0).trans h.f0,(hf 1).trans h.f1,(hf 2).trans h.f2,(hf 3).trans h.f3,(hf 4).trans h.f4,(hf 5).trans h.f5⟩
end Go.Proofs

namespace Go.Proofs
open Go.RowKit Go.Lx Go.Md Go.Shelf
open Lib(hid)
set_option maxRecDepth 100000
set_option maxHeartbeats 0
set_option linter.unusedVariables false
theorem Sl.getQ {α:Type} {Q:BP} {sz:Nat} {E:World->Nat->Nat->α->Prop} {w:World} {a:Option Addr} {n c:Nat} {l:List α} (h:Sl Q sz E w (.slice a n c) l) {k:Nat} (hk:k<l.length) :
   ∃ b off,a=some ⟨b,off,none⟩/\b<w.heap.size/\Q b w.heap[b]? /\ E w b (off+k * sz) l[k]:=by
 rcases h with ⟨_,_,_,rfl⟩ | ⟨b,off,cap,hv,_,hb,hQ,ht⟩
 . simp at hk
 . simp only [Value.slice.injEq] at hv
   exact ⟨b,off,hv.1,hb,hQ,ht k hk⟩
theorem SlS.getQ {Q:BP} {w:World} {a:Option Addr} {n c:Nat} {l:List ByteArray} (h:SlS Q w (.slice a n c) l) {k:Nat} (hk:k<l.length) :
   ∃ b off,a=some ⟨b,off,none⟩/\b<w.heap.size/\Q b w.heap[b]? /\ w.cell? ⟨b,off+k,none⟩=some (.string l[k]):=by
 rcases h with ⟨_,_,_,rfl⟩ | ⟨b,off,cap,hv,_,hb,hQ,ht⟩
 . simp at hk
 . simp only [Value.slice.injEq] at hv
   exact ⟨b,off,hv.1,hb,hQ,ht k hk⟩
theorem Pl.fre {lo hi:Nat} {w w':World} (h:Pl lo hi w w') {l2 h2:Nat} {b:Nat} (hb:b<w.heap.size) (hl:NewB l2 h2 b w.heap[b]?) (k:Nat):w'.frozen? ⟨b,k,none⟩=false:=(h.frz b k hb).trans (NewB.free hl)
theorem spoil_row {lo hi:Nat} (m:MdlD) (p:Ph) (w:World) (h:Mod (fun _=>NewB lo hi) w m p) (hz:hi<=w.heap.size) (hm:Sml m) :
   Calls Tryz.prog 12 #[mdV m p] w fun e w'=>e=.returned (.tuple #[])/\Pl lo hi w w':=by
 unfold mdV
 have HM:=hid (h.below (below_al1 w (.cells #[.string m.nm,.slice p.a1 m.vars.length p.c1,.slice p.a2 m.evs.length p.c2,.slice p.a3 m.regs.length p.c3,.slice p.a4 m.vers.length p.c4,.slice p.a5 m.trns.length p.c5] 42)))
 have HW:=hid (Pl.of_below (lo:=lo) (hi:=hi) (below_al1 w (.cells #[.string m.nm,.slice p.a1 m.vars.length p.c1,.slice p.a2 m.evs.length p.c2,.slice p.a3 m.regs.length p.c3,.slice p.a4 m.vers.length p.c4,.slice p.a5 m.trns.length p.c5] 42)))
 have HB:Hid (Box (w.alloc (.cells #[.string m.nm,.slice p.a1 m.vars.length p.c1,.slice p.a2 m.evs.length p.c2,.slice p.a3 m.regs.length p.c3,.slice p.a4 m.vers.length p.c4,.slice p.a5 m.trns.length p.c5] 42)) w.heap.size (.string m.nm) (.slice p.a1 m.vars.length p.c1) (.slice p.a2 m.evs.length p.c2) (.slice p.a3 m.regs.length p.c3) (.slice p.a4 m.vers.length p.c4) (.slice p.a5 m.trns.length p.c5)):=box6 w m p
 have HZ:=hid hz
 have l1:=hm.vars
 have l2:=hm.evs
 have l3:=hm.regs
 have l4:=hm.vers
 have l5:=hm.trns
 have HD:=hid hm.df
 have HR:=hid hm.tr
 clear h hz hm
 go_enter Tryz.func12,Tryz.ntmps12
 go_upto_region 1 with fail
 generalize w.alloc (.cells #[.string m.nm,.slice p.a1 m.vars.length p.c1,.slice p.a2 m.evs.length p.c2,.slice p.a3 m.regs.length p.c3,.slice p.a4 m.vers.length p.c4,.slice p.a5 m.trns.length p.c5] 42)=W1 at *
 have P0:=Pl.refl lo hi W1
 obtain ⟨b0,b1,b2,b3,b4,b5,f0,f1,f2,f3,f4,f5⟩:=HB.o
 go_wp2_with fail
 go_loopw [2] (fun i wr=>∃ k:Nat,k<=m.vars.length/\i=.int .i64 k/\Pl lo hi W1 wr) (fun i _=>m.vars.length - (intOf i).toNat)
 case atStart=>exact ⟨0,by omega,rfl,P0⟩
 case round =>
  clear b0 b1 b2 b3 b4 b5 f0 f1 f2 f3 f4 f5
  obtain ⟨wo0,rfl⟩:∃ wo:World,wo=wr:=⟨_,rfl⟩
  obtain ⟨k,hk,rfl,hp0⟩:=hrel
  obtain ⟨b0,b1,b2,b3,b4,b5,f0,f1,f2,f3,f4,f5⟩:=HB.o.pl hp0 HZ.o
  have HP0:=hid hp0
  by_cases hlt:k<m.vars.length
  . have hltI:(k:Int)<(m.vars.length:Int):=by omega
    have hi0:(0:Int)<=(k:Int):=by omega
    obtain ⟨b,off,ha,hb,hl,hc⟩:=HM.o.vars.getQ hlt
    have HL:=hid hl
    have hbd:=hid (And.intro hl.1 hl.2.1)
    rw [ha] at b1
    have hcc:=hid hc.1
    have fd:wo0.frozen? ⟨b,off+k * 2,none⟩=false:=hp0.fre hb hl _
    obtain ⟨u,hu⟩:=hp0.there hc.1
    clear hl hc ha hp0
    go_wp2_with fail
    go_roundw
    case rel=>exact ⟨k+1,by omega,by go_num,HP0.o.set hbd.o.1 hbd.o.2 hcc.o rfl rfl⟩
    case measure=>simp [intOf] <;> omega
  . clear hp0
    go_wp2_with fail
    go_loopw [3] (fun i wr=>∃ k:Nat,k<=m.evs.length/\i=.int .i64 k/\Pl lo hi W1 wr) (fun i _=>m.evs.length - (intOf i).toNat)
    case atStart=>exact ⟨0,by omega,rfl,HP0.o⟩
    case round =>
     clear b0 b1 b2 b3 b4 b5 f0 f1 f2 f3 f4 f5
     obtain ⟨wo1,rfl⟩:∃ wo:World,wo=wr:=⟨_,rfl⟩
     obtain ⟨k,hk,rfl,hp1⟩:=hrel
     obtain ⟨b0,b1,b2,b3,b4,b5,f0,f1,f2,f3,f4,f5⟩:=HB.o.pl hp1 HZ.o
     have HP1:=hid hp1
     by_cases hlt:k<m.evs.length
     . have hltI:(k:Int)<(m.evs.length:Int):=by omega
       have hi0:(0:Int)<=(k:Int):=by omega
       obtain ⟨b,off,ha,hb,hl,hc⟩:=HM.o.evs.getQ hlt
       have HL:=hid hl
       have hbd:=hid (And.intro hl.1 hl.2.1)
       rw [ha] at b2
       have hcc:=hid hc
       have fd:wo1.frozen? ⟨b,off+k,none⟩=false:=hp1.fre hb hl _
       obtain ⟨u,hu⟩:=hp1.there hc
       clear hl hc ha hp1
       go_wp2_with fail
       go_roundw
       case rel=>exact ⟨k+1,by omega,by go_num,HP1.o.set hbd.o.1 hbd.o.2 hcc.o rfl rfl⟩
       case measure=>simp [intOf] <;> omega
     . clear hp1
       go_wp2_with fail
       go_loopw [4] (fun i wr=>∃ k:Nat,k<=m.regs.length/\i=.int .i64 k/\Pl lo hi W1 wr) (fun i _=>m.regs.length - (intOf i).toNat)
       case atStart=>exact ⟨0,by omega,rfl,HP1.o⟩
       case round =>
        clear b0 b1 b2 b3 b4 b5 f0 f1 f2 f3 f4 f5
        obtain ⟨wo2,rfl⟩:∃ wo:World,wo=wr:=⟨_,rfl⟩
        obtain ⟨k,hk,rfl,hp2⟩:=hrel
        obtain ⟨b0,b1,b2,b3,b4,b5,f0,f1,f2,f3,f4,f5⟩:=HB.o.pl hp2 HZ.o
        have HP2:=hid hp2
        by_cases hlt:k<m.regs.length
        . have hltI:(k:Int)<(m.regs.length:Int):=by omega
          have hi0:(0:Int)<=(k:Int):=by omega
          obtain ⟨b,off,ha,hb,hl,hc⟩:=HM.o.regs.getQ hlt
          have HL:=hid hl
          have hbd:=hid (And.intro hl.1 hl.2.1)
          rw [ha] at b3
          have hcc:=hid hc.2
          have fd:wo2.frozen? ⟨b,off+k * 2+1,none⟩=false:=hp2.fre hb hl _
          obtain ⟨u,hu⟩:=hp2.there hc.2
          clear hl hc ha hp2
          go_wp2_with fail
          go_roundw
          case rel=>exact ⟨k+1,by omega,by go_num,HP2.o.set hbd.o.1 hbd.o.2 hcc.o rfl rfl⟩
          case measure=>simp [intOf] <;> omega
        . clear hp2
          go_wp2_with fail
          go_loopw [5] (fun i wr=>∃ k:Nat,k<=m.vers.length/\i=.int .i64 k/\Pl lo hi W1 wr) (fun i _=>m.vers.length - (intOf i).toNat)
          case atStart=>exact ⟨0,by omega,rfl,HP2.o⟩
          case round =>
           clear b0 b1 b2 b3 b4 b5 f0 f1 f2 f3 f4 f5
           obtain ⟨wo3,rfl⟩:∃ wo:World,wo=wr:=⟨_,rfl⟩
           obtain ⟨k,hk,rfl,hp3⟩:=hrel
           obtain ⟨b0,b1,b2,b3,b4,b5,f0,f1,f2,f3,f4,f5⟩:=HB.o.pl hp3 HZ.o
           have HP3:=hid hp3
           by_cases hlt:k<m.vers.length
           . have hltI:(k:Int)<(m.vers.length:Int):=by omega
             have hi0:(0:Int)<=(k:Int):=by omega
             obtain ⟨b,off,ha,hb,hl,hc⟩:=HM.o.vers.getQ hlt
             have HL:=hid hl
             have hbd:=hid (And.intro hl.1 hl.2.1)
             rw [ha] at b4
             obtain ⟨dv,hs,h0,h1,h2,h3,h4,h5,hd,h7⟩:=hc
             have hcp:=hid h4
             have HDL:=HD.o _ (List.getElem_mem hlt)
             obtain ⟨da,dc,rfl⟩:=hs.len
             have HS:=hid hs
             have hdd:=hid hd
             have hd1:=hp3.slc hd
             have HBB:=hid hb
             have hNL:∃ nd,nd=m.vers[k].df.length:=⟨_,rfl⟩
             obtain ⟨nd,hnd⟩:=hNL
             rw [<- hnd] at hd1 HDL
             clear hl hs hd h0 h1 h2 h3 h4 h5 h7 hp3
             go_wp2_with fail
             go_loopw [6] (fun i wr=>∃ j:Nat,j<=nd/\i=.int .i64 j/\Pl lo hi W1 wr) (fun i _=>nd - (intOf i).toNat)
             case atStart=>exact ⟨0,by omega,rfl,HP3.o⟩
             case round =>
              clear b0 b1 b2 b3 b4 b5 f0 f1 f2 f3 f4 f5 hd1
              obtain ⟨wi,rfl⟩:∃ wo:World,wo=wr:=⟨_,rfl⟩
              obtain ⟨j,hj,rfl,hpi⟩:=hrel
              obtain ⟨b0,b1,b2,b3,b4,b5,f0,f1,f2,f3,f4,f5⟩:=HB.o.pl hpi HZ.o
              have HPI:=hid hpi
              rw [ha] at b4
              have hd1:=hpi.slc hdd.o
              rw [<- hnd] at hd1
              by_cases hjt:j<nd
              . have hjtI:(j:Int)<(nd:Int):=by omega
                have hj0:(0:Int)<=(j:Int):=by omega
                obtain ⟨x,xo,hxa,hxb,hxl,hxc⟩:=HS.o.getQ (k:=j) (by omega)
                have hxd:=hid (And.intro hxl.1 hxl.2.1)
                have hxcc:=hid hxc
                have fd:wi.frozen? ⟨x,xo+j,none⟩=false:=hpi.fre hxb hxl _
                obtain ⟨u,hu⟩:=hpi.there hxc
                rw [hxa] at hd1
                clear hxl hxc hxa hpi
                go_wp2_with fail
                go_roundw
                case rel=>exact ⟨j+1,by omega,by go_num,HPI.o.set hxd.o.1 hxd.o.2 hxcc.o rfl rfl⟩
                case measure=>simp [intOf] <;> omega
              . have fd:wi.frozen? ⟨b,off+k * 8+4,none⟩=false:=hpi.fre HBB.o HL.o _
                obtain ⟨u,hu⟩:=hpi.there hcp.o
                clear hpi
                go_wp2_with fail
                go_roundw
                case rel=>exact ⟨k+1,by omega,by go_num,HPI.o.set hbd.o.1 hbd.o.2 hcp.o rfl rfl⟩
                case measure=>simp [intOf] <;> omega
           . clear hp3
             go_wp2_with fail
             go_loopw [7] (fun i wr=>∃ k:Nat,k<=m.trns.length/\i=.int .i64 k/\Pl lo hi W1 wr) (fun i _=>m.trns.length - (intOf i).toNat)
             case atStart=>exact ⟨0,by omega,rfl,HP3.o⟩
             case round =>
              clear b0 b1 b2 b3 b4 b5 f0 f1 f2 f3 f4 f5
              obtain ⟨wo4,rfl⟩:∃ wo:World,wo=wr:=⟨_,rfl⟩
              obtain ⟨k,hk,rfl,hp4⟩:=hrel
              obtain ⟨b0,b1,b2,b3,b4,b5,f0,f1,f2,f3,f4,f5⟩:=HB.o.pl hp4 HZ.o
              have HP4:=hid hp4
              by_cases hlt:k<m.trns.length
              . have hltI:(k:Int)<(m.trns.length:Int):=by omega
                have hi0:(0:Int)<=(k:Int):=by omega
                obtain ⟨b,off,ha,hb,hl,hc⟩:=HM.o.trns.getQ hlt
                have HL:=hid hl
                have hbd:=hid (And.intro hl.1 hl.2.1)
                rw [ha] at b5
                obtain ⟨dv,hs,h0,h1,h2,hd,h4,h5,h6,h7⟩:=hc
                have hcp:=hid h5
                have HDL:=HR.o _ (List.getElem_mem hlt)
                obtain ⟨da,dc,rfl⟩:=hs.len
                have HS:=hid hs
                have hdd:=hid hd
                have hd1:=hp4.slc hd
                have HBB:=hid hb
                have hNL:∃ nd,nd=m.trns[k].tr.length:=⟨_,rfl⟩
                obtain ⟨nd,hnd⟩:=hNL
                rw [<- hnd] at hd1 HDL
                clear hl hs hd h0 h1 h2 h4 h5 h6 h7 hp4
                go_wp2_with fail
                go_loopw [8] (fun i wr=>∃ j:Nat,j<=nd/\i=.int .i64 j/\Pl lo hi W1 wr) (fun i _=>nd - (intOf i).toNat)
                case atStart=>exact ⟨0,by omega,rfl,HP4.o⟩
                case round =>
                 clear b0 b1 b2 b3 b4 b5 f0 f1 f2 f3 f4 f5 hd1
                 obtain ⟨wi,rfl⟩:∃ wo:World,wo=wr:=⟨_,rfl⟩
                 obtain ⟨j,hj,rfl,hpi⟩:=hrel
                 obtain ⟨b0,b1,b2,b3,b4,b5,f0,f1,f2,f3,f4,f5⟩:=HB.o.pl hpi HZ.o
                 have HPI:=hid hpi
                 rw [ha] at b5
                 have hd1:=hpi.slc hdd.o
                 rw [<- hnd] at hd1
                 by_cases hjt:j<nd
                 . have hjtI:(j:Int)<(nd:Int):=by omega
                   have hj0:(0:Int)<=(j:Int):=by omega
                   obtain ⟨x,xo,hxa,hxb,hxl,hxc⟩:=HS.o.getQ (k:=j) (by omega)
                   have hxd:=hid (And.intro hxl.1 hxl.2.1)
                   have hxcc:=hid hxc
                   have fd:wi.frozen? ⟨x,xo+j,none⟩=false:=hpi.fre hxb hxl _
                   obtain ⟨u,hu⟩:=hpi.there hxc
                   rw [hxa] at hd1
                   clear hxl hxc hxa hpi
                   go_wp2_with fail
                   go_roundw
                   case rel=>exact ⟨j+1,by omega,by go_num,HPI.o.set hxd.o.1 hxd.o.2 hxcc.o rfl rfl⟩
                   case measure=>simp [intOf] <;> omega
                 . have fd:wi.frozen? ⟨b,off+k * 8+5,none⟩=false:=hpi.fre HBB.o HL.o _
                   obtain ⟨u,hu⟩:=hpi.there hcp.o
                   clear hpi
                   go_wp2_with fail
                   go_roundw
                   case rel=>exact ⟨k+1,by omega,by go_num,HPI.o.set hbd.o.1 hbd.o.2 hcp.o rfl rfl⟩
                   case measure=>simp [intOf] <;> omega
              . clear hp4
                go_wp2_with fail
                go_end0
                exact ⟨rfl,HW.o.trans HP4.o⟩
end Go.Proofs
