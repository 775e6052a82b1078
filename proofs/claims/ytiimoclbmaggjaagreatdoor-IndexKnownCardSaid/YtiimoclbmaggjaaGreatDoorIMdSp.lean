/- Walks: 'Spoil': all parts of a model are written over, and nothing else. -/
import Derived.Test.YtiimoclbmaggjaaGreatDoorIMdPl
import Derived.Deep.RegionLaw
import Derived.Deep.DeepCutAuto
namespace Go.Proofs
open Go.RowKit Go.Lx Go.Md Go.Shelf
set_option linter.unusedVariables false
theorem Sl.getQ {α:Type} {Q:BP} {sz:Nat} {E:World→Nat→Nat→α→Prop} {w:World} {a:Option Addr} {n c:Nat} {l:List α} (h:Sl Q sz E w (.slice a n c) l) {k:Nat} (hk:k<l.length) :
   ∃ b off,a=some ⟨b,off,none⟩∧b<w.heap.size∧Q b w.heap[b]? ∧ E w b (off+k * sz) l[k]:=by
 rcases h with ⟨_,_,_,rfl⟩ | ⟨b,off,cap,hv,_,hb,hQ,ht⟩
 · simp at hk
 · simp only [Value.slice.injEq] at hv
   exact ⟨b,off,hv.1,hb,hQ,ht k hk⟩
theorem SlS.getQ {Q:BP} {w:World} {a:Option Addr} {n c:Nat} {l:List ByteArray} (h:SlS Q w (.slice a n c) l) {k:Nat} (hk:k<l.length) :
   ∃ b off,a=some ⟨b,off,none⟩∧b<w.heap.size∧Q b w.heap[b]? ∧ w.cell? ⟨b,off+k,none⟩=some (.string l[k]):=by
 rcases h with ⟨_,_,_,rfl⟩ | ⟨b,off,cap,hv,_,hb,hQ,ht⟩
 · simp at hk
 · simp only [Value.slice.injEq] at hv
   exact ⟨b,off,hv.1,hb,hQ,ht k hk⟩
theorem Lay.bnd {q:Nat→Nat} (hq:∀ j,q j≤q (j+1)) {j b:Nat} {o:Option Obj} (h:Lay q j b o) (hj:j<7):q 0≤b∧b<q 7:=by
 have h1:q j≤b:=h.1
 have h2:b<q (j+1):=h.2.1
 have a0:=hq 0
 have a1:=hq 1
 have a2:=hq 2
 have a3:=hq 3
 have a4:=hq 4
 have a5:=hq 5
 have a6:=hq 6
 simp only [Nat.zero_add,Nat.reduceAdd] at a0 a1 a2 a3 a4 a5 a6
 have:j=0∨j=1∨j=2∨j=3∨j=4∨j=5∨j=6:=by omega
 rcases this with rfl | rfl | rfl | rfl | rfl | rfl | rfl <;> simp only [Nat.zero_add,Nat.reduceAdd] at h1 h2 <;> omega
theorem Lay.fre {q:Nat→Nat} {j b:Nat} {w:World} (h:Lay q j b w.heap[b]?) (k:Nat):w.frozen? ⟨b,k,none⟩=false:=NewB.free (lo:=q j) (hi:=q (j+1)) h
theorem Pl.fre {lo hi:Nat} {w w':World} (h:Pl lo hi w w') {q:Nat→Nat} {j b:Nat} (hb:b<w.heap.size) (hl:Lay q j b w.heap[b]?) (k:Nat):w'.frozen? ⟨b,k,none⟩=false:=(h.frz b k hb).trans (hl.fre k)

set_option maxRecDepth 100000 in
set_option maxHeartbeats 4000000 in
theorem spoil_any {q:Nat→Nat} (m:MdlD) (p:Ph) (w:World) (h:Mod (Lay q) w m p) (hq:∀ j,q j≤q (j+1)) (hz:q 7≤w.heap.size) (hm:Sml m) :
   Calls Tryz.prog 44 #[mdV m p] w fun e w'=>e=.returned (.tuple #[])∧Pl (q 0) (q 7) w w':=by
 unfold mdV
 have HM:=Lib.hid (h.below (below_al1 w (.cells #[.string m.nm,.slice p.a1 m.vars.length p.c1,.slice p.a2 m.evs.length p.c2,.slice p.a3 m.regs.length p.c3,.slice p.a4 m.vers.length p.c4,.slice p.a5 m.trns.length p.c5] 28)))
 have HW:=Lib.hid (Pl.of_below (lo:=q 0) (hi:=q 7) (below_al1 w (.cells #[.string m.nm,.slice p.a1 m.vars.length p.c1,.slice p.a2 m.evs.length p.c2,.slice p.a3 m.regs.length p.c3,.slice p.a4 m.vers.length p.c4,.slice p.a5 m.trns.length p.c5] 28)))
 have HB:Hid (Box (w.alloc (.cells #[.string m.nm,.slice p.a1 m.vars.length p.c1,.slice p.a2 m.evs.length p.c2,.slice p.a3 m.regs.length p.c3,.slice p.a4 m.vers.length p.c4,.slice p.a5 m.trns.length p.c5] 28)) w.heap.size (.string m.nm) (.slice p.a1 m.vars.length p.c1) (.slice p.a2 m.evs.length p.c2) (.slice p.a3 m.regs.length p.c3) (.slice p.a4 m.vers.length p.c4) (.slice p.a5 m.trns.length p.c5)):=box6 w m p
 have HZ:=Lib.hid hz
 have HQ:=Lib.hid hq
 have l1:=hm.vars
 have l2:=hm.evs
 have l3:=hm.regs
 have l4:=hm.vers
 have l5:=hm.trns
 have HD:=Lib.hid hm.df
 have HR:=Lib.hid hm.tr
 clear h hq hz hm
 go_enter Tryz.func44,Tryz.ntmps44
 go_upto_region 1 with fail
 generalize w.alloc (.cells #[.string m.nm,.slice p.a1 m.vars.length p.c1,.slice p.a2 m.evs.length p.c2,.slice p.a3 m.regs.length p.c3,.slice p.a4 m.vers.length p.c4,.slice p.a5 m.trns.length p.c5] 28)=W1 at *
 have P0:=Pl.refl (q 0) (q 7) W1
 obtain ⟨b0,b1,b2,b3,b4,b5,f0,f1,f2,f3,f4,f5⟩:=HB.out
 go_wp2_with fail
 go_loopw [2] (fun i wr=>∃ k:Nat,k≤m.vars.length∧i=.int .i64 k∧Pl (q 0) (q 7) W1 wr) (fun i _=>m.vars.length - (intOf i).toNat)
 case atStart=>exact ⟨0,by omega,rfl,P0⟩
 case round =>
  clear b0 b1 b2 b3 b4 b5 f0 f1 f2 f3 f4 f5
  obtain ⟨wo0,rfl⟩:∃ wo:World,wo=wr:=⟨_,rfl⟩
  obtain ⟨k,hk,rfl,hp0⟩:=hrel
  obtain ⟨b0,b1,b2,b3,b4,b5,f0,f1,f2,f3,f4,f5⟩:=HB.out.pl hp0 HZ.out
  have HP0:=Lib.hid hp0
  by_cases hlt:k<m.vars.length
  · have hltI:(k:Int)<(m.vars.length:Int):=by omega
    have hi0:(0:Int)≤(k:Int):=by omega
    obtain ⟨b,off,ha,hb,hl,hc⟩:=HM.out.vars.getQ hlt
    have HL:=Lib.hid hl
    have hbd:=Lib.hid (Lay.bnd HQ.out hl (by decide))
    rw [ha] at b1
    have hcc:=Lib.hid hc.1
    have fd:wo0.frozen? ⟨b,off+k * 2,none⟩=false:=hp0.fre hb hl _
    obtain ⟨u,hu⟩:=hp0.there hc.1
    clear hl hc ha hp0
    go_wp2_with fail
    go_roundw
    case rel=>exact ⟨k+1,by omega,by go_num,HP0.out.set hbd.out.1 hbd.out.2 hcc.out rfl rfl⟩
    case measure=>simp [intOf] <;> omega
  · clear hp0
    go_wp2_with fail
    go_loopw [3] (fun i wr=>∃ k:Nat,k≤m.evs.length∧i=.int .i64 k∧Pl (q 0) (q 7) W1 wr) (fun i _=>m.evs.length - (intOf i).toNat)
    case atStart=>exact ⟨0,by omega,rfl,HP0.out⟩
    case round =>
     clear b0 b1 b2 b3 b4 b5 f0 f1 f2 f3 f4 f5
     obtain ⟨wo1,rfl⟩:∃ wo:World,wo=wr:=⟨_,rfl⟩
     obtain ⟨k,hk,rfl,hp1⟩:=hrel
     obtain ⟨b0,b1,b2,b3,b4,b5,f0,f1,f2,f3,f4,f5⟩:=HB.out.pl hp1 HZ.out
     have HP1:=Lib.hid hp1
     by_cases hlt:k<m.evs.length
     · have hltI:(k:Int)<(m.evs.length:Int):=by omega
       have hi0:(0:Int)≤(k:Int):=by omega
       obtain ⟨b,off,ha,hb,hl,hc⟩:=HM.out.evs.getQ hlt
       have HL:=Lib.hid hl
       have hbd:=Lib.hid (Lay.bnd HQ.out hl (by decide))
       rw [ha] at b2
       have hcc:=Lib.hid hc
       have fd:wo1.frozen? ⟨b,off+k,none⟩=false:=hp1.fre hb hl _
       obtain ⟨u,hu⟩:=hp1.there hc
       clear hl hc ha hp1
       go_wp2_with fail
       go_roundw
       case rel=>exact ⟨k+1,by omega,by go_num,HP1.out.set hbd.out.1 hbd.out.2 hcc.out rfl rfl⟩
       case measure=>simp [intOf] <;> omega
     · clear hp1
       go_wp2_with fail
       go_loopw [4] (fun i wr=>∃ k:Nat,k≤m.regs.length∧i=.int .i64 k∧Pl (q 0) (q 7) W1 wr) (fun i _=>m.regs.length - (intOf i).toNat)
       case atStart=>exact ⟨0,by omega,rfl,HP1.out⟩
       case round =>
        clear b0 b1 b2 b3 b4 b5 f0 f1 f2 f3 f4 f5
        obtain ⟨wo2,rfl⟩:∃ wo:World,wo=wr:=⟨_,rfl⟩
        obtain ⟨k,hk,rfl,hp2⟩:=hrel
        obtain ⟨b0,b1,b2,b3,b4,b5,f0,f1,f2,f3,f4,f5⟩:=HB.out.pl hp2 HZ.out
        have HP2:=Lib.hid hp2
        by_cases hlt:k<m.regs.length
        · have hltI:(k:Int)<(m.regs.length:Int):=by omega
          have hi0:(0:Int)≤(k:Int):=by omega
          obtain ⟨b,off,ha,hb,hl,hc⟩:=HM.out.regs.getQ hlt
          have HL:=Lib.hid hl
          have hbd:=Lib.hid (Lay.bnd HQ.out hl (by decide))
          rw [ha] at b3
          have hcc:=Lib.hid hc.2
          have fd:wo2.frozen? ⟨b,off+k * 2+1,none⟩=false:=hp2.fre hb hl _
          obtain ⟨u,hu⟩:=hp2.there hc.2
          clear hl hc ha hp2
          go_wp2_with fail
          go_roundw
          case rel=>exact ⟨k+1,by omega,by go_num,HP2.out.set hbd.out.1 hbd.out.2 hcc.out rfl rfl⟩
          case measure=>simp [intOf] <;> omega
        · clear hp2
          go_wp2_with fail
          go_loopw [5] (fun i wr=>∃ k:Nat,k≤m.vers.length∧i=.int .i64 k∧Pl (q 0) (q 7) W1 wr) (fun i _=>m.vers.length - (intOf i).toNat)
          case atStart=>exact ⟨0,by omega,rfl,HP2.out⟩
          case round =>
           clear b0 b1 b2 b3 b4 b5 f0 f1 f2 f3 f4 f5
           obtain ⟨wo3,rfl⟩:∃ wo:World,wo=wr:=⟨_,rfl⟩
           obtain ⟨k,hk,rfl,hp3⟩:=hrel
           obtain ⟨b0,b1,b2,b3,b4,b5,f0,f1,f2,f3,f4,f5⟩:=HB.out.pl hp3 HZ.out
           have HP3:=Lib.hid hp3
           by_cases hlt:k<m.vers.length
           · have hltI:(k:Int)<(m.vers.length:Int):=by omega
             have hi0:(0:Int)≤(k:Int):=by omega
             obtain ⟨b,off,ha,hb,hl,hc⟩:=HM.out.vers.getQ hlt
             have HL:=Lib.hid hl
             have hbd:=Lib.hid (Lay.bnd HQ.out hl (by decide))
             rw [ha] at b4
             obtain ⟨dv,hs,h0,h1,h2,h3,h4,h5,hd,h7⟩:=hc
             have hcp:=Lib.hid h4
             have HDL:=HD.out _ (List.getElem_mem hlt)
             obtain ⟨da,dc,rfl⟩:=hs.len
             have HS:=Lib.hid hs
             have hdd:=Lib.hid hd
             have hd1:=hp3.slc hd
             have HBB:=Lib.hid hb
             have hNL:∃ nd,nd=m.vers[k].df.length:=⟨_,rfl⟩
             obtain ⟨nd,hnd⟩:=hNL
             rw [← hnd] at hd1 HDL
             clear hl hs hd h0 h1 h2 h3 h4 h5 h7 hp3
             go_wp2_with fail
             go_loopw [6] (fun i wr=>∃ j:Nat,j≤nd∧i=.int .i64 j∧Pl (q 0) (q 7) W1 wr) (fun i _=>nd - (intOf i).toNat)
             case atStart=>exact ⟨0,by omega,rfl,HP3.out⟩
             case round =>
              clear b0 b1 b2 b3 b4 b5 f0 f1 f2 f3 f4 f5 hd1
              obtain ⟨wi,rfl⟩:∃ wo:World,wo=wr:=⟨_,rfl⟩
              obtain ⟨j,hj,rfl,hpi⟩:=hrel
              obtain ⟨b0,b1,b2,b3,b4,b5,f0,f1,f2,f3,f4,f5⟩:=HB.out.pl hpi HZ.out
              have HPI:=Lib.hid hpi
              rw [ha] at b4
              have hd1:=hpi.slc hdd.out
              rw [← hnd] at hd1
              by_cases hjt:j<nd
              · have hjtI:(j:Int)<(nd:Int):=by omega
                have hj0:(0:Int)≤(j:Int):=by omega
                obtain ⟨x,xo,hxa,hxb,hxl,hxc⟩:=HS.out.getQ (k:=j) (by omega)
                have hxd:=Lib.hid (Lay.bnd HQ.out hxl (by decide))
                have hxcc:=Lib.hid hxc
                have fd:wi.frozen? ⟨x,xo+j,none⟩=false:=hpi.fre hxb hxl _
                obtain ⟨u,hu⟩:=hpi.there hxc
                rw [hxa] at hd1
                clear hxl hxc hxa hpi
                go_wp2_with fail
                go_roundw
                case rel=>exact ⟨j+1,by omega,by go_num,HPI.out.set hxd.out.1 hxd.out.2 hxcc.out rfl rfl⟩
                case measure=>simp [intOf] <;> omega
              · have fd:wi.frozen? ⟨b,off+k * 8+4,none⟩=false:=hpi.fre HBB.out HL.out _
                obtain ⟨u,hu⟩:=hpi.there hcp.out
                clear hpi
                go_wp2_with fail
                go_roundw
                case rel=>exact ⟨k+1,by omega,by go_num,HPI.out.set hbd.out.1 hbd.out.2 hcp.out rfl rfl⟩
                case measure=>simp [intOf] <;> omega
           · clear hp3
             go_wp2_with fail
             go_loopw [7] (fun i wr=>∃ k:Nat,k≤m.trns.length∧i=.int .i64 k∧Pl (q 0) (q 7) W1 wr) (fun i _=>m.trns.length - (intOf i).toNat)
             case atStart=>exact ⟨0,by omega,rfl,HP3.out⟩
             case round =>
              clear b0 b1 b2 b3 b4 b5 f0 f1 f2 f3 f4 f5
              obtain ⟨wo4,rfl⟩:∃ wo:World,wo=wr:=⟨_,rfl⟩
              obtain ⟨k,hk,rfl,hp4⟩:=hrel
              obtain ⟨b0,b1,b2,b3,b4,b5,f0,f1,f2,f3,f4,f5⟩:=HB.out.pl hp4 HZ.out
              have HP4:=Lib.hid hp4
              by_cases hlt:k<m.trns.length
              · have hltI:(k:Int)<(m.trns.length:Int):=by omega
                have hi0:(0:Int)≤(k:Int):=by omega
                obtain ⟨b,off,ha,hb,hl,hc⟩:=HM.out.trns.getQ hlt
                have HL:=Lib.hid hl
                have hbd:=Lib.hid (Lay.bnd HQ.out hl (by decide))
                rw [ha] at b5
                obtain ⟨dv,hs,h0,h1,h2,hd,h4,h5,h6,h7⟩:=hc
                have hcp:=Lib.hid h5
                have HDL:=HR.out _ (List.getElem_mem hlt)
                obtain ⟨da,dc,rfl⟩:=hs.len
                have HS:=Lib.hid hs
                have hdd:=Lib.hid hd
                have hd1:=hp4.slc hd
                have HBB:=Lib.hid hb
                have hNL:∃ nd,nd=m.trns[k].tr.length:=⟨_,rfl⟩
                obtain ⟨nd,hnd⟩:=hNL
                rw [← hnd] at hd1 HDL
                clear hl hs hd h0 h1 h2 h4 h5 h6 h7 hp4
                go_wp2_with fail
                go_loopw [8] (fun i wr=>∃ j:Nat,j≤nd∧i=.int .i64 j∧Pl (q 0) (q 7) W1 wr) (fun i _=>nd - (intOf i).toNat)
                case atStart=>exact ⟨0,by omega,rfl,HP4.out⟩
                case round =>
                 clear b0 b1 b2 b3 b4 b5 f0 f1 f2 f3 f4 f5 hd1
                 obtain ⟨wi,rfl⟩:∃ wo:World,wo=wr:=⟨_,rfl⟩
                 obtain ⟨j,hj,rfl,hpi⟩:=hrel
                 obtain ⟨b0,b1,b2,b3,b4,b5,f0,f1,f2,f3,f4,f5⟩:=HB.out.pl hpi HZ.out
                 have HPI:=Lib.hid hpi
                 rw [ha] at b5
                 have hd1:=hpi.slc hdd.out
                 rw [← hnd] at hd1
                 by_cases hjt:j<nd
                 · have hjtI:(j:Int)<(nd:Int):=by omega
                   have hj0:(0:Int)≤(j:Int):=by omega
                   obtain ⟨x,xo,hxa,hxb,hxl,hxc⟩:=HS.out.getQ (k:=j) (by omega)
                   have hxd:=Lib.hid (Lay.bnd HQ.out hxl (by decide))
                   have hxcc:=Lib.hid hxc
                   have fd:wi.frozen? ⟨x,xo+j,none⟩=false:=hpi.fre hxb hxl _
                   obtain ⟨u,hu⟩:=hpi.there hxc
                   rw [hxa] at hd1
                   clear hxl hxc hxa hpi
                   go_wp2_with fail
                   go_roundw
                   case rel=>exact ⟨j+1,by omega,by go_num,HPI.out.set hxd.out.1 hxd.out.2 hxcc.out rfl rfl⟩
                   case measure=>simp [intOf] <;> omega
                 · have fd:wi.frozen? ⟨b,off+k * 8+5,none⟩=false:=hpi.fre HBB.out HL.out _
                   obtain ⟨u,hu⟩:=hpi.there hcp.out
                   clear hpi
                   go_wp2_with fail
                   go_roundw
                   case rel=>exact ⟨k+1,by omega,by go_num,HPI.out.set hbd.out.1 hbd.out.2 hcp.out rfl rfl⟩
                   case measure=>simp [intOf] <;> omega
              · clear hp4
                go_wp2_with fail
                go_end0
                exact ⟨rfl,HW.out.trans HP4.out⟩
end Go.Proofs
