/- Walks: 'change', 'Odd': the door with one thing another one. -/
import Derived.Test.YtiimoclbmaggjaaGreatDoorHOdC
namespace Go.Proofs
open Go.RowKit Go.Lx Go.Md Go.Shelf
set_option linter.unusedVariables false
theorem info_Byt:(Tryz.prog.info? 5).map (fun i=>(i.zero,i.size,i.bytes))=some (some (.int .u8 0),1,1):=by kernel_rfl
theorem long_str (w:World) (base g N:Nat) (hN:N=4097) (h:w.ownsRow base 5 1 (.slice (some ⟨g,0,none⟩) N N) N (madeCells (Value.int .u8 0).cells (N * 1)).toList) :
   ∃ S:ByteArray,(convert 149 9 (.slice (some ⟨g,0,none⟩) N N)).run Tryz.prog w=.ok (.string S) w∧S.size=4097:=by
 have hc:=h.cells (g:=g) rfl
 have:=run_convert_bytes_arg (P:=Tryz.prog) w 149 5 Tryz.underlying149 Tryz.underlying5 g 0 N N (List.replicate N (0:Int)) (by simp) (fun i hi=>by
   have:=hc i (.int .u8 0) (by simp [madeCells,hi,Value.cells,Nat.mod_one])
   have e:(⟨g,0,none⟩:Addr).add i=⟨g,0+i,none⟩:=by simp [Addr.add];exact fun h=>h.symm
   rw [e] at this
   rw [this];simp [List.getD,hi]) 9 Tryz.underlying9
 exact ⟨_,this,by rw [strOfNums_size,List.length_replicate];exact hN⟩
theorem OdS.call {bk:Nat→Nat} {N:Nat} {nm:ByteArray} {rs:Value} {w W w':World} (h:OdS bk N nm rs w W) (o:Odw bk w') (b:Below N W w') (k:∀ b,b<W.heap.size→(∀ f,f<5→b≠bk f)→w'.heap[b]? = W.heap[b]?):OdS bk N nm rs w w':=by
 have hl:=h.lt
 have hne:∀ f,f<5→w.heap.size≠bk f:=fun f hf=>by have:=(h.up f hf).2;omega
 have hne1:∀ f,f<5→w.heap.size+1≠bk f:=fun f hf=>by have:=(h.up f hf).2;omega
 have kb:=k w.heap.size (by omega) hne
 have kc:∀ j,w'.cell? ⟨w.heap.size,j,none⟩=W.cell? ⟨w.heap.size,j,none⟩:=fun j=>World.cell?_of_block (w:=W) (a:=⟨w.heap.size,j,none⟩) kb
 exact ⟨o,h.bel.trans b,(kc 0).trans h.c0,(kc 1).trans h.c1,(kc 2).trans h.c2,(kc 3).trans h.c3,(kc 4).trans h.c4,(kc 5).trans h.c5,(k _ hl hne1).trans h.rb,fun j=>(World.frozen?_of_block (w:=W) (a:=⟨w.heap.size,j,none⟩) kb).trans (h.fr j),Nat.lt_of_lt_of_le hl b.size,h.nz,h.up,fun b' hb' hn'=>(k b' (by omega) hn').trans (h.ks b' hb' hn'),h.mb.imp fun _ e=>kb.trans e⟩
theorem Odw.six {bk:Nat→Nat} {w:World} {H:Nat} {cs:Array Value} (h:Odw bk w) (hne:∀ f,f<5→H≠bk f) (hm:w.heap[H]? = some (.cells cs 28 (0,0))) (a0 a1 a2 a3 a4 a5:Value):Odw bk ((((((w.setCell ⟨H,0,none⟩ a0).setCell ⟨H,1,none⟩ a1).setCell ⟨H,2,none⟩ a2).setCell ⟨H,3,none⟩ a3).setCell ⟨H,4,none⟩ a4).setCell ⟨H,5,none⟩ a5):=by
 obtain ⟨c0,h0⟩:=od_box (k:=0) (u:=a0) hm
 obtain ⟨c1,h1⟩:=od_box (k:=1) (u:=a1) h0
 obtain ⟨c2,h2⟩:=od_box (k:=2) (u:=a2) h1
 obtain ⟨c3,h3⟩:=od_box (k:=3) (u:=a3) h2
 obtain ⟨c4,h4⟩:=od_box (k:=4) (u:=a4) h3
 exact (((((h.elsewhere hne hm).elsewhere hne h0).elsewhere hne h1).elsewhere hne h2).elsewhere hne h3).elsewhere hne h4
theorem other_any {bk:Nat→Nat} {N:Nat} (nm:ByteArray) (i:Int) (long:ByteArray) (hl:long.size=4097) (w:World) (h:Odw bk w) (hup:∀ f,f<5→N≤bk f∧bk f<w.heap.size) (hN:N≤w.heap.size) :
   Calls Tryz.prog 153 #[oddV bk nm (.slice (some ⟨bk 2,0,none⟩) 3 3),.int .i64 i,.string long] w fun e w'=>e=.returned (oddV bk nm (.slice (some ⟨bk 2,0,none⟩) 3 3))∧Odw bk w'∧Below N w w'∧∀ b,b<w.heap.size→(∀ f,f<5→b≠bk f)→w'.heap[b]? = w.heap[b]? := by
 by_cases hi:21≤i∧i≤42
 · exact other_yes nm i long hl w h hup hN hi
 · exact other_no nm _ 3 3 i long w h hup hN (by omega)
def NoR (bk:Nat→Nat) (ra:Option Addr) (rn rc:Nat):Prop:=∃ no:Bool,ra=(if no then none else some ⟨bk 2,0,none⟩)∧rn=(if no then 0 else 3)∧rc=if no then 0 else 3
theorem NoR.no (bk:Nat→Nat):NoR bk (some ⟨bk 2,0,none⟩) 3 3:=⟨false,rfl,rfl,rfl⟩
theorem NoR.yes (bk:Nat→Nat):NoR bk none 0 0:=⟨true,rfl,rfl,rfl⟩
def ChgP (bk:Nat→Nat) (N:Nat) (w:World) (e:Ending) (w':World):Prop:=∃ (nm:ByteArray) (no:Bool),nm.size≤140737488355328∧e=.returned (oddV bk nm (.slice (if no then none else some ⟨bk 2,0,none⟩) (if no then 0 else 3) (if no then 0 else 3)))∧Odw bk w'∧Below N w w'
theorem chg_of {bk:Nat→Nat} {N:Nat} {w w':World} {nm:ByteArray} {ra:Option Addr} {rn rc:Nat} (h:Hid (NoR bk ra rn rc)) (hn:nm.size≤140737488355328) (o:Odw bk w') (g:Below N w w'):ChgP bk N w (.returned (oddV bk nm (.slice ra rn rc))) w':=by
 obtain ⟨no,rfl,rfl,rfl⟩:=h.out
 exact ⟨nm,no,hn,rfl,o,g⟩
set_option maxRecDepth 100000 in
set_option maxHeartbeats 16000000 in
theorem change_any {bk:Nat→Nat} {N:Nat} (nm:ByteArray) (hnm:nm.size≤140737488355328) (i:Int) (w:World) (h:Odw bk w) (hup:∀ f,f<5→N≤bk f∧bk f<w.heap.size) (hN:N≤w.heap.size) :
   Calls Tryz.prog 61 #[oddV bk nm (.slice (some ⟨bk 2,0,none⟩) 3 3),.int .i64 i] w (ChgP bk N w):=by
 obtain ⟨i8,hi8,hz0,hz1,hz2⟩:=info_parts info_Byt
 have HS:=Lib.hid (ods_made (nm:=nm) (rs:=.slice (some ⟨bk 2,0,none⟩) 3 3) h hup hN)
 have HUP:=Lib.hid (fun (W:World) (hW:w.heap.size≤W.heap.size) f (hf:f<5)=>(⟨(hup f hf).1,by have:=(hup f hf).2;omega⟩:N≤bk f∧bk f<W.heap.size))
 have HNM:=Lib.hid hnm
 have hNl:N≤w.heap.size:=hN
 unfold oddV
 clear h hup hnm hN
 go_enter Tryz.func61,Tryz.ntmps61
 go_upto_region 1 with fail
 unfold zeroM at HS
 generalize (w.alloc (.cells #[.string nm,.slice (some ⟨bk 0,0,none⟩) 2 2,.slice (some ⟨bk 1,0,none⟩) 3 3,.slice (some ⟨bk 2,0,none⟩) 3 3,.slice (some ⟨bk 3,0,none⟩) 11 11,.slice (some ⟨bk 4,0,none⟩) 8 8] 28)).alloc (.cells #[.string ⟨#[]⟩,.slice none 0 0,.slice none 0 0,.slice none 0 0,.slice none 0 0,.slice none 0 0] 28)=W1 at *
 obtain ⟨L,hL⟩:∃ L:Nat,L=4097:=⟨_,rfl⟩
 have hLi:(4097:Int)=(L:Int):=by omega
 have hLb:i8.bytes * L≤281474976710656:=by rw [hz2];omega
 have hLm:L≤maxLen:=by unfold maxLen;omega
 have HL:=Lib.hid hL
 have HLI:=Lib.hid hLi
 have HLB:=Lib.hid hLb
 have HLM:=Lib.hid hLm
 clear hL hLi hLb hLm
 go_upto_region 3 with (at_make;refine wpList_make_full _ rfl _ _ 149 rfl W1.heap.size 5 i8 (.int .u8 0) 1 Tryz.underlying149 hi8 hz0 hz1 .i64 .i64 4097 4097 L rfl rfl HLI.out HLI.out HLB.out HLM.out (Nat.le_refl _) ?_;intro wz hownz hgrowz;obtain ⟨S,hS,hSz⟩:=long_str wz _ _ L HL.out hownz;have hgz:=Lib.hid (Below.grown (Below.refl W1.heap.size W1) hgrowz (Nat.le_refl _) (fun _ h=>by cases h));clear hownz hgrowz)
 have HS2:=Lib.hid (HS.out.below hgz.out)
 have HSz:=Lib.hid hSz
 clear hS hgz HS hSz HL HLI HLB HLM
 have hb0:=HS2.out.o.lt 0 (by omega)
 have hb1:=HS2.out.o.lt 1 (by omega)
 have hb2:=HS2.out.o.lt 2 (by omega)
 have hb3:=HS2.out.o.lt 3 (by omega)
 have hb4:=HS2.out.o.lt 4 (by omega)
 obtain ⟨u0,q0,_⟩:=HS2.out.o.cell 0 (by omega) 0 (by decide)
 have z0:=HS2.out.o.free 0 (by omega) 0
 obtain ⟨u1,q1,_⟩:=HS2.out.o.cell 0 (by omega) 2 (by decide)
 have z1:=HS2.out.o.free 0 (by omega) 2
 obtain ⟨u2,q2,_⟩:=HS2.out.o.cell 1 (by omega) 0 (by decide)
 have z2:=HS2.out.o.free 1 (by omega) 0
 obtain ⟨u3,q3,_⟩:=HS2.out.o.cell 1 (by omega) 2 (by decide)
 have z3:=HS2.out.o.free 1 (by omega) 2
 obtain ⟨u4,q4,_⟩:=HS2.out.o.cell 2 (by omega) 1 (by decide)
 have z4:=HS2.out.o.free 2 (by omega) 1
 obtain ⟨u5,q5,_⟩:=HS2.out.o.cell 2 (by omega) 2 (by decide)
 have z5:=HS2.out.o.free 2 (by omega) 2
 obtain ⟨u6,q6,_⟩:=HS2.out.o.cell 2 (by omega) 3 (by decide)
 have z6:=HS2.out.o.free 2 (by omega) 3
 obtain ⟨u7,q7,_⟩:=HS2.out.o.cell 2 (by omega) 5 (by decide)
 have z7:=HS2.out.o.free 2 (by omega) 5
 obtain ⟨u8,q8,_⟩:=HS2.out.o.cell 3 (by omega) 4 (by decide)
 have z8:=HS2.out.o.free 3 (by omega) 4
 obtain ⟨u9,q9,_⟩:=HS2.out.o.cell 3 (by omega) 15 (by decide)
 have z9:=HS2.out.o.free 3 (by omega) 15
 obtain ⟨u10,q10,_⟩:=HS2.out.o.cell 3 (by omega) 26 (by decide)
 have z10:=HS2.out.o.free 3 (by omega) 26
 obtain ⟨u11,q11,_⟩:=HS2.out.o.cell 3 (by omega) 27 (by decide)
 have z11:=HS2.out.o.free 3 (by omega) 27
 obtain ⟨u12,q12,_⟩:=HS2.out.o.cell 3 (by omega) 55 (by decide)
 have z12:=HS2.out.o.free 3 (by omega) 55
 obtain ⟨u13,q13,_⟩:=HS2.out.o.cell 3 (by omega) 74 (by decide)
 have z13:=HS2.out.o.free 3 (by omega) 74
 obtain ⟨u14,q14,_⟩:=HS2.out.o.cell 3 (by omega) 75 (by decide)
 have z14:=HS2.out.o.free 3 (by omega) 75
 obtain ⟨_,_,c0,c1,c2,c3,c4,c5,_⟩:=HS2.out
 have f0:=HS2.out.fr 0
 have f1:=HS2.out.fr 1
 have f2:=HS2.out.fr 2
 have f3:=HS2.out.fr 3
 have f4:=HS2.out.fr 4
 have f5:=HS2.out.fr 5
 have OT:=Lib.hid (fun (W:World) (o:OdS bk N nm (.slice (some ⟨bk 2,0,none⟩) 3 3) w W)=>other_any nm i S HSz.out W o.o (HUP.out W (by have:=o.lt;omega)) (by have:=o.lt;have:=o.nz;omega))
 have ON:=Lib.hid (fun (nm:ByteArray) (ra:Option Addr) (rn rc:Nat) (hi:i<21∨42<i) (W:World) (o:OdS bk N nm (.slice ra rn rc) w W)=>other_no nm ra rn rc i S W o.o (HUP.out W (by have:=o.lt;omega)) (by have:=o.lt;have:=o.nz;omega) hi)
 unfold oddV at OT ON
 have hcase:i=1∨i=2∨i=3∨i=4∨i=5∨i=6∨i=7∨i=8∨i=9∨i=10∨i=11∨i=12∨i=13∨i=14∨i=15∨i=16∨i=17∨i=18∨i=19∨i=20∨(i<1∨20<i):=by omega
 rcases hcase with rfl | rfl | rfl | rfl | rfl | rfl | rfl | rfl | rfl | rfl | rfl | rfl | rfl | rfl | rfl | rfl | rfl | rfl | rfl | rfl | hcase
 go_upto_region 43 with fail
 refine od_wp (S:=fun W=>∃ (nm9:ByteArray) (ra:Option Addr) (rn rc:Nat),nm9.size≤140737488355328∧Hid (NoR bk ra rn rc)∧OdS bk N nm9 (.slice ra rn rc) w W) ⟨⟨#[]⟩,_,_,_,by decide,Lib.hid (NoR.no bk),HS2.out.setN ⟨#[]⟩⟩ ?_
 rotate_left
 go_upto_region 43 with fail
 refine od_wp (S:=fun W=>∃ (nm9:ByteArray) (ra:Option Addr) (rn rc:Nat),nm9.size≤140737488355328∧Hid (NoR bk ra rn rc)∧OdS bk N nm9 (.slice ra rn rc) w W) ⟨⟨#[97,32,98]⟩,_,_,_,by decide,Lib.hid (NoR.no bk),HS2.out.setN ⟨#[97,32,98]⟩⟩ ?_
 rotate_left
 go_upto_region 43 with fail
 refine od_wp (S:=fun W=>∃ (nm9:ByteArray) (ra:Option Addr) (rn rc:Nat),nm9.size≤140737488355328∧Hid (NoR bk ra rn rc)∧OdS bk N nm9 (.slice ra rn rc) w W) ⟨nm,_,_,_,HNM.out,Lib.hid (NoR.no bk),(HS2.out.setS 0 2 (by decide) (by decide) (by decide) _ (by decide))⟩ ?_
 rotate_left
 go_upto_region 43 with fail
 refine od_wp (S:=fun W=>∃ (nm9:ByteArray) (ra:Option Addr) (rn rc:Nat),nm9.size≤140737488355328∧Hid (NoR bk ra rn rc)∧OdS bk N nm9 (.slice ra rn rc) w W) ⟨nm,_,_,_,HNM.out,Lib.hid (NoR.no bk),(HS2.out.setS 0 0 (by decide) (by decide) (by decide) _ (by decide))⟩ ?_
 rotate_left
 go_upto_region 43 with fail
 refine od_wp (S:=fun W=>∃ (nm9:ByteArray) (ra:Option Addr) (rn rc:Nat),nm9.size≤140737488355328∧Hid (NoR bk ra rn rc)∧OdS bk N nm9 (.slice ra rn rc) w W) ⟨nm,_,_,_,HNM.out,Lib.hid (NoR.no bk),(HS2.out.setS 1 2 (by decide) (by decide) (by decide) _ (by decide))⟩ ?_
 rotate_left
 go_upto_region 43 with fail
 refine od_wp (S:=fun W=>∃ (nm9:ByteArray) (ra:Option Addr) (rn rc:Nat),nm9.size≤140737488355328∧Hid (NoR bk ra rn rc)∧OdS bk N nm9 (.slice ra rn rc) w W) ⟨nm,_,_,_,HNM.out,Lib.hid (NoR.no bk),(HS2.out.setS 1 0 (by decide) (by decide) (by decide) _ (by decide))⟩ ?_
 rotate_left
 go_upto_region 43 with fail
 refine od_wp (S:=fun W=>∃ (nm9:ByteArray) (ra:Option Addr) (rn rc:Nat),nm9.size≤140737488355328∧Hid (NoR bk ra rn rc)∧OdS bk N nm9 (.slice ra rn rc) w W) ⟨nm,_,_,_,HNM.out,Lib.hid (NoR.yes bk),HS2.out.setR _⟩ ?_
 rotate_left
 go_upto_region 43 with fail
 refine od_wp (S:=fun W=>∃ (nm9:ByteArray) (ra:Option Addr) (rn rc:Nat),nm9.size≤140737488355328∧Hid (NoR bk ra rn rc)∧OdS bk N nm9 (.slice ra rn rc) w W) ⟨nm,_,_,_,HNM.out,Lib.hid (NoR.no bk),(HS2.out.setI 2 1 (by decide) (by decide) (by decide) (1) (by decide))⟩ ?_
 rotate_left
 go_upto_region 43 with fail
 refine od_wp (S:=fun W=>∃ (nm9:ByteArray) (ra:Option Addr) (rn rc:Nat),nm9.size≤140737488355328∧Hid (NoR bk ra rn rc)∧OdS bk N nm9 (.slice ra rn rc) w W) ⟨nm,_,_,_,HNM.out,Lib.hid (NoR.no bk),(HS2.out.setI 2 5 (by decide) (by decide) (by decide) (0) (by decide))⟩ ?_
 rotate_left
 go_upto_region 43 with fail
 refine od_wp (S:=fun W=>∃ (nm9:ByteArray) (ra:Option Addr) (rn rc:Nat),nm9.size≤140737488355328∧Hid (NoR bk ra rn rc)∧OdS bk N nm9 (.slice ra rn rc) w W) ⟨nm,_,_,_,HNM.out,Lib.hid (NoR.no bk),(HS2.out.setI 2 3 (by decide) (by decide) (by decide) (11) (by decide))⟩ ?_
 rotate_left
 go_upto_region 43 with fail
 refine od_wp (S:=fun W=>∃ (nm9:ByteArray) (ra:Option Addr) (rn rc:Nat),nm9.size≤140737488355328∧Hid (NoR bk ra rn rc)∧OdS bk N nm9 (.slice ra rn rc) w W) ⟨nm,_,_,_,HNM.out,Lib.hid (NoR.no bk),(HS2.out.setS 2 2 (by decide) (by decide) (by decide) _ (by decide))⟩ ?_
 rotate_left
 go_upto_region 43 with fail
 refine od_wp (S:=fun W=>∃ (nm9:ByteArray) (ra:Option Addr) (rn rc:Nat),nm9.size≤140737488355328∧Hid (NoR bk ra rn rc)∧OdS bk N nm9 (.slice ra rn rc) w W) ⟨nm,_,_,_,HNM.out,Lib.hid (NoR.no bk),(HS2.out.setS 3 15 (by decide) (by decide) (by decide) _ (by decide))⟩ ?_
 rotate_left
 go_upto_region 43 with fail
 refine od_wp (S:=fun W=>∃ (nm9:ByteArray) (ra:Option Addr) (rn rc:Nat),nm9.size≤140737488355328∧Hid (NoR bk ra rn rc)∧OdS bk N nm9 (.slice ra rn rc) w W) ⟨nm,_,_,_,HNM.out,Lib.hid (NoR.no bk),(HS2.out.setS 3 55 (by decide) (by decide) (by decide) _ (by decide))⟩ ?_
 rotate_left
 go_upto_region 43 with fail
 refine od_wp (S:=fun W=>∃ (nm9:ByteArray) (ra:Option Addr) (rn rc:Nat),nm9.size≤140737488355328∧Hid (NoR bk ra rn rc)∧OdS bk N nm9 (.slice ra rn rc) w W) ⟨nm,_,_,_,HNM.out,Lib.hid (NoR.no bk),(HS2.out.setS 3 55 (by decide) (by decide) (by decide) _ (by decide))⟩ ?_
 rotate_left
 go_upto_region 43 with fail
 refine od_wp (S:=fun W=>∃ (nm9:ByteArray) (ra:Option Addr) (rn rc:Nat),nm9.size≤140737488355328∧Hid (NoR bk ra rn rc)∧OdS bk N nm9 (.slice ra rn rc) w W) ⟨nm,_,_,_,HNM.out,Lib.hid (NoR.no bk),(HS2.out.setI 3 26 (by decide) (by decide) (by decide) (9) (by decide))⟩ ?_
 rotate_left
 go_upto_region 43 with fail
 refine od_wp (S:=fun W=>∃ (nm9:ByteArray) (ra:Option Addr) (rn rc:Nat),nm9.size≤140737488355328∧Hid (NoR bk ra rn rc)∧OdS bk N nm9 (.slice ra rn rc) w W) ⟨nm,_,_,_,HNM.out,Lib.hid (NoR.no bk),(HS2.out.setI 3 27 (by decide) (by decide) (by decide) (1) (by decide))⟩ ?_
 rotate_left
 go_upto_region 43 with fail
 refine od_wp (S:=fun W=>∃ (nm9:ByteArray) (ra:Option Addr) (rn rc:Nat),nm9.size≤140737488355328∧Hid (NoR bk ra rn rc)∧OdS bk N nm9 (.slice ra rn rc) w W) ⟨nm,_,_,_,HNM.out,Lib.hid (NoR.no bk),(HS2.out.setI 3 75 (by decide) (by decide) (by decide) (3) (by decide))⟩ ?_
 rotate_left
 go_upto_region 43 with fail
 refine od_wp (S:=fun W=>∃ (nm9:ByteArray) (ra:Option Addr) (rn rc:Nat),nm9.size≤140737488355328∧Hid (NoR bk ra rn rc)∧OdS bk N nm9 (.slice ra rn rc) w W) ⟨nm,_,_,_,HNM.out,Lib.hid (NoR.no bk),(HS2.out.setI 3 75 (by decide) (by decide) (by decide) (2) (by decide))⟩ ?_
 rotate_left
 go_upto_region 43 with fail
 refine od_wp (S:=fun W=>∃ (nm9:ByteArray) (ra:Option Addr) (rn rc:Nat),nm9.size≤140737488355328∧Hid (NoR bk ra rn rc)∧OdS bk N nm9 (.slice ra rn rc) w W) ⟨nm,_,_,_,HNM.out,Lib.hid (NoR.no bk),(HS2.out.setI 3 74 (by decide) (by decide) (by decide) (1) (by decide))⟩ ?_
 rotate_left
 go_upto_region 43 with fail
 refine od_wp (S:=fun W=>∃ (nm9:ByteArray) (ra:Option Addr) (rn rc:Nat),nm9.size≤140737488355328∧Hid (NoR bk ra rn rc)∧OdS bk N nm9 (.slice ra rn rc) w W) ⟨nm,_,_,_,HNM.out,Lib.hid (NoR.no bk),(HS2.out.setS 3 4 (by decide) (by decide) (by decide) _ (by decide))⟩ ?_
 rotate_left
 · obtain ⟨t1,t2,t3,t4,t5,t6,t7,t8,t9,t10,t11,t12,t13,t14,t15,t16,t17,t18,t19,t20⟩:(i == 1)=false∧(i == 2)=false∧(i == 3)=false∧(i == 4)=false∧(i == 5)=false∧(i == 6)=false∧(i == 7)=false∧(i == 8)=false∧(i == 9)=false∧(i == 10)=false∧(i == 11)=false∧(i == 12)=false∧(i == 13)=false∧(i == 14)=false∧(i == 15)=false∧(i == 16)=false∧(i == 17)=false∧(i == 18)=false∧(i == 19)=false∧(i == 20)=false:=by
     simp only [beq_eq_false_iff_ne];omega
   clear hcase
   go_upto_region 43 with fail
   have HW:=HS2
   go_wp2_with fail
   (with_reducible refine (OT.out _ HW.out).mono ?_)
   rintro e w9 ⟨rfl,o9,b9,k9⟩
   have HNo:=Lib.hid (NoR.no bk)
   clear c0 c1 c2 c3 c4 c5 f0 f1 f2 f3 f4 f5
   have HV:=Lib.hid (HW.out.call o9 b9 k9)
   clear o9 b9 k9 HW
   have hrb:=HV.out.rb
   unfold zeroM at hrb
   have r0:=cell_blk hrb 0
   have r1:=cell_blk hrb 1
   have r2:=cell_blk hrb 2
   have r3:=cell_blk hrb 3
   have r4:=cell_blk hrb 4
   have r5:=cell_blk hrb 5
   have f0:=frz_door hrb 0
   have f1:=frz_door hrb 1
   have f2:=frz_door hrb 2
   have f3:=frz_door hrb 3
   have f4:=frz_door hrb 4
   have f5:=frz_door hrb 5
   simp only [List.getElem?_toArray,List.getElem?_cons_zero,List.getElem?_cons_succ] at r0 r1 r2 r3 r4 r5
   clear hrb
   go_wp2_with fail
   have HD:=HV.out.done (.string nm) (.slice (some ⟨bk 0,0,none⟩) 2 2) (.slice (some ⟨bk 1,0,none⟩) 3 3) (.slice (some ⟨bk 2,0,none⟩) 3 3) (.slice (some ⟨bk 3,0,none⟩) 11 11) (.slice (some ⟨bk 4,0,none⟩) 8 8)
   refine bodyPost_ret (v:=oddV bk nm (.slice (some ⟨bk 2,0,none⟩) 3 3)) (by simp [results,Tryz.results61,go_sem,r0,r1,r2,r3,r4,r5,oddV]) rfl (chg_of HNo HNM.out HD.1 HD.2.1)
 all_goals
   intro W hW
   obtain ⟨nm9,ra,rn,rc,hnm9,HNo,hW⟩:=hW
   have HW:=Lib.hid hW
   clear hW c0 c1 c2 c3 c4 c5 f0 f1 f2 f3 f4 f5
   obtain ⟨_,_,c0,c1,c2,c3,c4,c5,_⟩:=HW.out
   have f0:=HW.out.fr 0
   have f1:=HW.out.fr 1
   have f2:=HW.out.fr 2
   have f3:=HW.out.fr 3
   have f4:=HW.out.fr 4
   have f5:=HW.out.fr 5
   go_wp2_with fail
   (with_reducible refine (ON.out nm9 ra rn rc (by omega) W HW.out).mono ?_)
   rintro e w9 ⟨rfl,o9,b9,k9⟩
   clear c0 c1 c2 c3 c4 c5 f0 f1 f2 f3 f4 f5
   have HV:=Lib.hid (HW.out.call o9 b9 k9)
   clear o9 b9 k9 HW
   have hrb:=HV.out.rb
   unfold zeroM at hrb
   have r0:=cell_blk hrb 0
   have r1:=cell_blk hrb 1
   have r2:=cell_blk hrb 2
   have r3:=cell_blk hrb 3
   have r4:=cell_blk hrb 4
   have r5:=cell_blk hrb 5
   have f0:=frz_door hrb 0
   have f1:=frz_door hrb 1
   have f2:=frz_door hrb 2
   have f3:=frz_door hrb 3
   have f4:=frz_door hrb 4
   have f5:=frz_door hrb 5
   simp only [List.getElem?_toArray,List.getElem?_cons_zero,List.getElem?_cons_succ] at r0 r1 r2 r3 r4 r5
   clear hrb
   go_wp2_with fail
   have HD:=HV.out.done (.string nm9) (.slice (some ⟨bk 0,0,none⟩) 2 2) (.slice (some ⟨bk 1,0,none⟩) 3 3) (.slice ra rn rc) (.slice (some ⟨bk 3,0,none⟩) 11 11) (.slice (some ⟨bk 4,0,none⟩) 8 8)
   refine bodyPost_ret (v:=oddV bk nm9 (.slice ra rn rc)) (by simp [results,Tryz.results61,go_sem,r0,r1,r2,r3,r4,r5,oddV]) rfl (chg_of HNo hnm9 HD.1 HD.2.1)
def AnyP (w:World) (e:Ending) (w':World):Prop:=∃ (m:MdlD) (p:Ph),e=.returned (mdV m p)∧MdlOk m∧Mod anyM w' m p∧Below w.heap.size w w'
set_option maxRecDepth 100000 in
set_option maxHeartbeats 4000000 in
theorem odd_any (i:Int) (w:World):Calls Tryz.prog 9 #[.int .i64 i] w (AnyP w):=by
 have HL:=Lib.hid (door_lay (w.alloc zeroM))
 have HC:=Lib.hid (fun (wx:World) (h:Mod (doorQ (w.alloc zeroM).heap.size) wx doorM (doorP (w.alloc zeroM).heap.size)) (g:Below (w.alloc zeroM).heap.size (w.alloc zeroM) wx) (hf:∀ f,f<5→∀ k,wx.frozen? ⟨bkD (w.alloc zeroM).heap.size f,k,none⟩=false)=>show Calls Tryz.prog 61 #[mdV doorM (doorP (w.alloc zeroM).heap.size),.int .i64 i] wx (ChgP (bkD (w.alloc zeroM).heap.size) (w.alloc zeroM).heap.size wx) from change_any (bk:=bkD (w.alloc zeroM).heap.size) (N:=(w.alloc zeroM).heap.size) doorM.nm (by decide) i wx (odw_door h hf) (fun f hf5=>⟨by
   have:f=0∨f=1∨f=2∨f=3∨f=4:=by omega
   rcases this with rfl | rfl | rfl | rfl | rfl <;> simp only [bkD] <;> omega,(odw_door h hf).lt f hf5⟩) g.size)
 have HZ:Hid ((w.alloc zeroM).heap[w.heap.size]? = some zeroM):=Lib.hid (World.alloc_heap_new w _)
 have HB:=Lib.hid (below_al1 w zeroM)
 have hsz:Hid (w.heap.size<(w.alloc zeroM).heap.size):=Lib.hid (by simp)
 have HNe:Hid (∀ f,f<5→w.heap.size≠bkD (w.alloc zeroM).heap.size f):=Lib.hid (fun f hf5=>by
   have:(w.alloc zeroM).heap.size=w.heap.size+1:=by simp
   have:f=0∨f=1∨f=2∨f=3∨f=4:=by omega
   rcases this with rfl | rfl | rfl | rfl | rfl <;> simp only [bkD] <;> omega)
 unfold zeroM at HL HC HZ HB hsz HNe
 unfold AnyP
 go_enter Tryz.func9,Tryz.ntmps9
 go_upto_region 1 with fail
 generalize w.alloc (.cells #[.string ⟨#[]⟩,.slice none 0 0,.slice none 0 0,.slice none 0 0,.slice none 0 0,.slice none 0 0] 28)=W1 at *
 go_wp2_with fail
 (with_reducible refine (HL.out).mono ?_)
 rintro e w2 ⟨rfl,hm,g2,hf⟩
 have HG:=Lib.hid g2
 have HCh:=Lib.hid (HC.out w2 hm g2 hf)
 clear hm g2 hf HL HC
 generalize mdV doorM (doorP W1.heap.size)=dv at HCh ⊢
 go_wp2_with fail
 (with_reducible refine (HCh.out).mono ?_)
 rintro e w3 ⟨nm,no,hn,rfl,o3,b3⟩
 have HO:=Lib.hid o3
 have HB3:=Lib.hid (HG.out.trans b3)
 have hrb:=(HB3.out.block w.heap.size hsz.out).trans HZ.out
 have HRb:=Lib.hid hrb
 have HNM:=Lib.hid hn
 have r0:=cell_blk hrb 0
 have r1:=cell_blk hrb 1
 have r2:=cell_blk hrb 2
 have r3:=cell_blk hrb 3
 have r4:=cell_blk hrb 4
 have r5:=cell_blk hrb 5
 have f0:=frz_door hrb 0
 have f1:=frz_door hrb 1
 have f2:=frz_door hrb 2
 have f3:=frz_door hrb 3
 have f4:=frz_door hrb 4
 have f5:=frz_door hrb 5
 simp only [List.getElem?_toArray,List.getElem?_cons_zero,List.getElem?_cons_succ] at r0 r1 r2 r3 r4 r5
 clear hrb o3 b3 hn HCh
 unfold oddV
 obtain ⟨ra,hra⟩:∃ ra:Option Addr,(if no then none else some ⟨bkD W1.heap.size 2,0,none⟩)=ra:=⟨_,rfl⟩
 obtain ⟨rn,hrn⟩:∃ rn:Nat,(if no then 0 else 3)=rn:=⟨_,rfl⟩
 rw [hra,hrn]
 have Hra:=Lib.hid hra
 have Hrn:=Lib.hid hrn
 clear hra hrn
 go_wp2_with fail
 have O6:=HO.out.six HNe.out HRb.out (.string nm) (.slice (some ⟨bkD W1.heap.size 0,0,none⟩) 2 2) (.slice (some ⟨bkD W1.heap.size 1,0,none⟩) 3 3) (.slice ra rn rn) (.slice (some ⟨bkD W1.heap.size 3,0,none⟩) 11 11) (.slice (some ⟨bkD W1.heap.size 4,0,none⟩) 8 8)
 obtain ⟨m,e1,e2,e3,e4,e5,e6,hok,hmod⟩:=O6.mod nm HNM.out no
 have hv:oddV (bkD W1.heap.size) nm (.slice ra rn rn)=mdV m ⟨some ⟨bkD W1.heap.size 0,0,none⟩,2,some ⟨bkD W1.heap.size 1,0,none⟩,3,if no then none else some ⟨bkD W1.heap.size 2,0,none⟩,if no then 0 else 3,some ⟨bkD W1.heap.size 3,0,none⟩,11,some ⟨bkD W1.heap.size 4,0,none⟩,8⟩:=by
   unfold oddV mdV
   rw [e1,e2,e3,e4,e5,e6,Hra.out,Hrn.out]
 refine bodyPost_ret (v:=oddV (bkD W1.heap.size) nm (.slice ra rn rn)) (by simp [results,Tryz.results9,go_sem,r0,r1,r2,r3,r4,r5,oddV]) rfl ⟨m,_,by rw [hv],hok,hmod,?_⟩
 exact ((((((HB.out.trans (HB3.out.mono (Nat.le_of_lt hsz.out))).setCell (p:=⟨w.heap.size,0,none⟩) (Nat.le_refl _) _).setCell (p:=⟨w.heap.size,1,none⟩) (Nat.le_refl _) _).setCell (p:=⟨w.heap.size,2,none⟩) (Nat.le_refl _) _).setCell (p:=⟨w.heap.size,3,none⟩) (Nat.le_refl _) _).setCell (p:=⟨w.heap.size,4,none⟩) (Nat.le_refl _) _).setCell (p:=⟨w.heap.size,5,none⟩) (Nat.le_refl _) _
end Go.Proofs
