/- Walks: 'other', 'change', 'Odd': the door with one thing another one. -/
import Derived.Test.YtiimoclbmaggjaaGreatDoorHOdB
import Derived.Deep.RegionWith
namespace Go.Proofs
open Go.RowKit Go.Lx Go.Md Go.Shelf
set_option linter.unusedVariables false
theorem OdS.setD2 {bk:Nat→Nat} {N:Nat} {nm:ByteArray} {rs:Value} {w wx:World} (h:OdS bk N nm rs w wx) (f k:Nat) (hf:f<5) (hk:k<sF f) (hc:kF f k=3) (cs:Array Value) (l:List ByteArray) (he:cs.toList=l.map Value.string) (n:Nat) (hn:l.length=n) (hl:n≤100) (hs:∀ s ∈ l,s.size≤100) :
   OdS bk N nm rs w ((wx.setCell ⟨bk f,k,none⟩ (.slice (some ⟨wx.heap.size,0,none⟩) n n)).alloc (.cells cs 9)):=by
 have:=h.setD f k hf hk hc cs l he n hn hl hs
 rwa [World.setCell_alloc_past _ _ _ _ (h.o.lt f hf)] at this
set_option maxRecDepth 100000 in
set_option maxHeartbeats 16000000 in
theorem other_no {bk:Nat→Nat} {N:Nat} (nm:ByteArray) (ra:Option Addr) (rn rc:Nat) (i:Int) (long:ByteArray) (w:World) (h:Odw bk w) (hup:∀ f,f<5→N≤bk f∧bk f<w.heap.size) (hN:N≤w.heap.size) (hi:i<21∨42<i) :
   Calls Tryz.prog 153 #[oddV bk nm (.slice ra rn rc),.int .i64 i,.string long] w fun e w'=>e=.returned (oddV bk nm (.slice ra rn rc))∧Odw bk w'∧Below N w w'∧∀ b,b<w.heap.size→(∀ f,f<5→b≠bk f)→w'.heap[b]? = w.heap[b]? := by
 have HS:=Lib.hid (ods_made (nm:=nm) (rs:=.slice ra rn rc) h hup hN)
 obtain ⟨t21,t22,t23,t24,t25,t26,t27,t28,t29,t30,t31,t32,t33,t34,t35,t36,t37,t38,t39,t40,t41,t42⟩:(i == 21)=false∧(i == 22)=false∧(i == 23)=false∧(i == 24)=false∧(i == 25)=false∧(i == 26)=false∧(i == 27)=false∧(i == 28)=false∧(i == 29)=false∧(i == 30)=false∧(i == 31)=false∧(i == 32)=false∧(i == 33)=false∧(i == 34)=false∧(i == 35)=false∧(i == 36)=false∧(i == 37)=false∧(i == 38)=false∧(i == 39)=false∧(i == 40)=false∧(i == 41)=false∧(i == 42)=false:=by
   simp only [beq_eq_false_iff_ne];omega
 unfold oddV
 clear h hi
 go_enter Tryz.func153,Tryz.ntmps153
 go_upto_region 1 with fail
 unfold zeroM at HS
 generalize (w.alloc (.cells #[.string nm,.slice (some ⟨bk 0,0,none⟩) 2 2,.slice (some ⟨bk 1,0,none⟩) 3 3,.slice ra rn rc,.slice (some ⟨bk 3,0,none⟩) 11 11,.slice (some ⟨bk 4,0,none⟩) 8 8] 28)).alloc (.cells #[.string ⟨#[]⟩,.slice none 0 0,.slice none 0 0,.slice none 0 0,.slice none 0 0,.slice none 0 0] 28)=W1 at *
 go_upto_region 47 with fail
 refine od_wp (S:=OdS bk N nm (.slice ra rn rc) w) HS.out ?_
 all_goals
   intro W hW
   have HW:=Lib.hid hW
   obtain ⟨_,_,c0,c1,c2,c3,c4,c5,hrb,_⟩:=hW
   unfold zeroM at hrb
   have r0:=cell_blk hrb 0
   have r1:=cell_blk hrb 1
   have r2:=cell_blk hrb 2
   have r3:=cell_blk hrb 3
   have r4:=cell_blk hrb 4
   have r5:=cell_blk hrb 5
   have f0:=frz_door hrb 0
   have f1:=frz_door hrb 1
   have f2:=frz_door hrb 2
   have f3:=frz_door hrb 3
   have f4:=frz_door hrb 4
   have f5:=frz_door hrb 5
   simp only [List.getElem?_toArray,List.getElem?_cons_zero,List.getElem?_cons_succ] at r0 r1 r2 r3 r4 r5
   clear hrb
   go_wp2_with fail
   have HD:=HW.out.done (.string nm) (.slice (some ⟨bk 0,0,none⟩) 2 2) (.slice (some ⟨bk 1,0,none⟩) 3 3) (.slice ra rn rc) (.slice (some ⟨bk 3,0,none⟩) 11 11) (.slice (some ⟨bk 4,0,none⟩) 8 8)
   refine bodyPost_ret (v:=.agg #[.string nm,.slice (some ⟨bk 0,0,none⟩) 2 2,.slice (some ⟨bk 1,0,none⟩) 3 3,.slice ra rn rc,.slice (some ⟨bk 3,0,none⟩) 11 11,.slice (some ⟨bk 4,0,none⟩) 8 8]) (by simp [results,Tryz.results153,go_sem,r0,r1,r2,r3,r4,r5]) rfl ⟨rfl,HD.1,HD.2.1,HD.2.2⟩
set_option maxRecDepth 100000 in
set_option maxHeartbeats 16000000 in
theorem other_yes {bk:Nat→Nat} {N:Nat} (nm:ByteArray) (i:Int) (long:ByteArray) (hl:long.size=4097) (w:World) (h:Odw bk w) (hup:∀ f,f<5→N≤bk f∧bk f<w.heap.size) (hN:N≤w.heap.size) (hi:21≤i∧i≤42) :
   Calls Tryz.prog 153 #[oddV bk nm (.slice (some ⟨bk 2,0,none⟩) 3 3),.int .i64 i,.string long] w fun e w'=>e=.returned (oddV bk nm (.slice (some ⟨bk 2,0,none⟩) 3 3))∧Odw bk w'∧Below N w w'∧∀ b,b<w.heap.size→(∀ f,f<5→b≠bk f)→w'.heap[b]? = w.heap[b]? := by
 have HS:=Lib.hid (ods_made (nm:=nm) (rs:=.slice (some ⟨bk 2,0,none⟩) 3 3) h hup hN)
 unfold oddV
 clear h
 go_enter Tryz.func153,Tryz.ntmps153
 go_upto_region 1 with fail
 unfold zeroM at HS
 generalize (w.alloc (.cells #[.string nm,.slice (some ⟨bk 0,0,none⟩) 2 2,.slice (some ⟨bk 1,0,none⟩) 3 3,.slice (some ⟨bk 2,0,none⟩) 3 3,.slice (some ⟨bk 3,0,none⟩) 11 11,.slice (some ⟨bk 4,0,none⟩) 8 8] 28)).alloc (.cells #[.string ⟨#[]⟩,.slice none 0 0,.slice none 0 0,.slice none 0 0,.slice none 0 0,.slice none 0 0] 28)=W1 at *
 obtain ⟨_,_,c0,c1,c2,c3,c4,c5,_⟩:=HS.out
 have hb0:=HS.out.o.lt 0 (by omega)
 have hb1:=HS.out.o.lt 1 (by omega)
 have hb2:=HS.out.o.lt 2 (by omega)
 have hb3:=HS.out.o.lt 3 (by omega)
 have hb4:=HS.out.o.lt 4 (by omega)
 obtain ⟨u0,q0,_⟩:=HS.out.o.cell 2 (by omega) 3 (by decide)
 have z0:=HS.out.o.free 2 (by omega) 3
 obtain ⟨u1,q1,_⟩:=HS.out.o.cell 3 (by omega) 6 (by decide)
 have z1:=HS.out.o.free 3 (by omega) 6
 obtain ⟨u2,q2,_⟩:=HS.out.o.cell 3 (by omega) 14 (by decide)
 have z2:=HS.out.o.free 3 (by omega) 14
 obtain ⟨u3,q3,_⟩:=HS.out.o.cell 3 (by omega) 26 (by decide)
 have z3:=HS.out.o.free 3 (by omega) 26
 obtain ⟨u4,q4,_⟩:=HS.out.o.cell 3 (by omega) 33 (by decide)
 have z4:=HS.out.o.free 3 (by omega) 33
 obtain ⟨u5,q5,_⟩:=HS.out.o.cell 3 (by omega) 36 (by decide)
 have z5:=HS.out.o.free 3 (by omega) 36
 obtain ⟨u6,q6,_⟩:=HS.out.o.cell 3 (by omega) 37 (by decide)
 have z6:=HS.out.o.free 3 (by omega) 37
 obtain ⟨u7,q7,_⟩:=HS.out.o.cell 3 (by omega) 73 (by decide)
 have z7:=HS.out.o.free 3 (by omega) 73
 obtain ⟨u8,q8,_⟩:=HS.out.o.cell 3 (by omega) 80 (by decide)
 have z8:=HS.out.o.free 3 (by omega) 80
 obtain ⟨u9,q9,_⟩:=HS.out.o.cell 4 (by omega) 0 (by decide)
 have z9:=HS.out.o.free 4 (by omega) 0
 obtain ⟨u10,q10,_⟩:=HS.out.o.cell 4 (by omega) 5 (by decide)
 have z10:=HS.out.o.free 4 (by omega) 5
 obtain ⟨u11,q11,_⟩:=HS.out.o.cell 4 (by omega) 6 (by decide)
 have z11:=HS.out.o.free 4 (by omega) 6
 obtain ⟨u12,q12,_⟩:=HS.out.o.cell 4 (by omega) 7 (by decide)
 have z12:=HS.out.o.free 4 (by omega) 7
 obtain ⟨u13,q13,_⟩:=HS.out.o.cell 4 (by omega) 17 (by decide)
 have z13:=HS.out.o.free 4 (by omega) 17
 obtain ⟨u14,q14,_⟩:=HS.out.o.cell 4 (by omega) 18 (by decide)
 have z14:=HS.out.o.free 4 (by omega) 18
 obtain ⟨u15,q15,_⟩:=HS.out.o.cell 4 (by omega) 19 (by decide)
 have z15:=HS.out.o.free 4 (by omega) 19
 obtain ⟨u16,q16,_⟩:=HS.out.o.cell 4 (by omega) 20 (by decide)
 have z16:=HS.out.o.free 4 (by omega) 20
 obtain ⟨u17,q17,_⟩:=HS.out.o.cell 4 (by omega) 52 (by decide)
 have z17:=HS.out.o.free 4 (by omega) 52
 have hs0:(4096:Int)≤(long.size:Int):=by omega
 have hs1:(4096:Nat)≤long.size:=by omega
 have hs2:¬ (long.size<4096):=by omega
 have hs3:long.size≤4097:=by omega
 have hcase:i=27∨i=21∨i=22∨i=23∨i=24∨i=25∨i=26∨i=28∨i=29∨i=30∨i=31∨i=32∨i=33∨i=34∨i=35∨i=36∨i=37∨i=38∨i=39∨i=40∨i=41∨i=42:=by omega
 clear hi
 rcases hcase with rfl | hcase
 · go_upto_region 15 with fail
   go_region
   all_goals
     go_upto_region 47 with fail
     refine od_wp (S:=OdS bk N nm (.slice (some ⟨bk 2,0,none⟩) 3 3) w) ((HS.out.below (below_drewN (Below.refl _ _) _)).setS 3 36 (by decide) (by decide) (by decide) _ (by simp;omega)) ?_
     intro W hW
     have HW:=Lib.hid hW
     obtain ⟨_,_,c0,c1,c2,c3,c4,c5,hrb,_⟩:=hW
     unfold zeroM at hrb
     have r0:=cell_blk hrb 0
     have r1:=cell_blk hrb 1
     have r2:=cell_blk hrb 2
     have r3:=cell_blk hrb 3
     have r4:=cell_blk hrb 4
     have r5:=cell_blk hrb 5
     have f0:=frz_door hrb 0
     have f1:=frz_door hrb 1
     have f2:=frz_door hrb 2
     have f3:=frz_door hrb 3
     have f4:=frz_door hrb 4
     have f5:=frz_door hrb 5
     simp only [List.getElem?_toArray,List.getElem?_cons_zero,List.getElem?_cons_succ] at r0 r1 r2 r3 r4 r5
     clear hrb
     go_wp2_with fail
     have HD:=HW.out.done (.string nm) (.slice (some ⟨bk 0,0,none⟩) 2 2) (.slice (some ⟨bk 1,0,none⟩) 3 3) (.slice (some ⟨bk 2,0,none⟩) 3 3) (.slice (some ⟨bk 3,0,none⟩) 11 11) (.slice (some ⟨bk 4,0,none⟩) 8 8)
     refine bodyPost_ret (v:=.agg #[.string nm,.slice (some ⟨bk 0,0,none⟩) 2 2,.slice (some ⟨bk 1,0,none⟩) 3 3,.slice (some ⟨bk 2,0,none⟩) 3 3,.slice (some ⟨bk 3,0,none⟩) 11 11,.slice (some ⟨bk 4,0,none⟩) 8 8]) (by simp [results,Tryz.results153,go_sem,r0,r1,r2,r3,r4,r5]) rfl ⟨rfl,HD.1,HD.2.1,HD.2.2⟩
 rcases hcase with rfl | rfl | rfl | rfl | rfl | rfl | rfl | rfl | rfl | rfl | rfl | rfl | rfl | rfl | rfl | rfl | rfl | rfl | rfl | rfl | rfl
 go_upto_region 47 with fail
 refine od_wp (S:=OdS bk N nm (.slice (some ⟨bk 2,0,none⟩) 3 3) w) (HS.out.setD2 3 6 (by decide) (by decide) (by decide) #[.string ⟨#[111,112,101,110]⟩] [⟨#[111,112,101,110]⟩] rfl 1 rfl (by decide) (by decide)) ?_
 rotate_left
 go_upto_region 47 with fail
 refine od_wp (S:=OdS bk N nm (.slice (some ⟨bk 2,0,none⟩) 3 3) w) (HS.out.setD2 3 14 (by decide) (by decide) (by decide) #[.string ⟨#[111,112,101,110]⟩,.string ⟨#[111,112,101,110]⟩] [⟨#[111,112,101,110]⟩,⟨#[111,112,101,110]⟩] rfl 2 rfl (by decide) (by decide)) ?_
 rotate_left
 go_upto_region 47 with fail
 refine od_wp (S:=OdS bk N nm (.slice (some ⟨bk 2,0,none⟩) 3 3) w) (HS.out.setD2 3 14 (by decide) (by decide) (by decide) #[.string ⟨#[110,111,110,101]⟩] [⟨#[110,111,110,101]⟩] rfl 1 rfl (by decide) (by decide)) ?_
 rotate_left
 go_upto_region 47 with fail
 refine od_wp (S:=OdS bk N nm (.slice (some ⟨bk 2,0,none⟩) 3 3) w) (HS.out.setU 3 33 (by decide) (by decide) (by decide) 0 (by decide)) ?_
 rotate_left
 go_upto_region 47 with fail
 refine od_wp (S:=OdS bk N nm (.slice (some ⟨bk 2,0,none⟩) 3 3) w) (HS.out.setU 3 33 (by decide) (by decide) (by decide) 13 (by decide)) ?_
 rotate_left
 go_upto_region 47 with fail
 refine od_wp (S:=OdS bk N nm (.slice (some ⟨bk 2,0,none⟩) 3 3) w) (HS.out.setS 3 37 (by decide) (by decide) (by decide) long (by omega)) ?_
 rotate_left
 go_upto_region 47 with fail
 refine od_wp (S:=OdS bk N nm (.slice (some ⟨bk 2,0,none⟩) 3 3) w) ((HS.out.setI 2 3 (by decide) (by decide) (by decide) (3) (by decide)).setI 3 26 (by decide) (by decide) (by decide) (1) (by decide)) ?_
 rotate_left
 go_upto_region 47 with fail
 refine od_wp (S:=OdS bk N nm (.slice (some ⟨bk 2,0,none⟩) 3 3) w) (HS.out.setI 4 17 (by decide) (by decide) (by decide) (-1) (by decide)) ?_
 rotate_left
 go_upto_region 47 with fail
 refine od_wp (S:=OdS bk N nm (.slice (some ⟨bk 2,0,none⟩) 3 3) w) (HS.out.setI 4 18 (by decide) (by decide) (by decide) (11) (by decide)) ?_
 rotate_left
 go_upto_region 47 with fail
 refine od_wp (S:=OdS bk N nm (.slice (some ⟨bk 2,0,none⟩) 3 3) w) (HS.out.setD2 4 19 (by decide) (by decide) (by decide) #[.string ⟨#[111,112,101,110]⟩,.string ⟨#[108,111,99,107]⟩,.string ⟨#[111,112,101,110]⟩] [⟨#[111,112,101,110]⟩,⟨#[108,111,99,107]⟩,⟨#[111,112,101,110]⟩] rfl 3 rfl (by decide) (by decide)) ?_
 rotate_left
 go_upto_region 47 with fail
 refine od_wp (S:=OdS bk N nm (.slice (some ⟨bk 2,0,none⟩) 3 3) w) (HS.out.setI 4 20 (by decide) (by decide) (by decide) (1) (by decide)) ?_
 rotate_left
 go_upto_region 47 with fail
 refine od_wp (S:=OdS bk N nm (.slice (some ⟨bk 2,0,none⟩) 3 3) w) (HS.out.setI 4 52 (by decide) (by decide) (by decide) (65535) (by decide)) ?_
 rotate_left
 go_upto_region 47 with fail
 refine od_wp (S:=OdS bk N nm (.slice (some ⟨bk 2,0,none⟩) 3 3) w) (HS.out.setI 4 52 (by decide) (by decide) (by decide) (65536) (by decide)) ?_
 rotate_left
 go_upto_region 47 with fail
 refine od_wp (S:=OdS bk N nm (.slice (some ⟨bk 2,0,none⟩) 3 3) w) (HS.out.setI 4 52 (by decide) (by decide) (by decide) (-1) (by decide)) ?_
 rotate_left
 go_upto_region 47 with fail
 refine od_wp (S:=OdS bk N nm (.slice (some ⟨bk 2,0,none⟩) 3 3) w) (HS.out.setU 4 7 (by decide) (by decide) (by decide) 0 (by decide)) ?_
 rotate_left
 go_upto_region 47 with fail
 refine od_wp (S:=OdS bk N nm (.slice (some ⟨bk 2,0,none⟩) 3 3) w) (HS.out.setS 4 5 (by decide) (by decide) (by decide) long (by omega)) ?_
 rotate_left
 go_upto_region 47 with fail
 refine od_wp (S:=OdS bk N nm (.slice (some ⟨bk 2,0,none⟩) 3 3) w) (HS.out.setS 4 6 (by decide) (by decide) (by decide) long (by omega)) ?_
 rotate_left
 go_upto_region 47 with fail
 refine od_wp (S:=OdS bk N nm (.slice (some ⟨bk 2,0,none⟩) 3 3) w) (HS.out.setS 4 0 (by decide) (by decide) (by decide) _ (by decide)) ?_
 rotate_left
 go_upto_region 47 with fail
 refine od_wp (S:=OdS bk N nm (.slice (some ⟨bk 2,0,none⟩) 3 3) w) (HS.out.setS 3 80 (by decide) (by decide) (by decide) _ (by decide)) ?_
 rotate_left
 go_upto_region 47 with fail
 refine od_wp (S:=OdS bk N nm (.slice (some ⟨bk 2,0,none⟩) 3 3) w) (HS.out.setU 3 73 (by decide) (by decide) (by decide) 11 (by decide)) ?_
 rotate_left
 go_upto_region 47 with fail
 refine od_wp (S:=OdS bk N nm (.slice (some ⟨bk 2,0,none⟩) 3 3) w) (HS.out.setU 3 73 (by decide) (by decide) (by decide) 6 (by decide)) ?_
 rotate_left
 all_goals
   intro W hW
   have HW:=Lib.hid hW
   obtain ⟨_,_,c0,c1,c2,c3,c4,c5,hrb,_⟩:=hW
   unfold zeroM at hrb
   have r0:=cell_blk hrb 0
   have r1:=cell_blk hrb 1
   have r2:=cell_blk hrb 2
   have r3:=cell_blk hrb 3
   have r4:=cell_blk hrb 4
   have r5:=cell_blk hrb 5
   have f0:=frz_door hrb 0
   have f1:=frz_door hrb 1
   have f2:=frz_door hrb 2
   have f3:=frz_door hrb 3
   have f4:=frz_door hrb 4
   have f5:=frz_door hrb 5
   simp only [List.getElem?_toArray,List.getElem?_cons_zero,List.getElem?_cons_succ] at r0 r1 r2 r3 r4 r5
   clear hrb
   go_wp2_with fail
   have HD:=HW.out.done (.string nm) (.slice (some ⟨bk 0,0,none⟩) 2 2) (.slice (some ⟨bk 1,0,none⟩) 3 3) (.slice (some ⟨bk 2,0,none⟩) 3 3) (.slice (some ⟨bk 3,0,none⟩) 11 11) (.slice (some ⟨bk 4,0,none⟩) 8 8)
   refine bodyPost_ret (v:=.agg #[.string nm,.slice (some ⟨bk 0,0,none⟩) 2 2,.slice (some ⟨bk 1,0,none⟩) 3 3,.slice (some ⟨bk 2,0,none⟩) 3 3,.slice (some ⟨bk 3,0,none⟩) 11 11,.slice (some ⟨bk 4,0,none⟩) 8 8]) (by simp [results,Tryz.results153,go_sem,r0,r1,r2,r3,r4,r5]) rfl ⟨rfl,HD.1,HD.2.1,HD.2.2⟩
end Go.Proofs
