/- Walks: 'works' of law 20. -/
import Derived.Test.YtodbdacdnoeheaaGreatDoorZSgAN
namespace Go.Proofs
open Go.RowKit Go.Lx Go.Md Go.Shelf Go.BigFrame
set_option linter.unusedVariables false
section
variable {B SB H:Nat} {w:World} {a1 a2:Option Addr}
theorem doorLeave1 (h:SetAt B doorM SB w) (hc:Cb [1,3,6] [-1,-1,-1] a1 a2 3 3 H w) :
   Calls Tryz.prog 19 #[.pointer (some ⟨SB,0,none⟩),.agg #[.slice a1 3 3,.slice a2 3 3],.int .i64 1] w fun e w'=>e=.returned (.tuple #[.agg #[.slice none 0 0,.slice none 0 0],.int .i64 4])∧Below w.heap.size w w':=by
 refine (leave_any h door_right (by decide) (by decide) [1,3,6] [-1,-1,-1] a1 a2 3 3 hc.r1 hc.r2 (by decide) (by decide) 1).mono ?_
 have h1:mayE doorM [1,3,6] [-1,-1,-1] 1=0:=by kernel_rfl
 have h2:leaveOk doorM [1,3,6] 1=false:=by kernel_rfl
 rintro e w' ⟨hb,(⟨hn,_⟩ | ⟨_,_,rfl⟩ | ⟨_,hn,_⟩)⟩
 · exact absurd h1 hn
 · exact ⟨rfl,hb⟩
 · rw [h2] at hn;cases hn
theorem doorLeave3 (h:SetAt B doorM SB w) (hc:Cb [1,3,6] [-1,-1,-1] a1 a2 3 3 H w) :
   Calls Tryz.prog 19 #[.pointer (some ⟨SB,0,none⟩),.agg #[.slice a1 3 3,.slice a2 3 3],.int .i64 3] w fun e w'=>∃ u1 u2 t1 t2,e=.returned (.tuple #[.agg #[.slice u1 3 t1,.slice u2 3 t2],.int .i64 0])∧RowIn w' (.slice u1 3 t1) [1,-1,6]∧RowIn w' (.slice u2 3 t2) [-1,3,-1]∧Below w.heap.size w w':=by
 refine (leave_any h door_right (by decide) (by decide) [1,3,6] [-1,-1,-1] a1 a2 3 3 hc.r1 hc.r2 (by decide) (by decide) 3).mono ?_
 have h1:mayE doorM [1,3,6] [-1,-1,-1] 3=0:=by kernel_rfl
 have h2:leaveOk doorM [1,3,6] 3=true:=by kernel_rfl
 have h3:([1,3,6]:List Int).set (rgA doorM 3).toNat (-1)=[1,-1,6]:=by kernel_rfl
 have h4:([-1,-1,-1]:List Int).set (rgA doorM 3).toNat 3=[-1,3,-1]:=by kernel_rfl
 rintro e w' ⟨hb,(⟨hn,_⟩ | ⟨_,hn,_⟩ | ⟨_,_,v1,v2,rfl,o1,o2,_⟩)⟩
 · exact absurd h1 hn
 · rw [h2] at hn;cases hn
 · rw [h3] at o1
   rw [h4] at o2
   obtain ⟨u1,t1,rfl⟩:=ownsRow_slice o1
   obtain ⟨u2,t2,rfl⟩:=ownsRow_slice o2
   exact ⟨u1,u2,t1,t2,rfl,RowIn.own (l:=[1,-1,6]) o1,RowIn.own (l:=[-1,3,-1]) o2,hb⟩
theorem doorExits (h:SetAt B doorM SB w) (hc:Cb [1,3,6] [-1,-1,-1] a1 a2 3 3 H w) (l:List Int) (hl:exitsM doorM [1,3,6] [-1,-1,-1] 0=l) :
   Calls Tryz.prog 18 #[.pointer (some ⟨SB,0,none⟩),.agg #[.slice a1 3 3,.slice a2 3 3],.int .i64 0] w (RowD l w) :=
 (exits_any h door_right (by decide) (by decide) [1,3,6] [-1,-1,-1] a1 a2 3 3 hc.r1 hc.r2 (by decide) (by decide) 0).mono fun _ _ h=>h.d hl
theorem doorEntries (h:SetAt B doorM SB w) (r e:Int) (l:List Int) (hl:entX doorM r e=l) :
   Calls Tryz.prog 24 #[.pointer (some ⟨SB,0,none⟩),.int .i64 r,.int .i64 e] w (RowD l w) :=
 (entries_any h door_right r e).mono fun _ _ h=>h.d hl
theorem doorHome (h:SetAt B doorM SB w) (l:List Int) (lv:Value) (hr:RowIn w lv l) (hl:l.length≤90000) (x:Int) (hx:homeL doorM l=x) :
   Calls Tryz.prog 27 #[.pointer (some ⟨SB,0,none⟩),lv] w fun e w'=>e=.returned (.int .i64 x)∧Below w.heap.size w w':=by
 rw [← hx];exact home20_any h door_right l lv hr hl
theorem doorComplete (h:SetAt B doorM SB w) (hc:Cb [1,3,6] [-1,-1,-1] a1 a2 3 3 H w) (v:Int) (b:Bool) (hb:compl doorM [1,3,6] [-1,-1,-1] v=b) :
   Calls Tryz.prog 30 #[.pointer (some ⟨SB,0,none⟩),.agg #[.slice a1 3 3,.slice a2 3 3],.int .i64 v] w fun e w'=>e=.returned (.bool b)∧Below w.heap.size w w':=by
 rw [← hb];exact complete_any h door_right (by decide) (by decide) [1,3,6] [-1,-1,-1] a1 a2 3 3 hc.r1 hc.r2 (by decide) (by decide) v
end
theorem wk_made (w:World):Cb [1,3,6] [-1,-1,-1] (some ⟨w.heap.size,0,none⟩) (some ⟨w.heap.size+1,0,none⟩) 3 3 (w.heap.size+1+1) (((w.alloc (.cells #[.int .i64 1,.int .i64 3,.int .i64 6] 3)).alloc (.cells #[.int .i64 (-1),.int .i64 (-1),.int .i64 (-1)] 3)).alloc (.cells #[.slice (some ⟨w.heap.size,0,none⟩) 3 3,.slice (some ⟨w.heap.size+1,0,none⟩) 3 3] 52)):=by
 have r1:=(RowIn.fresh w [1,3,6] #[.int .i64 1,.int .i64 3,.int .i64 6] rfl 3 rfl).below (below_al1 _ (.cells #[.int .i64 (-1),.int .i64 (-1),.int .i64 (-1)] 3))
 have r2:=RowIn.fresh (w.alloc (.cells #[.int .i64 1,.int .i64 3,.int .i64 6] 3)) [-1,-1,-1] #[.int .i64 (-1),.int .i64 (-1),.int .i64 (-1)] rfl 3 rfl
 rw [World.size_alloc] at r2
 have:=Cb.made (la:=[1,3,6]) (ll:=[-1,-1,-1]) r1 r2
 rw [World.size_alloc,World.size_alloc] at this
 exact this
set_option maxRecDepth 100000 in
set_option maxHeartbeats 8000000 in
theorem works20 (w:World) (hT:Tab w):Calls Tryz.prog 14 #[] w fun e w'=>e=.returned (.bool true)∧Below w.heap.size w w':=by
 have HN:=Lib.hid (fun (p:Ph) (wx:World) (hm:Mod anyM wx doorM p) (g:Below w.heap.size w wx)=>setsNew_any doorM p wx hm door_ok (hT.next g) (by decide) (by decide) (by decide))
 unfold mdV at HN
 clear hT
 go_enter Tryz.func14,Tryz.ntmps14
 simp only [List.append_eq,List.cons_append,List.nil_append]
 go_wp2_with fail
 refine (door_any w).mono ?_
 rintro e w1 ⟨p,rfl,hm,g1⟩
 have HN1:=Lib.hid (HN.out p w1 hm g1)
 have HB1:=Lib.hid g1
 unfold mdV
 clear HN hm g1
 go_wp2_with fail
 refine (HN1.out).mono ?_
 rintro e w2 ⟨g2,(⟨_,SB,rfl,hs⟩ | ⟨hne,rfl⟩)⟩
 rotate_left
 · exact absurd (by rw [door_right]) hne
 have HS:=Lib.hid (fun (wx:World) (g:Below w2.heap.size w2 wx)=>hs.grown g)
 have HB:Hid (Below w.heap.size w w2):=HB1.out.trans (g2.mono HB1.out.size)
 have HC5:=Lib.hid (wk_made w2)
 have HB5:Hid (Below w2.heap.size w2 (((w2.alloc (.cells #[.int .i64 1,.int .i64 3,.int .i64 6] 3)).alloc (.cells #[.int .i64 (-1),.int .i64 (-1),.int .i64 (-1)] 3)).alloc (.cells #[.slice (some ⟨w2.heap.size,0,none⟩) 3 3,.slice (some ⟨w2.heap.size+1,0,none⟩) 3 3] 52))):=Lib.hid ((((Below.refl _ w2).alloc (Nat.le_refl _) _).alloc (by simp) _).alloc (by simp;omega) _)
 clear HN1 hs g2 HB1
 go_upto_region 5 with fail
 generalize ((w2.alloc (.cells #[.int .i64 1,.int .i64 3,.int .i64 6] 3)).alloc (.cells #[.int .i64 (-1),.int .i64 (-1),.int .i64 (-1)] 3)).alloc (.cells #[.slice (some ⟨w2.heap.size,0,none⟩) 3 3,.slice (some ⟨w2.heap.size+1,0,none⟩) 3 3] 52)=W5 at *
 have d0:W5.cell? ⟨w2.heap.size+1+1,0,none⟩=some (.slice (some ⟨w2.heap.size,0,none⟩) 3 3):=HC5.out.d0
 have d1:W5.cell? ⟨w2.heap.size+1+1,1,none⟩=some (.slice (some ⟨w2.heap.size+1,0,none⟩) 3 3):=HC5.out.d1
 go_wp2_with fail
 refine (doorLeave1 (HS.out _ HB5.out) HC5.out).mono ?_
 rintro e x0 ⟨rfl,g0⟩
 have HBx:Hid (Below w2.heap.size w2 (x0.alloc (.cells #[.slice none 0 0,.slice none 0 0] 52))):=Lib.hid (below_ch (below_ch HB5.out g0) (below_al1 _ _))
 have HCx:Hid (Cb [1,3,6] [-1,-1,-1] (some ⟨w2.heap.size,0,none⟩) (some ⟨w2.heap.size+1,0,none⟩) 3 3 (w2.heap.size+1+1) (x0.alloc (.cells #[.slice none 0 0,.slice none 0 0] 52))):=Lib.hid ((HC5.out.below g0).below (below_al1 _ _))
 clear d0 d1 g0 HB5 HC5
 go_upto_region 6 with fail
 generalize x0.alloc (.cells #[.slice none 0 0,.slice none 0 0] 52)=X0 at *
 have d0:X0.cell? ⟨w2.heap.size+1+1,0,none⟩=some (.slice (some ⟨w2.heap.size,0,none⟩) 3 3):=HCx.out.d0
 have d1:X0.cell? ⟨w2.heap.size+1+1,1,none⟩=some (.slice (some ⟨w2.heap.size+1,0,none⟩) 3 3):=HCx.out.d1
 go_wp2_with fail
 refine (doorLeave3 (HS.out _ HBx.out) HCx.out).mono ?_
 rintro e y0 ⟨u1,u2,t1,t2,rfl,ru1,ru2,g0⟩
 have hb0:Hid (Below w2.heap.size w2 (y0.alloc (.cells #[.slice u1 3 t1,.slice u2 3 t2] 52))):=Lib.hid (below_ch (below_ch HBx.out g0) (below_al1 _ _))
 have HC0:Hid (Cb [1,3,6] [-1,-1,-1] (some ⟨w2.heap.size,0,none⟩) (some ⟨w2.heap.size+1,0,none⟩) 3 3 (w2.heap.size+1+1) (y0.alloc (.cells #[.slice u1 3 t1,.slice u2 3 t2] 52))):=Lib.hid ((HCx.out.below g0).below (below_al1 _ _))
 have HD0:Hid (Cb [1,-1,6] [-1,3,-1] u1 u2 t1 t2 y0.heap.size (y0.alloc (.cells #[.slice u1 3 t1,.slice u2 3 t2] 52))):=Lib.hid (Cb.made (la:=[1,-1,6]) (ll:=[-1,3,-1]) ru1 ru2)
 clear d0 d1 g0 HBx HCx ru1 ru2
 obtain ⟨Hd,hHd⟩:∃ Hd,y0.heap.size=Hd:=⟨_,rfl⟩
 rw [hHd] at HD0
 go_upto_region 7 with fail
 clear hHd
 generalize y0.alloc (.cells #[.slice u1 3 t1,.slice u2 3 t2] 52)=z0 at *
 have d0:z0.cell? ⟨w2.heap.size+1+1,0,none⟩=some (.slice (some ⟨w2.heap.size,0,none⟩) 3 3):=HC0.out.d0
 have d1:z0.cell? ⟨w2.heap.size+1+1,1,none⟩=some (.slice (some ⟨w2.heap.size+1,0,none⟩) 3 3):=HC0.out.d1
 have d2:z0.cell? ⟨Hd,0,none⟩=some (.slice u1 3 t1):=HD0.out.d0
 have d3:z0.cell? ⟨Hd,1,none⟩=some (.slice u2 3 t2):=HD0.out.d1
 go_wp2_with fail
 refine (doorExits (HS.out _ hb0.out) (HC0.out) [3,6,1] (by kernel_rfl)).mono ?_
 rintro e x1 ⟨r,rfl,hr,hq⟩
 have hb1:Hid (Below w2.heap.size w2 x1):=Lib.hid (below_ch hb0.out hq)
 have HC1:=Lib.hid (HC0.out.below hq)
 have HD1:=Lib.hid (HD0.out.below hq)
 have R1:=Lib.hid hr
 clear hr
 clear d0 d1 d2 d3 hb0 HC0 HD0 hq
 have d0:x1.cell? ⟨w2.heap.size+1+1,0,none⟩=some (.slice (some ⟨w2.heap.size,0,none⟩) 3 3):=HC1.out.d0
 have d1:x1.cell? ⟨w2.heap.size+1+1,1,none⟩=some (.slice (some ⟨w2.heap.size+1,0,none⟩) 3 3):=HC1.out.d1
 have d2:x1.cell? ⟨Hd,0,none⟩=some (.slice u1 3 t1):=HD1.out.d0
 have d3:x1.cell? ⟨Hd,1,none⟩=some (.slice u2 3 t2):=HD1.out.d1
 go_wp2_with fail
 refine (same_self [3,6,1] _ _ _ (R1.out.below (below_al1 x1 _)) (RowIn.fresh x1 [3,6,1] _ rfl _ rfl) (by decide)).mono ?_
 rintro e x2 ⟨rfl,hq⟩
 have hb2:Hid (Below w2.heap.size w2 x2):=Lib.hid (below_ch hb1.out (below_bx1 hq))
 have HC2:=Lib.hid (HC1.out.below (below_bx1 hq))
 have HD2:=Lib.hid (HD1.out.below (below_bx1 hq))
 clear R1
 clear d0 d1 d2 d3 hb1 HC1 HD1 hq
 have d0:x2.cell? ⟨w2.heap.size+1+1,0,none⟩=some (.slice (some ⟨w2.heap.size,0,none⟩) 3 3):=HC2.out.d0
 have d1:x2.cell? ⟨w2.heap.size+1+1,1,none⟩=some (.slice (some ⟨w2.heap.size+1,0,none⟩) 3 3):=HC2.out.d1
 have d2:x2.cell? ⟨Hd,0,none⟩=some (.slice u1 3 t1):=HD2.out.d0
 have d3:x2.cell? ⟨Hd,1,none⟩=some (.slice u2 3 t2):=HD2.out.d1
 go_wp2_with fail
 refine (doorEntries (HS.out _ hb2.out) 0 4 [1,4] (by kernel_rfl)).mono ?_
 rintro e x3 ⟨r,rfl,hr,hq⟩
 have hb3:Hid (Below w2.heap.size w2 x3):=Lib.hid (below_ch hb2.out hq)
 have HC3:=Lib.hid (HC2.out.below hq)
 have HD3:=Lib.hid (HD2.out.below hq)
 have R3:=Lib.hid hr
 clear hr
 clear d0 d1 d2 d3 hb2 HC2 HD2 hq
 have d0:x3.cell? ⟨w2.heap.size+1+1,0,none⟩=some (.slice (some ⟨w2.heap.size,0,none⟩) 3 3):=HC3.out.d0
 have d1:x3.cell? ⟨w2.heap.size+1+1,1,none⟩=some (.slice (some ⟨w2.heap.size+1,0,none⟩) 3 3):=HC3.out.d1
 have d2:x3.cell? ⟨Hd,0,none⟩=some (.slice u1 3 t1):=HD3.out.d0
 have d3:x3.cell? ⟨Hd,1,none⟩=some (.slice u2 3 t2):=HD3.out.d1
 go_wp2_with fail
 refine (same_self [1,4] _ _ _ (R3.out.below (below_al1 x3 _)) (RowIn.fresh x3 [1,4] _ rfl _ rfl) (by decide)).mono ?_
 rintro e x4 ⟨rfl,hq⟩
 have hb4:Hid (Below w2.heap.size w2 x4):=Lib.hid (below_ch hb3.out (below_bx1 hq))
 have HC4:=Lib.hid (HC3.out.below (below_bx1 hq))
 have HD4:=Lib.hid (HD3.out.below (below_bx1 hq))
 clear R3
 clear d0 d1 d2 d3 hb3 HC3 HD3 hq
 have d0:x4.cell? ⟨w2.heap.size+1+1,0,none⟩=some (.slice (some ⟨w2.heap.size,0,none⟩) 3 3):=HC4.out.d0
 have d1:x4.cell? ⟨w2.heap.size+1+1,1,none⟩=some (.slice (some ⟨w2.heap.size+1,0,none⟩) 3 3):=HC4.out.d1
 have d2:x4.cell? ⟨Hd,0,none⟩=some (.slice u1 3 t1):=HD4.out.d0
 have d3:x4.cell? ⟨Hd,1,none⟩=some (.slice u2 3 t2):=HD4.out.d1
 go_wp2_with fail
 refine (doorEntries (HS.out _ hb4.out) 1 4 [4] (by kernel_rfl)).mono ?_
 rintro e x5 ⟨r,rfl,hr,hq⟩
 have hb5:Hid (Below w2.heap.size w2 x5):=Lib.hid (below_ch hb4.out hq)
 have HC5:=Lib.hid (HC4.out.below hq)
 have HD5:=Lib.hid (HD4.out.below hq)
 have R5:=Lib.hid hr
 clear hr
 clear d0 d1 d2 d3 hb4 HC4 HD4 hq
 have d0:x5.cell? ⟨w2.heap.size+1+1,0,none⟩=some (.slice (some ⟨w2.heap.size,0,none⟩) 3 3):=HC5.out.d0
 have d1:x5.cell? ⟨w2.heap.size+1+1,1,none⟩=some (.slice (some ⟨w2.heap.size+1,0,none⟩) 3 3):=HC5.out.d1
 have d2:x5.cell? ⟨Hd,0,none⟩=some (.slice u1 3 t1):=HD5.out.d0
 have d3:x5.cell? ⟨Hd,1,none⟩=some (.slice u2 3 t2):=HD5.out.d1
 go_wp2_with fail
 refine (same_self [4] _ _ _ (R5.out.below (below_al1 x5 _)) (RowIn.fresh x5 [4] _ rfl _ rfl) (by decide)).mono ?_
 rintro e x6 ⟨rfl,hq⟩
 have hb6:Hid (Below w2.heap.size w2 x6):=Lib.hid (below_ch hb5.out (below_bx1 hq))
 have HC6:=Lib.hid (HC5.out.below (below_bx1 hq))
 have HD6:=Lib.hid (HD5.out.below (below_bx1 hq))
 clear R5
 clear d0 d1 d2 d3 hb5 HC5 HD5 hq
 have d0:x6.cell? ⟨w2.heap.size+1+1,0,none⟩=some (.slice (some ⟨w2.heap.size,0,none⟩) 3 3):=HC6.out.d0
 have d1:x6.cell? ⟨w2.heap.size+1+1,1,none⟩=some (.slice (some ⟨w2.heap.size+1,0,none⟩) 3 3):=HC6.out.d1
 have d2:x6.cell? ⟨Hd,0,none⟩=some (.slice u1 3 t1):=HD6.out.d0
 have d3:x6.cell? ⟨Hd,1,none⟩=some (.slice u2 3 t2):=HD6.out.d1
 go_wp2_with fail
 refine (doorEntries (HS.out _ hb6.out) 0 8 [1] (by kernel_rfl)).mono ?_
 rintro e x7 ⟨r,rfl,hr,hq⟩
 have hb7:Hid (Below w2.heap.size w2 x7):=Lib.hid (below_ch hb6.out hq)
 have HC7:=Lib.hid (HC6.out.below hq)
 have HD7:=Lib.hid (HD6.out.below hq)
 have R7:=Lib.hid hr
 clear hr
 clear d0 d1 d2 d3 hb6 HC6 HD6 hq
 have d0:x7.cell? ⟨w2.heap.size+1+1,0,none⟩=some (.slice (some ⟨w2.heap.size,0,none⟩) 3 3):=HC7.out.d0
 have d1:x7.cell? ⟨w2.heap.size+1+1,1,none⟩=some (.slice (some ⟨w2.heap.size+1,0,none⟩) 3 3):=HC7.out.d1
 have d2:x7.cell? ⟨Hd,0,none⟩=some (.slice u1 3 t1):=HD7.out.d0
 have d3:x7.cell? ⟨Hd,1,none⟩=some (.slice u2 3 t2):=HD7.out.d1
 go_wp2_with fail
 refine (same_self [1] _ _ _ (R7.out.below (below_al1 x7 _)) (RowIn.fresh x7 [1] _ rfl _ rfl) (by decide)).mono ?_
 rintro e x8 ⟨rfl,hq⟩
 have hb8:Hid (Below w2.heap.size w2 x8):=Lib.hid (below_ch hb7.out (below_bx1 hq))
 have HC8:=Lib.hid (HC7.out.below (below_bx1 hq))
 have HD8:=Lib.hid (HD7.out.below (below_bx1 hq))
 clear R7
 clear d0 d1 d2 d3 hb7 HC7 HD7 hq
 have d0:x8.cell? ⟨w2.heap.size+1+1,0,none⟩=some (.slice (some ⟨w2.heap.size,0,none⟩) 3 3):=HC8.out.d0
 have d1:x8.cell? ⟨w2.heap.size+1+1,1,none⟩=some (.slice (some ⟨w2.heap.size+1,0,none⟩) 3 3):=HC8.out.d1
 have d2:x8.cell? ⟨Hd,0,none⟩=some (.slice u1 3 t1):=HD8.out.d0
 have d3:x8.cell? ⟨Hd,1,none⟩=some (.slice u2 3 t2):=HD8.out.d1
 go_wp2_with fail
 refine (doorEntries (HS.out _ hb8.out) 0 9 [1] (by kernel_rfl)).mono ?_
 rintro e x9 ⟨r,rfl,hr,hq⟩
 have hb9:Hid (Below w2.heap.size w2 x9):=Lib.hid (below_ch hb8.out hq)
 have HC9:=Lib.hid (HC8.out.below hq)
 have HD9:=Lib.hid (HD8.out.below hq)
 have R9:=Lib.hid hr
 clear hr
 clear d0 d1 d2 d3 hb8 HC8 HD8 hq
 have d0:x9.cell? ⟨w2.heap.size+1+1,0,none⟩=some (.slice (some ⟨w2.heap.size,0,none⟩) 3 3):=HC9.out.d0
 have d1:x9.cell? ⟨w2.heap.size+1+1,1,none⟩=some (.slice (some ⟨w2.heap.size+1,0,none⟩) 3 3):=HC9.out.d1
 have d2:x9.cell? ⟨Hd,0,none⟩=some (.slice u1 3 t1):=HD9.out.d0
 have d3:x9.cell? ⟨Hd,1,none⟩=some (.slice u2 3 t2):=HD9.out.d1
 go_wp2_with fail
 refine (same_self [1] _ _ _ (R9.out.below (below_al1 x9 _)) (RowIn.fresh x9 [1] _ rfl _ rfl) (by decide)).mono ?_
 rintro e x10 ⟨rfl,hq⟩
 have hb10:Hid (Below w2.heap.size w2 x10):=Lib.hid (below_ch hb9.out (below_bx1 hq))
 have HC10:=Lib.hid (HC9.out.below (below_bx1 hq))
 have HD10:=Lib.hid (HD9.out.below (below_bx1 hq))
 clear R9
 clear d0 d1 d2 d3 hb9 HC9 HD9 hq
 have d0:x10.cell? ⟨w2.heap.size+1+1,0,none⟩=some (.slice (some ⟨w2.heap.size,0,none⟩) 3 3):=HC10.out.d0
 have d1:x10.cell? ⟨w2.heap.size+1+1,1,none⟩=some (.slice (some ⟨w2.heap.size+1,0,none⟩) 3 3):=HC10.out.d1
 have d2:x10.cell? ⟨Hd,0,none⟩=some (.slice u1 3 t1):=HD10.out.d0
 have d3:x10.cell? ⟨Hd,1,none⟩=some (.slice u2 3 t2):=HD10.out.d1
 go_wp2_with fail
 refine (same_self [1,-1,6] _ _ _ ((HD10.out).r1.below (below_al1 x10 _)) (RowIn.fresh x10 [1,-1,6] _ rfl _ rfl) (by decide)).mono ?_
 rintro e x11 ⟨rfl,hq⟩
 have hb11:Hid (Below w2.heap.size w2 x11):=Lib.hid (below_ch hb10.out (below_bx1 hq))
 have HC11:=Lib.hid (HC10.out.below (below_bx1 hq))
 have HD11:=Lib.hid (HD10.out.below (below_bx1 hq))
 clear d0 d1 d2 d3 hb10 HC10 HD10 hq
 have d0:x11.cell? ⟨w2.heap.size+1+1,0,none⟩=some (.slice (some ⟨w2.heap.size,0,none⟩) 3 3):=HC11.out.d0
 have d1:x11.cell? ⟨w2.heap.size+1+1,1,none⟩=some (.slice (some ⟨w2.heap.size+1,0,none⟩) 3 3):=HC11.out.d1
 have d2:x11.cell? ⟨Hd,0,none⟩=some (.slice u1 3 t1):=HD11.out.d0
 have d3:x11.cell? ⟨Hd,1,none⟩=some (.slice u2 3 t2):=HD11.out.d1
 go_wp2_with fail
 refine (same_self [-1,3,-1] _ _ _ ((HD11.out).r2.below (below_al1 x11 _)) (RowIn.fresh x11 [-1,3,-1] _ rfl _ rfl) (by decide)).mono ?_
 rintro e x12 ⟨rfl,hq⟩
 have hb12:Hid (Below w2.heap.size w2 x12):=Lib.hid (below_ch hb11.out (below_bx1 hq))
 have HC12:=Lib.hid (HC11.out.below (below_bx1 hq))
 have HD12:=Lib.hid (HD11.out.below (below_bx1 hq))
 clear d0 d1 d2 d3 hb11 HC11 HD11 hq
 have d0:x12.cell? ⟨w2.heap.size+1+1,0,none⟩=some (.slice (some ⟨w2.heap.size,0,none⟩) 3 3):=HC12.out.d0
 have d1:x12.cell? ⟨w2.heap.size+1+1,1,none⟩=some (.slice (some ⟨w2.heap.size+1,0,none⟩) 3 3):=HC12.out.d1
 have d2:x12.cell? ⟨Hd,0,none⟩=some (.slice u1 3 t1):=HD12.out.d0
 have d3:x12.cell? ⟨Hd,1,none⟩=some (.slice u2 3 t2):=HD12.out.d1
 go_wp2_with fail
 refine (doorHome (HS.out _ (below_ch hb12.out (below_al1 x12 _))) [3,6] _ (RowIn.fresh x12 [3,6] _ rfl _ rfl) (by decide) 0 (by kernel_rfl)).mono ?_
 rintro e x13 ⟨rfl,hq⟩
 have hb13:Hid (Below w2.heap.size w2 x13):=Lib.hid (below_ch hb12.out (below_bx1 hq))
 have HC13:=Lib.hid (HC12.out.below (below_bx1 hq))
 have HD13:=Lib.hid (HD12.out.below (below_bx1 hq))
 clear d0 d1 d2 d3 hb12 HC12 HD12 hq
 have d0:x13.cell? ⟨w2.heap.size+1+1,0,none⟩=some (.slice (some ⟨w2.heap.size,0,none⟩) 3 3):=HC13.out.d0
 have d1:x13.cell? ⟨w2.heap.size+1+1,1,none⟩=some (.slice (some ⟨w2.heap.size+1,0,none⟩) 3 3):=HC13.out.d1
 have d2:x13.cell? ⟨Hd,0,none⟩=some (.slice u1 3 t1):=HD13.out.d0
 have d3:x13.cell? ⟨Hd,1,none⟩=some (.slice u2 3 t2):=HD13.out.d1
 go_wp2_with fail
 refine (doorHome (HS.out _ (below_ch hb13.out (below_al1 x13 _))) [3] _ (RowIn.fresh x13 [3] _ rfl _ rfl) (by decide) 1 (by kernel_rfl)).mono ?_
 rintro e x14 ⟨rfl,hq⟩
 have hb14:Hid (Below w2.heap.size w2 x14):=Lib.hid (below_ch hb13.out (below_bx1 hq))
 have HC14:=Lib.hid (HC13.out.below (below_bx1 hq))
 have HD14:=Lib.hid (HD13.out.below (below_bx1 hq))
 clear d0 d1 d2 d3 hb13 HC13 HD13 hq
 have d0:x14.cell? ⟨w2.heap.size+1+1,0,none⟩=some (.slice (some ⟨w2.heap.size,0,none⟩) 3 3):=HC14.out.d0
 have d1:x14.cell? ⟨w2.heap.size+1+1,1,none⟩=some (.slice (some ⟨w2.heap.size+1,0,none⟩) 3 3):=HC14.out.d1
 have d2:x14.cell? ⟨Hd,0,none⟩=some (.slice u1 3 t1):=HD14.out.d0
 have d3:x14.cell? ⟨Hd,1,none⟩=some (.slice u2 3 t2):=HD14.out.d1
 go_wp2_with fail
 refine (doorComplete (HS.out _ hb14.out) (HC14.out) 1 false (by kernel_rfl)).mono ?_
 rintro e x15 ⟨rfl,hq⟩
 have hb15:Hid (Below w2.heap.size w2 x15):=Lib.hid (below_ch hb14.out hq)
 have HC15:=Lib.hid (HC14.out.below hq)
 have HD15:=Lib.hid (HD14.out.below hq)
 clear d0 d1 d2 d3 hb14 HC14 HD14 hq
 have d0:x15.cell? ⟨w2.heap.size+1+1,0,none⟩=some (.slice (some ⟨w2.heap.size,0,none⟩) 3 3):=HC15.out.d0
 have d1:x15.cell? ⟨w2.heap.size+1+1,1,none⟩=some (.slice (some ⟨w2.heap.size+1,0,none⟩) 3 3):=HC15.out.d1
 have d2:x15.cell? ⟨Hd,0,none⟩=some (.slice u1 3 t1):=HD15.out.d0
 have d3:x15.cell? ⟨Hd,1,none⟩=some (.slice u2 3 t2):=HD15.out.d1
 go_wp2_with fail
 refine (doorComplete (HS.out _ hb15.out) (HC15.out) 3 true (by kernel_rfl)).mono ?_
 rintro e x16 ⟨rfl,hq⟩
 have hb16:Hid (Below w2.heap.size w2 x16):=Lib.hid (below_ch hb15.out hq)
 have HC16:=Lib.hid (HC15.out.below hq)
 have HD16:=Lib.hid (HD15.out.below hq)
 clear d0 d1 d2 d3 hb15 HC15 HD15 hq
 go_wp2_with fail
 go_ret
 exact ⟨rfl,HB.out.trans (hb16.out.mono HB.out.size)⟩
end Go.Proofs
