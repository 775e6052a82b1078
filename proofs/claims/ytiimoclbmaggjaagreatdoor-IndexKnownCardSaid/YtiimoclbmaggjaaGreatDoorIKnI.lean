/- Walks: an index that is not there; the law 'IndexKnown'. -/
import Derived.Test.YtiimoclbmaggjaaGreatDoorIKnK
import Derived.Test.YtiimoclbmaggjaaGreatDoorILiE
import Derived.Test.YtiimoclbmaggjaaGreatDoorILiK
namespace Go.Proofs
open Go.RowKit Go.Lx Go.Md Go.Shelf Go.BigFrame Go.Rgi
set_option linter.unusedVariables false
theorem nothere_any (v:Int) (w:World):Calls Tryz.prog 92 #[.pointer none,.int .i64 v] w fun e w'=>e=.returned (.bool false)∧w'=w:=by
 go_enter Tryz.func92,Tryz.ntmps92
 go_wp2_with fail
 go_ret
 exact ⟨rfl,rfl⟩
set_option maxRecDepth 100000 in
theorem noParent_any (w:World):Calls Tryz.prog 22 #[.pointer none,.int .i64 0] w fun e w'=>e=.returned (.int .i64 (-1))∧Below w.heap.size w w':=by
 have NT:=Lib.hid (fun v wx=>nothere_any v wx)
 go_enter Tryz.func22,Tryz.ntmps22
 go_wp2_with fail
 (with_reducible refine (NT.out _ _).mono ?_)
 rintro e w2 ⟨rfl,rfl⟩
 go_wp2_with fail
 go_ret
 exact ⟨rfl,Below.refl _ _⟩
set_option maxRecDepth 100000 in
theorem noRegion_any (w:World):Calls Tryz.prog 23 #[.pointer none,.int .i64 0] w fun e w'=>e=.returned (.int .i64 (-1))∧Below w.heap.size w w':=by
 have NT:=Lib.hid (fun v wx=>nothere_any v wx)
 go_enter Tryz.func23,Tryz.ntmps23
 go_wp2_with fail
 (with_reducible refine (NT.out _ _).mono ?_)
 rintro e w2 ⟨rfl,rfl⟩
 go_wp2_with fail
 go_ret
 exact ⟨rfl,Below.refl _ _⟩
set_option maxRecDepth 100000 in
theorem noDepth_any (w:World):Calls Tryz.prog 24 #[.pointer none,.int .i64 0] w fun e w'=>e=.returned (.int .i64 (-1))∧Below w.heap.size w w':=by
 have NT:=Lib.hid (fun v wx=>nothere_any v wx)
 go_enter Tryz.func24,Tryz.ntmps24
 go_wp2_with fail
 (with_reducible refine (NT.out _ _).mono ?_)
 rintro e w2 ⟨rfl,rfl⟩
 go_wp2_with fail
 go_ret
 exact ⟨rfl,Below.refl _ _⟩
set_option maxRecDepth 100000 in
theorem noChain_any (w:World):Calls Tryz.prog 25 #[.pointer none,.int .i64 0] w fun e w'=>e=.returned (.slice none 0 0)∧Below w.heap.size w w':=by
 have NT:=Lib.hid (fun v wx=>nothere_any v wx)
 go_enter Tryz.func25,Tryz.ntmps25
 go_wp2_with fail
 (with_reducible refine (NT.out _ _).mono ?_)
 rintro e w2 ⟨rfl,rfl⟩
 go_wp2_with fail
 go_ret
 exact ⟨rfl,Below.refl _ _⟩
set_option maxRecDepth 100000 in
theorem noUnder_any (w:World):Calls Tryz.prog 26 #[.pointer none,.int .i64 0,.int .i64 1] w fun e w'=>e=.returned (.bool false)∧Below w.heap.size w w':=by
 have NT:=Lib.hid (fun v wx=>nothere_any v wx)
 have HB:=Lib.hid ((below_al1 w (.cells #[.int .i64 1] 3)).alloc (by simp) (.cells #[.bool false] 4))
 obtain ⟨t5,t6,t7,tz⟩:=two_allocs_c w (.int .i64 1) (.bool false) 3 4
 go_enter Tryz.func26,Tryz.ntmps26
 go_upto_region 1 with fail
 generalize (w.alloc (.cells #[.int .i64 1] 3)).alloc (.cells #[.bool false] 4)=W1 at *
 go_quiet ((go_at_call 92;refine Calls.quiet_of_same (v:=.bool false) ?_;((with_reducible refine (NT.out _ _).mono ?_));rintro e w' ⟨he,hw⟩;exact ⟨he,hw⟩))
 go_wp2_with fail
 refine bodyPost_ret (v:=.bool false) (by simp [results,Tryz.results26,go_sem,t6]) rfl ⟨rfl,(below_drewN HB.out _).setCell (by simp) _⟩
set_option maxRecDepth 100000 in
theorem noIn_any (w:World):Calls Tryz.prog 27 #[.pointer none,.int .i64 0,.int .i64 0] w fun e w'=>e=.returned (.bool false)∧Below w.heap.size w w':=by
 have NT:=Lib.hid (fun v wx=>nothere_any v wx)
 have HB:=Lib.hid (((below_al1 w (.cells #[.pointer none] 45)).alloc (by simp) (.cells #[.int .i64 0] 3)).alloc (by simp;omega) (.cells #[.bool false] 4))
 go_enter Tryz.func27,Tryz.ntmps27
 go_wp2_with fail
 (with_reducible refine (NT.out _ _).mono ?_)
 rintro e w2 ⟨rfl,rfl⟩
 go_wp2_with fail
 refine bodyPost_ret (v:=.bool false) (by simp [results,Tryz.results27,go_sem]) rfl ⟨rfl,HB.out⟩
set_option maxRecDepth 100000 in
theorem noCommon_any (w:World):Calls Tryz.prog 28 #[.pointer none,.int .i64 0,.int .i64 0,.slice none 0 0] w fun e w'=>e=.returned (.int .i64 (-1))∧Below w.heap.size w w':=by
 have NT:=Lib.hid (fun v wx=>nothere_any v wx)
 have HB:=Lib.hid ((below_al1 w (.cells #[.pointer none] 45)).alloc (by simp) (.cells #[.int .i64 0] 3))
 go_enter Tryz.func28,Tryz.ntmps28
 go_wp2_with fail
 (with_reducible refine (NT.out _ _).mono ?_)
 rintro e w2 ⟨rfl,rfl⟩
 go_wp2_with fail
 refine bodyPost_ret (v:=.int .i64 (-1)) (by simp [results,Tryz.results28,go_sem]) rfl ⟨rfl,(below_al1 _ _).alloc (by simp) _⟩
set_option maxRecDepth 100000 in
theorem noOrthogonal_any (w:World):Calls Tryz.prog 29 #[.pointer none,.int .i64 0,.int .i64 1] w fun e w'=>e=.returned (.bool false)∧Below w.heap.size w w':=by
 have NT:=Lib.hid (fun v wx=>nothere_any v wx)
 have HB:=Lib.hid (allocs_below [.cells #[.pointer none] 45,.cells #[.int .i64 0] 3,.cells #[.int .i64 1] 3,.cells #[.bool false] 4] w)
 have a0:((((w.alloc (.cells #[.pointer none] 45)).alloc (.cells #[.int .i64 0] 3)).alloc (.cells #[.int .i64 1] 3)).alloc (.cells #[.bool false] 4)).heap[w.heap.size]? = some (.cells #[.pointer none] 45):=allocs_at [.cells #[.pointer none] 45,.cells #[.int .i64 0] 3,.cells #[.int .i64 1] 3,.cells #[.bool false] 4] w 0 (by simp)
 have a1:((((w.alloc (.cells #[.pointer none] 45)).alloc (.cells #[.int .i64 0] 3)).alloc (.cells #[.int .i64 1] 3)).alloc (.cells #[.bool false] 4)).heap[w.heap.size+1]? = some (.cells #[.int .i64 0] 3):=allocs_at [.cells #[.pointer none] 45,.cells #[.int .i64 0] 3,.cells #[.int .i64 1] 3,.cells #[.bool false] 4] w 1 (by simp)
 have a2:((((w.alloc (.cells #[.pointer none] 45)).alloc (.cells #[.int .i64 0] 3)).alloc (.cells #[.int .i64 1] 3)).alloc (.cells #[.bool false] 4)).heap[w.heap.size+1+1]? = some (.cells #[.int .i64 1] 3):=allocs_at [.cells #[.pointer none] 45,.cells #[.int .i64 0] 3,.cells #[.int .i64 1] 3,.cells #[.bool false] 4] w 2 (by simp)
 have a3:((((w.alloc (.cells #[.pointer none] 45)).alloc (.cells #[.int .i64 0] 3)).alloc (.cells #[.int .i64 1] 3)).alloc (.cells #[.bool false] 4)).heap[w.heap.size+1+1+1]? = some (.cells #[.bool false] 4):=allocs_at [.cells #[.pointer none] 45,.cells #[.int .i64 0] 3,.cells #[.int .i64 1] 3,.cells #[.bool false] 4] w 3 (by simp)
 have t3:=cell_blk a0 0
 have t4:=cell_blk a1 0
 have t5:=cell_blk a2 0
 have t6:=cell_blk a3 0
 have t7:=frz_door a3 0
 simp only [List.getElem?_toArray,List.getElem?_cons_zero] at t3 t4 t5 t6
 clear a0 a1 a2 a3
 go_enter Tryz.func29,Tryz.ntmps29
 go_upto_region 1 with fail
 unfold allocs allocs allocs allocs allocs at HB
 generalize (((w.alloc (.cells #[.pointer none] 45)).alloc (.cells #[.int .i64 0] 3)).alloc (.cells #[.int .i64 1] 3)).alloc (.cells #[.bool false] 4)=W1 at *
 go_wp2_with fail
 (with_reducible refine (NT.out _ _).mono ?_)
 rintro e w2 ⟨rfl,rfl⟩
 go_wp2_with fail
 refine bodyPost_ret (v:=.bool false) (by simp [results,Tryz.results29,go_sem,t6]) rfl ⟨rfl,HB.out.setCell (by simp;omega) _⟩
set_option maxRecDepth 100000 in
theorem noKids_any (w:World):Calls Tryz.prog 30 #[.pointer none,.int .i64 0] w fun e w'=>e=.returned (.slice none 0 0)∧Below w.heap.size w w':=by
 have NT:=Lib.hid (fun v wx=>nothere_any v wx)
 go_enter Tryz.func30,Tryz.ntmps30
 go_wp2_with fail
 go_ret
 exact ⟨rfl,Below.refl _ _⟩
set_option maxRecDepth 100000 in
theorem noRegions_any (w:World):Calls Tryz.prog 31 #[.pointer none,.int .i64 (-1)] w fun e w'=>e=.returned (.slice none 0 0)∧Below w.heap.size w w':=by
 have NT:=Lib.hid (fun v wx=>nothere_any v wx)
 go_enter Tryz.func31,Tryz.ntmps31
 go_wp2_with fail
 go_ret
 exact ⟨rfl,Below.refl _ _⟩
set_option maxRecDepth 100000 in
theorem noPoints_any (w:World):Calls Tryz.prog 32 #[.pointer none,.int .i64 0] w fun e w'=>e=.returned (.slice none 0 0)∧Below w.heap.size w w':=by
 have NT:=Lib.hid (fun v wx=>nothere_any v wx)
 go_enter Tryz.func32,Tryz.ntmps32
 go_wp2_with fail
 go_ret
 exact ⟨rfl,Below.refl _ _⟩
set_option maxRecDepth 100000 in
theorem noOut_any (w:World):Calls Tryz.prog 33 #[.pointer none,.int .i64 0] w fun e w'=>e=.returned (.slice none 0 0)∧Below w.heap.size w w':=by
 have NT:=Lib.hid (fun v wx=>nothere_any v wx)
 go_enter Tryz.func33,Tryz.ntmps33
 go_wp2_with fail
 (with_reducible refine (NT.out _ _).mono ?_)
 rintro e w2 ⟨rfl,rfl⟩
 go_wp2_with fail
 go_ret
 exact ⟨rfl,Below.refl _ _⟩
set_option maxRecDepth 100000 in
theorem noInto_any (w:World):Calls Tryz.prog 34 #[.pointer none,.int .i64 0] w fun e w'=>e=.returned (.slice none 0 0)∧Below w.heap.size w w':=by
 have NT:=Lib.hid (fun v wx=>nothere_any v wx)
 go_enter Tryz.func34,Tryz.ntmps34
 go_wp2_with fail
 (with_reducible refine (NT.out _ _).mono ?_)
 rintro e w2 ⟨rfl,rfl⟩
 go_wp2_with fail
 go_ret
 exact ⟨rfl,Below.refl _ _⟩
set_option maxRecDepth 100000 in
theorem noComposite_any (w:World):Calls Tryz.prog 35 #[.pointer none,.int .i64 0] w fun e w'=>e=.returned (.bool false)∧Below w.heap.size w w':=by
 have NT:=Lib.hid (fun v wx=>nothere_any v wx)
 go_enter Tryz.func35,Tryz.ntmps35
 go_wp2_with fail
 (with_reducible refine (NT.out _ _).mono ?_)
 rintro e w2 ⟨rfl,rfl⟩
 go_wp2_with fail
 go_ret
 exact ⟨rfl,Below.refl _ _⟩
theorem it_any (m:MdlD) (p:Ph) (a b:Int) (w:World) (h:Mod anyM w m p) (hm:MdlOk m) (hT:Tab w) (ha:-9223372036854775808≤a∧a≤9223372036854775807) (hb:-9223372036854775808≤b∧b≤9223372036854775807) :
   Calls Tryz.prog 18 #[mdV m p,.int .i64 a,.int .i64 b] w (Yes w):=indexTells_any m p a b w h hm hT (wf_kn ha.1 ha.2) (wf_kn hb.1 hb.2)
theorem ic_any (m:MdlD) (p:Ph) (a b x:Int) (lv:Value) (w:World) (h:Mod anyM w m p) (hm:MdlOk m) (hT:Tab w) (ha:-9223372036854775808≤a∧a≤9223372036854775807) (hb:-9223372036854775808≤b∧b≤9223372036854775807) (hr:RowIn w lv [x]) :
   Calls Tryz.prog 19 #[mdV m p,.int .i64 a,.int .i64 b,lv] w (Yes w):=indexCommon_row m p a b [x] lv w h hm hT (wf_kn ha.1 ha.2) (wf_kn hb.1 hb.2) hr (by simp)
theorem ik_any (m:MdlD) (p:Ph) (a:Int) (w:World) (h:Mod anyM w m p) (hm:MdlOk m) (hT:Tab w) (ha:-9223372036854775808≤a∧a≤9223372036854775807) :
   Calls Tryz.prog 20 #[mdV m p,.int .i64 a] w (Yes w):=indexKeeps_any m p a w h hm hT (wf_kn ha.1 ha.2)
theorem il_any (m:MdlD) (p:Ph) (w:World) (h:Mod anyM w m p) (hm:MdlOk m) (hT:Tab w):Calls Tryz.prog 21 #[mdV m p] w (Yes w):=indexLies_any m p w h hm hT
set_option maxRecDepth 100000 in
set_option maxHeartbeats 16000000 in
theorem indexKnown_any (w:World) (hT:Tab w):Calls Tryz.prog 4 #[] w (Yes w):=by
 have TB:=Lib.hid (fun wx (g:Below w.heap.size w wx)=>hT.next g)
 have WK:=Lib.hid (fun wx (g:Below w.heap.size w wx)=>works16 wx (TB.out wx g))
 have OD:=Lib.hid (fun (i:Int) wx=>odd_any i wx)
 have DP:=Lib.hid (fun wx=>deep_yes 20 20 rfl (by omega) wx)
 have DQ:=Lib.hid (fun wx=>deep_yes 12 12 rfl (by omega) wx)
 have DR:=Lib.hid (door_yes w)
 have ITm:=Lib.hid (fun m p a b wx h hm (g:Below w.heap.size w wx) ha hb=>it_any m p a b wx h hm (TB.out wx g) ha hb)
 have ILm:=Lib.hid (fun m p wx h hm (g:Below w.heap.size w wx)=>il_any m p wx h hm (TB.out wx g))
 unfold AnyP mdV at DR
 clear hT
 go_enter Tryz.func4,Tryz.ntmps4
 go_wp2_with fail
 (with_reducible refine (DR.out).mono ?_)
 rintro e w1 ⟨m,p,rfl,hm,hmod,g1⟩
 have HM:=Lib.hid hm
 have HD:=Lib.hid (Dk.made hmod)
 have HW:=Lib.hid (below_kn g1 (below_al1 w1 (.cells #[.string m.nm,.slice p.a1 m.vars.length p.c1,.slice p.a2 m.evs.length p.c2,.slice p.a3 m.regs.length p.c3,.slice p.a4 m.vers.length p.c4,.slice p.a5 m.trns.length p.c5] 28)))
 obtain ⟨H,hH⟩:∃ H,w1.heap.size=H:=⟨_,rfl⟩
 go_upto_region 2 with fail
 rw [hH] at HD
 try rw [hH]
 clear hm hmod g1 hH DR
 generalize w1.alloc (.cells #[.string m.nm,.slice p.a1 m.vars.length p.c1,.slice p.a2 m.evs.length p.c2,.slice p.a3 m.regs.length p.c3,.slice p.a4 m.vers.length p.c4,.slice p.a5 m.trns.length p.c5] 28)=W1 at *
 have DT:=Lib.hid (fun a b wx (g:Below W1.heap.size W1 wx) ha hb=>it_any m p a b wx (HD.out.below g).mod HM.out (TB.out wx (below_kn HW.out g)) ha hb)
 have DC:=Lib.hid (fun a b x lv wx (g:Below W1.heap.size W1 wx) ha hb hr=>ic_any m p a b x lv wx (HD.out.below g).mod HM.out (TB.out wx (below_kn HW.out g)) ha hb hr)
 have DK:=Lib.hid (fun a wx (g:Below W1.heap.size W1 wx) ha=>ik_any m p a wx (HD.out.below g).mod HM.out (TB.out wx (below_kn HW.out g)) ha)
 have DL:=Lib.hid (fun wx (g:Below W1.heap.size W1 wx)=>il_any m p wx (HD.out.below g).mod HM.out (TB.out wx (below_kn HW.out g)))
 unfold mdV at DT DC DK DL
 go_wp2_with fail
 go_loopw [2] (fun i wr=>∃ a:Int,-2≤a∧a≤14∧i=.int .i64 a∧Below W1.heap.size W1 wr) (fun i _=>(14 - intOf i).toNat)
 case atStart=>exact ⟨-2,by omega,by omega,rfl,Below.refl _ _⟩
 case round =>
  obtain ⟨wa,rfl⟩:∃ wo:World,wo=wr:=⟨_,rfl⟩
  obtain ⟨a,ha1,ha2,rfl,hba⟩:=hrel
  have HA:=Lib.hid hba
  have ra:-9223372036854775808≤a∧a≤9223372036854775807:=by omega
  have RA:=Lib.hid ra
  clear hba ra
  by_cases hla:a<14
  · go_wp2_with fail
    go_loopw [3] (fun i wr=>∃ b:Int,-2≤b∧b≤14∧i=.int .i64 b∧Below W1.heap.size W1 wr) (fun i _=>(14 - intOf i).toNat)
    case atStart=>exact ⟨-2,by omega,by omega,rfl,HA.out⟩
    case round =>
     obtain ⟨wb,rfl⟩:∃ wo:World,wo=wr:=⟨_,rfl⟩
     obtain ⟨b,hb1,hb2,rfl,hbb⟩:=hrel
     have HB:=Lib.hid hbb
     have rb:-9223372036854775808≤b∧b≤9223372036854775807:=by omega
     have RB:=Lib.hid rb
     clear hbb rb
     by_cases hlb:b<14
     · obtain ⟨x0,x1,x2,x3,x4,x5,_⟩:=(HD.out.below HB.out).box
       go_wp2_with fail
       (with_reducible refine (DT.out a b _ HB.out RA.out RB.out).mono ?_)
       rintro e w2 ⟨rfl,g2⟩
       have HB2:=Lib.hid (below_kn HB.out g2)
       clear g2 x0 x1 x2 x3 x4 x5
       go_wp2_with fail
       (with_reducible refine (OD.out _ _).mono ?_)
       rintro e w3 ⟨m3,p3,rfl,hm3,hmod3,g3⟩
       have HB3:=Lib.hid (below_kn HB2.out g3)
       have HM3:=Lib.hid hm3
       have HO3:=Lib.hid hmod3
       clear g3 hm3 hmod3
       go_wp2_with fail
       (with_reducible refine (ITm.out m3 p3 a b _ HO3.out HM3.out (below_kn HW.out HB3.out) RA.out RB.out).mono ?_)
       rintro e w4 ⟨rfl,g4⟩
       have HB4:=Lib.hid (below_kn HB3.out g4)
       clear g4 HO3 HM3 HB3 HB2
       obtain ⟨x0,x1,x2,x3,x4,x5,_⟩:=(HD.out.below HB4.out).box
       go_wp2_with fail
       (with_reducible refine (DC.out a b _ _ _ (HB4.out.alloc HB4.out.size _) RA.out RB.out (one1_kn w4 _)).mono ?_)
       rintro e w5 ⟨rfl,g5⟩
       have HB5:=Lib.hid (below_kn (HB4.out.alloc HB4.out.size _) g5)
       clear g5 x0 x1 x2 x3 x4 x5
       go_wp2_with fail
       go_roundw
       case rel=>exact ⟨b+1,by omega,by omega,by go_num,HB5.out⟩
       case measure=>simp [intOf] <;> omega
     · have hbx:14≤b:=by omega
       have r3:-9223372036854775808≤a * 3∧a * 3≤9223372036854775807:=by omega
       have r5:-9223372036854775808≤a * 5∧a * 5≤9223372036854775807:=by omega
       have R3:=Lib.hid r3
       have R5:=Lib.hid r5
       clear r3 r5
       go_wp2_with fail
       (with_reducible refine (DP.out _).mono ?_)
       rintro e w2 ⟨m2,p2,rfl,hm2,hmod2,g2⟩
       have HB2:=Lib.hid (below_kn HB.out g2)
       have HM2:=Lib.hid hm2
       have HO2:=Lib.hid hmod2
       clear g2 hm2 hmod2
       go_wp2_with fail
       (with_reducible refine (ITm.out m2 p2 (a * 3) (a * 5) _ HO2.out HM2.out (below_kn HW.out HB2.out) R3.out R5.out).mono ?_)
       rintro e w3 ⟨rfl,g3⟩
       have HB3:=Lib.hid (below_kn HB2.out g3)
       clear g3 HO2 HM2 HB2
       obtain ⟨x0,x1,x2,x3,x4,x5,_⟩:=(HD.out.below HB3.out).box
       go_wp2_with fail
       (with_reducible refine (DK.out a _ HB3.out RA.out).mono ?_)
       rintro e w4 ⟨rfl,g4⟩
       have HB4:=Lib.hid (below_kn HB3.out g4)
       clear g4 HB3 x0 x1 x2 x3 x4 x5
       go_wp2_with fail
       go_roundw
       case rel=>exact ⟨a+1,by omega,by omega,by go_num,HB4.out⟩
       case measure=>simp [intOf] <;> omega
  · have hax:14≤a:=by omega
    go_wp2_with fail
    go_loopw [4] (fun i wr=>∃ k:Nat,k≤46∧i=.int .i64 k∧Below W1.heap.size W1 wr) (fun i _=>46 - (intOf i).toNat)
    case atStart=>exact ⟨0,by omega,rfl,HA.out⟩
    case round =>
     obtain ⟨wi,rfl⟩:∃ wo:World,wo=wr:=⟨_,rfl⟩
     obtain ⟨k,hk,rfl,hbk⟩:=hrel
     have HI:=Lib.hid hbk
     clear hbk
     by_cases hlk:k<46
     · have hkI:(k:Int)<46:=by omega
       have rk:-9223372036854775808≤(k:Int)∧(k:Int)≤9223372036854775807:=by omega
       have RK:=Lib.hid rk
       have R1:Hid (-9223372036854775808≤(1:Int)∧(1:Int)≤9223372036854775807):=Lib.hid (by omega)
       clear rk
       go_wp2_with fail
       (with_reducible refine (OD.out _ _).mono ?_)
       rintro e w2 ⟨m2,p2,rfl,hm2,hmod2,g2⟩
       have HB2:=Lib.hid (below_kn HI.out g2)
       have HM2:=Lib.hid hm2
       have HO2:=Lib.hid hmod2
       clear g2 hm2 hmod2
       go_wp2_with fail
       (with_reducible refine (ILm.out m2 p2 _ HO2.out HM2.out (below_kn HW.out HB2.out)).mono ?_)
       rintro e w3 ⟨rfl,g3⟩
       have HB3:=Lib.hid (below_kn HB2.out g3)
       clear g3 HO2 HM2 HB2
       go_wp2_with fail
       (with_reducible refine (OD.out _ _).mono ?_)
       rintro e w4 ⟨m4,p4,rfl,hm4,hmod4,g4⟩
       have HB4:=Lib.hid (below_kn HB3.out g4)
       have HM4:=Lib.hid hm4
       have HO4:=Lib.hid hmod4
       clear g4 hm4 hmod4
       go_wp2_with fail
       (with_reducible refine (ITm.out m4 p4 k 1 _ HO4.out HM4.out (below_kn HW.out HB4.out) RK.out R1.out).mono ?_)
       rintro e w5 ⟨rfl,g5⟩
       have HB5:=Lib.hid (below_kn HB4.out g5)
       clear g5 HO4 HM4 HB4 HB3
       go_wp2_with fail
       go_roundw
       case rel=>exact ⟨k+1,by omega,by go_num,HB5.out⟩
       case measure=>simp [intOf] <;> omega
     · obtain rfl:k=46:=by omega
       have HBo:=HI
       clear HI HA
       go_wp2_with fail
       (with_reducible refine (noParent_any _).mono ?_)
       rintro e v0 ⟨rfl,gv0⟩
       have HBv:=Lib.hid (below_kn HBo.out gv0)
       clear HBo gv0
       have HBo:=HBv
       clear HBv
       go_wp2_with fail
       (with_reducible refine (noRegion_any _).mono ?_)
       rintro e v1 ⟨rfl,gv1⟩
       have HBv:=Lib.hid (below_kn HBo.out gv1)
       clear HBo gv1
       have HBo:=HBv
       clear HBv
       go_wp2_with fail
       (with_reducible refine (noDepth_any _).mono ?_)
       rintro e v2 ⟨rfl,gv2⟩
       have HBv:=Lib.hid (below_kn HBo.out gv2)
       clear HBo gv2
       have HBo:=HBv
       clear HBv
       go_wp2_with fail
       (with_reducible refine (noChain_any _).mono ?_)
       rintro e v3 ⟨rfl,gv3⟩
       have HBv:=Lib.hid (below_kn HBo.out gv3)
       clear HBo gv3
       have HBo:=HBv
       clear HBv
       go_wp2_with fail
       (with_reducible refine (noUnder_any _).mono ?_)
       rintro e v4 ⟨rfl,gv4⟩
       have HBv:=Lib.hid (below_kn HBo.out gv4)
       clear HBo gv4
       have HBo:=HBv
       clear HBv
       go_wp2_with fail
       (with_reducible refine (noIn_any _).mono ?_)
       rintro e v5 ⟨rfl,gv5⟩
       have HBv:=Lib.hid (below_kn HBo.out gv5)
       clear HBo gv5
       have HBo:=HBv
       clear HBv
       go_wp2_with fail
       (with_reducible refine (noCommon_any _).mono ?_)
       rintro e v6 ⟨rfl,gv6⟩
       have HBv:=Lib.hid (below_kn HBo.out gv6)
       clear HBo gv6
       have HBo:=HBv
       clear HBv
       go_wp2_with fail
       (with_reducible refine (noOrthogonal_any _).mono ?_)
       rintro e v7 ⟨rfl,gv7⟩
       have HBv:=Lib.hid (below_kn HBo.out gv7)
       clear HBo gv7
       have HBo:=HBv
       clear HBv
       go_wp2_with fail
       (with_reducible refine (noKids_any _).mono ?_)
       rintro e v8 ⟨rfl,gv8⟩
       have HBv:=Lib.hid (below_kn HBo.out gv8)
       clear HBo gv8
       have HBo:=HBv
       clear HBv
       go_wp2_with fail
       (with_reducible refine (noRegions_any _).mono ?_)
       rintro e v9 ⟨rfl,gv9⟩
       have HBv:=Lib.hid (below_kn HBo.out gv9)
       clear HBo gv9
       have HBo:=HBv
       clear HBv
       go_wp2_with fail
       (with_reducible refine (noPoints_any _).mono ?_)
       rintro e v10 ⟨rfl,gv10⟩
       have HBv:=Lib.hid (below_kn HBo.out gv10)
       clear HBo gv10
       have HBo:=HBv
       clear HBv
       go_wp2_with fail
       (with_reducible refine (noOut_any _).mono ?_)
       rintro e v11 ⟨rfl,gv11⟩
       have HBv:=Lib.hid (below_kn HBo.out gv11)
       clear HBo gv11
       have HBo:=HBv
       clear HBv
       go_wp2_with fail
       (with_reducible refine (noInto_any _).mono ?_)
       rintro e v12 ⟨rfl,gv12⟩
       have HBv:=Lib.hid (below_kn HBo.out gv12)
       clear HBo gv12
       have HBo:=HBv
       clear HBv
       go_wp2_with fail
       (with_reducible refine (noComposite_any _).mono ?_)
       rintro e v13 ⟨rfl,gv13⟩
       have HBv:=Lib.hid (below_kn HBo.out gv13)
       clear HBo gv13
       have HBo:=HBv
       clear HBv
       obtain ⟨x0,x1,x2,x3,x4,x5,_⟩:=(HD.out.below HBo.out).box
       go_wp2_with fail
       (with_reducible refine (DT.out (-9223372036854775808) 9223372036854775807 _ HBo.out (by omega) (by omega)).mono ?_)
       rintro e w3 ⟨rfl,g3⟩
       have HB3:=Lib.hid (below_kn HBo.out g3)
       clear g3 x0 x1 x2 x3 x4 x5 HBo
       obtain ⟨x0,x1,x2,x3,x4,x5,_⟩:=(HD.out.below HB3.out).box
       go_wp2_with fail
       (with_reducible refine (DL.out _ HB3.out).mono ?_)
       rintro e w4 ⟨rfl,g4⟩
       have HB4:=Lib.hid (below_kn HB3.out g4)
       clear g4 x0 x1 x2 x3 x4 x5 HB3
       go_wp2_with fail
       (with_reducible refine (DQ.out _).mono ?_)
       rintro e w5 ⟨m5,p5,rfl,hm5,hmod5,g5⟩
       have HB5:=Lib.hid (below_kn HB4.out g5)
       have HM5:=Lib.hid hm5
       have HO5:=Lib.hid hmod5
       clear g5 hm5 hmod5
       go_wp2_with fail
       (with_reducible refine (ILm.out m5 p5 _ HO5.out HM5.out (below_kn HW.out HB5.out)).mono ?_)
       rintro e w6 ⟨rfl,g6⟩
       have HB6:=Lib.hid (below_kn HB5.out g6)
       go_wp2_with fail
       (with_reducible refine (WK.out _ (below_kn HW.out HB6.out)).mono ?_)
       rintro e w7 ⟨rfl,g7⟩
       go_wp2_with fail
       go_ret
       exact ⟨rfl,below_kn (below_kn HW.out HB6.out) g7⟩
end Go.Proofs
