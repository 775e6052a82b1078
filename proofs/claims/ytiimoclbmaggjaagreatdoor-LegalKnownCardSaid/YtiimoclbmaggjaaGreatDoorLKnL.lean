/- Walks: the law 'LegalKnown'. -/
import Derived.Test.YtiimoclbmaggjaaGreatDoorLKnK
import Derived.Test.YtiimoclbmaggjaaGreatDoorLLwC
import Derived.Test.YtiimoclbmaggjaaGreatDoorLLwD
import Derived.Test.YtiimoclbmaggjaaGreatDoorLLfB
import Derived.Test.YtiimoclbmaggjaaGreatDoorLSgAN
namespace Go.Proofs
open Go.RowKit Go.Lx Go.Md Go.Shelf Go.BigFrame Go.Rgi
set_option linter.unusedVariables false
def backM:MdlD:=⟨⟨#[66,97,99,107]⟩,[],[],[⟨⟨#[]⟩,-1⟩,⟨⟨#[]⟩,3⟩,⟨⟨#[]⟩,1⟩],[⟨⟨#[]⟩,3,0,-1,⟨#[]⟩,⟨#[]⟩,[],⟨#[]⟩⟩,⟨⟨#[]⟩,1,0,-1,⟨#[]⟩,⟨#[]⟩,[],⟨#[]⟩⟩,⟨⟨#[]⟩,1,1,-1,⟨#[]⟩,⟨#[]⟩,[],⟨#[]⟩⟩,⟨⟨#[]⟩,1,2,-1,⟨#[]⟩,⟨#[]⟩,[],⟨#[]⟩⟩],[]⟩
theorem back_ok:MdlOk backM:=okB_of (by kernel_rfl)
theorem back_at {w:World} {b1 b2:Nat} (h1:w.heap[b1]? = some (.cells #[.string ⟨#[]⟩,.int .i64 (-1),.string ⟨#[]⟩,.int .i64 3,.string ⟨#[]⟩,.int .i64 1] 37 (0,0)))
   (h2:w.heap[b2]? = some (.cells #[.string ⟨#[]⟩,.int .u8 3,.int .i64 0,.int .i64 (-1),.string ⟨#[]⟩,.string ⟨#[]⟩,.slice none 0 0,.string ⟨#[]⟩,.string ⟨#[]⟩,.int .u8 1,.int .i64 0,.int .i64 (-1),.string ⟨#[]⟩,.string ⟨#[]⟩,.slice none 0 0,.string ⟨#[]⟩,.string ⟨#[]⟩,.int .u8 1,.int .i64 1,.int .i64 (-1),.string ⟨#[]⟩,.string ⟨#[]⟩,.slice none 0 0,.string ⟨#[]⟩,.string ⟨#[]⟩,.int .u8 1,.int .i64 2,.int .i64 (-1),.string ⟨#[]⟩,.string ⟨#[]⟩,.slice none 0 0,.string ⟨#[]⟩] 35 (0,0))) :
   Mod anyM w backM ⟨none,0,none,0,some ⟨b1,0,none⟩,3,some ⟨b2,0,none⟩,4,none,0⟩:=by
 refine ⟨.inl ⟨_,_,rfl,rfl⟩,.inl ⟨_,_,rfl,rfl⟩,.inr ⟨b1,0,3,rfl,Nat.le_refl _,(Array.getElem?_eq_some_iff.1 h1).1,trivial,fun i hi=>?_⟩,.inr ⟨b2,0,4,rfl,Nat.le_refl _,(Array.getElem?_eq_some_iff.1 h2).1,trivial,fun i hi=>?_⟩,.inl ⟨_,_,rfl,rfl⟩⟩
 · have:i=0∨i=1∨i=2:=by have:i<3:=hi;omega
   rcases this with rfl | rfl | rfl <;> exact ⟨cell_blk h1 _,cell_blk h1 _⟩
 · have:i=0∨i=1∨i=2∨i=3:=by have:i<4:=hi;omega
   rcases this with rfl | rfl | rfl | rfl <;> exact ⟨.slice none 0 0,.inl ⟨_,_,rfl,rfl⟩,cell_blk h2 _,cell_blk h2 _,cell_blk h2 _,cell_blk h2 _,cell_blk h2 _,cell_blk h2 _,cell_blk h2 _,cell_blk h2 _⟩
theorem lc3 (m:MdlD) (p:Ph) (x y z u v s:Int) (a1 a2:Option Addr) (c1 c2:Nat) (w:World) (h:Mod anyM w m p) (hm:MdlOk m) (hT:Tab w) (r1:RowIn w (.slice a1 3 c1) [x,y,z]) (r2:RowIn w (.slice a2 3 c2) [u,v,s]) :
   Calls Tryz.prog 50 #[mdV m p,.agg #[.slice a1 3 c1,.slice a2 3 c2]] w (Yes w):=legalChecks_any m p [x,y,z] [u,v,s] a1 a2 c1 c2 w h hm hT r1 r2 (by simp) (by simp)
theorem lm3 (m:MdlD) (p:Ph) (x y z u v s:Int) (a1 a2:Option Addr) (c1 c2:Nat) (w:World) (h:Mod anyM w m p) (hm:MdlOk m) (hT:Tab w) (r1:RowIn w (.slice a1 3 c1) [x,y,z]) (r2:RowIn w (.slice a2 3 c2) [u,v,s]) :
   Calls Tryz.prog 51 #[mdV m p,.agg #[.slice a1 3 c1,.slice a2 3 c2]] w (Yes w):=legalMeans_any m p [x,y,z] [u,v,s] a1 a2 c1 c2 w h hm hT r1 r2 (by simp) (by simp)
theorem lf3 (m:MdlD) (p:Ph) (x y z u v s:Int) (a1 a2:Option Addr) (c1 c2:Nat) (r:Int) (w:World) (h:Mod anyM w m p) (hm:MdlOk m) (hT:Tab w) (r1:RowIn w (.slice a1 3 c1) [x,y,z]) (r2:RowIn w (.slice a2 3 c2) [u,v,s]) :
   Calls Tryz.prog 52 #[mdV m p,.agg #[.slice a1 3 c1,.slice a2 3 c2],.int .i64 r] w (Yes w):=legalFills_any m p [x,y,z] [u,v,s] a1 a2 c1 c2 r w h hm hT r1 r2 (by simp) (by simp)
theorem lcv (m:MdlD) (p:Ph) (la ll:List Int) (v1 v2:Value) (w:World) (h:Mod anyM w m p) (hm:MdlOk m) (hT:Tab w) (r1:RowIn w v1 la) (r2:RowIn w v2 ll) (b1:la.length≤1000) (b2:ll.length≤1000) :
   Calls Tryz.prog 50 #[mdV m p,.agg #[v1,v2]] w (Yes w):=by
 obtain ⟨a1,c1,rfl,_⟩:=r1.len
 obtain ⟨a2,c2,rfl,_⟩:=r2.len
 exact legalChecks_any m p la ll a1 a2 c1 c2 w h hm hT r1 r2 (by omega) (by omega)
theorem lfv (m:MdlD) (p:Ph) (la ll:List Int) (v1 v2:Value) (r:Int) (w:World) (h:Mod anyM w m p) (hm:MdlOk m) (hT:Tab w) (r1:RowIn w v1 la) (r2:RowIn w v2 ll) (b1:la.length≤1000) (b2:ll.length≤1000) :
   Calls Tryz.prog 52 #[mdV m p,.agg #[v1,v2],.int .i64 r] w (Yes w):=by
 obtain ⟨a1,c1,rfl,_⟩:=r1.len
 obtain ⟨a2,c2,rfl,_⟩:=r2.len
 exact legalFills_any m p la ll a1 a2 c1 c2 r w h hm hT r1 r2 (by omega) (by omega)
theorem back_dk (w:World):Dk backM ⟨none,0,none,0,some ⟨w.heap.size,0,none⟩,3,some ⟨w.heap.size+1,0,none⟩,4,none,0⟩ (w.heap.size+1+1) (((w.alloc (.cells #[.string ⟨#[]⟩,.int .i64 (-1),.string ⟨#[]⟩,.int .i64 3,.string ⟨#[]⟩,.int .i64 1] 37)).alloc (.cells #[.string ⟨#[]⟩,.int .u8 3,.int .i64 0,.int .i64 (-1),.string ⟨#[]⟩,.string ⟨#[]⟩,.slice none 0 0,.string ⟨#[]⟩,.string ⟨#[]⟩,.int .u8 1,.int .i64 0,.int .i64 (-1),.string ⟨#[]⟩,.string ⟨#[]⟩,.slice none 0 0,.string ⟨#[]⟩,.string ⟨#[]⟩,.int .u8 1,.int .i64 1,.int .i64 (-1),.string ⟨#[]⟩,.string ⟨#[]⟩,.slice none 0 0,.string ⟨#[]⟩,.string ⟨#[]⟩,.int .u8 1,.int .i64 2,.int .i64 (-1),.string ⟨#[]⟩,.string ⟨#[]⟩,.slice none 0 0,.string ⟨#[]⟩] 35)).alloc (.cells #[.string ⟨#[66,97,99,107]⟩,.slice none 0 0,.slice none 0 0,.slice (some ⟨w.heap.size,0,none⟩) 3 3,.slice (some ⟨w.heap.size+1,0,none⟩) 4 4,.slice none 0 0] 28)):=by
 have e2:=World.alloc_heap_new ((w.alloc (.cells #[.string ⟨#[]⟩,.int .i64 (-1),.string ⟨#[]⟩,.int .i64 3,.string ⟨#[]⟩,.int .i64 1] 37)).alloc (.cells #[.string ⟨#[]⟩,.int .u8 3,.int .i64 0,.int .i64 (-1),.string ⟨#[]⟩,.string ⟨#[]⟩,.slice none 0 0,.string ⟨#[]⟩,.string ⟨#[]⟩,.int .u8 1,.int .i64 0,.int .i64 (-1),.string ⟨#[]⟩,.string ⟨#[]⟩,.slice none 0 0,.string ⟨#[]⟩,.string ⟨#[]⟩,.int .u8 1,.int .i64 1,.int .i64 (-1),.string ⟨#[]⟩,.string ⟨#[]⟩,.slice none 0 0,.string ⟨#[]⟩,.string ⟨#[]⟩,.int .u8 1,.int .i64 2,.int .i64 (-1),.string ⟨#[]⟩,.string ⟨#[]⟩,.slice none 0 0,.string ⟨#[]⟩] 35)) (.cells #[.string ⟨#[66,97,99,107]⟩,.slice none 0 0,.slice none 0 0,.slice (some ⟨w.heap.size,0,none⟩) 3 3,.slice (some ⟨w.heap.size+1,0,none⟩) 4 4,.slice none 0 0] 28)
 rw [World.size_alloc,World.size_alloc] at e2
 have e1:=World.alloc_heap_new (w.alloc (.cells #[.string ⟨#[]⟩,.int .i64 (-1),.string ⟨#[]⟩,.int .i64 3,.string ⟨#[]⟩,.int .i64 1] 37)) (.cells #[.string ⟨#[]⟩,.int .u8 3,.int .i64 0,.int .i64 (-1),.string ⟨#[]⟩,.string ⟨#[]⟩,.slice none 0 0,.string ⟨#[]⟩,.string ⟨#[]⟩,.int .u8 1,.int .i64 0,.int .i64 (-1),.string ⟨#[]⟩,.string ⟨#[]⟩,.slice none 0 0,.string ⟨#[]⟩,.string ⟨#[]⟩,.int .u8 1,.int .i64 1,.int .i64 (-1),.string ⟨#[]⟩,.string ⟨#[]⟩,.slice none 0 0,.string ⟨#[]⟩,.string ⟨#[]⟩,.int .u8 1,.int .i64 2,.int .i64 (-1),.string ⟨#[]⟩,.string ⟨#[]⟩,.slice none 0 0,.string ⟨#[]⟩] 35)
 rw [World.size_alloc] at e1
 have k1:=(Below.heap_alloc ((w.alloc (.cells #[.string ⟨#[]⟩,.int .i64 (-1),.string ⟨#[]⟩,.int .i64 3,.string ⟨#[]⟩,.int .i64 1] 37)).alloc (.cells #[.string ⟨#[]⟩,.int .u8 3,.int .i64 0,.int .i64 (-1),.string ⟨#[]⟩,.string ⟨#[]⟩,.slice none 0 0,.string ⟨#[]⟩,.string ⟨#[]⟩,.int .u8 1,.int .i64 0,.int .i64 (-1),.string ⟨#[]⟩,.string ⟨#[]⟩,.slice none 0 0,.string ⟨#[]⟩,.string ⟨#[]⟩,.int .u8 1,.int .i64 1,.int .i64 (-1),.string ⟨#[]⟩,.string ⟨#[]⟩,.slice none 0 0,.string ⟨#[]⟩,.string ⟨#[]⟩,.int .u8 1,.int .i64 2,.int .i64 (-1),.string ⟨#[]⟩,.string ⟨#[]⟩,.slice none 0 0,.string ⟨#[]⟩] 35)) (.cells #[.string ⟨#[66,97,99,107]⟩,.slice none 0 0,.slice none 0 0,.slice (some ⟨w.heap.size,0,none⟩) 3 3,.slice (some ⟨w.heap.size+1,0,none⟩) 4 4,.slice none 0 0] 28) (w.heap.size+1) (by simp)).trans e1
 have k0:=(Below.heap_alloc ((w.alloc (.cells #[.string ⟨#[]⟩,.int .i64 (-1),.string ⟨#[]⟩,.int .i64 3,.string ⟨#[]⟩,.int .i64 1] 37)).alloc (.cells #[.string ⟨#[]⟩,.int .u8 3,.int .i64 0,.int .i64 (-1),.string ⟨#[]⟩,.string ⟨#[]⟩,.slice none 0 0,.string ⟨#[]⟩,.string ⟨#[]⟩,.int .u8 1,.int .i64 0,.int .i64 (-1),.string ⟨#[]⟩,.string ⟨#[]⟩,.slice none 0 0,.string ⟨#[]⟩,.string ⟨#[]⟩,.int .u8 1,.int .i64 1,.int .i64 (-1),.string ⟨#[]⟩,.string ⟨#[]⟩,.slice none 0 0,.string ⟨#[]⟩,.string ⟨#[]⟩,.int .u8 1,.int .i64 2,.int .i64 (-1),.string ⟨#[]⟩,.string ⟨#[]⟩,.slice none 0 0,.string ⟨#[]⟩] 35)) (.cells #[.string ⟨#[66,97,99,107]⟩,.slice none 0 0,.slice none 0 0,.slice (some ⟨w.heap.size,0,none⟩) 3 3,.slice (some ⟨w.heap.size+1,0,none⟩) 4 4,.slice none 0 0] 28) w.heap.size (by simp;omega)).trans ((Below.heap_alloc _ (.cells #[.string ⟨#[]⟩,.int .u8 3,.int .i64 0,.int .i64 (-1),.string ⟨#[]⟩,.string ⟨#[]⟩,.slice none 0 0,.string ⟨#[]⟩,.string ⟨#[]⟩,.int .u8 1,.int .i64 0,.int .i64 (-1),.string ⟨#[]⟩,.string ⟨#[]⟩,.slice none 0 0,.string ⟨#[]⟩,.string ⟨#[]⟩,.int .u8 1,.int .i64 1,.int .i64 (-1),.string ⟨#[]⟩,.string ⟨#[]⟩,.slice none 0 0,.string ⟨#[]⟩,.string ⟨#[]⟩,.int .u8 1,.int .i64 2,.int .i64 (-1),.string ⟨#[]⟩,.string ⟨#[]⟩,.slice none 0 0,.string ⟨#[]⟩] 35) w.heap.size (by simp)).trans (World.alloc_heap_new w _))
 exact ⟨back_at k0 k1,⟨cell_blk e2 0,cell_blk e2 1,cell_blk e2 2,cell_blk e2 3,cell_blk e2 4,cell_blk e2 5,frz_door e2 0,frz_door e2 1,frz_door e2 2,frz_door e2 3,frz_door e2 4,frz_door e2 5⟩,by simp⟩
theorem deep20_right:riM (deepM 20)=(0,0,0):=by kernel_rfl
def NewB20 (w:World) (e:Ending) (w':World):Prop:=∃ SB,e=.returned (.tuple #[.pointer (some ⟨SB,0,none⟩),.int .i64 0])∧Below w.heap.size w w'∧∀ wx,Below w'.heap.size w' wx→Calls Tryz.prog 54 #[.pointer (some ⟨SB,0,none⟩)] wx fun e w2=>∃ v1 v2,e=.returned (.agg #[v1,v2])∧RowIn w2 v1 (List.replicate 21 (-1))∧RowIn w2 v2 (List.replicate 21 (-1))∧Below wx.heap.size wx w2
theorem new20 (p:Ph) (w:World) (h:Mod anyM w (deepM 20) p) (hT:Tab w):Calls Tryz.prog 53 #[mdV (deepM 20) p] w (NewB20 w):=by
 refine (setsNew_any (deepM 20) p w h (deep_ok (by omega)) hT (by decide) (by decide) (by decide)).mono ?_
 rintro e w' ⟨g,(⟨_,SB,rfl,hs⟩ | ⟨hn,_⟩)⟩
 · refine ⟨SB,rfl,g,fun wx gx=>?_⟩
   refine (blank_any (hs.grown gx) (by decide)).mono ?_
   rintro e w2 ⟨v1,v2,rfl,o1,o2,_,g2⟩
   exact ⟨v1,v2,rfl,RowIn.own o1,RowIn.own o2,g2⟩
 · exact absurd (by rw [deep20_right]) hn
set_option maxRecDepth 100000 in
set_option maxHeartbeats 16000000 in
theorem legalKnown_any (w:World) (hT:Tab w):Calls Tryz.prog 7 #[] w (Yes w):=by
 have TB:=Lib.hid (fun wx (g:Below w.heap.size w wx)=>hT.next g)
 have WK:=Lib.hid (fun wx (g:Below w.heap.size w wx)=>works26 wx (TB.out wx g))
 have OD:=Lib.hid (fun (i:Int) wx=>odd_any i wx)
 have DR:=Lib.hid (door_yes w)
 unfold AnyP mdV at DR
 clear hT
 go_enter Tryz.func7,Tryz.ntmps7
 go_wp2_with fail
 (with_reducible refine (DR.out).mono ?_)
 rintro e w1 ⟨m,p,rfl,hm,hmod,g1⟩
 have HM:=Lib.hid hm
 have HD:=Lib.hid (Dk.made hmod)
 have HW:=Lib.hid (below_kn g1 (below_al1 w1 (.cells #[.string m.nm,.slice p.a1 m.vars.length p.c1,.slice p.a2 m.evs.length p.c2,.slice p.a3 m.regs.length p.c3,.slice p.a4 m.vers.length p.c4,.slice p.a5 m.trns.length p.c5] 28)))
 obtain ⟨H,hH⟩:∃ H,w1.heap.size=H:=⟨_,rfl⟩
 go_upto_region 2 with fail
 rw [hH] at HD
 try rw [hH]
 clear hm hmod g1 hH DR
 generalize w1.alloc (.cells #[.string m.nm,.slice p.a1 m.vars.length p.c1,.slice p.a2 m.evs.length p.c2,.slice p.a3 m.regs.length p.c3,.slice p.a4 m.vers.length p.c4,.slice p.a5 m.trns.length p.c5] 28)=W1 at *
 have DC:=Lib.hid (fun (x y z u v s:Int) (a1 a2:Option Addr) (c1 c2:Nat) wx (g:Below W1.heap.size W1 wx) r1 r2=>lc3 m p x y z u v s a1 a2 c1 c2 wx (HD.out.below g).mod HM.out (TB.out wx (below_kn HW.out g)) r1 r2)
 have DM:=Lib.hid (fun (x y z u v s:Int) (a1 a2:Option Addr) (c1 c2:Nat) wx (g:Below W1.heap.size W1 wx) r1 r2=>lm3 m p x y z u v s a1 a2 c1 c2 wx (HD.out.below g).mod HM.out (TB.out wx (below_kn HW.out g)) r1 r2)
 have DF:=Lib.hid (fun (x y z u v s:Int) (a1 a2:Option Addr) (c1 c2:Nat) (r:Int) wx (g:Below W1.heap.size W1 wx) r1 r2=>lf3 m p x y z u v s a1 a2 c1 c2 r wx (HD.out.below g).mod HM.out (TB.out wx (below_kn HW.out g)) r1 r2)
 unfold mdV at DC DM DF
 go_wp2_with fail
 go_loopw [2] (fun i wr=>∃ a:Int,-1≤a∧a≤12∧i=.int .i64 a∧Below W1.heap.size W1 wr) (fun i _=>(12 - intOf i).toNat)
 case atStart=>exact ⟨-1,by omega,by omega,rfl,Below.refl _ _⟩
 case round =>
  obtain ⟨wa,rfl⟩:∃ wo:World,wo=wr:=⟨_,rfl⟩
  obtain ⟨a,ha1,ha2,rfl,hba⟩:=hrel
  have HA:=Lib.hid hba
  clear hba
  by_cases hla:a<12
  · go_wp2_with fail
    go_loopw [3] (fun i wr=>∃ b:Int,-1≤b∧b≤9∧i=.int .i64 b∧Below W1.heap.size W1 wr) (fun i _=>(9 - intOf i).toNat)
    case atStart=>exact ⟨-1,by omega,by omega,rfl,HA.out⟩
    case round =>
     obtain ⟨wb,rfl⟩:∃ wo:World,wo=wr:=⟨_,rfl⟩
     obtain ⟨b,hb1,hb2,rfl,hbb⟩:=hrel
     have HB:=Lib.hid hbb
     clear hbb
     by_cases hlb:b<9
     · go_wp2_with fail
       go_loopw [4] (fun i wr=>∃ d:Int,-2≤d∧d≤10∧i=.int .i64 d∧Below W1.heap.size W1 wr) (fun i _=>(10 - intOf i).toNat)
       case atStart=>exact ⟨-2,by omega,by omega,rfl,HB.out⟩
       case round =>
        obtain ⟨wd,rfl⟩:∃ wo:World,wo=wr:=⟨_,rfl⟩
        obtain ⟨d,hd1,hd2,rfl,hbd⟩:=hrel
        have HG:=Lib.hid hbd
        clear hbd
        by_cases hld:d<9
        · have HK:=Lib.hid (Kb.made wd a b d (-1) (-1) (-1))
          have HG2:Hid (Below W1.heap.size W1 (((wd.alloc (.cells #[.int .i64 a,.int .i64 b,.int .i64 d] 3)).alloc (.cells #[.int .i64 (-1),.int .i64 (-1),.int .i64 (-1)] 3)).alloc (.cells #[.slice (some ⟨wd.heap.size,0,none⟩) 3 3,.slice (some ⟨wd.heap.size+1,0,none⟩) 3 3] 74))):=Lib.hid (al3_kn HG.out (Nat.le_refl _) _ _ _)
          go_upto_region 12 with fail
          generalize ((wd.alloc (.cells #[.int .i64 a,.int .i64 b,.int .i64 d] 3)).alloc (.cells #[.int .i64 (-1),.int .i64 (-1),.int .i64 (-1)] 3)).alloc (.cells #[.slice (some ⟨wd.heap.size,0,none⟩) 3 3,.slice (some ⟨wd.heap.size+1,0,none⟩) 3 3] 74)=W3 at *
          obtain ⟨H5,hH5⟩:∃ x,wd.heap.size+1+1=x:=⟨_,rfl⟩
          rw [hH5] at HK
          rw [hH5]
          obtain ⟨R5,hR5⟩:∃ x,wd.heap.size+1=x:=⟨_,rfl⟩
          rw [hR5] at HK
          try rw [hR5]
          obtain ⟨R4,hR4⟩:∃ x,wd.heap.size=x:=⟨_,rfl⟩
          have hz5:R4<H5∧W1.heap.size≤H5:=by have:=HG.out.size;omega
          rw [hR4] at HK
          try rw [hR4]
          clear hH5 hR5 hR4
          have f1:W3.frozen? ⟨H5,1,none⟩=false:=HK.out.free 1
          have d1:=HK.out.d1
          have hb5:H5<W3.heap.size:=HK.out.lt
          have K1:Hid (∀ x y z:Int,Below W1.heap.size W1 ((W3.setCell ⟨H5,1,none⟩ (.slice (some ⟨W3.heap.size,0,none⟩) 3 3)).alloc (.cells #[.int .i64 x,.int .i64 y,.int .i64 z] 3))∧Kb H5 R4 W3.heap.size [a,b,d] [x,y,z] ((W3.setCell ⟨H5,1,none⟩ (.slice (some ⟨W3.heap.size,0,none⟩) 3 3)).alloc (.cells #[.int .i64 x,.int .i64 y,.int .i64 z] 3))):=Lib.hid fun x y z=>by
            rw [← World.setCell_alloc_past _ _ _ _ hb5]
            exact ⟨(HG2.out.alloc HG2.out.size _).setCell hz5.2 _,HK.out.last hz5.1 _ _ _⟩
          by_cases hm4:a.tmod 4=1
          all_goals
            go_upto_region 14 with fail
          refine od_wp (S:=fun W=>∃ (r2:Nat) (u v s:Int),Below W1.heap.size W1 W∧Kb H5 R4 r2 [a,b,d] [u,v,s] W) ⟨_,_,_,_,K1.out _ _ _⟩ ?_
          rotate_left
          refine od_wp (S:=fun W=>∃ (r2:Nat) (u v s:Int),Below W1.heap.size W1 W∧Kb H5 R4 r2 [a,b,d] [u,v,s] W) ⟨_,_,_,_,HG2.out,HK.out⟩ ?_
          rotate_left
          all_goals
            intro W5 hW5
            obtain ⟨r2,u,v,s,hb5',hk5⟩:=hW5
            have HB5:=Lib.hid hb5'
            have HK5:=Lib.hid hk5
            clear hb5' hk5 f1 d1 hb5 HK HG2 K1
            obtain ⟨x0,x1,x2,x3,x4,x5,_⟩:=(HD.out.below HB5.out).box
            have d0:=HK5.out.d0
            have d1:=HK5.out.d1
            go_wp2_with fail
            (with_reducible refine (DC.out a b d u v s _ _ _ _ _ HB5.out HK5.out.R1 HK5.out.R2).mono ?_)
            rintro e w6 ⟨rfl,g6⟩
            have HB6:=Lib.hid (below_kn HB5.out g6)
            have HK6:=Lib.hid (HK5.out.below g6)
            clear g6 x0 x1 x2 x3 x4 x5 d0 d1 HB5 HK5
            obtain ⟨x0,x1,x2,x3,x4,x5,_⟩:=(HD.out.below HB6.out).box
            have d0:=HK6.out.d0
            have d1:=HK6.out.d1
            go_wp2_with fail
            (with_reducible refine (DM.out a b d u v s _ _ _ _ _ HB6.out HK6.out.R1 HK6.out.R2).mono ?_)
            rintro e w7 ⟨rfl,g7⟩
            have HB7:=Lib.hid (below_kn HB6.out g7)
            have HK7:=Lib.hid (HK6.out.below g7)
            clear g7 x0 x1 x2 x3 x4 x5 d0 d1 HB6 HK6
            obtain ⟨x0,x1,x2,x3,x4,x5,_⟩:=(HD.out.below HB7.out).box
            have d0:=HK7.out.d0
            have d1:=HK7.out.d1
            go_wp2_with fail
            (with_reducible refine (DF.out a b d u v s _ _ _ _ _ _ HB7.out HK7.out.R1 HK7.out.R2).mono ?_)
            rintro e w8 ⟨rfl,g8⟩
            have HB8:=Lib.hid (below_kn HB7.out g8)
            clear g8 x0 x1 x2 x3 x4 x5 d0 d1 HB7 HK7
            go_wp2_with fail
            go_roundw
            case rel=>exact ⟨d+2,by omega,by omega,by go_num,HB8.out⟩
            case measure=>simp [intOf] <;> omega
        · have hx:9≤d:=by omega
          go_wp2_with fail
          go_roundw
          case rel=>exact ⟨b+1,by omega,by omega,by go_num,HG.out⟩
          case measure=>simp [intOf] <;> omega
     · go_wp2_with fail
       go_roundw
       case rel=>exact ⟨a+1,by omega,by omega,by go_num,HB.out⟩
       case measure=>simp [intOf] <;> omega
  · have hax:12≤a:=by omega
    go_wp2_with fail
    go_loopw [6] (fun i wr=>∃ k:Nat,k≤46∧i=.int .i64 k∧Below W1.heap.size W1 wr) (fun i _=>46 - (intOf i).toNat)
    case atStart=>exact ⟨0,by omega,rfl,HA.out⟩
    case round =>
     obtain ⟨wi,rfl⟩:∃ wo:World,wo=wr:=⟨_,rfl⟩
     obtain ⟨k,hk,rfl,hbk⟩:=hrel
     have HI:=Lib.hid hbk
     clear hbk HA
     by_cases hlk:k<46
     · have hkI:(k:Int)<46:=by omega
       go_upto_region 20 with fail
       refine od_wp (S:=fun W=>∃ z:Int,Below W1.heap.size W1 W∧Kb (wi.heap.size+1+1) wi.heap.size (wi.heap.size+1) [1,3,z] [-1,-1,-1] W) ⟨_,al3_kn HI.out (Nat.le_refl _) _ _ _,Kb.made wi 1 3 _ (-1) (-1) (-1)⟩ ?_
       intro W3 hW3
       obtain ⟨z,hb3,hk3⟩:=hW3
       have HG2:=Lib.hid hb3
       have HK:=Lib.hid hk3
       clear hb3 hk3
       obtain ⟨H7,hH7⟩:∃ x,wi.heap.size+1+1=x:=⟨_,rfl⟩
       rw [hH7] at HK
       rw [hH7]
       obtain ⟨R7,hR7⟩:∃ x,wi.heap.size+1=x:=⟨_,rfl⟩
       rw [hR7] at HK
       try rw [hR7]
       obtain ⟨R6,hR6⟩:∃ x,wi.heap.size=x:=⟨_,rfl⟩
       rw [hR6] at HK
       try rw [hR6]
       clear hH7 hR7 hR6
       have HS:Hid (∀ W',Below W3.heap.size W3 W'→W'.cell? ⟨H7,0,none⟩=some (.slice (some ⟨R6,0,none⟩) 3 3)∧W'.cell? ⟨H7,1,none⟩=some (.slice (some ⟨R7,0,none⟩) 3 3)):=Lib.hid fun W' g=>⟨(HK.out.below g).d0,(HK.out.below g).d1⟩
       have CK:=Lib.hid (fun m8 p8 wx (ho:MdlOk m8) (h:Mod anyM wx m8 p8) (g:Below W3.heap.size W3 wx)=>lc3 m8 p8 1 3 z (-1) (-1) (-1) _ _ _ _ wx h ho (TB.out wx (below_kn HW.out (below_kn HG2.out g))) (HK.out.below g).R1 (HK.out.below g).R2)
       have MK:=Lib.hid (fun m8 p8 wx (ho:MdlOk m8) (h:Mod anyM wx m8 p8) (g:Below W3.heap.size W3 wx)=>lm3 m8 p8 1 3 z (-1) (-1) (-1) _ _ _ _ wx h ho (TB.out wx (below_kn HW.out (below_kn HG2.out g))) (HK.out.below g).R1 (HK.out.below g).R2)
       have FK:=Lib.hid (fun m8 p8 r wx (ho:MdlOk m8) (h:Mod anyM wx m8 p8) (g:Below W3.heap.size W3 wx)=>lf3 m8 p8 1 3 z (-1) (-1) (-1) _ _ _ _ r wx h ho (TB.out wx (below_kn HW.out (below_kn HG2.out g))) (HK.out.below g).R1 (HK.out.below g).R2)
       have hB0:Below W3.heap.size W3 W3:=Below.refl _ _
       refine wp_region_any (by kernel_rfl) ?_
       change wpAny _ _ _ _ _ _ _ (World.drew _)
       refine wpAny_of_heldS (S:=(fun W'=>W'.cell? ⟨H7,0,none⟩=some (.slice (some ⟨R6,0,none⟩) 3 3)∧W'.cell? ⟨H7,1,none⟩=some (.slice (some ⟨R7,0,none⟩) 3 3))) ?_ (fun hHeld=>?_)
       · (try dsimp only) <;> (first | exact HS.out _ (by assumption) | exact HS.out _ hB0.drew)
       refine tk 0 rfl ?_
       try simp only [Act.put,lyA,lyZ,lyS]
       refine tk 2 rfl ?_
       try simp only [Act.put,lyA,lyZ,lyS]
       refine rdy [1] ?_
       refine rdC rfl (fun K hK=>?_) ?_
       (go_simp;(with_reducible refine (OD.out _ _).mono ?_);rintro e w8 ⟨m8,p8,rfl,hm8,hq8,hb8⟩;have hB8:=below_kn (by first | assumption | exact hB0.drew) hb8;have HM8:=Lib.hid hm8;have HQ8:=Lib.hid hq8;clear hm8 hq8;go_wp2_with fail)
       refine hK.out _ _ ?_ (fun hH1=>?_)
       · (try dsimp only) <;> (first | exact HS.out _ (by assumption) | exact HS.out _ hB0.drew)
       clear hK K hHeld
       try simp only [Act.put,lyA,lyZ,lyS]
       refine rdy [3] ?_
       refine rdC rfl (fun K hK=>?_) ?_
       (go_simp;(with_reducible refine (CK.out m8 p8 _ HM8.out HQ8.out hB8).mono ?_);rintro e w9 ⟨rfl,hb9⟩;have hB9:=below_kn hB8 hb9;clear HM8 HQ8;go_wp2_with fail)
       refine hK.out _ _ ?_ (fun hH2=>?_)
       · (try dsimp only) <;> (first | exact HS.out _ (by assumption) | exact HS.out _ hB0.drew)
       clear hK K hH1
       try simp only [Act.put,lyA,lyZ,lyS]
       refine tk 4 rfl ?_
       try simp only [Act.put,lyA,lyZ,lyS]
       refine tk 5 rfl ?_
       try simp only [Act.put,lyA,lyZ,lyS]
       refine tk 6 rfl ?_
       try simp only [Act.put,lyA,lyZ,lyS]
       refine tk 8 rfl ?_
       try simp only [Act.put,lyA,lyZ,lyS]
       refine rdy [7] ?_
       refine rdC rfl (fun K hK=>?_) ?_
       (go_simp;(with_reducible refine (OD.out _ _).mono ?_);rintro e w10 ⟨m10,p10,rfl,hm10,hq10,hb10⟩;have hB10:=below_kn hB9 hb10;have HM10:=Lib.hid hm10;have HQ10:=Lib.hid hq10;clear hm10 hq10;go_wp2_with fail)
       refine hK.out _ _ ?_ (fun hH3=>?_)
       · (try dsimp only) <;> (first | exact HS.out _ (by assumption) | exact HS.out _ hB0.drew)
       clear hK K hH2
       try simp only [Act.put,lyA,lyZ,lyS]
       refine rdy [9] ?_
       refine rdC rfl (fun K hK=>?_) ?_
       (go_simp;(with_reducible refine (MK.out m10 p10 _ HM10.out HQ10.out hB10).mono ?_);rintro e w11 ⟨rfl,hb11⟩;have hB11:=below_kn hB10 hb11;clear HM10 HQ10;go_wp2_with fail)
       refine hK.out _ _ ?_ (fun hH4=>?_)
       · (try dsimp only) <;> (first | exact HS.out _ (by assumption) | exact HS.out _ hB0.drew)
       clear hK K hH3
       try simp only [Act.put,lyA,lyZ,lyS]
       refine tk 10 rfl ?_
       try simp only [Act.put,lyA,lyZ,lyS]
       refine tk 11 rfl ?_
       try simp only [Act.put,lyA,lyZ,lyS]
       refine tk 12 rfl ?_
       try simp only [Act.put,lyA,lyZ,lyS]
       refine tk 13 rfl ?_
       try simp only [Act.put,lyA,lyZ,lyS]
       refine tk 15 rfl ?_
       try simp only [Act.put,lyA,lyZ,lyS]
       refine tk 16 rfl ?_
       try simp only [Act.put,lyA,lyZ,lyS]
       refine tk 17 rfl ?_
       try simp only [Act.put,lyA,lyZ,lyS]
       refine rdy [14] ?_
       refine rdC rfl (fun K hK=>?_) ?_
       (go_simp;(with_reducible refine (OD.out _ _).mono ?_);rintro e w12 ⟨m12,p12,rfl,hm12,hq12,hb12⟩;have hB12:=below_kn hB11 hb12;have HM12:=Lib.hid hm12;have HQ12:=Lib.hid hq12;clear hm12 hq12;go_wp2_with fail)
       refine hK.out _ _ ?_ (fun hH5=>?_)
       · (try dsimp only) <;> (first | exact HS.out _ (by assumption) | exact HS.out _ hB0.drew)
       clear hK K hH4
       try simp only [Act.put,lyA,lyZ,lyS]
       refine rdy [18] ?_
       refine rdC rfl (fun K hK=>?_) ?_
       (go_simp;(with_reducible refine (FK.out m12 p12 _ _ HM12.out HQ12.out hB12).mono ?_);rintro e w13 ⟨rfl,hb13⟩;have hB13:=below_kn hB12 hb13;clear HM12 HQ12;go_wp2_with fail)
       refine hK.out _ _ ?_ (fun hH6=>?_)
       · (try dsimp only) <;> (first | exact HS.out _ (by assumption) | exact HS.out _ hB0.drew)
       clear hK K hH5
       try simp only [Act.put,lyA,lyZ,lyS]
       refine tk 19 rfl ?_
       try simp only [Act.put,lyA,lyZ,lyS]
       refine tk 20 rfl ?_
       try simp only [Act.put,lyA,lyZ,lyS]
       refine wpAnyH_done (by kernel_rfl) ?_ _
       rotate_left
       exact AllReadyH.nil
       exact AllReadyH.nil
       exact AllReadyH.nil
       exact AllReadyH.nil
       exact AllReadyH.nil
       exact AllReadyH.nil
       all_goals
         go_wp2_with fail
         go_roundw
         case rel=>exact ⟨k+1,by omega,by go_num,below_kn HG2.out hB13⟩
         case measure=>simp [intOf] <;> omega
     · obtain rfl:k=46:=by omega
       go_upto_region 23 with fail
       refine od_wp (S:=fun W=>∃ p9,Below W1.heap.size W1 W∧Dk backM p9 (wi.heap.size+1+1) W) ⟨_,al3_kn HI.out (Nat.le_refl _) _ _ _,back_dk wi⟩ ?_
       intro W3 hW3
       obtain ⟨p9,hb3,hk3⟩:=hW3
       have HB3:=Lib.hid hb3
       have HK3:=Lib.hid hk3
       have CB:=Lib.hid (fun x y z u v s a1 a2 c1 c2 wx (g:Below W3.heap.size W3 wx) r1 r2=>lc3 backM p9 x y z u v s a1 a2 c1 c2 wx (HK3.out.below g).mod back_ok (TB.out wx (below_kn HW.out (below_kn HB3.out g))) r1 r2)
       have FB:=Lib.hid (fun x y z u v s a1 a2 c1 c2 r wx (g:Below W3.heap.size W3 wx) r1 r2=>lf3 backM p9 x y z u v s a1 a2 c1 c2 r wx (HK3.out.below g).mod back_ok (TB.out wx (below_kn HW.out (below_kn HB3.out g))) r1 r2)
       unfold mdV at CB FB
       clear hb3 hk3 HI
       obtain ⟨H8,hH8⟩:∃ x,wi.heap.size+1+1=x:=⟨_,rfl⟩
       rw [hH8] at HK3
       rw [hH8]
       clear hH8
       obtain ⟨x0,x1,x2,x3,x4,x5,_⟩:=HK3.out.box
       have hb8:H8<W3.heap.size:=HK3.out.lt
       go_wp2_with fail
       (with_reducible refine (CB.out (-1) (-1) (-1) (-1) (-1) (-1) _ _ _ _ _ (al2_kn (Below.refl _ W3) (Nat.le_refl _) _ _) (two3_kn W3 _ _ _ _ _ _).1 (two3_kn W3 _ _ _ _ _ _).2).mono ?_)
       rintro e w4 ⟨rfl,g4⟩
       have HB4:=Lib.hid (below_kn (al2_kn (Below.refl _ W3) (Nat.le_refl _) _ _) g4)
       clear g4 x0 x1 x2 x3 x4 x5 hb8
       obtain ⟨x0,x1,x2,x3,x4,x5,_⟩:=(HK3.out.below HB4.out).box
       have hb8:H8<w4.heap.size:=(HK3.out.below HB4.out).lt
       go_wp2_with fail
       (with_reducible refine (FB.out 1 2 3 (-1) (-1) (-1) _ _ _ _ _ _ (al2_kn HB4.out (Nat.le_refl _) _ _) (two3_kn w4 _ _ _ _ _ _).1 (two3_kn w4 _ _ _ _ _ _).2).mono ?_)
       rintro e w5 ⟨rfl,g5⟩
       have HB5:=Lib.hid (below_kn HB3.out (below_kn (al2_kn HB4.out (Nat.le_refl _) _ _) g5))
       clear g5 x0 x1 x2 x3 x4 x5 hb8 CB FB HK3 HB3 HB4
       have DQ:=Lib.hid (fun wx=>deep_at 20 20 rfl (by omega) wx)
       unfold MadeP at DQ
       have NQ:=Lib.hid (fun p wx (h:Mod anyM wx (deepM 20) p) (g:Below W1.heap.size W1 wx)=>new20 p wx h (TB.out wx (below_kn HW.out g)))
       unfold NewB20 at NQ
       go_wp2_with fail
       (with_reducible refine (DQ.out _).mono ?_)
       rintro e w6 ⟨p6,rfl,hm6,g6⟩
       have HB6:=Lib.hid (below_kn HB5.out g6)
       have HM6:=Lib.hid hm6
       clear g6 hm6 HB5
       go_wp2_with fail
       (with_reducible refine (NQ.out p6 _ HM6.out HB6.out).mono ?_)
       rintro e w7 ⟨SB,rfl,g7,hbl⟩
       have HB7:=Lib.hid (below_kn HB6.out g7)
       have BL:=Lib.hid hbl
       clear g7 HB6 HM6 hbl
       go_wp2_with fail
       (with_reducible refine (DQ.out _).mono ?_)
       rintro e w8 ⟨p8,rfl,hm8,g8⟩
       have HM8:=Lib.hid hm8
       have HG8:=Lib.hid g8
       clear g8 hm8
       go_wp2_with fail
       (with_reducible refine (BL.out _ HG8.out).mono ?_)
       rintro e w9 ⟨v1,v2,rfl,r1,r2,g9⟩
       have HG9:=Lib.hid (below_kn HG8.out g9)
       have LC9:=Lib.hid (lcv (deepM 20) p8 _ _ v1 v2 w9 (HM8.out.below g9) (deep_ok (by omega)) (TB.out w9 (below_kn HW.out (below_kn HB7.out HG9.out))) r1 r2 (by simp) (by simp))
       clear r1 r2 g9 HM8 HG8
       go_wp2_with fail
       (with_reducible refine (LC9.out).mono ?_)
       rintro e w10 ⟨rfl,g10⟩
       have HG10:=Lib.hid (below_kn HG9.out g10)
       clear g10 HG9 LC9
       go_wp2_with fail
       (with_reducible refine (DQ.out _).mono ?_)
       rintro e w11 ⟨p11,rfl,hm11,g11⟩
       have HM11:=Lib.hid hm11
       have HG11:=Lib.hid (below_kn HG10.out g11)
       clear g11 hm11 HG10
       go_wp2_with fail
       (with_reducible refine (BL.out _ HG11.out).mono ?_)
       rintro e w12 ⟨v3,v4,rfl,r3,r4,g12⟩
       have HG12:=Lib.hid (below_kn HG11.out g12)
       have LF12:=Lib.hid (lfv (deepM 20) p11 _ _ v3 v4 0 w12 (HM11.out.below g12) (deep_ok (by omega)) (TB.out w12 (below_kn HW.out (below_kn HB7.out HG12.out))) r3 r4 (by simp) (by simp))
       clear r3 r4 g12 HM11 HG11
       go_wp2_with fail
       (with_reducible refine (LF12.out).mono ?_)
       rintro e w13 ⟨rfl,g13⟩
       have HB13:=Lib.hid (below_kn HB7.out (below_kn HG12.out g13))
       clear g13 HG12 LF12 BL HB7
       have LD:=Lib.hid (lcv m p [] [] (.slice none 0 0) (.slice none 0 0) w13 (HD.out.below HB13.out).mod HM.out (TB.out w13 (below_kn HW.out HB13.out)) (.inl ⟨_,_,rfl,rfl⟩) (.inl ⟨_,_,rfl,rfl⟩) (by simp) (by simp))
       unfold mdV at LD
       obtain ⟨x0,x1,x2,x3,x4,x5,_⟩:=(HD.out.below HB13.out).box
       go_wp2_with fail
       (with_reducible refine (LD.out).mono ?_)
       rintro e w14 ⟨rfl,g14⟩
       have HB14:=Lib.hid (below_kn HW.out (below_kn HB13.out g14))
       go_wp2_with fail
       (with_reducible refine (WK.out _ HB14.out).mono ?_)
       rintro e w15 ⟨rfl,g15⟩
       go_wp2_with fail
       go_ret
       exact ⟨rfl,below_kn HB14.out g15⟩
end Go.Proofs
