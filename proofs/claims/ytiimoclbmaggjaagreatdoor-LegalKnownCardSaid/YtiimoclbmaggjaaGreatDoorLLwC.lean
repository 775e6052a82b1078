/- Walks: the law 'LegalChecks'. -/
import Derived.Test.YtiimoclbmaggjaaGreatDoorLLwAB
import Derived.Test.YtiimoclbmaggjaaGreatDoorLLrE
import Derived.Test.YtiimoclbmaggjaaGreatDoorLMdRg
namespace Go.Proofs
open Go.RowKit Go.Lx Go.Md Go.Shelf Go.BigFrame Go.Rgi
set_option linter.unusedVariables false
theorem ownsRow_sliceN {N T S n:Nat} {w:World} {v:Value} {xs:List Value} (h:w.ownsRow N T S v n xs):∃ a c,v=.slice a n c:=by
 rcases h.2 with ⟨e,h0⟩ | ⟨g,cap,_,e,_⟩
 · exact ⟨none,0,by rw [e,h0]⟩
 · exact ⟨_,_,e⟩
def fltX (m:MdlD) (la ll:List Int):List (Nat × Nat):=if chkE m la ll=0 then fltF m la m.regs.length else []
def FDU (m:MdlD) (la ll d l2:List Int):Prop:=(chkE m la ll≠0∧d=[]∧l2=[])∨(chkE m la ll=0∧Fld m la d∧Nrm m d∧l2=ll)
theorem FDU.one {m:MdlD} {la ll d l2 e k2:List Int} (h:FDU m la ll d l2) (g:FDU m la ll e k2):d=e∧l2=k2:=by
 rcases h with ⟨h0,rfl,rfl⟩ | ⟨h0,hf,hn,rfl⟩
 · rcases g with ⟨_,rfl,rfl⟩ | ⟨g0,_⟩
   · exact ⟨rfl,rfl⟩
   · exact absurd g0 h0
 · rcases g with ⟨g0,_⟩ | ⟨_,gf,gn,rfl⟩
   · exact absurd h0 g0
   · exact ⟨fill_one (fit1_len' (chk_zero h0).2.1) hf gf hn gn,rfl⟩
theorem FDU.len {m:MdlD} {la ll d l2:List Int} (h:FDU m la ll d l2):d.length≤la.length∧l2.length≤ll.length:=by
 rcases h with ⟨_,rfl,rfl⟩ | ⟨_,hf,_,rfl⟩
 · simp
 · rw [hf.len];omega
def CheckU (m:MdlD) (la ll:List Int) (T:TypeId) (w:World) (e:Ending) (w':World):Prop:=∃ v,e=.returned (.tuple #[v,.int .i64 (chkE m la ll:Int)])∧Below w.heap.size w w'∧w'.ownsRow w.heap.size T 2 v (fltX m la ll).length (fauV (fltX m la ll))
theorem CheckP.u {m:MdlD} {la ll:List Int} {w:World} {e:Ending} {w':World} (h:CheckP m la ll w e w'):CheckU m la ll 164 w e w':=by
 obtain ⟨v,he,hb,⟨h0,rfl⟩ | ⟨h0,ho⟩⟩:=h
 · refine ⟨_,he,hb,?_⟩;unfold fltX;rw [if_neg h0];exact World.ownsRow_nil _ _ _ _
 · refine ⟨_,he,hb,?_⟩;unfold fltX;rw [if_pos h0];exact ho
theorem RCheckP.u {m:MdlD} {la ll:List Int} {w:World} {e:Ending} {w':World} (h:RCheckP m la ll w e w'):CheckU m la ll 165 w e w':=by
 obtain ⟨v,he,hb,⟨h0,rfl⟩ | ⟨h0,ho⟩⟩:=h
 · refine ⟨_,he,hb,?_⟩;unfold fltX;rw [if_neg h0];exact World.ownsRow_nil _ _ _ _
 · refine ⟨_,he,hb,?_⟩;unfold fltX;rw [if_pos h0];exact ho
def FillU (m:MdlD) (la ll:List Int) (w:World) (e:Ending) (w':World):Prop:=∃ d l2 v1 v2,e=.returned (.tuple #[.agg #[v1,v2],.int .i64 (chkE m la ll:Int)])∧FDU m la ll d l2∧Below w.heap.size w w'∧w'.ownsRow w.heap.size 3 1 v1 d.length (nums d)∧w'.ownsRow w.heap.size 3 1 v2 l2.length (nums l2)∧∀ g,v1.ownBlock=some g→v2.ownBlock≠some g
def RFillU (m:MdlD) (la ll:List Int) (w:World) (e:Ending) (w':World):Prop:=∃ d l2 v1 v2,e=.returned (.tuple #[.agg #[v1,v2],.int .i64 (chkE m la ll:Int)])∧FDU m la ll d l2∧Below w.heap.size w w'∧w'.ownsRow w.heap.size 3 1 v1 d.length (nums d)∧w'.ownsRow w.heap.size 3 1 v2 l2.length (nums l2)
theorem FillP.u {m:MdlD} {la ll:List Int} {w:World} {e:Ending} {w':World} (h:FillP m la ll w e w'):FillU m la ll w e w':=by
 obtain ⟨hb,⟨h0,he⟩ | ⟨h0,d,v1,v2,he,hf,hn,o1,o2,hd⟩⟩:=h
 · exact ⟨[],[],_,_,he,.inl ⟨h0,rfl,rfl⟩,hb,World.ownsRow_nil _ _ _ _,World.ownsRow_nil _ _ _ _,fun g hg=>by simp [Value.ownBlock] at hg⟩
 · exact ⟨d,ll,v1,v2,by rw [h0];exact he,.inr ⟨h0,hf,hn,rfl⟩,hb,o1,o2,hd⟩
theorem RFillP.u {m:MdlD} {la ll:List Int} {w:World} {e:Ending} {w':World} (h:RFillP m la ll w e w'):RFillU m la ll w e w':=by
 obtain ⟨hb,⟨h0,he⟩ | ⟨h0,d,v1,v2,he,hf,hn,o1,o2⟩⟩:=h
 · exact ⟨[],[],_,_,he,.inl ⟨h0,rfl,rfl⟩,hb,World.ownsRow_nil _ _ _ _,World.ownsRow_nil _ _ _ _⟩
 · exact ⟨d,ll,v1,v2,by rw [h0];exact he,.inr ⟨h0,hf,hn,rfl⟩,hb,o1,o2⟩
structure Lk (m:MdlD) (p:Ph) (la ll:List Int) (a1 a2 y1 y2:Option Addr) (c1 c2 z1 z2 H5:Nat) (w wx:World):Prop where
 mc:Mc m p la ll a1 a2 c1 c2 w wx
 t0:wx.cell? ⟨H5,0,none⟩=some (.slice y1 la.length z1)
 t1:wx.cell? ⟨H5,1,none⟩=some (.slice y2 ll.length z2)
 r1:RowIn wx (.slice y1 la.length z1) la
 r2:RowIn wx (.slice y2 ll.length z2) ll
 l5:H5<wx.heap.size
theorem Lk.below {m:MdlD} {p:Ph} {la ll:List Int} {a1 a2 y1 y2:Option Addr} {c1 c2 z1 z2 H5:Nat} {w wx wy:World} (h:Lk m p la ll a1 a2 y1 y2 c1 c2 z1 z2 H5 w wx) (g:Below wx.heap.size wx wy):Lk m p la ll a1 a2 y1 y2 c1 c2 z1 z2 H5 w wy :=
 ⟨h.mc.below g,(g.cell (p:=⟨H5,0,none⟩) h.l5).trans h.t0,(g.cell (p:=⟨H5,1,none⟩) h.l5).trans h.t1,h.r1.below g,h.r2.below g,Nat.lt_of_lt_of_le h.l5 g.size⟩
structure Fb (m:MdlD) (la ll d l2:List Int) (x1 x2:Option Addr) (y1 y2 H:Nat) (wx:World):Prop where
 fd:FDU m la ll d l2
 f0:wx.cell? ⟨H,0,none⟩=some (.slice x1 d.length y1)
 f1:wx.cell? ⟨H,1,none⟩=some (.slice x2 l2.length y2)
 r1:RowIn wx (.slice x1 d.length y1) d
 r2:RowIn wx (.slice x2 l2.length y2) l2
 lt:H<wx.heap.size
theorem Fb.below {m:MdlD} {la ll d l2:List Int} {x1 x2:Option Addr} {y1 y2 H:Nat} {wx wy:World} (h:Fb m la ll d l2 x1 x2 y1 y2 H wx) (g:Below wx.heap.size wx wy):Fb m la ll d l2 x1 x2 y1 y2 H wy :=
 ⟨h.fd,(g.cell (p:=⟨H,0,none⟩) h.lt).trans h.f0,(g.cell (p:=⟨H,1,none⟩) h.lt).trans h.f1,h.r1.below g,h.r2.below g,Nat.lt_of_lt_of_le h.lt g.size⟩
def CutL5 (m:MdlD) (la ll:List Int) (W4:World) (s8 s9:Value) (wx:World):Prop:=∃ d l2 x1 x2 y1 y2 H,s8=.pointer (some ⟨H,0,none⟩)∧s9=.int .i64 (chkE m la ll:Int)∧Below W4.heap.size W4 wx∧Fb m la ll d l2 x1 x2 y1 y2 H wx
theorem cut5_new {m:MdlD} {la ll d l2:List Int} {x1 x2:Option Addr} {y1 y2 B:Nat} {W4 wF:World} (hfd:FDU m la ll d l2) (hb:Below W4.heap.size W4 wF) (o1:wF.ownsRow B 3 1 (.slice x1 d.length y1) d.length (nums d)) (o2:wF.ownsRow B 3 1 (.slice x2 l2.length y2) l2.length (nums l2)) :
   CutL5 m la ll W4 (.pointer (some ⟨wF.heap.size,0,none⟩)) (.int .i64 (chkE m la ll:Int)) (wF.alloc (.cells #[.slice x1 d.length y1,.slice x2 l2.length y2] 150)) :=
 ⟨d,l2,x1,x2,y1,y2,_,rfl,rfl,hb.alloc hb.size _,hfd,by simp,by simp,(RowIn.own o1).below (below_al1 _ _),(RowIn.own o2).below (below_al1 _ _),by simp⟩
theorem cut5_old {m:MdlD} {la ll d l2:List Int} {x1 x2:Option Addr} {y1 y2 B H:Nat} {W4 wF:World} (hfd:FDU m la ll d l2) (hb:Below W4.heap.size W4 wF) (o1:wF.ownsRow B 3 1 (.slice x1 d.length y1) d.length (nums d)) (o2:wF.ownsRow B 3 1 (.slice x2 l2.length y2) l2.length (nums l2)) (hB:H<B) (hW:W4.heap.size≤H) (hz:wF.heap[H]? = some (.cells #[.slice none 0 0,.slice none 0 0] 150 (0,0))) :
   CutL5 m la ll W4 (.pointer (some ⟨H,0,none⟩)) (.int .i64 (chkE m la ll:Int)) ((wF.setCell ⟨H,0,none⟩ (.slice x1 d.length y1)).setCell ⟨H,1,none⟩ (.slice x2 l2.length y2)):=by
 have c0:wF.cell? ⟨H,0,none⟩=some (.slice none 0 0):=cell_blk hz 0
 have c1:wF.cell? ⟨H,1,none⟩=some (.slice none 0 0):=cell_blk hz 1
 have lt:=(Array.getElem?_eq_some_iff.1 hz).1
 refine ⟨d,l2,x1,x2,y1,y2,_,rfl,rfl,(hb.setCell (p:=⟨H,0,none⟩) hW _).setCell (p:=⟨H,1,none⟩) hW _,hfd,(World.cell?_setCell_other _ _ _ _ (by simp)).trans (World.cell?_setCell_same _ _ _ c0),World.cell?_setCell_same _ _ _ ((World.cell?_setCell_other _ _ _ _ (by simp)).trans c1),?_,?_,by rw [World.size_setCell,World.size_setCell];exact lt⟩
 · exact RowIn.own (ownsRow_setCell_below (a:=⟨H,1,none⟩) (ownsRow_setCell_below (a:=⟨H,0,none⟩) o1 hB _) hB _)
 · exact RowIn.own (ownsRow_setCell_below (a:=⟨H,1,none⟩) (ownsRow_setCell_below (a:=⟨H,0,none⟩) o2 hB _) hB _)
theorem ownsRow_posN {N T S n:Nat} {w:World} {v:Value} {xs:List Value} (h:w.ownsRow N T S v n xs) (hn:0<n):∃ g c,v=.slice (some ⟨g,0,none⟩) n c:=by
 rcases h.2 with ⟨_,e⟩ | ⟨g,c,_,e,_⟩
 · omega
 · exact ⟨g,c,e⟩
theorem ownsRow_capN {N T S n c:Nat} {a:Option Addr} {w:World} {xs:List Value} (h:w.ownsRow N T S (.slice a n c) n xs):n≤c:=by
 rcases h.2 with ⟨e,h0⟩ | ⟨g',c',_,e,_,_,hc,_⟩
 · omega
 · simp only [Value.slice.injEq] at e;rw [e.2.2];exact hc
theorem fauV_two (xs:List (Nat × Nat)) (k:Nat) (h:k<xs.length):(fauV xs)[k * 2]? = some (.int .u8 (xs[k].1:Int))∧(fauV xs)[k * 2+1]? = some (.int .i64 (xs[k].2:Int)):=by
 induction xs generalizing k with
 | nil=>simp at h
 | cons x xs ih =>
  have e:fauV (x :: xs)=.int .u8 (x.1:Int) :: .int .i64 (x.2:Int) :: fauV xs:=by simp [fauV]
  cases k with
  | zero=>rw [e];simp
  | succ k =>
   have:=ih k (by simpa using h)
   rw [e,show (k+1) * 2=k * 2+1+1 by omega]
   simpa using this
structure Ed (d:List Int) (X:Option Addr) (Y N H:Nat) (wx:World):Prop where
 c0:wx.cell? ⟨H,0,none⟩=some (.slice X d.length Y)
 own:∃ e:List Int,e.length=d.length∧wx.ownsRow N 3 1 (.slice X d.length Y) d.length (nums e)
 lt:∀ g,(Value.slice X d.length Y).ownBlock=some g→g≠H
 le:N≤H
theorem Ed.below {d:List Int} {X:Option Addr} {Y N H:Nat} {wx wy:World} (h:Ed d X Y N H wx) (hl:H<wx.heap.size) (g:Below wx.heap.size wx wy):Ed d X Y N H wy:=by
 obtain ⟨e,he,ho⟩:=h.own
 exact ⟨(g.cell (p:=⟨H,0,none⟩) hl).trans h.c0,⟨e,he,own_below ho g⟩,h.lt,h.le⟩
theorem Ed.low {d:List Int} {X:Option Addr} {Y N H:Nat} {wx:World} (h:Ed d X Y N H wx) (g j:Nat) (hg:g<N) (u:Value):Ed d X Y N H (wx.setCell ⟨g,j,none⟩ u):=by
 obtain ⟨e,he,ho⟩:=h.own
 have hl:=h.le
 exact ⟨(World.cell?_setCell_other _ _ _ _ (by first | (simp;done) | (simp;omega))).trans h.c0,⟨e,he,ownsRow_setCell_below (a:=⟨g,j,none⟩) ho hg _⟩,h.lt,h.le⟩
theorem Ed.over {d:List Int} {g Y N H j:Nat} {wx:World} (h:Ed d (some ⟨g,0,none⟩) Y N H wx) (x:Int):Ed d (some ⟨g,0,none⟩) Y N H (wx.setCell ⟨g,j,none⟩ (.int .i64 x)):=by
 obtain ⟨e,he,ho⟩:=h.own
 have hl:=h.lt g rfl
 refine ⟨(World.cell?_setCell_other _ _ _ _ (by first | (simp;done) | (simp;omega))).trans h.c0,⟨e.set j x,by simp [he],?_⟩,h.lt,h.le⟩
 have e1:nums (e.set j x)=(nums e).set j (.int .i64 x):=by simp [nums,List.map_set]
 rw [e1];exact (ho.stored j (.int .i64 x)).1
theorem Ed.drew {d:List Int} {X:Option Addr} {Y N H:Nat} {wx:World} (h:Ed d X Y N H wx):Ed d X Y N H wx.drew:=by
 obtain ⟨e,he,ho⟩:=h.own
 exact ⟨h.c0,⟨e,he,ho.drew⟩,h.lt,h.le⟩
set_option maxRecDepth 100000 in
set_option maxHeartbeats 16000000 in
theorem legalChecks_any {Q:Nat→BP} (m:MdlD) (p:Ph) (la ll:List Int) (a1 a2:Option Addr) (c1 c2:Nat) (w:World) (h:Mod Q w m p) (hm:MdlOk m) (hT:Tab w) (h1:RowIn w (.slice a1 la.length c1) la) (h2:RowIn w (.slice a2 ll.length c2) ll) (b1:la.length≤140737488355328) (b2:ll.length≤140737488355328) :
   Calls Tryz.prog 50 #[mdV m p,.agg #[.slice a1 la.length c1,.slice a2 ll.length c2]] w fun e w'=>e=.returned (.bool true)∧Below w.heap.size w w':=by
 have HB:=Lib.hid (Mc.made h h1 h2)
 have F1:=Lib.hid (fun wx (g:Mc m p la ll a1 a2 c1 c2 w wx)=>small26_any m p a1 a2 la.length c1 ll.length c2 wx g.mb.mod hm b1 b2)
 have WK:=Lib.hid (fun wx (g:Below w.heap.size w wx)=>works26 wx (hT.next g))
 have RF:=Lib.hid (fun (hs:Sm26 m la.length ll.length) wx (g:Mc m p la ll a1 a2 c1 c2 w wx)=>ref_low m p wx g.mb.mod (few_sml hs.few))
 have LG:=Lib.hid (fun (hs:Sm26 m la.length ll.length) wx (g:Mc m p la ll a1 a2 c1 c2 w wx)=>legal_any m p la ll a1 a2 c1 c2 wx g.mb.mod hm (hT.next g.mb.bel) g.r1 g.r2 b1 b2 (by have:=hs.vr;omega) (by have:=hs.rg;omega) (by have:=hs.tr;omega))
 have CK:=Lib.hid (fun (hs:Sm26 m la.length ll.length) wx (g:Mc m p la ll a1 a2 c1 c2 w wx)=>(check_any m p la ll a1 a2 c1 c2 wx g.mb.mod hm (hT.next g.mb.bel) g.r1 g.r2 b1 b2 (by have:=hs.vr;omega) (by have:=hs.rg;omega) (by have:=hs.tr;omega)).mono fun e w' h=>h.u)
 have FL:=Lib.hid (fun (hs:Sm26 m la.length ll.length) wx (g:Mc m p la ll a1 a2 c1 c2 w wx)=>(fill_any m p la ll a1 a2 c1 c2 wx g.mb.mod hm (hT.next g.mb.bel) g.r1 g.r2 b1 b2 (by have:=hs.vr;omega) (by have:=hs.rg;omega) (by have:=hs.tr;omega)).mono fun e w' h=>h.u)
 have RC:=Lib.hid (fun (hs:Sm26 m la.length ll.length) wx (g:Mc m p la ll a1 a2 c1 c2 w wx)=>ref26_any la ll a1 a2 c1 c2 wx g.r1 g.r2 (by have:=hs.a;omega) (by have:=hs.b;omega))
 have RCK:=Lib.hid (fun (hs:Sm26 m la.length ll.length) (pr:Ph) (y1 y2:Option Addr) (z1 z2:Nat) wx (g:Mod anyM wx m pr) (g1:RowIn wx (.slice y1 la.length z1) la) (g2:RowIn wx (.slice y2 ll.length z2) ll)=>(rcheck_any m pr la ll y1 y2 z1 z2 wx g hm g1 g2 (by have:=hs.a;omega) (by have:=hs.b;omega) (by have:=hs.vr;omega) (by have:=hs.rg;omega)).mono fun e w' h=>h.u)
 have RFL:=Lib.hid (fun (hs:Sm26 m la.length ll.length) (pr:Ph) (y1 y2:Option Addr) (z1 z2:Nat) wx (g:Mod anyM wx m pr) (g1:RowIn wx (.slice y1 la.length z1) la) (g2:RowIn wx (.slice y2 ll.length z2) ll)=>(rfill_any m pr la ll y1 y2 z1 z2 wx g hm g1 g2 (by have:=hs.a;omega) (by have:=hs.b;omega) (by have:=hs.vr;omega) (by have:=hs.rg;omega)).mono fun e w' h=>h.u)
 have RLG:=Lib.hid (fun (hs:Sm26 m la.length ll.length) (pr:Ph) (y1 y2:Option Addr) (z1 z2:Nat) wx (g:Mod anyM wx m pr) (g1:RowIn wx (.slice y1 la.length z1) la) (g2:RowIn wx (.slice y2 ll.length z2) ll)=>rlegal_any m pr la ll y1 y2 z1 z2 wx g hm g1 g2 (by have:=hs.a;omega) (by have:=hs.b;omega) (by have:=hs.vr;omega) (by have:=hs.rg;omega))
 unfold mdV at F1 RF LG CK FL RCK RFL RLG ⊢
 unfold CheckU at CK RCK
 unfold FillU at FL
 unfold RFillU at RFL
 clear h hm hT h1 h2 b1 b2
 go_enter Tryz.func50,Tryz.ntmps50
 obtain ⟨x0,x1,x2,x3,x4,x5,_⟩:=HB.out.mb.box
 go_wp2_with fail
 (with_reducible refine (F1.out _ HB.out).mono ?_)
 rintro e w3 ⟨⟨f1,rfl,s1⟩,g3⟩
 have HB3:=Lib.hid (HB.out.below g3)
 clear HB x0 x1 x2 x3 x4 x5 F1
 obtain ⟨x0,x1,x2,x3,x4,x5,_⟩:=HB3.out.mb.box
 cases f1
 · go_wp2_with fail
   (with_reducible refine (WK.out _ HB3.out.mb.bel).mono ?_)
   rintro e w4 ⟨rfl,g4⟩
   go_wp2_with fail
   go_ret
   exact ⟨rfl,(HB3.out.below g4).mb.bel⟩
 have hS:=Lib.hid (s1 rfl)
 have RFs:=Lib.hid (RF.out hS.out)
 have LGs:=Lib.hid (LG.out hS.out)
 have CKs:=Lib.hid (CK.out hS.out)
 have FLs:=Lib.hid (FL.out hS.out)
 have RCs:=Lib.hid (RC.out hS.out)
 have RCKs:=Lib.hid (RCK.out hS.out)
 have RFLs:=Lib.hid (RFL.out hS.out)
 have RLGs:=Lib.hid (RLG.out hS.out)
 clear s1 g3 RF LG CK FL RC RCK RFL RLG
 have d0:=HB3.out.d0
 have d1:=HB3.out.d1
 go_wp2_with fail
 (with_reducible refine (RCs.out _ HB3.out).mono ?_)
 rintro e w4 ⟨v1,v2,rfl,o1,o2,g4⟩
 obtain ⟨y1,z1,rfl⟩:=ownsRow_slice o1
 obtain ⟨y2,z2,rfl⟩:=ownsRow_slice o2
 obtain ⟨H5,hH5⟩:∃ x,w4.heap.size=x:=⟨_,rfl⟩
 have HL4:Hid (Lk m p la ll a1 a2 y1 y2 c1 c2 z1 z2 w4.heap.size w (w4.alloc (.cells #[.slice y1 la.length z1,.slice y2 ll.length z2] 150))):=Lib.hid
   ⟨(HB3.out.below g4).below (below_al1 _ _),by simp,by simp,(RowIn.own o1).below (below_al1 _ _),(RowIn.own o2).below (below_al1 _ _),by simp⟩
 clear o1 o2 g4 HB3 x0 x1 x2 x3 x4 x5 d0 d1 RCs
 go_upto_region 4 with fail
 generalize w4.alloc (.cells #[.slice y1 la.length z1,.slice y2 ll.length z2] 150)=W4 at *
 rw [hH5] at HL4
 try rw [hH5]
 clear hH5
 have HSS:Hid (∀ W',Lk m p la ll a1 a2 y1 y2 c1 c2 z1 z2 H5 w W'→(W'.cell? ⟨w.heap.size,0,none⟩=some (.string m.nm)∧W'.cell? ⟨w.heap.size,1,none⟩=some (.slice p.a1 m.vars.length p.c1)∧W'.cell? ⟨w.heap.size,2,none⟩=some (.slice p.a2 m.evs.length p.c2)∧W'.cell? ⟨w.heap.size,3,none⟩=some (.slice p.a3 m.regs.length p.c3)∧W'.cell? ⟨w.heap.size,4,none⟩=some (.slice p.a4 m.vers.length p.c4)∧W'.cell? ⟨w.heap.size,5,none⟩=some (.slice p.a5 m.trns.length p.c5))∧W'.cell? ⟨H5,0,none⟩=some (.slice y1 la.length z1)∧W'.cell? ⟨H5,1,none⟩=some (.slice y2 ll.length z2)):=Lib.hid fun W' g=>by
   obtain ⟨x0,x1,x2,x3,x4,x5,_⟩:=g.mc.mb.box
   exact ⟨⟨x0,x1,x2,x3,x4,x5⟩,g.t0,g.t1⟩
 have hLd:Lk m p la ll a1 a2 y1 y2 c1 c2 z1 z2 H5 w W4.drew:=HL4.out.below (Below.refl _ _).drew
 clear HL4
 refine wp_region_any (by kernel_rfl) ?_
 change wpAny _ _ _ _ _ _ _ (World.drew _)
 refine wpAny_of_heldS (S:=(fun W'=>(W'.cell? ⟨w.heap.size,0,none⟩=some (.string m.nm)∧W'.cell? ⟨w.heap.size,1,none⟩=some (.slice p.a1 m.vars.length p.c1)∧W'.cell? ⟨w.heap.size,2,none⟩=some (.slice p.a2 m.evs.length p.c2)∧W'.cell? ⟨w.heap.size,3,none⟩=some (.slice p.a3 m.regs.length p.c3)∧W'.cell? ⟨w.heap.size,4,none⟩=some (.slice p.a4 m.vers.length p.c4)∧W'.cell? ⟨w.heap.size,5,none⟩=some (.slice p.a5 m.trns.length p.c5))∧W'.cell? ⟨H5,0,none⟩=some (.slice y1 la.length z1)∧W'.cell? ⟨H5,1,none⟩=some (.slice y2 ll.length z2))) ?_ (fun hHeld=>?_)
 · (try dsimp only) <;> (exact HSS.out _ (by assumption))
 refine tk 0 rfl ?_
 try simp only [Act.put,lyA,lyZ,lyS]
 refine tk 2 rfl ?_
 try simp only [Act.put,lyA,lyZ,lyS]
 refine rdy [1] ?_
 refine rdC rfl (fun K hK=>?_) ?_
 (go_simp;(with_reducible refine (RFs.out _ hLd.mc).mono ?_);rintro e w5 ⟨pr,rfl,hmr,g5⟩;have hL5:=hLd.below g5;unfold mdV;go_wp2_with fail)
 refine hK.out _ _ ?_ (fun hH1=>?_)
 · (try dsimp only) <;> (exact HSS.out _ (by assumption))
 clear hK K hHeld
 try simp only [Act.put,lyA,lyZ,lyS]
 refine rdy [3] ?_
 refine rdC rfl (fun K hK=>?_) ?_
 (go_simp;(with_reducible refine (RCKs.out pr y1 y2 z1 z2 _ hmr.any hL5.r1 hL5.r2).mono ?_);rintro e w6 ⟨v6,rfl,g6,o6⟩;have hL6:=hL5.below g6;go_wp2_with fail)
 refine hK.out _ _ ?_ (fun hH2=>?_)
 · (try dsimp only) <;> (exact HSS.out _ (by assumption))
 clear hK K hH1
 try simp only [Act.put,lyA,lyZ,lyS]
 refine tk 4 rfl ?_
 try simp only [Act.put,lyA,lyZ,lyS]
 refine tk 5 rfl ?_
 try simp only [Act.put,lyA,lyZ,lyS]
 refine tk 6 rfl ?_
 try simp only [Act.put,lyA,lyZ,lyS]
 refine tk 7 rfl ?_
 try simp only [Act.put,lyA,lyZ,lyS]
 refine tk 8 rfl ?_
 try simp only [Act.put,lyA,lyZ,lyS]
 refine wpAnyH_done (by kernel_rfl) ?_ _
 rotate_left
 exact AllReadyH.nil
 exact AllReadyH.nil
 all_goals
   go_wp2_with fail
   obtain ⟨X6,Z6,rfl⟩:=ownsRow_sliceN o6
   obtain ⟨B6,hB6e⟩:∃ x,w5.heap.size=x:=⟨_,rfl⟩
   rw [hB6e] at o6
   have HO6:=Lib.hid o6
   have HL6:=Lib.hid hL6
   clear hB6e o6 hL6 hL5 hLd hmr g5 g6 RCKs HSS
   go_cut [8,9] (fun s8 s9 wx=>CutL5 m la ll w6 s8 s9 wx)
   case first =>
    have HSS:Hid (∀ W',Below w6.heap.size w6 W'→(W'.cell? ⟨w.heap.size,0,none⟩=some (.string m.nm)∧W'.cell? ⟨w.heap.size,1,none⟩=some (.slice p.a1 m.vars.length p.c1)∧W'.cell? ⟨w.heap.size,2,none⟩=some (.slice p.a2 m.evs.length p.c2)∧W'.cell? ⟨w.heap.size,3,none⟩=some (.slice p.a3 m.regs.length p.c3)∧W'.cell? ⟨w.heap.size,4,none⟩=some (.slice p.a4 m.vers.length p.c4)∧W'.cell? ⟨w.heap.size,5,none⟩=some (.slice p.a5 m.trns.length p.c5))∧W'.cell? ⟨H5,0,none⟩=some (.slice y1 la.length z1)∧W'.cell? ⟨H5,1,none⟩=some (.slice y2 ll.length z2)):=Lib.hid fun W' gg=>by
      have g:=HL6.out.below gg
      obtain ⟨x0,x1,x2,x3,x4,x5,_⟩:=g.mc.mb.box
      exact ⟨⟨x0,x1,x2,x3,x4,x5⟩,g.t0,g.t1⟩
    have hB0:Below w6.heap.size w6 w6:=Below.refl _ _
    have hLd:Lk m p la ll a1 a2 y1 y2 c1 c2 z1 z2 H5 w w6.drew:=HL6.out.below (Below.refl _ _).drew
    clear HO6
    refine wp_region_any (by kernel_rfl) ?_
    change wpAny _ _ _ _ _ _ _ (World.drew _)
    refine wpAny_sink (n:=9) (o:=⟨some 9,.assign (.tmp 37),61, "law.go:41", #[⟨6,.data⟩,⟨8,.chain⟩,⟨0,.phase⟩,⟨1,.phase⟩,⟨2,.phase⟩,⟨3,.phase⟩,⟨4,.phase⟩,⟨5,.phase⟩,⟨6,.phase⟩,⟨7,.phase⟩,⟨8,.phase⟩],none⟩) (ops':=#[⟨some 32,.load 28 (.tmp 2),28, "law.go:41", #[],none⟩,⟨some 33,.call { callee:=.value (.func 43),args:=#[.tmp 32],argTypes:=#[28] },60, "law.go:41", #[⟨0,.data⟩],none⟩,⟨some 34,.load 150 (.tmp 5),150, "law.go:41", #[],none⟩,⟨some 35,.call { callee:=.value (.func 119),args:=#[.tmp 33,.tmp 34],argTypes:=#[60,150] },155, "law.go:41", #[⟨1,.data⟩,⟨2,.data⟩,⟨1,.chain⟩],none⟩,⟨some 31,.move (.tmp 35),155, "law.go:41", #[⟨3,.data⟩],none⟩,⟨some 36,.extract (.tmp 31) 0,150, "law.go:41", #[⟨4,.data⟩],none⟩,⟨some 37,.extract (.tmp 31) 1,61, "law.go:41", #[⟨4,.data⟩,{ on:=8,ground:=.gcOnly Go.Departure.lateStores }],none⟩,⟨some 8,.alloc 150,0, "law.go:41", #[],none⟩,⟨none,.store 150 (.tmp 8) (.tmp 36),0, "law.go:41", #[⟨7,.data⟩,⟨5,.data⟩,⟨3,.chain⟩,⟨0,.phase⟩,⟨1,.phase⟩,⟨2,.phase⟩,⟨3,.phase⟩,⟨4,.phase⟩,⟨5,.phase⟩,{ on:=6,ground:=.textOnly Go.Departure.lateStores },⟨7,.phase⟩],none⟩]) (by decide) (by kernel_rfl) (by rfl) (by rfl) ?_
    refine wpAny_of_heldS (S:=(fun W'=>(W'.cell? ⟨w.heap.size,0,none⟩=some (.string m.nm)∧W'.cell? ⟨w.heap.size,1,none⟩=some (.slice p.a1 m.vars.length p.c1)∧W'.cell? ⟨w.heap.size,2,none⟩=some (.slice p.a2 m.evs.length p.c2)∧W'.cell? ⟨w.heap.size,3,none⟩=some (.slice p.a3 m.regs.length p.c3)∧W'.cell? ⟨w.heap.size,4,none⟩=some (.slice p.a4 m.vers.length p.c4)∧W'.cell? ⟨w.heap.size,5,none⟩=some (.slice p.a5 m.trns.length p.c5))∧W'.cell? ⟨H5,0,none⟩=some (.slice y1 la.length z1)∧W'.cell? ⟨H5,1,none⟩=some (.slice y2 ll.length z2))) ?_ (fun hHeld=>?_)
    · (try dsimp only) <;> (first | exact HSS.out _ hB0.drew | exact HSS.out _ (by assumption) | exact HSS.out _ (hB0.alloc (Nat.le_refl _) _).drew | exact HSS.out _ (hB7.alloc hB7.size _) | exact HSS.out _ (hB8.alloc hB8.size _) | exact HSS.out _ ((hB8.setCell (p:=⟨w6.heap.size,0,none⟩) (Nat.le_refl _) _).setCell (p:=⟨w6.heap.size,1,none⟩) (Nat.le_refl _) _) | exact HSS.out _ ((hB8.setCell (p:=⟨w7.heap.size,0,none⟩) hB7.size _).setCell (p:=⟨w7.heap.size,1,none⟩) hB7.size _))
    refine tk 0 rfl ?_
    try simp only [Act.put,lyA,lyZ,lyS]
    refine tk 2 rfl ?_
    try simp only [Act.put,lyA,lyZ,lyS]
    refine rdy [1,7] ?_
    refine rdC rfl (fun K hK=>?_) ?_
    (go_simp;(with_reducible refine (RFs.out _ (by first | exact hLd.mc | exact ((HL6.out.below (below_al1 _ _)).below (Below.refl _ _).drew).mc)).mono ?_);rintro e w7 ⟨ps,rfl,hmr,g7⟩;have hL7:Lk m p la ll a1 a2 y1 y2 c1 c2 z1 z2 H5 w w7:=(by first | exact hLd.below g7 | exact ((HL6.out.below (below_al1 _ _)).below (Below.refl _ _).drew).below g7);have hB7:Below w6.heap.size w6 w7:=(by first | exact below_ch hB0.drew g7 | exact below_ch (hB0.alloc (Nat.le_refl _) _).drew g7);unfold mdV;go_wp2_with fail)
    refine hK.out _ _ ?_ (fun hH1=>?_)
    · (try dsimp only) <;> (first | exact HSS.out _ hB0.drew | exact HSS.out _ (by assumption) | exact HSS.out _ (hB0.alloc (Nat.le_refl _) _).drew | exact HSS.out _ (hB7.alloc hB7.size _) | exact HSS.out _ (hB8.alloc hB8.size _) | exact HSS.out _ ((hB8.setCell (p:=⟨w6.heap.size,0,none⟩) (Nat.le_refl _) _).setCell (p:=⟨w6.heap.size,1,none⟩) (Nat.le_refl _) _) | exact HSS.out _ ((hB8.setCell (p:=⟨w7.heap.size,0,none⟩) hB7.size _).setCell (p:=⟨w7.heap.size,1,none⟩) hB7.size _))
    clear hK K hHeld
    try simp only [Act.put,lyA,lyZ,lyS]
    refine rdy [3,7] ?_
    refine rdC rfl (fun K hK=>?_) ?_
    (go_simp;(with_reducible refine (RFLs.out ps y1 y2 z1 z2 _ (by first | exact hmr.any | exact hmr.any.below (below_al1 _ _)) (by first | exact hL7.r1 | exact (hL7.below (below_al1 _ _)).r1) (by first | exact hL7.r2 | exact (hL7.below (below_al1 _ _)).r2)).mono ?_);rintro e w8 ⟨d,l2,u1,u2,rfl,hfd,g8,o1,o2⟩;obtain ⟨X1,Y1,rfl⟩:=ownsRow_slice o1;obtain ⟨X2,Y2,rfl⟩:=ownsRow_slice o2;have hL8:Lk m p la ll a1 a2 y1 y2 c1 c2 z1 z2 H5 w w8:=(by first | exact hL7.below g8 | exact (hL7.below (below_al1 _ _)).below g8);have hB8:Below w6.heap.size w6 w8:=(by first | exact below_ch hB7 g8 | exact below_ch (below_ch hB7 (below_al1 _ _)) g8);(first | (have zA:w8.heap[w6.heap.size]? = some (.cells #[.slice none 0 0,.slice none 0 0] 150 (0,0)):=(g8.block _ (by have:=g7.size;simp at this;omega)).trans ((g7.block _ (by simp)).trans (World.alloc_heap_new w6 (.cells #[.slice none 0 0,.slice none 0 0] 150)));have za0:=cell_blk zA 0;have za1:=cell_blk zA 1;have za2:=frz_blk zA 0;have za3:=frz_blk zA 1;simp only [List.getElem?_toArray,List.getElem?_cons_zero,List.getElem?_cons_succ] at za0 za1) | (have zB:w8.heap[w7.heap.size]? = some (.cells #[.slice none 0 0,.slice none 0 0] 150 (0,0)):=(g8.block _ (by simp)).trans (World.alloc_heap_new w7 (.cells #[.slice none 0 0,.slice none 0 0] 150));have za0:=cell_blk zB 0;have za1:=cell_blk zB 1;have za2:=frz_blk zB 0;have za3:=frz_blk zB 1;simp only [List.getElem?_toArray,List.getElem?_cons_zero,List.getElem?_cons_succ] at za0 za1) | skip);go_wp2_with fail)
    refine hK.out _ _ ?_ (fun hH2=>?_)
    · (try dsimp only) <;> (first | exact HSS.out _ hB0.drew | exact HSS.out _ (by assumption) | exact HSS.out _ (hB0.alloc (Nat.le_refl _) _).drew | exact HSS.out _ (hB7.alloc hB7.size _) | exact HSS.out _ (hB8.alloc hB8.size _) | exact HSS.out _ ((hB8.setCell (p:=⟨w6.heap.size,0,none⟩) (Nat.le_refl _) _).setCell (p:=⟨w6.heap.size,1,none⟩) (Nat.le_refl _) _) | exact HSS.out _ ((hB8.setCell (p:=⟨w7.heap.size,0,none⟩) hB7.size _).setCell (p:=⟨w7.heap.size,1,none⟩) hB7.size _))
    clear hK K hH1
    try simp only [Act.put,lyA,lyZ,lyS]
    refine tk 4 rfl ?_
    try simp only [Act.put,lyA,lyZ,lyS]
    refine tk 5 rfl ?_
    try simp only [Act.put,lyA,lyZ,lyS]
    refine tk 6 rfl ?_
    try simp only [Act.put,lyA,lyZ,lyS]
    refine rdy [7] ?_
    refine rdC rfl (fun K hK=>?_) ?_
    (go_simp)
    refine hK.out _ _ ?_ (fun hH3=>?_)
    · (try dsimp only) <;> (first | exact HSS.out _ hB0.drew | exact HSS.out _ (by assumption) | exact HSS.out _ (hB0.alloc (Nat.le_refl _) _).drew | exact HSS.out _ (hB7.alloc hB7.size _) | exact HSS.out _ (hB8.alloc hB8.size _) | exact HSS.out _ ((hB8.setCell (p:=⟨w6.heap.size,0,none⟩) (Nat.le_refl _) _).setCell (p:=⟨w6.heap.size,1,none⟩) (Nat.le_refl _) _) | exact HSS.out _ ((hB8.setCell (p:=⟨w7.heap.size,0,none⟩) hB7.size _).setCell (p:=⟨w7.heap.size,1,none⟩) hB7.size _))
    clear hK K hH2
    try simp only [Act.put,lyA,lyZ,lyS]
    refine rdy [8] ?_
    refine rdC rfl (fun K hK=>?_) ?_
    (go_simp)
    refine hK.out _ _ ?_ (fun hH4=>?_)
    · (try dsimp only) <;> (first | exact HSS.out _ hB0.drew | exact HSS.out _ (by assumption) | exact HSS.out _ (hB0.alloc (Nat.le_refl _) _).drew | exact HSS.out _ (hB7.alloc hB7.size _) | exact HSS.out _ (hB8.alloc hB8.size _) | exact HSS.out _ ((hB8.setCell (p:=⟨w6.heap.size,0,none⟩) (Nat.le_refl _) _).setCell (p:=⟨w6.heap.size,1,none⟩) (Nat.le_refl _) _) | exact HSS.out _ ((hB8.setCell (p:=⟨w7.heap.size,0,none⟩) hB7.size _).setCell (p:=⟨w7.heap.size,1,none⟩) hB7.size _))
    clear hK K hH3
    try simp only [Act.put,lyA,lyZ,lyS]
    refine wpAnyH_done (by kernel_rfl) ?_ _
    rotate_left
    exact AllReadyH.nil
    exact AllReadyH.nil
    refine rdC rfl (fun K hK=>?_) ?_
    (go_simp)
    refine hK.out _ _ ?_ (fun hH5=>?_)
    · (try dsimp only) <;> (first | exact HSS.out _ hB0.drew | exact HSS.out _ (by assumption) | exact HSS.out _ (hB0.alloc (Nat.le_refl _) _).drew | exact HSS.out _ (hB7.alloc hB7.size _) | exact HSS.out _ (hB8.alloc hB8.size _) | exact HSS.out _ ((hB8.setCell (p:=⟨w6.heap.size,0,none⟩) (Nat.le_refl _) _).setCell (p:=⟨w6.heap.size,1,none⟩) (Nat.le_refl _) _) | exact HSS.out _ ((hB8.setCell (p:=⟨w7.heap.size,0,none⟩) hB7.size _).setCell (p:=⟨w7.heap.size,1,none⟩) hB7.size _))
    clear hK K hH1
    try simp only [Act.put,lyA,lyZ,lyS]
    refine rdy [3] ?_
    refine rdC rfl (fun K hK=>?_) ?_
    (go_simp;(with_reducible refine (RFLs.out ps y1 y2 z1 z2 _ (by first | exact hmr.any | exact hmr.any.below (below_al1 _ _)) (by first | exact hL7.r1 | exact (hL7.below (below_al1 _ _)).r1) (by first | exact hL7.r2 | exact (hL7.below (below_al1 _ _)).r2)).mono ?_);rintro e w8 ⟨d,l2,u1,u2,rfl,hfd,g8,o1,o2⟩;obtain ⟨X1,Y1,rfl⟩:=ownsRow_slice o1;obtain ⟨X2,Y2,rfl⟩:=ownsRow_slice o2;have hL8:Lk m p la ll a1 a2 y1 y2 c1 c2 z1 z2 H5 w w8:=(by first | exact hL7.below g8 | exact (hL7.below (below_al1 _ _)).below g8);have hB8:Below w6.heap.size w6 w8:=(by first | exact below_ch hB7 g8 | exact below_ch (below_ch hB7 (below_al1 _ _)) g8);(first | (have zA:w8.heap[w6.heap.size]? = some (.cells #[.slice none 0 0,.slice none 0 0] 150 (0,0)):=(g8.block _ (by have:=g7.size;simp at this;omega)).trans ((g7.block _ (by simp)).trans (World.alloc_heap_new w6 (.cells #[.slice none 0 0,.slice none 0 0] 150)));have za0:=cell_blk zA 0;have za1:=cell_blk zA 1;have za2:=frz_blk zA 0;have za3:=frz_blk zA 1;simp only [List.getElem?_toArray,List.getElem?_cons_zero,List.getElem?_cons_succ] at za0 za1) | (have zB:w8.heap[w7.heap.size]? = some (.cells #[.slice none 0 0,.slice none 0 0] 150 (0,0)):=(g8.block _ (by simp)).trans (World.alloc_heap_new w7 (.cells #[.slice none 0 0,.slice none 0 0] 150));have za0:=cell_blk zB 0;have za1:=cell_blk zB 1;have za2:=frz_blk zB 0;have za3:=frz_blk zB 1;simp only [List.getElem?_toArray,List.getElem?_cons_zero,List.getElem?_cons_succ] at za0 za1) | skip);go_wp2_with fail)
    refine hK.out _ _ ?_ (fun hH6=>?_)
    · (try dsimp only) <;> (first | exact HSS.out _ hB0.drew | exact HSS.out _ (by assumption) | exact HSS.out _ (hB0.alloc (Nat.le_refl _) _).drew | exact HSS.out _ (hB7.alloc hB7.size _) | exact HSS.out _ (hB8.alloc hB8.size _) | exact HSS.out _ ((hB8.setCell (p:=⟨w6.heap.size,0,none⟩) (Nat.le_refl _) _).setCell (p:=⟨w6.heap.size,1,none⟩) (Nat.le_refl _) _) | exact HSS.out _ ((hB8.setCell (p:=⟨w7.heap.size,0,none⟩) hB7.size _).setCell (p:=⟨w7.heap.size,1,none⟩) hB7.size _))
    clear hK K hH5
    try simp only [Act.put,lyA,lyZ,lyS]
    refine tk 4 rfl ?_
    try simp only [Act.put,lyA,lyZ,lyS]
    refine tk 5 rfl ?_
    try simp only [Act.put,lyA,lyZ,lyS]
    refine tk 6 rfl ?_
    try simp only [Act.put,lyA,lyZ,lyS]
    refine rdy [8] ?_
    refine rdC rfl (fun K hK=>?_) ?_
    (go_simp)
    refine hK.out _ _ ?_ (fun hH7=>?_)
    · (try dsimp only) <;> (first | exact HSS.out _ hB0.drew | exact HSS.out _ (by assumption) | exact HSS.out _ (hB0.alloc (Nat.le_refl _) _).drew | exact HSS.out _ (hB7.alloc hB7.size _) | exact HSS.out _ (hB8.alloc hB8.size _) | exact HSS.out _ ((hB8.setCell (p:=⟨w6.heap.size,0,none⟩) (Nat.le_refl _) _).setCell (p:=⟨w6.heap.size,1,none⟩) (Nat.le_refl _) _) | exact HSS.out _ ((hB8.setCell (p:=⟨w7.heap.size,0,none⟩) hB7.size _).setCell (p:=⟨w7.heap.size,1,none⟩) hB7.size _))
    clear hK K hH6
    try simp only [Act.put,lyA,lyZ,lyS]
    refine wpAnyH_done (by kernel_rfl) ?_ _
    rotate_left
    exact AllReadyH.nil
    exact AllReadyH.nil
    exact AllReadyH.nil
    refine rdC rfl (fun K hK=>?_) ?_
    (go_simp)
    refine hK.out _ _ ?_ (fun hH8=>?_)
    · (try dsimp only) <;> (first | exact HSS.out _ hB0.drew | exact HSS.out _ (by assumption) | exact HSS.out _ (hB0.alloc (Nat.le_refl _) _).drew | exact HSS.out _ (hB7.alloc hB7.size _) | exact HSS.out _ (hB8.alloc hB8.size _) | exact HSS.out _ ((hB8.setCell (p:=⟨w6.heap.size,0,none⟩) (Nat.le_refl _) _).setCell (p:=⟨w6.heap.size,1,none⟩) (Nat.le_refl _) _) | exact HSS.out _ ((hB8.setCell (p:=⟨w7.heap.size,0,none⟩) hB7.size _).setCell (p:=⟨w7.heap.size,1,none⟩) hB7.size _))
    clear hK K hHeld
    try simp only [Act.put,lyA,lyZ,lyS]
    refine rdy [1] ?_
    refine rdC rfl (fun K hK=>?_) ?_
    (go_simp;(with_reducible refine (RFs.out _ (by first | exact hLd.mc | exact ((HL6.out.below (below_al1 _ _)).below (Below.refl _ _).drew).mc)).mono ?_);rintro e w7 ⟨ps,rfl,hmr,g7⟩;have hL7:Lk m p la ll a1 a2 y1 y2 c1 c2 z1 z2 H5 w w7:=(by first | exact hLd.below g7 | exact ((HL6.out.below (below_al1 _ _)).below (Below.refl _ _).drew).below g7);have hB7:Below w6.heap.size w6 w7:=(by first | exact below_ch hB0.drew g7 | exact below_ch (hB0.alloc (Nat.le_refl _) _).drew g7);unfold mdV;go_wp2_with fail)
    refine hK.out _ _ ?_ (fun hH9=>?_)
    · (try dsimp only) <;> (first | exact HSS.out _ hB0.drew | exact HSS.out _ (by assumption) | exact HSS.out _ (hB0.alloc (Nat.le_refl _) _).drew | exact HSS.out _ (hB7.alloc hB7.size _) | exact HSS.out _ (hB8.alloc hB8.size _) | exact HSS.out _ ((hB8.setCell (p:=⟨w6.heap.size,0,none⟩) (Nat.le_refl _) _).setCell (p:=⟨w6.heap.size,1,none⟩) (Nat.le_refl _) _) | exact HSS.out _ ((hB8.setCell (p:=⟨w7.heap.size,0,none⟩) hB7.size _).setCell (p:=⟨w7.heap.size,1,none⟩) hB7.size _))
    clear hK K hH8
    try simp only [Act.put,lyA,lyZ,lyS]
    refine rdy [3] ?_
    refine rdC rfl (fun K hK=>?_) ?_
    (go_simp;(with_reducible refine (RFLs.out ps y1 y2 z1 z2 _ (by first | exact hmr.any | exact hmr.any.below (below_al1 _ _)) (by first | exact hL7.r1 | exact (hL7.below (below_al1 _ _)).r1) (by first | exact hL7.r2 | exact (hL7.below (below_al1 _ _)).r2)).mono ?_);rintro e w8 ⟨d,l2,u1,u2,rfl,hfd,g8,o1,o2⟩;obtain ⟨X1,Y1,rfl⟩:=ownsRow_slice o1;obtain ⟨X2,Y2,rfl⟩:=ownsRow_slice o2;have hL8:Lk m p la ll a1 a2 y1 y2 c1 c2 z1 z2 H5 w w8:=(by first | exact hL7.below g8 | exact (hL7.below (below_al1 _ _)).below g8);have hB8:Below w6.heap.size w6 w8:=(by first | exact below_ch hB7 g8 | exact below_ch (below_ch hB7 (below_al1 _ _)) g8);(first | (have zA:w8.heap[w6.heap.size]? = some (.cells #[.slice none 0 0,.slice none 0 0] 150 (0,0)):=(g8.block _ (by have:=g7.size;simp at this;omega)).trans ((g7.block _ (by simp)).trans (World.alloc_heap_new w6 (.cells #[.slice none 0 0,.slice none 0 0] 150)));have za0:=cell_blk zA 0;have za1:=cell_blk zA 1;have za2:=frz_blk zA 0;have za3:=frz_blk zA 1;simp only [List.getElem?_toArray,List.getElem?_cons_zero,List.getElem?_cons_succ] at za0 za1) | (have zB:w8.heap[w7.heap.size]? = some (.cells #[.slice none 0 0,.slice none 0 0] 150 (0,0)):=(g8.block _ (by simp)).trans (World.alloc_heap_new w7 (.cells #[.slice none 0 0,.slice none 0 0] 150));have za0:=cell_blk zB 0;have za1:=cell_blk zB 1;have za2:=frz_blk zB 0;have za3:=frz_blk zB 1;simp only [List.getElem?_toArray,List.getElem?_cons_zero,List.getElem?_cons_succ] at za0 za1) | skip);go_wp2_with fail)
    refine hK.out _ _ ?_ (fun hH10=>?_)
    · (try dsimp only) <;> (first | exact HSS.out _ hB0.drew | exact HSS.out _ (by assumption) | exact HSS.out _ (hB0.alloc (Nat.le_refl _) _).drew | exact HSS.out _ (hB7.alloc hB7.size _) | exact HSS.out _ (hB8.alloc hB8.size _) | exact HSS.out _ ((hB8.setCell (p:=⟨w6.heap.size,0,none⟩) (Nat.le_refl _) _).setCell (p:=⟨w6.heap.size,1,none⟩) (Nat.le_refl _) _) | exact HSS.out _ ((hB8.setCell (p:=⟨w7.heap.size,0,none⟩) hB7.size _).setCell (p:=⟨w7.heap.size,1,none⟩) hB7.size _))
    clear hK K hH9
    try simp only [Act.put,lyA,lyZ,lyS]
    refine tk 4 rfl ?_
    try simp only [Act.put,lyA,lyZ,lyS]
    refine tk 5 rfl ?_
    try simp only [Act.put,lyA,lyZ,lyS]
    refine tk 6 rfl ?_
    try simp only [Act.put,lyA,lyZ,lyS]
    refine rdy [8] ?_
    refine rdC rfl (fun K hK=>?_) ?_
    (go_simp)
    refine hK.out _ _ ?_ (fun hH11=>?_)
    · (try dsimp only) <;> (first | exact HSS.out _ hB0.drew | exact HSS.out _ (by assumption) | exact HSS.out _ (hB0.alloc (Nat.le_refl _) _).drew | exact HSS.out _ (hB7.alloc hB7.size _) | exact HSS.out _ (hB8.alloc hB8.size _) | exact HSS.out _ ((hB8.setCell (p:=⟨w6.heap.size,0,none⟩) (Nat.le_refl _) _).setCell (p:=⟨w6.heap.size,1,none⟩) (Nat.le_refl _) _) | exact HSS.out _ ((hB8.setCell (p:=⟨w7.heap.size,0,none⟩) hB7.size _).setCell (p:=⟨w7.heap.size,1,none⟩) hB7.size _))
    clear hK K hH10
    try simp only [Act.put,lyA,lyZ,lyS]
    refine wpAnyH_done (by kernel_rfl) ?_ _
    rotate_left
    exact AllReadyH.nil
    exact AllReadyH.nil
    exact AllReadyH.nil
    exact AllReadyH.nil
    all_goals
      refine sinkQ_of fun K hK=>?_
      go_simp
      refine hK _ _ ?_
      clear hK K
      go_wp2_with fail
      go_meet
      first
        | exact cut5_new hfd hB8 o1 o2
        | exact cut5_old hfd hB8 o1 o2 (by have:=g7.size;simp at this;omega) (Nat.le_refl _) zA
        | exact cut5_old hfd hB8 o1 o2 (by simp) hB7.size zB
   case rest =>
    obtain ⟨d,l2,X1,X2,Y1,Y2,H8,rfl,rfl,hb,hF⟩:=hcut
    have HK:=Lib.hid (HL6.out.below hb)
    have HF:=Lib.hid hF
    have HW:=Lib.hid (own_below HO6.out hb)
    have hxl:(fltX m la ll).length≤20:=by
      have h1:=fltF_len m la m.regs.length
      have h2:=hS.out.rg
      unfold fltX
      split
      · omega
      · simp
    have hdl:=hF.fd.len
    have hd1:d.length≤40:=by have:=hS.out.a;omega
    have hd2:l2.length≤40:=by have:=hS.out.b;omega
    generalize fltX m la ll=xs at HW CKs hxl ⊢
    clear hdl hb hF HO6 HL6
    go_wp2_with fail
    go_loopw [10] (fun i wr=>∃ t:Nat,t≤2∧i=.int .i64 t∧Below wc.heap.size wc wr) (fun i _=>2 - (intOf i).toNat)
    case atStart=>exact ⟨0,by omega,by go_num,Below.refl _ _⟩
    case round =>
     obtain ⟨wo,rfl⟩:∃ wo:World,wo=wr:=⟨_,rfl⟩
     obtain ⟨t,ht,rfl,hb⟩:=hrel
     have HBo:=Lib.hid hb
     have HKo:=Lib.hid (HK.out.below hb)
     have HFo:=Lib.hid (HF.out.below hb)
     have HWo:=Lib.hid (own_below HW.out hb)
     clear hb HK HF HW
     obtain ⟨x0,x1,x2,x3,x4,x5,_⟩:=HKo.out.mc.mb.box
     have d0:=HKo.out.mc.d0
     have d1:=HKo.out.mc.d1
     by_cases hlt:t<2
     · have hI:(t:Int)<2:=by omega
       go_wp2_with fail
       (with_reducible refine (CKs.out _ HKo.out.mc).mono ?_)
       rintro e w9 ⟨v9,rfl,g9,o9⟩
       have HK9:=Lib.hid (HKo.out.below g9)
       have HB9:Hid (Below wo.heap.size wo w9):=Lib.hid g9
       have HLo:Hid (wo.heap.size≤w9.heap.size):=Lib.hid g9.size
       clear x0 x1 x2 x3 x4 x5 d0 d1 g9
       obtain ⟨x0,x1,x2,x3,x4,x5,_⟩:=HK9.out.mc.mb.box
       have d0:=HK9.out.mc.d0
       have d1:=HK9.out.mc.d1
       go_wp2_with fail
       (with_reducible refine (FLs.out _ HK9.out.mc).mono ?_)
       rintro e w10 ⟨d',l2',u1,u2,rfl,hfd,g10,o1,o2,hdj⟩
       obtain ⟨rfl,rfl⟩:=FDU.one HFo.out.fd hfd
       obtain ⟨X3,Y3,rfl⟩:=ownsRow_slice o1
       obtain ⟨X4,Y4,rfl⟩:=ownsRow_slice o2
       obtain ⟨X9,Z9,rfl⟩:=ownsRow_sliceN o9
       have HX9:Hid (∀ g,X9=some ⟨g,0,none⟩→wo.heap.size≤g∧g<w9.heap.size):=Lib.hid fun g hg=>o9.lt g (by rw [hg];rfl)
       have HK11:Hid (Lk m p la ll a1 a2 y1 y2 c1 c2 z1 z2 H5 w (w10.alloc (.cells #[.slice X3 d.length Y3,.slice X4 l2.length Y4] 74))):=Lib.hid ((HK9.out.below g10).below (below_al1 _ _))
       have HB11:Hid (Below wo.heap.size wo (w10.alloc (.cells #[.slice X3 d.length Y3,.slice X4 l2.length Y4] 74))):=Lib.hid (below_ch (below_ch HB9.out g10) (below_al1 _ _))
       have HL11:=Lib.hid (own_below (own_below o9 g10) (below_al1 w10 (.cells #[.slice X3 d.length Y3,.slice X4 l2.length Y4] 74)))
       have HD11:Hid (Ed d X3 Y3 w9.heap.size w10.heap.size (w10.alloc (.cells #[.slice X3 d.length Y3,.slice X4 l2.length Y4] 74))):=Lib.hid ⟨by simp,⟨d,rfl,own_below o1 (below_al1 _ _)⟩,fun g hg=>by have:=(o1.lt g hg).2;omega,g10.size⟩
       have HZ11:Hid (w10.heap.size<(w10.alloc (.cells #[.slice X3 d.length Y3,.slice X4 l2.length Y4] 74)).heap.size):=Lib.hid (by simp)
       have HR3:=Lib.hid ((RowIn.own o1).below (below_al1 w10 (.cells #[.slice X3 d.length Y3,.slice X4 l2.length Y4] 74)))
       have HR4:=Lib.hid ((RowIn.own o2).below (below_al1 w10 (.cells #[.slice X3 d.length Y3,.slice X4 l2.length Y4] 74)))
       have HC1:Hid ((w10.alloc (.cells #[.slice X3 d.length Y3,.slice X4 l2.length Y4] 74)).cell? ⟨w10.heap.size,1,none⟩=some (.slice X4 l2.length Y4)):=Lib.hid (by simp)
       clear o1 o2 o9 hfd hdj g10 HK9 HB9 x0 x1 x2 x3 x4 x5 d0 d1
       obtain ⟨H13,hH13⟩:∃ x,w10.heap.size=x:=⟨_,rfl⟩
       obtain ⟨N13,hN13⟩:∃ x,w9.heap.size=x:=⟨_,rfl⟩
       go_upto_region 11 with fail
       generalize w10.alloc (.cells #[.slice X3 d.length Y3,.slice X4 l2.length Y4] 74)=W11 at *
       rw [hH13] at HD11 HZ11 HC1
       rw [hN13] at HD11 HX9 HLo
       try rw [hH13]
       clear hH13 hN13
       have f0:=(HFo.out.below HB11.out).f0
       have f1:=(HFo.out.below HB11.out).f1
       have c0:=HD11.out.c0
       have c1':=HC1.out
       go_wp2_with fail
       (with_reducible refine (is26_any d l2 X3 X4 X1 X2 Y3 Y4 Y1 Y2 W11 HR3.out HR4.out (HFo.out.below HB11.out).r1 (HFo.out.below HB11.out).r2 (by omega) (by omega)).mono ?_)
       rintro e w12 ⟨rfl,g12⟩
       have HB12:=Lib.hid (below_ch HB11.out g12)
       have HL12:=Lib.hid (own_below HL11.out g12)
       have HD12:=Lib.hid (HD11.out.below HZ11.out g12)
       have HZ12:Hid (H13<w12.heap.size):=Lib.hid (Nat.lt_of_lt_of_le HZ11.out g12.size)
       clear g12 HK11 HB11 HL11 HD11 HZ11 HR3 HR4 HC1 f0 f1 c0 c1'
       go_wp2_with fail
       go_loopw [15] (fun i wr=>∃ (k:Nat) (zs:List Value),k≤xs.length∧i=.int .i64 k∧Below wo.heap.size wo wr∧wr.ownsRow wo.heap.size 164 2 (.slice X9 xs.length Z9) xs.length zs∧(∀ j,k * 2≤j→zs[j]? = (fauV xs)[j]?)∧Ed d X3 Y3 N13 H13 wr∧H13<wr.heap.size) (fun i _=>xs.length - (intOf i).toNat)
       case atStart=>exact ⟨0,_,by omega,by go_num,HB12.out,HL12.out,fun j _=>rfl,HD12.out,HZ12.out⟩
       case round =>
        obtain ⟨wp,rfl⟩:∃ wp:World,wp=wr:=⟨_,rfl⟩
        obtain ⟨k,zs,hk,rfl,hb,hl,hz,hd,hhz⟩:=hrel
        have HBp:=Lib.hid hb
        have HLp:=Lib.hid hl
        have HZp:=Lib.hid hz
        have HDp:=Lib.hid hd
        have HHp:=Lib.hid hhz
        have HWp:=Lib.hid (own_below HWo.out hb)
        clear hb hl hz hd hhz HB12 HL12 HD12 HZ12
        by_cases hkl:k<xs.length
        · have hkI:(k:Int)<(xs.length:Int):=by omega
          have hk0:(0:Int)≤(k:Int):=by omega
          obtain ⟨g9,c9,e9⟩:=ownsRow_posN HLp.out (by omega)
          simp only [Value.slice.injEq,true_and] at e9
          obtain ⟨rfl,rfl⟩:=e9
          obtain ⟨g6,c6,e6⟩:=ownsRow_posN HWp.out (by omega)
          simp only [Value.slice.injEq,true_and] at e6
          obtain ⟨rfl,rfl⟩:=e6
          have hcap9:=ownsRow_capN HLp.out
          have hcap6:=ownsRow_capN HWp.out
          obtain ⟨hx9a,hx9b⟩:=HX9.out g9 rfl
          obtain ⟨q0,q1⟩:=fauV_two xs k hkl
          have ca:=(HLp.out.cellAt (k * 2) (by omega)).trans ((HZp.out _ (by omega)).trans q0)
          have cb:=(HLp.out.cellAt (k * 2+1) (by omega)).trans ((HZp.out _ (by omega)).trans q1)
          have da:=(HWp.out.cellAt (k * 2) (by omega)).trans q0
          have db:=(HWp.out.cellAt (k * 2+1) (by omega)).trans q1
          have fa:=HLp.out.frozenAt (k * 2)
          have fb:=HLp.out.frozenAt (k * 2+1)
          have HFin:Hid (Below wo.heap.size wo ((wp.setCell ⟨g9,k * 2,none⟩ (.int .u8 0)).setCell ⟨g9,k * 2+1,none⟩ (.int .i64 0))∧(∃ zs',((wp.setCell ⟨g9,k * 2,none⟩ (.int .u8 0)).setCell ⟨g9,k * 2+1,none⟩ (.int .i64 0)).ownsRow wo.heap.size 164 2 (.slice (some ⟨g9,0,none⟩) xs.length Z9) xs.length zs'∧(∀ j,(k+1) * 2≤j→zs'[j]? = (fauV xs)[j]?))∧Ed d X3 Y3 N13 H13 ((wp.setCell ⟨g9,k * 2,none⟩ (.int .u8 0)).setCell ⟨g9,k * 2+1,none⟩ (.int .i64 0))∧H13<((wp.setCell ⟨g9,k * 2,none⟩ (.int .u8 0)).setCell ⟨g9,k * 2+1,none⟩ (.int .i64 0)).heap.size):=Lib.hid (by
            refine ⟨(HBp.out.setCell (p:=⟨g9,k * 2,none⟩) hx9a _).setCell (p:=⟨g9,k * 2+1,none⟩) hx9a _,⟨_,((HLp.out.stored (k * 2) _).1.stored (k * 2+1) _).1,fun j hj=>?_⟩,(HDp.out.low g9 _ hx9b _).low g9 _ hx9b _,by rw [World.size_setCell,World.size_setCell];exact HHp.out⟩
            rw [List.getElem?_set_ne (by omega),List.getElem?_set_ne (by omega)]
            exact HZp.out j (by omega))
          generalize (xs[k].1:Int)=r1 at *
          generalize (xs[k].2:Int)=r2 at *
          clear q0 q1 HZp HDp HHp hx9a hx9b
          have HS16:wp.drew.cell? ⟨g9,k * 2,none⟩=some (.int .u8 r1)∧wp.drew.cell? ⟨g9,k * 2+1,none⟩=some (.int .i64 r2)∧wp.drew.cell? ⟨g6,k * 2,none⟩=some (.int .u8 r1)∧wp.drew.cell? ⟨g6,k * 2+1,none⟩=some (.int .i64 r2):=⟨ca,cb,da,db⟩
          go_upto_region 16 with fail
          refine wp_region_any (by kernel_rfl) ?_
          change wpAny _ _ _ _ _ _ _ (World.drew _)
          refine wpAny_of_heldS (S:=(fun W'=>W'.cell? ⟨g9,k * 2,none⟩=some (.int .u8 r1)∧W'.cell? ⟨g9,k * 2+1,none⟩=some (.int .i64 r2)∧W'.cell? ⟨g6,k * 2,none⟩=some (.int .u8 r1)∧W'.cell? ⟨g6,k * 2+1,none⟩=some (.int .i64 r2))) ?_ (fun hHeld=>?_)
          · (try dsimp only) <;> (exact HS16)
          refine tk 0 rfl ?_
          try simp only [Act.put,lyA,lyZ,lyS]
          refine tk 1 rfl ?_
          try simp only [Act.put,lyA,lyZ,lyS]
          refine tk 2 rfl ?_
          try simp only [Act.put,lyA,lyZ,lyS]
          refine tk 3 rfl ?_
          try simp only [Act.put,lyA,lyZ,lyS]
          refine tk 4 rfl ?_
          try simp only [Act.put,lyA,lyZ,lyS]
          refine tk 5 rfl ?_
          try simp only [Act.put,lyA,lyZ,lyS]
          refine tk 6 rfl ?_
          try simp only [Act.put,lyA,lyZ,lyS]
          refine tk 7 rfl ?_
          try simp only [Act.put,lyA,lyZ,lyS]
          refine tk 8 rfl ?_
          try simp only [Act.put,lyA,lyZ,lyS]
          refine tk 9 rfl ?_
          try simp only [Act.put,lyA,lyZ,lyS]
          refine tk 10 rfl ?_
          try simp only [Act.put,lyA,lyZ,lyS]
          refine tk 11 rfl ?_
          try simp only [Act.put,lyA,lyZ,lyS]
          refine tk 12 rfl ?_
          try simp only [Act.put,lyA,lyZ,lyS]
          refine tk 13 rfl ?_
          try simp only [Act.put,lyA,lyZ,lyS]
          refine tk 14 rfl ?_
          try simp only [Act.put,lyA,lyZ,lyS]
          refine tk 15 rfl ?_
          try simp only [Act.put,lyA,lyZ,lyS]
          refine tk 16 rfl ?_
          try simp only [Act.put,lyA,lyZ,lyS]
          refine tk 17 rfl ?_
          try simp only [Act.put,lyA,lyZ,lyS]
          refine tk 18 rfl ?_
          try simp only [Act.put,lyA,lyZ,lyS]
          refine tk 19 rfl ?_
          try simp only [Act.put,lyA,lyZ,lyS]
          refine tk 20 rfl ?_
          try simp only [Act.put,lyA,lyZ,lyS]
          refine tk 21 rfl ?_
          try simp only [Act.put,lyA,lyZ,lyS]
          refine tk 22 rfl ?_
          try simp only [Act.put,lyA,lyZ,lyS]
          refine tk 23 rfl ?_
          try simp only [Act.put,lyA,lyZ,lyS]
          refine wpAnyH_done (by kernel_rfl) ?_ _
          rotate_left
          all_goals
            clear HS16
            go_wp2_with fail
            go_roundw
            case rel =>
             obtain ⟨fb,⟨zs',fo,fz⟩,fe,fl⟩:=HFin.out
             exact ⟨k+1,zs',by omega,by go_num,fb.drew,fo.drew,fz,fe.drew,fl⟩
            case measure=>simp [intOf] <;> omega
        · obtain rfl:k=xs.length:=by omega
          clear HLp HZp HWp
          have hkI:¬ ((xs.length:Int)<(xs.length:Int)):=by omega
          go_wp2_with fail
          go_loopw [16] (fun i wr=>∃ k:Nat,k≤d.length∧i=.int .i64 k∧Below wo.heap.size wo wr∧Ed d X3 Y3 N13 H13 wr) (fun i _=>d.length - (intOf i).toNat)
          case atStart=>exact ⟨0,by omega,by go_num,HBp.out,HDp.out⟩
          case round =>
           obtain ⟨wq,rfl⟩:∃ wq:World,wq=wr:=⟨_,rfl⟩
           obtain ⟨k,hk,rfl,hb,hd⟩:=hrel
           have HBq:=Lib.hid hb
           have HDq:=Lib.hid hd
           clear hb hd HBp HDp HHp
           have c0:=HDq.out.c0
           by_cases hkl:k<d.length
           · have hkI:(k:Int)<(d.length:Int):=by omega
             have hk0:(0:Int)≤(k:Int):=by omega
             obtain ⟨e,he,ho⟩:=HDq.out.own
             obtain ⟨g3,c3,e3⟩:=ownsRow_posN ho (by omega)
             simp only [Value.slice.injEq,true_and] at e3
             obtain ⟨rfl,rfl⟩:=e3
             have hcap3:=ownsRow_capN ho
             have hlo:=Nat.le_trans HLo.out (ho.lt g3 rfl).1
             have ck:=(ho.cellAt k (by omega)).trans (show (nums e)[k]? = some (.int .i64 (e[k]'(by omega))) by simp [nums,he,hkl])
             have fk:=ho.frozenAt k
             have HFin:Hid (Below wo.heap.size wo (wq.setCell ⟨g3,k,none⟩ (.int .i64 99))∧Ed d (some ⟨g3,0,none⟩) Y3 N13 H13 (wq.setCell ⟨g3,k,none⟩ (.int .i64 99))):=Lib.hid ⟨HBq.out.setCell (p:=⟨g3,k,none⟩) hlo _,HDq.out.over 99⟩
             clear ho HBq HDq hlo
             go_wp2_with fail
             go_roundw
             case rel=>exact ⟨k+1,by omega,by go_num,HFin.out⟩
             case measure=>simp [intOf] <;> omega
           · obtain rfl:k=d.length:=by omega
             have hkI:¬ ((d.length:Int)<(d.length:Int)):=by omega
             go_wp2_with fail
             go_roundw
             case rel=>exact ⟨t+1,by omega,by go_num,below_ch HBo.out HBq.out⟩
             case measure=>simp [intOf] <;> omega
     · have hI:¬ ((t:Int)<2):=by omega
       have HSS:Hid (∀ W',Lk m p la ll a1 a2 y1 y2 c1 c2 z1 z2 H5 w W'→(W'.cell? ⟨w.heap.size,0,none⟩=some (.string m.nm)∧W'.cell? ⟨w.heap.size,1,none⟩=some (.slice p.a1 m.vars.length p.c1)∧W'.cell? ⟨w.heap.size,2,none⟩=some (.slice p.a2 m.evs.length p.c2)∧W'.cell? ⟨w.heap.size,3,none⟩=some (.slice p.a3 m.regs.length p.c3)∧W'.cell? ⟨w.heap.size,4,none⟩=some (.slice p.a4 m.vers.length p.c4)∧W'.cell? ⟨w.heap.size,5,none⟩=some (.slice p.a5 m.trns.length p.c5))∧W'.cell? ⟨w.heap.size+1,0,none⟩=some (.slice a1 la.length c1)∧W'.cell? ⟨w.heap.size+1,1,none⟩=some (.slice a2 ll.length c2)∧W'.cell? ⟨H5,0,none⟩=some (.slice y1 la.length z1)∧W'.cell? ⟨H5,1,none⟩=some (.slice y2 ll.length z2)):=Lib.hid fun W' g=>by
         obtain ⟨x0,x1,x2,x3,x4,x5,_⟩:=g.mc.mb.box
         exact ⟨⟨x0,x1,x2,x3,x4,x5⟩,g.mc.d0,g.mc.d1,g.t0,g.t1⟩
       have hKd:Lk m p la ll a1 a2 y1 y2 c1 c2 z1 z2 H5 w wo.drew:=HKo.out.below (Below.refl _ _).drew
       have hla:la.length≤900000:=by have:=hS.out.a;omega
       have hll:ll.length≤900000:=by have:=hS.out.b;omega
       clear HKo HFo HWo HBo x0 x1 x2 x3 x4 x5 d0 d1 CKs FLs RFLs
       go_upto_region 23 with fail
       generalize legB m la ll=B at LGs RLGs
       cases B
       all_goals
         refine wp_region_any (by kernel_rfl) ?_
         change wpAny _ _ _ _ _ _ _ (World.drew _)
         refine wpAny_of_heldS (S:=(fun W'=>(W'.cell? ⟨w.heap.size,0,none⟩=some (.string m.nm)∧W'.cell? ⟨w.heap.size,1,none⟩=some (.slice p.a1 m.vars.length p.c1)∧W'.cell? ⟨w.heap.size,2,none⟩=some (.slice p.a2 m.evs.length p.c2)∧W'.cell? ⟨w.heap.size,3,none⟩=some (.slice p.a3 m.regs.length p.c3)∧W'.cell? ⟨w.heap.size,4,none⟩=some (.slice p.a4 m.vers.length p.c4)∧W'.cell? ⟨w.heap.size,5,none⟩=some (.slice p.a5 m.trns.length p.c5))∧W'.cell? ⟨w.heap.size+1,0,none⟩=some (.slice a1 la.length c1)∧W'.cell? ⟨w.heap.size+1,1,none⟩=some (.slice a2 ll.length c2)∧W'.cell? ⟨H5,0,none⟩=some (.slice y1 la.length z1)∧W'.cell? ⟨H5,1,none⟩=some (.slice y2 ll.length z2))) ?_ (fun hHeld=>?_)
         · (try dsimp only) <;> (exact HSS.out _ (by assumption))
         refine tk 0 rfl ?_
         try simp only [Act.put,lyA,lyZ,lyS]
         refine tk 1 rfl ?_
         try simp only [Act.put,lyA,lyZ,lyS]
         refine tk 3 rfl ?_
         try simp only [Act.put,lyA,lyZ,lyS]
         refine tk 5 rfl ?_
         try simp only [Act.put,lyA,lyZ,lyS]
         refine rdy [2] ?_
         refine rdC rfl (fun K hK=>?_) ?_
         (go_simp;(with_reducible refine (LGs.out _ hKd.mc).mono ?_);rintro e w20 ⟨rfl,h20⟩;have hK20:=hKd.below h20;go_wp2_with fail)
         refine hK.out _ _ ?_ (fun hH1=>?_)
         · (try dsimp only) <;> (exact HSS.out _ (by assumption))
         clear hK K hHeld
         try simp only [Act.put,lyA,lyZ,lyS]
         refine rdy [4] ?_
         refine rdC rfl (fun K hK=>?_) ?_
         (go_simp;(with_reducible refine (RFs.out _ hK20.mc).mono ?_);rintro e w21 ⟨ps,rfl,hmr,h21⟩;have hK21:=hK20.below h21;unfold mdV;go_wp2_with fail)
         refine hK.out _ _ ?_ (fun hH2=>?_)
         · (try dsimp only) <;> (exact HSS.out _ (by assumption))
         clear hK K hH1
         try simp only [Act.put,lyA,lyZ,lyS]
         refine rdy [6] ?_
         refine rdC rfl (fun K hK=>?_) ?_
         (go_simp;(with_reducible refine (RLGs.out ps y1 y2 z1 z2 _ hmr.any hK21.r1 hK21.r2).mono ?_);rintro e w22 ⟨rfl,h22⟩;have hK22:=hK21.below h22;go_wp2_with fail)
         refine hK.out _ _ ?_ (fun hH3=>?_)
         · (try dsimp only) <;> (exact HSS.out _ (by assumption))
         clear hK K hH2
         try simp only [Act.put,lyA,lyZ,lyS]
         refine tk 7 rfl ?_
         try simp only [Act.put,lyA,lyZ,lyS]
         refine tk 8 rfl ?_
         try simp only [Act.put,lyA,lyZ,lyS]
         refine tk 9 rfl ?_
         try simp only [Act.put,lyA,lyZ,lyS]
         refine tk 10 rfl ?_
         try simp only [Act.put,lyA,lyZ,lyS]
         refine rdy [11] ?_
         refine rdC rfl (fun K hK=>?_) ?_
         (go_simp;(with_reducible refine (is26_any la ll a1 a2 y1 y2 c1 c2 z1 z2 _ hK22.mc.r1 hK22.mc.r2 hK22.r1 hK22.r2 hla hll).mono ?_);rintro e w23 ⟨rfl,h23⟩;have hK23:=hK22.below h23;go_wp2_with fail)
         refine hK.out _ _ ?_ (fun hH4=>?_)
         · (try dsimp only) <;> (exact HSS.out _ (by assumption))
         clear hK K hH3
         try simp only [Act.put,lyA,lyZ,lyS]
         refine tk 12 rfl ?_
         try simp only [Act.put,lyA,lyZ,lyS]
         refine tk 13 rfl ?_
         try simp only [Act.put,lyA,lyZ,lyS]
         refine rdy [14] ?_
         refine rdC rfl (fun K hK=>?_) ?_
         (go_simp;(with_reducible refine (WK.out _ hK23.mc.mb.bel).mono ?_);rintro e w24 ⟨rfl,h24⟩;have hK24:=hK23.below h24;go_wp2_with fail)
         refine hK.out _ _ ?_ (fun hH5=>?_)
         · (try dsimp only) <;> (exact HSS.out _ (by assumption))
         clear hK K hH4
         try simp only [Act.put,lyA,lyZ,lyS]
         refine tk 15 rfl ?_
         try simp only [Act.put,lyA,lyZ,lyS]
         refine tk 16 rfl ?_
         try simp only [Act.put,lyA,lyZ,lyS]
         refine wpAnyH_done (by kernel_rfl) ?_ _
         rotate_left
         exact AllReadyH.nil
         exact AllReadyH.nil
         exact AllReadyH.nil
         exact AllReadyH.nil
         exact AllReadyH.nil
         all_goals
           go_wp2_with fail
           go_ret
           exact ⟨rfl,hK24.mc.mb.bel⟩
