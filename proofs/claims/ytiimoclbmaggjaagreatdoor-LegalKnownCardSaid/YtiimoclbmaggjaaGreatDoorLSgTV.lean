/- Walks: a configuration, as the reference has it: two rows in new memory. -/
import Derived.Test.YtiimoclbmaggjaaGreatDoorLSeAD
namespace Go.Proofs
open Go.RowKit Go.Lx Go.Md Go.Shelf Go.BigFrame
set_option linter.unusedVariables false
theorem frz_rc {w:World} {b:Nat} {cs:Array Value} {T:TypeId} (h:w.heap[b]? = some (.cells cs T (0,0))) (k:Nat):w.frozen? ⟨b,k,none⟩=false:=by
 unfold World.frozen?;simp [h]
def RefC (la ll:List Int) (w:World) (e:Ending) (w':World):Prop:=∃ v1 v2,e=.returned (.agg #[v1,v2])∧w'.ownsRow w.heap.size 3 1 v1 la.length (nums la)∧w'.ownsRow w.heap.size 3 1 v2 ll.length (nums ll)∧Below w.heap.size w w'
structure Rw (a1 a2:Option Addr) (n1 c1 n2 c2:Nat) (u0 u1:Value) (w wx:World):Prop where
 bel:Below w.heap.size w wx
 d0:wx.cell? ⟨w.heap.size,0,none⟩=some (.slice a1 n1 c1)
 d1:wx.cell? ⟨w.heap.size,1,none⟩=some (.slice a2 n2 c2)
 r0:wx.cell? ⟨w.heap.size+1,0,none⟩=some (.slice none 0 0)
 r1:wx.cell? ⟨w.heap.size+1,1,none⟩=some (.slice none 0 0)
 q0:wx.frozen? ⟨w.heap.size+1,0,none⟩=false
 q1:wx.frozen? ⟨w.heap.size+1,1,none⟩=false
 x0:wx.cell? ⟨w.heap.size+1+1,0,none⟩=some u0
 x1:wx.cell? ⟨w.heap.size+1+1,1,none⟩=some u1
 y0:wx.frozen? ⟨w.heap.size+1+1,0,none⟩=false
 y1:wx.frozen? ⟨w.heap.size+1+1,1,none⟩=false
 sz:w.heap.size+1+1<wx.heap.size
section
variable {a1 a2:Option Addr} {n1 c1 n2 c2:Nat} {u0 u1:Value} {w wx wy:World}
theorem Rw.below (h:Rw a1 a2 n1 c1 n2 c2 u0 u1 w wx) (g:Below wx.heap.size wx wy):Rw a1 a2 n1 c1 n2 c2 u0 u1 w wy:=by
 have hz:=h.sz
 exact ⟨h.bel.trans (g.mono h.bel.size),(g.cell (p:=⟨w.heap.size,0,none⟩) (by simp only;omega)).trans h.d0,(g.cell (p:=⟨w.heap.size,1,none⟩) (by simp only;omega)).trans h.d1,(g.cell (p:=⟨w.heap.size+1,0,none⟩) (by simp only;omega)).trans h.r0,(g.cell (p:=⟨w.heap.size+1,1,none⟩) (by simp only;omega)).trans h.r1,(g.frozen (p:=⟨w.heap.size+1,0,none⟩) (by simp only;omega)).trans h.q0,(g.frozen (p:=⟨w.heap.size+1,1,none⟩) (by simp only;omega)).trans h.q1,
   (g.cell (p:=⟨w.heap.size+1+1,0,none⟩) (by simp only;omega)).trans h.x0,(g.cell (p:=⟨w.heap.size+1+1,1,none⟩) (by simp only;omega)).trans h.x1,(g.frozen (p:=⟨w.heap.size+1+1,0,none⟩) (by simp only;omega)).trans h.y0,(g.frozen (p:=⟨w.heap.size+1+1,1,none⟩) (by simp only;omega)).trans h.y1,Nat.lt_of_lt_of_le hz g.size⟩
theorem Rw.set0 (h:Rw a1 a2 n1 c1 n2 c2 u0 u1 w wx) (u:Value):Rw a1 a2 n1 c1 n2 c2 u u1 w (wx.setCell ⟨w.heap.size+1+1,0,none⟩ u):=by
 have hb:∀ b,b≠w.heap.size+1+1→(wx.setCell ⟨w.heap.size+1+1,0,none⟩ u).heap[b]? = wx.heap[b]? := fun b hb=>Below.heap_setCell _ _ _ _ hb
 have hc:∀ b k,b≠w.heap.size+1+1→(wx.setCell ⟨w.heap.size+1+1,0,none⟩ u).cell? ⟨b,k,none⟩=wx.cell? ⟨b,k,none⟩:=fun b k h=>World.cell?_of_block (w:=wx) (hb b h)
 exact ⟨h.bel.setCell (p:=⟨w.heap.size+1+1,0,none⟩) (by simp only;omega) u,(hc _ _ (by omega)).trans h.d0,(hc _ _ (by omega)).trans h.d1,(hc _ _ (by omega)).trans h.r0,(hc _ _ (by omega)).trans h.r1,by rw [World.frozen?_setCell];exact h.q0,by rw [World.frozen?_setCell];exact h.q1,World.cell?_setCell_same _ _ _ h.x0,(World.cell?_setCell_other _ _ _ _ (by simp)).trans h.x1,by rw [World.frozen?_setCell];exact h.y0,by rw [World.frozen?_setCell];exact h.y1,by rw [World.size_setCell];exact h.sz⟩
theorem Rw.set1 (h:Rw a1 a2 n1 c1 n2 c2 u0 u1 w wx) (u:Value):Rw a1 a2 n1 c1 n2 c2 u0 u w (wx.setCell ⟨w.heap.size+1+1,1,none⟩ u):=by
 have hb:∀ b,b≠w.heap.size+1+1→(wx.setCell ⟨w.heap.size+1+1,1,none⟩ u).heap[b]? = wx.heap[b]? := fun b hb=>Below.heap_setCell _ _ _ _ hb
 have hc:∀ b k,b≠w.heap.size+1+1→(wx.setCell ⟨w.heap.size+1+1,1,none⟩ u).cell? ⟨b,k,none⟩=wx.cell? ⟨b,k,none⟩:=fun b k h=>World.cell?_of_block (w:=wx) (hb b h)
 exact ⟨h.bel.setCell (p:=⟨w.heap.size+1+1,1,none⟩) (by simp only;omega) u,(hc _ _ (by omega)).trans h.d0,(hc _ _ (by omega)).trans h.d1,(hc _ _ (by omega)).trans h.r0,(hc _ _ (by omega)).trans h.r1,by rw [World.frozen?_setCell];exact h.q0,by rw [World.frozen?_setCell];exact h.q1,(World.cell?_setCell_other _ _ _ _ (by simp)).trans h.x0,World.cell?_setCell_same _ _ _ h.x1,by rw [World.frozen?_setCell];exact h.y0,by rw [World.frozen?_setCell];exact h.y1,by rw [World.size_setCell];exact h.sz⟩
end
theorem Rw.made (a1 a2:Option Addr) (n1 c1 n2 c2:Nat) (w:World):Rw a1 a2 n1 c1 n2 c2 (.slice none 0 0) (.slice none 0 0) w (((w.alloc (.cells #[.slice a1 n1 c1,.slice a2 n2 c2] 74)).alloc (.cells #[.slice none 0 0,.slice none 0 0] 150)).alloc (.cells #[.slice none 0 0,.slice none 0 0] 150)):=by
 have e1:=World.alloc_heap_new w (.cells #[.slice a1 n1 c1,.slice a2 n2 c2] 74)
 have e2:=World.alloc_heap_new (w.alloc (.cells #[.slice a1 n1 c1,.slice a2 n2 c2] 74)) (.cells #[.slice none 0 0,.slice none 0 0] 150)
 have e3:=World.alloc_heap_new ((w.alloc (.cells #[.slice a1 n1 c1,.slice a2 n2 c2] 74)).alloc (.cells #[.slice none 0 0,.slice none 0 0] 150)) (.cells #[.slice none 0 0,.slice none 0 0] 150)
 simp only [World.size_alloc] at e2 e3
 have f1:=((below_al2 (w.alloc (.cells #[.slice a1 n1 c1,.slice a2 n2 c2] 74)) (.cells #[.slice none 0 0,.slice none 0 0] 150) (.cells #[.slice none 0 0,.slice none 0 0] 150)).block w.heap.size (by simp)).trans e1
 have f2:=((below_al1 ((w.alloc (.cells #[.slice a1 n1 c1,.slice a2 n2 c2] 74)).alloc (.cells #[.slice none 0 0,.slice none 0 0] 150)) (.cells #[.slice none 0 0,.slice none 0 0] 150)).block (w.heap.size+1) (by simp)).trans e2
 exact ⟨(below_al1 w _).trans ((below_al2 _ _ _).mono (by simp)),cell_blk f1 0,cell_blk f1 1,cell_blk f2 0,cell_blk f2 1,frz_rc f2 0,frz_rc f2 1,cell_blk e3 0,cell_blk e3 1,frz_rc e3 0,frz_rc e3 1,by simp⟩
set_option maxRecDepth 100000 in
set_option maxHeartbeats 4000000 in
theorem ref26_any (la ll:List Int) (a1 a2:Option Addr) (c1 c2:Nat) (w:World) (h1:RowIn w (.slice a1 la.length c1) la) (h2:RowIn w (.slice a2 ll.length c2) ll) (b1:la.length≤900000) (b2:ll.length≤900000) :
   Calls Tryz.prog 117 #[.agg #[.slice a1 la.length c1,.slice a2 ll.length c2]] w (RefC la ll w):=by
 obtain ⟨iI,hiI,zI0,zI1,zI2⟩:=info_parts info_Num
 have HW:=Lib.hid (Rw.made a1 a2 la.length c1 ll.length c2 w)
 have H1:=Lib.hid (fun wx (g:Below w.heap.size w wx)=>h1.below g)
 have H2:=Lib.hid (fun wx (g:Below w.heap.size w wx)=>h2.below g)
 clear h1 h2
 go_enter Tryz.func117,Tryz.ntmps117
 go_upto_region 2 with fail
 generalize ((w.alloc (.cells #[.slice a1 la.length c1,.slice a2 ll.length c2] 74)).alloc (.cells #[.slice none 0 0,.slice none 0 0] 150)).alloc (.cells #[.slice none 0 0,.slice none 0 0] 150)=W3 at *
 obtain ⟨hb3,d0,d1,r0,r1,q0,q1,x0,x1,y0,y1,hz⟩:=HW.out
 have hN:w.heap.size≤W3.heap.size:=by omega
 have HLt:=Lib.hid hz
 clear hb3 hz
 go_upto_region 3 with (at_builtin;refine wpList_append_row _ rfl _ _ 31 rfl 3 W3.heap.size iI (.int .i64 0) Tryz.underlying31 hiI zI0 zI1 zI2 rfl (.slice none 0 0) [] rfl (World.ownsRow_nil _ _ _ _) _ la rfl (H1.out _ HW.out.bel) (by simp;omega) (Nat.le_refl _) ?_;intro v4 w4 hown4 hgrow4 hnxt4;obtain ⟨x4,y4,rfl⟩:=ownsRow_slice hown4;have HW4:=Lib.hid (HW.out.below ((Below.refl W3.heap.size W3).grown hgrow4 (Nat.le_refl _) (fun q hq=>by cases hq)));have HZ4:Hid (W3.heap.size≤w4.heap.size):=Lib.hid hgrow4.size;clear d0 d1 r0 r1 q0 q1 x0 x1 y0 y1;obtain ⟨hb4,d0,d1,r0,r1,q0,q1,x0,x1,y0,y1,hz⟩:=HW4.out;clear hb4 hz;have HN4:=Lib.hid hnxt4;have HO4:=Lib.hid hown4;clear hown4 hgrow4 hnxt4)
 have HW5:=Lib.hid (HW4.out.set0 (.slice x4 la.length y4))
 have HO5:=Lib.hid (ownsRow_setCell_below (a:=⟨w.heap.size+1+1,0,none⟩) HO4.out (by have:=HLt.out;simp only;omega) (.slice x4 la.length y4))
 have hz5:W3.heap.size≤(w4.setCell ⟨w.heap.size+1+1,0,none⟩ (.slice x4 la.length y4)).heap.size:=by
   rcases HO4.out.2 with ⟨e,h0⟩ | ⟨g,c',_,_,hb,hg,_⟩
   · have:=HZ4.out;rw [World.size_setCell];exact this
   · have:=HZ4.out;rw [World.size_setCell];exact this
 generalize w4.setCell ⟨w.heap.size+1+1,0,none⟩ (.slice x4 la.length y4)=W5 at *
 clear d0 d1 r0 r1 q0 q1 x0 x1 y0 y1
 obtain ⟨hb5,d0,d1,r0,r1,q0,q1,x0,x1,y0,y1,hz⟩:=HW5.out
 clear hb5 hz HW4 HO4
 go_wp2_with (at_builtin;refine wpList_append_row _ rfl _ _ 31 rfl 3 W3.heap.size iI (.int .i64 0) Tryz.underlying31 hiI zI0 zI1 zI2 rfl (.slice none 0 0) [] rfl (World.ownsRow_nil _ _ _ _) _ ll rfl (H2.out _ HW5.out.bel) (by simp;omega) hz5 ?_;intro v6 w6 hown6 hgrow6 hnxt6;obtain ⟨x6,y6,rfl⟩:=ownsRow_slice hown6;have HG6:=Lib.hid ((Below.refl W5.heap.size W5).grown hgrow6 (Nat.le_refl _) (fun q hq=>by cases hq));have HW6:=Lib.hid (HW5.out.below HG6.out);clear d0 d1 r0 r1 q0 q1 x0 x1 y0 y1;obtain ⟨hb6,d0,d1,r0,r1,q0,q1,x0,x1,y0,y1,hz⟩:=HW6.out;clear hb6 hz;have HO6:=Lib.hid hown6;have HO56:=Lib.hid (own_below HO5.out HG6.out);clear hown6 hgrow6 hnxt6)
 have hLt:=HLt.out
 have k1:=(ownsRow_setCell_below (a:=⟨w.heap.size+1,1,none⟩) (ownsRow_setCell_below (a:=⟨w.heap.size+1,0,none⟩) (ownsRow_setCell_below (a:=⟨w.heap.size+1+1,1,none⟩) HO56.out (by simp only;omega) (.slice x6 ll.length y6)) (by simp only;omega) (.slice x4 la.length y4)) (by simp only;omega) (.slice x6 ll.length y6)).mono hN
 have k2:=(ownsRow_setCell_below (a:=⟨w.heap.size+1,1,none⟩) (ownsRow_setCell_below (a:=⟨w.heap.size+1,0,none⟩) (ownsRow_setCell_below (a:=⟨w.heap.size+1+1,1,none⟩) HO6.out (by simp only;omega) (.slice x6 ll.length y6)) (by simp only;omega) (.slice x4 la.length y4)) (by simp only;omega) (.slice x6 ll.length y6)).mono hN
 have kb:=((HW6.out.bel.setCell (p:=⟨w.heap.size+1+1,1,none⟩) (by simp only;omega) (.slice x6 ll.length y6)).setCell (p:=⟨w.heap.size+1,0,none⟩) (by simp only;omega) (.slice x4 la.length y4)).setCell (p:=⟨w.heap.size+1,1,none⟩) (by simp only;omega) (.slice x6 ll.length y6)
 refine bodyPost_ret (v:=.agg #[.slice x4 la.length y4,.slice x6 ll.length y6]) (by simp [results,Tryz.results117,go_sem,r0,r1]) rfl ⟨_,_,rfl,k1,k2,kb⟩
end Go.Proofs

namespace Go.Proofs
open Go.RowKit Go.Lx Go.Md Go.Shelf Go.BigFrame Go.Rgi
set_option linter.unusedVariables false
--IF hopscotchlaw26.some
theorem some_no {m:MdlD} {r:Int} (h:∀ j (hj:j<m.vers.length),((m.vers[j].kd == 1 || m.vers[j].kd == 2) && m.vers[j].rg == r)=false):someM m r=false:=by
 unfold someM
 rw [List.any_eq_false]
 intro x hx
 obtain ⟨j,hj,rfl⟩:=List.getElem_of_mem hx
 rw [h j hj];simp
theorem some_yes {m:MdlD} {r:Int} {j:Nat} (hj:j<m.vers.length) (h:((m.vers[j].kd == 1 || m.vers[j].kd == 2) && m.vers[j].rg == r)=true):someM m r=true:=by
 unfold someM
 rw [List.any_eq_true]
 exact ⟨_,List.getElem_mem hj,h⟩
set_option maxRecDepth 100000 in
set_option maxHeartbeats 2000000 in
theorem some26_any {Q:Nat→BP} (m:MdlD) (p:Ph) (r:Int) (w:World) (h:Mod Q w m p) (hvl:m.vers.length≤100000) :
   Calls Tryz.prog 129 #[mdV m p,.int .i64 r] w fun e w'=>e=.returned (.bool (someM m r))∧Below w.heap.size w w':=by
 have HB:=Lib.hid (Mb.made h)
 have HN:=Lib.hid (fun hh=>some_no (m:=m) (r:=r) hh)
 have HY:=Lib.hid (fun j hj hh=>some_yes (m:=m) (r:=r) (j:=j) hj hh)
 generalize someM m r=X at *
 unfold mdV
 clear h
 go_enter Tryz.func129,Tryz.ntmps129
 obtain ⟨x0,x1,x2,x3,x4,x5,_⟩:=HB.out.box
 go_wp2_with fail
 clear x0 x1 x2 x3 x4 x5
 go_loopw [5] (fun i wr=>∃ k:Nat,k≤m.vers.length∧i=.int .i64 k∧Mb m p w.heap.size w wr∧∀ j (hj:j<m.vers.length),j<k→((m.vers[j].kd == 1 || m.vers[j].kd == 2) && m.vers[j].rg == r)=false) (fun i _=>m.vers.length - (intOf i).toNat)
 case atStart=>exact ⟨0,by omega,rfl,HB.out,fun j _ hj=>by omega⟩
 case round =>
  obtain ⟨wo,rfl⟩:∃ wo:World,wo=wr:=⟨_,rfl⟩
  obtain ⟨k,hk,rfl,hb,hno⟩:=hrel
  have HBo:=Lib.hid hb
  have HNo:=Lib.hid hno
  clear hb hno
  obtain ⟨x0,x1,x2,x3,x4,x5,_⟩:=HBo.out.box
  by_cases hlt:k<m.vers.length
  · have hI:(k:Int)<(m.vers.length:Int):=by omega
    have hI0:(0:Int)≤(k:Int):=by omega
    obtain ⟨b2,o2,ea,hb2,dv,hdv,r0,r1,r2,_⟩:=HBo.out.mod.vers.get hlt
    have hcap:=HBo.out.mod.vers.cap (by omega)
    rw [ea] at x4
    have HS:Hid (∀ b,((m.vers[k].kd == 1 || m.vers[k].kd == 2) && m.vers[k].rg == r)=b→(b=true→X=true)∧(b=false→∀ j (hj:j<m.vers.length),j<k+1→((m.vers[j].kd == 1 || m.vers[j].kd == 2) && m.vers[j].rg == r)=false)):=Lib.hid fun b hb=>⟨fun ht=>HY.out k hlt (by rw [hb,ht]),fun hf j hj hjk=>by
      by_cases e:j=k
      · subst e;rw [hb,hf]
      · exact HNo.out j hj (by omega)⟩
    obtain ⟨kd,hkd⟩:∃ x,m.vers[k].kd=x:=⟨_,rfl⟩
    obtain ⟨rg,hrg⟩:∃ x,m.vers[k].rg=x:=⟨_,rfl⟩
    rw [hkd] at r1 HS
    rw [hrg] at r2 HS
    clear r0 hdv ea hkd hrg
    by_cases h1:kd=1
    · subst h1
      by_cases h3:rg=r
      · have hX:=(HS.out true (by simp [h3])).1 rfl
        have HX:=Lib.hid hX
        clear HS hX
        go_wp2_with fail
        go_ret
        exact ⟨by rw [HX.out];first | done | rfl,HBo.out.bel⟩
      · have h3b:(rg == r)=false:=by rw [beq_eq_false_iff_ne];exact h3
        have HNx:=Lib.hid ((HS.out false (by rw [h3b];rfl)).2 rfl)
        clear HS h3
        go_wp2_with fail
        go_roundw
        case rel=>exact ⟨k+1,by omega,by go_num,HBo.out,HNx.out⟩
        case measure=>simp [intOf] <;> omega
    · have h1b:((kd:Int) == 1)=false:=by rw [beq_eq_false_iff_ne];omega
      by_cases h2:kd=2
      · subst h2
        by_cases h3:rg=r
        · have hX:=(HS.out true (by simp [h3])).1 rfl
          have HX:=Lib.hid hX
          clear HS hX
          go_wp2_with fail
          go_ret
          exact ⟨by rw [HX.out];first | done | rfl,HBo.out.bel⟩
        · have h3b:(rg == r)=false:=by rw [beq_eq_false_iff_ne];exact h3
          have HNx:=Lib.hid ((HS.out false (by rw [h3b];rfl)).2 rfl)
          clear HS h3
          go_wp2_with fail
          go_roundw
          case rel=>exact ⟨k+1,by omega,by go_num,HBo.out,HNx.out⟩
          case measure=>simp [intOf] <;> omega
      · have h2b:((kd:Int) == 2)=false:=by rw [beq_eq_false_iff_ne];omega
        have HNx:=Lib.hid ((HS.out false (by
          have e1:(kd == 1)=false:=by rw [beq_eq_false_iff_ne];exact h1
          have e2:(kd == 2)=false:=by rw [beq_eq_false_iff_ne];exact h2
          rw [e1,e2];rfl)).2 rfl)
        clear HS h1 h2
        go_wp2_with fail
        go_roundw
        case rel=>exact ⟨k+1,by omega,by go_num,HBo.out,HNx.out⟩
        case measure=>simp [intOf] <;> omega
  · have HX:=Lib.hid (HN.out fun j hj=>HNo.out j hj (by omega))
    go_wp2_with fail
    go_ret
    exact ⟨by rw [HX.out];first | done | rfl,HBo.out.bel⟩
--FI
set_option maxHeartbeats 1000000 in
theorem eqInts_any (a b:List Int) (v u:Value) (w:World) (ha:RowIn w v a) (hb:RowIn w u b) (hl:a.length≤1000000) (hl2:b.length≤140737488355328) :
   Calls Tryz.prog 218 #[v,u] w fun e w'=>e=.returned (.bool (decide (a=b)))∧Below w.heap.size w w':=by
 have HA:=Lib.hid (fun (wx:World) (g:Below w.heap.size w wx)=>(ha.below g).len)
 have HBb:=Lib.hid (fun (wx:World) (g:Below w.heap.size w wx)=>(hb.below g).len)
 obtain ⟨x1,y1,rfl,hc1,_⟩:=ha.len
 obtain ⟨x2,y2,rfl,hc2,_⟩:=hb.len
 have HNl:Hid (a.length≠b.length→decide (a=b)=false):=Lib.hid fun h=>decide_eq_false fun e=>h (by rw [e])
 have HNe:Hid (∀ k (h1:k<a.length) (h2:k<b.length),a[k]≠b[k]→decide (a=b)=false):=Lib.hid fun k h1 h2 h=>decide_eq_false fun e=>h (by subst e;rfl)
 have HEq:Hid (a.length=b.length→(∀ k (h1:k<a.length) (h2:k<b.length),a[k]=b[k])→decide (a=b)=true):=Lib.hid fun h hh=>decide_eq_true (List.ext_getElem h hh)
 generalize decide (a=b)=X at *
 clear ha hb
 go_enter Tryz.func218,Tryz.ntmps218
 by_cases hn:a.length=b.length
 rotate_left
 · have HX:=Lib.hid (HNl.out hn)
   have hd:((a.length:Int) != (b.length:Int))=true:=by simp only [bne_iff_ne,ne_eq];omega
   clear HEq HNe HNl hn
   go_wp2_with fail
   go_ret
   exact ⟨by rw [HX.out];first | done | rfl,Below.refl _ _⟩
 have HN:=Lib.hid hn
 have hd:((a.length:Int) != (b.length:Int))=false:=by simp only [bne_eq_false_iff_eq];omega
 clear HNl hn
 go_wp2_with fail
 go_loopw [13] (fun i wr=>∃ k:Nat,k≤a.length∧i=.int .i64 k∧Below w.heap.size w wr∧∀ j (h1:j<a.length) (h2:j<b.length),j<k→a[j]=b[j]) (fun i _=>a.length - (intOf i).toNat)
 case atStart=>exact ⟨0,by omega,rfl,Below.refl _ _,fun j _ _ hj=>by omega⟩
 case round =>
  obtain ⟨wo,rfl⟩:∃ wo:World,wo=wr:=⟨_,rfl⟩
  obtain ⟨k,hk,rfl,hb,hno⟩:=hrel
  have HB:=Lib.hid hb
  have HNo:=Lib.hid hno
  clear hb hno
  by_cases hlt:k<a.length
  · have hlt2:k<b.length:=by rw [← HN.out];exact hlt
    obtain ⟨a',c',e,z1,q⟩:=HA.out wo HB.out
    obtain ⟨b1,o1,ea,hbl,hcl⟩:=q k hlt
    simp only [Value.slice.injEq] at e
    obtain ⟨rfl,z2,rfl⟩:=e
    subst ea
    obtain ⟨a'',c'',e,z3,q2⟩:=HBb.out wo HB.out
    obtain ⟨b2,o2,ea,hbl2,hcl2⟩:=q2 k hlt2
    simp only [Value.slice.injEq] at e
    obtain ⟨rfl,z4,rfl⟩:=e
    subst ea
    have hI:(k:Int)<(a.length:Int):=by omega
    have hI2:(k:Int)<(b.length:Int):=by omega
    have hI0:(0:Int)≤(k:Int):=by omega
    have HNk:=Lib.hid (HNe.out k hlt hlt2)
    have HSk:Hid (a[k]=b[k]→∀ j (h1:j<a.length) (h2:j<b.length),j<k+1→a[j]=b[j]):=Lib.hid fun h j h1 h2 hj=>by
      by_cases e:j=k
      · subst e;exact h
      · exact HNo.out j h1 h2 (by omega)
    obtain ⟨y,hy⟩:∃ y,a[k]=y:=⟨_,rfl⟩
    obtain ⟨z,hz⟩:∃ z,b[k]=z:=⟨_,rfl⟩
    rw [hy] at hcl HNk HSk
    rw [hz] at hcl2 HNk HSk
    clear q q2 hy hz z1 z2 z3 z4
    by_cases h:y=z
    · have HNx:=Lib.hid (HSk.out h)
      have hd2:(y != z)=false:=by simp only [bne_eq_false_iff_eq];exact h
      clear h HSk HNk
      go_upto_region 6 with fail
      go_quiet (fail)
      go_wp2_with fail
      go_roundw
      case rel=>exact ⟨k+1,by omega,by go_num,below_drewN HB.out _,HNx.out⟩
      case measure=>simp [intOf] <;> omega
    · have HX:=Lib.hid (HNk.out h)
      have hd2:(y != z)=true:=by simp only [bne_iff_ne,ne_eq];exact h
      clear h HSk HNk
      go_upto_region 6 with fail
      go_quiet (fail)
      go_wp2_with fail
      go_ret
      exact ⟨by rw [HX.out];first | done | rfl,below_drewN HB.out _⟩
  · have HX:=Lib.hid (HEq.out HN.out fun j h1 h2=>HNo.out j h1 h2 (by omega))
    go_wp2_with fail
    go_ret
    exact ⟨by rw [HX.out];first | done | rfl,HB.out⟩
def sameC (a b c d:List Int):Bool:=decide (a=c) && decide (b=d)
set_option maxRecDepth 100000 in
set_option maxHeartbeats 1000000 in
theorem sameCfg_any (la ll da dl:List Int) (a1 a2 a3 a4:Option Addr) (c1 c2 c3 c4:Nat) (w:World) (h1:RowIn w (.slice a1 la.length c1) la) (h2:RowIn w (.slice a2 ll.length c2) ll) (h3:RowIn w (.slice a3 da.length c3) da) (h4:RowIn w (.slice a4 dl.length c4) dl) (b1:la.length≤1000000) (b2:ll.length≤1000000) (b3:da.length≤1000000) (b4:dl.length≤1000000) :
   Calls Tryz.prog 128 #[.agg #[.slice a1 la.length c1,.slice a2 ll.length c2],.agg #[.slice a3 da.length c3,.slice a4 dl.length c4]] w fun e w'=>e=.returned (.bool (sameC la ll da dl))∧Below w.heap.size w w':=by
 have HB:Hid (Below w.heap.size w ((w.alloc (.cells #[.slice a1 la.length c1,.slice a2 ll.length c2] 74)).alloc (.cells #[.slice a3 da.length c3,.slice a4 dl.length c4] 74))):=Lib.hid (below_al2 w _ _)
 have HC:=Lib.hid ((Cb.made h1 h2).below (below_al1 _ (.cells #[.slice a3 da.length c3,.slice a4 dl.length c4] 74)))
 have HD:=Lib.hid (Cb.made (h3.below (below_al1 w (.cells #[.slice a1 la.length c1,.slice a2 ll.length c2] 74))) (h4.below (below_al1 w (.cells #[.slice a1 la.length c1,.slice a2 ll.length c2] 74))))
 rw [World.size_alloc] at HD
 have HS:Hid (∀ x y,decide (la=da)=x→decide (ll=dl)=y→sameC la ll da dl=(x && y)):=Lib.hid fun x y hx hy=>by unfold sameC;rw [hx,hy]
 have E1:=Lib.hid (fun wx (g1:Cb la ll a1 a2 c1 c2 w.heap.size wx) (g2:Cb da dl a3 a4 c3 c4 (w.heap.size+1) wx)=>eqInts_any la da _ _ wx g1.r1 g2.r1 b1 (by omega))
 have E2:=Lib.hid (fun wx (g1:Cb la ll a1 a2 c1 c2 w.heap.size wx) (g2:Cb da dl a3 a4 c3 c4 (w.heap.size+1) wx)=>eqInts_any ll dl _ _ wx g1.r2 g2.r2 b2 (by omega))
 generalize sameC la ll da dl=X at *
 generalize decide (la=da)=x at *
 generalize decide (ll=dl)=y at *
 clear h1 h2 h3 h4 b1 b2 b3 b4
 go_enter Tryz.func128,Tryz.ntmps128
 go_upto_region 1 with fail
 generalize (w.alloc (.cells #[.slice a1 la.length c1,.slice a2 ll.length c2] 74)).alloc (.cells #[.slice a3 da.length c3,.slice a4 dl.length c4] 74)=W1 at *
 have d0:=HC.out.d0
 have d1:=HC.out.d1
 have d2:=HD.out.d0
 have d3:=HD.out.d1
 have E1x:=Lib.hid (E1.out W1 HC.out HD.out)
 cases x
 · have hX:X=false:=HS.out false y rfl rfl
   subst hX
   go_wp2_with fail
   (with_reducible refine (E1x.out).mono ?_)
   rintro e w3 ⟨rfl,g3⟩
   go_wp2_with fail
   go_ret
   exact ⟨rfl,HB.out.trans (g3.mono HB.out.size)⟩
 · go_wp2_with fail
   (with_reducible refine (E1x.out).mono ?_)
   rintro e w3 ⟨rfl,g3⟩
   have HB3:=Lib.hid (HB.out.trans (g3.mono HB.out.size))
   have E2x:=Lib.hid (E2.out w3 (HC.out.below g3) (HD.out.below g3))
   have HC3:=Lib.hid (HC.out.below g3)
   have HD3:=Lib.hid (HD.out.below g3)
   clear d0 d1 d2 d3 g3
   have d0:=HC3.out.d0
   have d1:=HC3.out.d1
   have d2:=HD3.out.d0
   have d3:=HD3.out.d1
   have hX:X=y:=HS.out true y rfl rfl
   subst hX
   go_wp2_with fail
   (with_reducible refine (E2x.out).mono ?_)
   rintro e w4 ⟨rfl,g4⟩
   go_wp2_with fail
   go_ret
   exact ⟨rfl,HB3.out.trans (g4.mono HB3.out.size)⟩
end Go.Proofs
