/- Walks: a configuration, as the reference has it: two rows in new memory. -/
import Derived.Test.YtodbdacdnoeheaaGreatDoorZLiA
import Derived.Test.YtodbdacdnoeheaaGreatDoorZLrAD
import Derived.Test.YtodbdacdnoeheaaGreatDoorZSgAN
namespace Go.Proofs
open Go.RowKit Go.Lx Go.Md Go.Shelf Go.BigFrame
set_option linter.unusedVariables false
theorem frz_rc {w:World} {b:Nat} {cs:Array Value} {T:TypeId} (h:w.heap[b]? = some (.cells cs T (0,0))) (k:Nat):w.frozen? ⟨b,k,none⟩=false:=by
 unfold World.frozen?;simp [h]
def RefC (la ll:List Int) (w:World) (e:Ending) (w':World):Prop:=∃ v1 v2,e=.returned (.agg #[v1,v2])∧w'.ownsRow w.heap.size 3 1 v1 la.length (nums la)∧w'.ownsRow w.heap.size 3 1 v2 ll.length (nums ll)∧Below w.heap.size w w'
structure Rw (a1 a2:Option Addr) (n1 c1 n2 c2:Nat) (u0 u1:Value) (w wx:World):Prop where
 bel:Below w.heap.size w wx
 d0:wx.cell? ⟨w.heap.size,0,none⟩=some (.slice a1 n1 c1)
 d1:wx.cell? ⟨w.heap.size,1,none⟩=some (.slice a2 n2 c2)
 r0:wx.cell? ⟨w.heap.size+1,0,none⟩=some (.slice none 0 0)
 r1:wx.cell? ⟨w.heap.size+1,1,none⟩=some (.slice none 0 0)
 q0:wx.frozen? ⟨w.heap.size+1,0,none⟩=false
 q1:wx.frozen? ⟨w.heap.size+1,1,none⟩=false
 x0:wx.cell? ⟨w.heap.size+1+1,0,none⟩=some u0
 x1:wx.cell? ⟨w.heap.size+1+1,1,none⟩=some u1
 y0:wx.frozen? ⟨w.heap.size+1+1,0,none⟩=false
 y1:wx.frozen? ⟨w.heap.size+1+1,1,none⟩=false
 sz:w.heap.size+1+1<wx.heap.size
section
variable {a1 a2:Option Addr} {n1 c1 n2 c2:Nat} {u0 u1:Value} {w wx wy:World}
theorem Rw.below (h:Rw a1 a2 n1 c1 n2 c2 u0 u1 w wx) (g:Below wx.heap.size wx wy):Rw a1 a2 n1 c1 n2 c2 u0 u1 w wy:=by
 have hz:=h.sz
 exact ⟨h.bel.trans (g.mono h.bel.size),(g.cell (p:=⟨w.heap.size,0,none⟩) (by simp only;omega)).trans h.d0,(g.cell (p:=⟨w.heap.size,1,none⟩) (by simp only;omega)).trans h.d1,(g.cell (p:=⟨w.heap.size+1,0,none⟩) (by simp only;omega)).trans h.r0,(g.cell (p:=⟨w.heap.size+1,1,none⟩) (by simp only;omega)).trans h.r1,(g.frozen (p:=⟨w.heap.size+1,0,none⟩) (by simp only;omega)).trans h.q0,(g.frozen (p:=⟨w.heap.size+1,1,none⟩) (by simp only;omega)).trans h.q1,
   (g.cell (p:=⟨w.heap.size+1+1,0,none⟩) (by simp only;omega)).trans h.x0,(g.cell (p:=⟨w.heap.size+1+1,1,none⟩) (by simp only;omega)).trans h.x1,(g.frozen (p:=⟨w.heap.size+1+1,0,none⟩) (by simp only;omega)).trans h.y0,(g.frozen (p:=⟨w.heap.size+1+1,1,none⟩) (by simp only;omega)).trans h.y1,Nat.lt_of_lt_of_le hz g.size⟩
theorem Rw.set0 (h:Rw a1 a2 n1 c1 n2 c2 u0 u1 w wx) (u:Value):Rw a1 a2 n1 c1 n2 c2 u u1 w (wx.setCell ⟨w.heap.size+1+1,0,none⟩ u):=by
 have hb:∀ b,b≠w.heap.size+1+1→(wx.setCell ⟨w.heap.size+1+1,0,none⟩ u).heap[b]? = wx.heap[b]? := fun b hb=>Below.heap_setCell _ _ _ _ hb
 have hc:∀ b k,b≠w.heap.size+1+1→(wx.setCell ⟨w.heap.size+1+1,0,none⟩ u).cell? ⟨b,k,none⟩=wx.cell? ⟨b,k,none⟩:=fun b k h=>World.cell?_of_block (w:=wx) (hb b h)
 exact ⟨h.bel.setCell (p:=⟨w.heap.size+1+1,0,none⟩) (by simp only;omega) u,(hc _ _ (by omega)).trans h.d0,(hc _ _ (by omega)).trans h.d1,(hc _ _ (by omega)).trans h.r0,(hc _ _ (by omega)).trans h.r1,by rw [World.frozen?_setCell];exact h.q0,by rw [World.frozen?_setCell];exact h.q1,World.cell?_setCell_same _ _ _ h.x0,(World.cell?_setCell_other _ _ _ _ (by simp)).trans h.x1,by rw [World.frozen?_setCell];exact h.y0,by rw [World.frozen?_setCell];exact h.y1,by rw [World.size_setCell];exact h.sz⟩
theorem Rw.set1 (h:Rw a1 a2 n1 c1 n2 c2 u0 u1 w wx) (u:Value):Rw a1 a2 n1 c1 n2 c2 u0 u w (wx.setCell ⟨w.heap.size+1+1,1,none⟩ u):=by
 have hb:∀ b,b≠w.heap.size+1+1→(wx.setCell ⟨w.heap.size+1+1,1,none⟩ u).heap[b]? = wx.heap[b]? := fun b hb=>Below.heap_setCell _ _ _ _ hb
 have hc:∀ b k,b≠w.heap.size+1+1→(wx.setCell ⟨w.heap.size+1+1,1,none⟩ u).cell? ⟨b,k,none⟩=wx.cell? ⟨b,k,none⟩:=fun b k h=>World.cell?_of_block (w:=wx) (hb b h)
 exact ⟨h.bel.setCell (p:=⟨w.heap.size+1+1,1,none⟩) (by simp only;omega) u,(hc _ _ (by omega)).trans h.d0,(hc _ _ (by omega)).trans h.d1,(hc _ _ (by omega)).trans h.r0,(hc _ _ (by omega)).trans h.r1,by rw [World.frozen?_setCell];exact h.q0,by rw [World.frozen?_setCell];exact h.q1,(World.cell?_setCell_other _ _ _ _ (by simp)).trans h.x0,World.cell?_setCell_same _ _ _ h.x1,by rw [World.frozen?_setCell];exact h.y0,by rw [World.frozen?_setCell];exact h.y1,by rw [World.size_setCell];exact h.sz⟩
end
theorem Rw.made (a1 a2:Option Addr) (n1 c1 n2 c2:Nat) (w:World):Rw a1 a2 n1 c1 n2 c2 (.slice none 0 0) (.slice none 0 0) w (((w.alloc (.cells #[.slice a1 n1 c1,.slice a2 n2 c2] 52)).alloc (.cells #[.slice none 0 0,.slice none 0 0] 62)).alloc (.cells #[.slice none 0 0,.slice none 0 0] 62)):=by
 have e1:=World.alloc_heap_new w (.cells #[.slice a1 n1 c1,.slice a2 n2 c2] 52)
 have e2:=World.alloc_heap_new (w.alloc (.cells #[.slice a1 n1 c1,.slice a2 n2 c2] 52)) (.cells #[.slice none 0 0,.slice none 0 0] 62)
 have e3:=World.alloc_heap_new ((w.alloc (.cells #[.slice a1 n1 c1,.slice a2 n2 c2] 52)).alloc (.cells #[.slice none 0 0,.slice none 0 0] 62)) (.cells #[.slice none 0 0,.slice none 0 0] 62)
 simp only [World.size_alloc] at e2 e3
 have f1:=((below_al2 (w.alloc (.cells #[.slice a1 n1 c1,.slice a2 n2 c2] 52)) (.cells #[.slice none 0 0,.slice none 0 0] 62) (.cells #[.slice none 0 0,.slice none 0 0] 62)).block w.heap.size (by simp)).trans e1
 have f2:=((below_al1 ((w.alloc (.cells #[.slice a1 n1 c1,.slice a2 n2 c2] 52)).alloc (.cells #[.slice none 0 0,.slice none 0 0] 62)) (.cells #[.slice none 0 0,.slice none 0 0] 62)).block (w.heap.size+1) (by simp)).trans e2
 exact ⟨(below_al1 w _).trans ((below_al2 _ _ _).mono (by simp)),cell_blk f1 0,cell_blk f1 1,cell_blk f2 0,cell_blk f2 1,frz_rc f2 0,frz_rc f2 1,cell_blk e3 0,cell_blk e3 1,frz_rc e3 0,frz_rc e3 1,by simp⟩
set_option maxRecDepth 100000 in
set_option maxHeartbeats 4000000 in
theorem ref20_any (la ll:List Int) (a1 a2:Option Addr) (c1 c2:Nat) (w:World) (h1:RowIn w (.slice a1 la.length c1) la) (h2:RowIn w (.slice a2 ll.length c2) ll) (b1:la.length≤900000) (b2:ll.length≤900000) :
   Calls Tryz.prog 23 #[.agg #[.slice a1 la.length c1,.slice a2 ll.length c2]] w (RefC la ll w):=by
 obtain ⟨iI,hiI,zI0,zI1,zI2⟩:=info_parts info_Num
 have HW:=Lib.hid (Rw.made a1 a2 la.length c1 ll.length c2 w)
 have H1:=Lib.hid (fun wx (g:Below w.heap.size w wx)=>h1.below g)
 have H2:=Lib.hid (fun wx (g:Below w.heap.size w wx)=>h2.below g)
 clear h1 h2
 go_enter Tryz.func23,Tryz.ntmps23
 go_upto_region 2 with fail
 generalize ((w.alloc (.cells #[.slice a1 la.length c1,.slice a2 ll.length c2] 52)).alloc (.cells #[.slice none 0 0,.slice none 0 0] 62)).alloc (.cells #[.slice none 0 0,.slice none 0 0] 62)=W3 at *
 obtain ⟨hb3,d0,d1,r0,r1,q0,q1,x0,x1,y0,y1,hz⟩:=HW.out
 have hN:w.heap.size≤W3.heap.size:=by omega
 have HLt:=Lib.hid hz
 clear hb3 hz
 go_upto_region 3 with (at_builtin;refine wpList_append_row _ rfl _ _ 29 rfl 3 W3.heap.size iI (.int .i64 0) Tryz.underlying29 hiI zI0 zI1 zI2 rfl (.slice none 0 0) [] rfl (World.ownsRow_nil _ _ _ _) _ la rfl (H1.out _ HW.out.bel) (by simp;omega) (Nat.le_refl _) ?_;intro v4 w4 hown4 hgrow4 hnxt4;obtain ⟨x4,y4,rfl⟩:=ownsRow_slice hown4;have HW4:=Lib.hid (HW.out.below ((Below.refl W3.heap.size W3).grown hgrow4 (Nat.le_refl _) (fun q hq=>by cases hq)));have HZ4:Hid (W3.heap.size≤w4.heap.size):=Lib.hid hgrow4.size;clear d0 d1 r0 r1 q0 q1 x0 x1 y0 y1;obtain ⟨hb4,d0,d1,r0,r1,q0,q1,x0,x1,y0,y1,hz⟩:=HW4.out;clear hb4 hz;have HN4:=Lib.hid hnxt4;have HO4:=Lib.hid hown4;clear hown4 hgrow4 hnxt4)
 have HW5:=Lib.hid (HW4.out.set0 (.slice x4 la.length y4))
 have HO5:=Lib.hid (ownsRow_setCell_below (a:=⟨w.heap.size+1+1,0,none⟩) HO4.out (by have:=HLt.out;simp only;omega) (.slice x4 la.length y4))
 have hz5:W3.heap.size≤(w4.setCell ⟨w.heap.size+1+1,0,none⟩ (.slice x4 la.length y4)).heap.size:=by
   rcases HO4.out.2 with ⟨e,h0⟩ | ⟨g,c',_,_,hb,hg,_⟩
   · have:=HZ4.out;rw [World.size_setCell];exact this
   · have:=HZ4.out;rw [World.size_setCell];exact this
 generalize w4.setCell ⟨w.heap.size+1+1,0,none⟩ (.slice x4 la.length y4)=W5 at *
 clear d0 d1 r0 r1 q0 q1 x0 x1 y0 y1
 obtain ⟨hb5,d0,d1,r0,r1,q0,q1,x0,x1,y0,y1,hz⟩:=HW5.out
 clear hb5 hz HW4 HO4
 go_wp2_with (at_builtin;refine wpList_append_row _ rfl _ _ 29 rfl 3 W3.heap.size iI (.int .i64 0) Tryz.underlying29 hiI zI0 zI1 zI2 rfl (.slice none 0 0) [] rfl (World.ownsRow_nil _ _ _ _) _ ll rfl (H2.out _ HW5.out.bel) (by simp;omega) hz5 ?_;intro v6 w6 hown6 hgrow6 hnxt6;obtain ⟨x6,y6,rfl⟩:=ownsRow_slice hown6;have HG6:=Lib.hid ((Below.refl W5.heap.size W5).grown hgrow6 (Nat.le_refl _) (fun q hq=>by cases hq));have HW6:=Lib.hid (HW5.out.below HG6.out);clear d0 d1 r0 r1 q0 q1 x0 x1 y0 y1;obtain ⟨hb6,d0,d1,r0,r1,q0,q1,x0,x1,y0,y1,hz⟩:=HW6.out;clear hb6 hz;have HO6:=Lib.hid hown6;have HO56:=Lib.hid (own_below HO5.out HG6.out);clear hown6 hgrow6 hnxt6)
 have hLt:=HLt.out
 have k1:=(ownsRow_setCell_below (a:=⟨w.heap.size+1,1,none⟩) (ownsRow_setCell_below (a:=⟨w.heap.size+1,0,none⟩) (ownsRow_setCell_below (a:=⟨w.heap.size+1+1,1,none⟩) HO56.out (by simp only;omega) (.slice x6 ll.length y6)) (by simp only;omega) (.slice x4 la.length y4)) (by simp only;omega) (.slice x6 ll.length y6)).mono hN
 have k2:=(ownsRow_setCell_below (a:=⟨w.heap.size+1,1,none⟩) (ownsRow_setCell_below (a:=⟨w.heap.size+1,0,none⟩) (ownsRow_setCell_below (a:=⟨w.heap.size+1+1,1,none⟩) HO6.out (by simp only;omega) (.slice x6 ll.length y6)) (by simp only;omega) (.slice x4 la.length y4)) (by simp only;omega) (.slice x6 ll.length y6)).mono hN
 have kb:=((HW6.out.bel.setCell (p:=⟨w.heap.size+1+1,1,none⟩) (by simp only;omega) (.slice x6 ll.length y6)).setCell (p:=⟨w.heap.size+1,0,none⟩) (by simp only;omega) (.slice x4 la.length y4)).setCell (p:=⟨w.heap.size+1,1,none⟩) (by simp only;omega) (.slice x6 ll.length y6)
 refine bodyPost_ret (v:=.agg #[.slice x4 la.length y4,.slice x6 ll.length y6]) (by simp [results,Tryz.results23,go_sem,r0,r1]) rfl ⟨_,_,rfl,k1,k2,kb⟩
end Go.Proofs

namespace Go.Proofs
open Go.RowKit Go.Lx Go.Md Go.Shelf Go.BigFrame Go.Rgi
set_option linter.unusedVariables false
--IF hopscotchlaw26.some
set_option maxHeartbeats 1000000 in
theorem eqInts_any (a b:List Int) (v u:Value) (w:World) (ha:RowIn w v a) (hb:RowIn w u b) (hl:a.length≤1000000) (hl2:b.length≤140737488355328) :
   Calls Tryz.prog 86 #[v,u] w fun e w'=>e=.returned (.bool (decide (a=b)))∧Below w.heap.size w w':=by
 have HA:=Lib.hid (fun (wx:World) (g:Below w.heap.size w wx)=>(ha.below g).len)
 have HBb:=Lib.hid (fun (wx:World) (g:Below w.heap.size w wx)=>(hb.below g).len)
 obtain ⟨x1,y1,rfl,hc1,_⟩:=ha.len
 obtain ⟨x2,y2,rfl,hc2,_⟩:=hb.len
 have HNl:Hid (a.length≠b.length→decide (a=b)=false):=Lib.hid fun h=>decide_eq_false fun e=>h (by rw [e])
 have HNe:Hid (∀ k (h1:k<a.length) (h2:k<b.length),a[k]≠b[k]→decide (a=b)=false):=Lib.hid fun k h1 h2 h=>decide_eq_false fun e=>h (by subst e;rfl)
 have HEq:Hid (a.length=b.length→(∀ k (h1:k<a.length) (h2:k<b.length),a[k]=b[k])→decide (a=b)=true):=Lib.hid fun h hh=>decide_eq_true (List.ext_getElem h hh)
 generalize decide (a=b)=X at *
 clear ha hb
 go_enter Tryz.func86,Tryz.ntmps86
 by_cases hn:a.length=b.length
 rotate_left
 · have HX:=Lib.hid (HNl.out hn)
   have hd:((a.length:Int) != (b.length:Int))=true:=by simp only [bne_iff_ne,ne_eq];omega
   clear HEq HNe HNl hn
   go_wp2_with fail
   go_ret
   exact ⟨by rw [HX.out];first | done | rfl,Below.refl _ _⟩
 have HN:=Lib.hid hn
 have hd:((a.length:Int) != (b.length:Int))=false:=by simp only [bne_eq_false_iff_eq];omega
 clear HNl hn
 go_wp2_with fail
 go_loopw [13] (fun i wr=>∃ k:Nat,k≤a.length∧i=.int .i64 k∧Below w.heap.size w wr∧∀ j (h1:j<a.length) (h2:j<b.length),j<k→a[j]=b[j]) (fun i _=>a.length - (intOf i).toNat)
 case atStart=>exact ⟨0,by omega,rfl,Below.refl _ _,fun j _ _ hj=>by omega⟩
 case round =>
  obtain ⟨wo,rfl⟩:∃ wo:World,wo=wr:=⟨_,rfl⟩
  obtain ⟨k,hk,rfl,hb,hno⟩:=hrel
  have HB:=Lib.hid hb
  have HNo:=Lib.hid hno
  clear hb hno
  by_cases hlt:k<a.length
  · have hlt2:k<b.length:=by rw [← HN.out];exact hlt
    obtain ⟨a',c',e,z1,q⟩:=HA.out wo HB.out
    obtain ⟨b1,o1,ea,hbl,hcl⟩:=q k hlt
    simp only [Value.slice.injEq] at e
    obtain ⟨rfl,z2,rfl⟩:=e
    subst ea
    obtain ⟨a'',c'',e,z3,q2⟩:=HBb.out wo HB.out
    obtain ⟨b2,o2,ea,hbl2,hcl2⟩:=q2 k hlt2
    simp only [Value.slice.injEq] at e
    obtain ⟨rfl,z4,rfl⟩:=e
    subst ea
    have hI:(k:Int)<(a.length:Int):=by omega
    have hI2:(k:Int)<(b.length:Int):=by omega
    have hI0:(0:Int)≤(k:Int):=by omega
    have HNk:=Lib.hid (HNe.out k hlt hlt2)
    have HSk:Hid (a[k]=b[k]→∀ j (h1:j<a.length) (h2:j<b.length),j<k+1→a[j]=b[j]):=Lib.hid fun h j h1 h2 hj=>by
      by_cases e:j=k
      · subst e;exact h
      · exact HNo.out j h1 h2 (by omega)
    obtain ⟨y,hy⟩:∃ y,a[k]=y:=⟨_,rfl⟩
    obtain ⟨z,hz⟩:∃ z,b[k]=z:=⟨_,rfl⟩
    rw [hy] at hcl HNk HSk
    rw [hz] at hcl2 HNk HSk
    clear q q2 hy hz z1 z2 z3 z4
    by_cases h:y=z
    · have HNx:=Lib.hid (HSk.out h)
      have hd2:(y != z)=false:=by simp only [bne_eq_false_iff_eq];exact h
      clear h HSk HNk
      go_upto_region 6 with fail
      go_quiet (fail)
      go_wp2_with fail
      go_roundw
      case rel=>exact ⟨k+1,by omega,by go_num,below_drewN HB.out _,HNx.out⟩
      case measure=>simp [intOf] <;> omega
    · have HX:=Lib.hid (HNk.out h)
      have hd2:(y != z)=true:=by simp only [bne_iff_ne,ne_eq];exact h
      clear h HSk HNk
      go_upto_region 6 with fail
      go_quiet (fail)
      go_wp2_with fail
      go_ret
      exact ⟨by rw [HX.out];first | done | rfl,below_drewN HB.out _⟩
  · have HX:=Lib.hid (HEq.out HN.out fun j h1 h2=>HNo.out j h1 h2 (by omega))
    go_wp2_with fail
    go_ret
    exact ⟨by rw [HX.out];first | done | rfl,HB.out⟩
def sameC (a b c d:List Int):Bool:=decide (a=c) && decide (b=d)
set_option maxRecDepth 100000 in
set_option maxHeartbeats 1000000 in
theorem sameCfg_any (la ll da dl:List Int) (a1 a2 a3 a4:Option Addr) (c1 c2 c3 c4:Nat) (w:World) (h1:RowIn w (.slice a1 la.length c1) la) (h2:RowIn w (.slice a2 ll.length c2) ll) (h3:RowIn w (.slice a3 da.length c3) da) (h4:RowIn w (.slice a4 dl.length c4) dl) (b1:la.length≤1000000) (b2:ll.length≤1000000) (b3:da.length≤1000000) (b4:dl.length≤1000000) :
   Calls Tryz.prog 42 #[.agg #[.slice a1 la.length c1,.slice a2 ll.length c2],.agg #[.slice a3 da.length c3,.slice a4 dl.length c4]] w fun e w'=>e=.returned (.bool (sameC la ll da dl))∧Below w.heap.size w w':=by
 have HB:Hid (Below w.heap.size w ((w.alloc (.cells #[.slice a1 la.length c1,.slice a2 ll.length c2] 52)).alloc (.cells #[.slice a3 da.length c3,.slice a4 dl.length c4] 52))):=Lib.hid (below_al2 w _ _)
 have HC:=Lib.hid ((Cb.made h1 h2).below (below_al1 _ (.cells #[.slice a3 da.length c3,.slice a4 dl.length c4] 52)))
 have HD:=Lib.hid (Cb.made (h3.below (below_al1 w (.cells #[.slice a1 la.length c1,.slice a2 ll.length c2] 52))) (h4.below (below_al1 w (.cells #[.slice a1 la.length c1,.slice a2 ll.length c2] 52))))
 rw [World.size_alloc] at HD
 have HS:Hid (∀ x y,decide (la=da)=x→decide (ll=dl)=y→sameC la ll da dl=(x && y)):=Lib.hid fun x y hx hy=>by unfold sameC;rw [hx,hy]
 have E1:=Lib.hid (fun wx (g1:Cb la ll a1 a2 c1 c2 w.heap.size wx) (g2:Cb da dl a3 a4 c3 c4 (w.heap.size+1) wx)=>eqInts_any la da _ _ wx g1.r1 g2.r1 b1 (by omega))
 have E2:=Lib.hid (fun wx (g1:Cb la ll a1 a2 c1 c2 w.heap.size wx) (g2:Cb da dl a3 a4 c3 c4 (w.heap.size+1) wx)=>eqInts_any ll dl _ _ wx g1.r2 g2.r2 b2 (by omega))
 generalize sameC la ll da dl=X at *
 generalize decide (la=da)=x at *
 generalize decide (ll=dl)=y at *
 clear h1 h2 h3 h4 b1 b2 b3 b4
 go_enter Tryz.func42,Tryz.ntmps42
 go_upto_region 1 with fail
 generalize (w.alloc (.cells #[.slice a1 la.length c1,.slice a2 ll.length c2] 52)).alloc (.cells #[.slice a3 da.length c3,.slice a4 dl.length c4] 52)=W1 at *
 have d0:=HC.out.d0
 have d1:=HC.out.d1
 have d2:=HD.out.d0
 have d3:=HD.out.d1
 have E1x:=Lib.hid (E1.out W1 HC.out HD.out)
 cases x
 · have hX:X=false:=HS.out false y rfl rfl
   subst hX
   go_wp2_with fail
   (with_reducible refine (E1x.out).mono ?_)
   rintro e w3 ⟨rfl,g3⟩
   go_wp2_with fail
   go_ret
   exact ⟨rfl,HB.out.trans (g3.mono HB.out.size)⟩
 · go_wp2_with fail
   (with_reducible refine (E1x.out).mono ?_)
   rintro e w3 ⟨rfl,g3⟩
   have HB3:=Lib.hid (HB.out.trans (g3.mono HB.out.size))
   have E2x:=Lib.hid (E2.out w3 (HC.out.below g3) (HD.out.below g3))
   have HC3:=Lib.hid (HC.out.below g3)
   have HD3:=Lib.hid (HD.out.below g3)
   clear d0 d1 d2 d3 g3
   have d0:=HC3.out.d0
   have d1:=HC3.out.d1
   have d2:=HD3.out.d0
   have d3:=HD3.out.d1
   have hX:X=y:=HS.out true y rfl rfl
   subst hX
   go_wp2_with fail
   (with_reducible refine (E2x.out).mono ?_)
   rintro e w4 ⟨rfl,g4⟩
   go_wp2_with fail
   go_ret
   exact ⟨rfl,HB3.out.trans (g4.mono HB3.out.size)⟩
structure Sm20 (m:MdlD):Prop where
 rg:m.regs.length≤30
 vr:m.vers.length≤40
 tr:m.trns.length≤40
 few:FewP m
set_option maxHeartbeats 1000000 in
theorem small20_any {Q:Nat→BP} (m:MdlD) (p:Ph) (w:World) (h:Mod Q w m p) (hm:MdlOk m) :
   Calls Tryz.prog 13 #[mdV m p] w fun e w'=>BoolSays (Sm20 m) e∧Below w.heap.size w w':=by
 have HB:=Lib.hid (Mb.made h)
 have HF:=Lib.hid (fun wx (g:Mb m p w.heap.size w wx)=>few_any m p wx g.mod hm)
 unfold mdV at HF ⊢
 have b1:=hm.regs
 have b2:=hm.vers
 have b3:=hm.trns
 clear h hm
 by_cases h1:m.regs.length≤30
 · have d1:decide ((m.regs.length:Int)≤30)=true:=by simp;omega
   by_cases h2:m.vers.length≤40
   · have d2:decide ((m.vers.length:Int)≤40)=true:=by simp;omega
     by_cases h3:m.trns.length≤40
     · have d3:decide ((m.trns.length:Int)≤40)=true:=by simp;omega
       go_enter Tryz.func13,Tryz.ntmps13
       go_wp2_with fail
       (with_reducible refine (HF.out _ HB.out).mono ?_)
       rintro e w2 ⟨⟨b,rfl,hs⟩,g2⟩
       have HB2:=Lib.hid (HB.out.below g2)
       have HSt:=Lib.hid hs
       clear g2 HF HB hs
       go_wp2_with fail
       go_ret
       exact ⟨⟨b,rfl,fun ht=>⟨h1,h2,h3,HSt.out ht⟩⟩,HB2.out.bel⟩
     · have d3:decide ((m.trns.length:Int)≤40)=false:=by simp;omega
       go_enter Tryz.func13,Tryz.ntmps13
       go_wp2_with fail
       go_ret
       exact ⟨⟨false,rfl,fun ht=>by cases ht⟩,HB.out.bel⟩
   · have d2:decide ((m.vers.length:Int)≤40)=false:=by simp;omega
     go_enter Tryz.func13,Tryz.ntmps13
     go_wp2_with fail
     go_ret
     exact ⟨⟨false,rfl,fun ht=>by cases ht⟩,HB.out.bel⟩
 · have d1:decide ((m.regs.length:Int)≤30)=false:=by simp;omega
   go_enter Tryz.func13,Tryz.ntmps13
   go_wp2_with fail
   go_ret
   exact ⟨⟨false,rfl,fun ht=>by cases ht⟩,HB.out.bel⟩
set_option maxRecDepth 100000 in
set_option maxHeartbeats 2000000 in
theorem is20_any (la ll da dl:List Int) (a1 a2 a3 a4:Option Addr) (c1 c2 c3 c4:Nat) (w:World) (h1:RowIn w (.slice a1 la.length c1) la) (h2:RowIn w (.slice a2 ll.length c2) ll) (h3:RowIn w (.slice a3 da.length c3) da) (h4:RowIn w (.slice a4 dl.length c4) dl) (b1:la.length≤900000) (b2:ll.length≤900000) (b3:da.length≤900000) (b4:dl.length≤900000) :
   Calls Tryz.prog 40 #[.agg #[.slice a1 la.length c1,.slice a2 ll.length c2],.agg #[.slice a3 da.length c3,.slice a4 dl.length c4]] w fun e w'=>e=.returned (.bool (sameC la ll da dl))∧Below w.heap.size w w':=by
 have HB:=Lib.hid (below_al2 w (.cells #[.slice a1 la.length c1,.slice a2 ll.length c2] 52) (.cells #[.slice a3 da.length c3,.slice a4 dl.length c4] 62))
 have S1:=Lib.hid (fun wx (g:Below w.heap.size w wx)=>sameints_any la da _ _ wx (h1.below g) (h3.below g) (by omega) (by omega))
 have S2:=Lib.hid (fun wx (g:Below w.heap.size w wx)=>sameints_any ll dl _ _ wx (h2.below g) (h4.below g) (by omega) (by omega))
 have HS:Hid (∀ x y,decide (la=da)=x→decide (ll=dl)=y→sameC la ll da dl=(x && y)):=Lib.hid fun x y hx hy=>by unfold sameC;rw [hx,hy]
 have HD:Hid (∀ wx,Below ((w.alloc (.cells #[.slice a1 la.length c1,.slice a2 ll.length c2] 52)).alloc (.cells #[.slice a3 da.length c3,.slice a4 dl.length c4] 62)).heap.size ((w.alloc (.cells #[.slice a1 la.length c1,.slice a2 ll.length c2] 52)).alloc (.cells #[.slice a3 da.length c3,.slice a4 dl.length c4] 62)) wx→wx.cell? ⟨w.heap.size,1,none⟩=some (.slice a2 ll.length c2)∧wx.cell? ⟨w.heap.size+1,1,none⟩=some (.slice a4 dl.length c4)):=Lib.hid fun wx g=>⟨(g.cell (p:=⟨w.heap.size,1,none⟩) (by simp;omega)).trans (by simp),(g.cell (p:=⟨w.heap.size+1,1,none⟩) (by simp)).trans (by simp)⟩
 unfold SameP at S1 S2
 generalize sameC la ll da dl=X at *
 generalize decide (la=da)=x at *
 generalize decide (ll=dl)=y at *
 clear h1 h2 h3 h4
 go_enter Tryz.func40,Tryz.ntmps40
 go_wp2_with fail
 (with_reducible refine (S1.out _ HB.out).mono ?_)
 rintro e w3 ⟨rfl,g3⟩
 obtain ⟨d0,d1⟩:=HD.out w3 g3
 have HB3:=Lib.hid (HB.out.trans (g3.mono HB.out.size))
 clear g3
 cases x
 · have hX:X=false:=HS.out false y rfl rfl
   subst hX
   go_wp2_with fail
   go_ret
   exact ⟨rfl,HB3.out⟩
 · have hX:X=y:=HS.out true y rfl rfl
   subst hX
   go_wp2_with fail
   (with_reducible refine (S2.out _ HB3.out).mono ?_)
   rintro e w4 ⟨rfl,g4⟩
   go_wp2_with fail
   go_ret
   exact ⟨rfl,HB3.out.trans (g4.mono HB3.out.size)⟩
theorem SetAt.low {B C:Nat} {m:MdlD} {SB:Nat} {w:World} (h:SetAt B m SB w) (hC:C≤B):SetAt C m SB w:=by
 obtain ⟨IB,kv,h1,r⟩:=h
 exact ⟨IB,kv,h1.low' hC,r⟩
theorem SetAt.six {B H:Nat} {m:MdlD} {SB:Nat} {w w':World} (h:SetAt B m SB w) (s:Six H w w') (hH:H<B) (hn:∀ j x,w.cell? ⟨H,j,none⟩≠some (.int .u8 x)) (hp:∀ x,w.cell? ⟨H,0,none⟩≠some (.pointer x)):SetAt B m SB w':=by
 obtain ⟨IB,kv,h1,h2,h3,h4,h5,h6⟩:=h
 have hne:SB≠H:=fun e=>by subst e;exact hp _ h2
 have hc:∀ b j,b≠H→w'.cell? ⟨b,j,none⟩=w.cell? ⟨b,j,none⟩:=fun b j h=>World.cell?_of_block (w:=w) (s.blk b h)
 refine ⟨IB,kv,h1.keep (by rw [s.size];exact Nat.le_refl _) (fun b hb1 _=>s.blk b (by omega)),(hc _ _ hne).trans h2,(hc _ _ hne).trans h3,(hc _ _ hne).trans h4,?_,by rw [s.size];exact h6⟩
 rcases h5 with h5 | ⟨b,off,c,e,g1,g2,g3⟩
 · exact .inl h5
 · refine .inr ⟨b,off,c,e,g1,by rw [s.size];exact g2,fun j hj=>?_⟩
   have:b≠H:=fun e=>by subst e;exact hn _ _ (g3 j hj)
   exact (hc _ _ this).trans (g3 j hj)
def zero12:List Value:=[.string ⟨#[]⟩,.slice none 0 0,.slice none 0 0,.slice none 0 0,.slice none 0 0,.slice none 0 0,.string ⟨#[]⟩,.slice none 0 0,.slice none 0 0,.slice none 0 0,.slice none 0 0,.slice none 0 0]
theorem own12_all {w:World} {N T g:Nat} {xs:List Value} (h:w.ownsRow N T 12 (.slice (some ⟨g,0,none⟩) 1 1) 1 xs) (j:Nat):w.cell? ⟨g,j,none⟩=xs[j]? := by
 by_cases hj:j<12
 · exact h.cellAt j (by omega)
 · obtain ⟨h1,h2⟩:=h
   rcases h2 with ⟨h0,_⟩ | ⟨g',c',cur,hv,hg,hh,hn,hcap,hsz,ht⟩
   · cases h0
   · cases hv
     rw [List.getElem?_eq_none (by omega)]
     unfold World.cell?
     simp only [hh]
     simp
     omega
theorem zero12_u8 {w:World} {N T g:Nat} (h:w.ownsRow N T 12 (.slice (some ⟨g,0,none⟩) 1 1) 1 zero12) (j:Nat) (x:Int):w.cell? ⟨g,j,none⟩≠some (.int .u8 x):=fun e=>by
 rw [own12_all h] at e
 have:=List.mem_of_getElem? e
 simp [zero12] at this
theorem zero12_ptr {w:World} {N T g:Nat} (h:w.ownsRow N T 12 (.slice (some ⟨g,0,none⟩) 1 1) 1 zero12) (x:Option Addr):w.cell? ⟨g,0,none⟩≠some (.pointer x):=fun e=>by
 rw [own12_all h] at e
 have:=List.mem_of_getElem? e
 simp [zero12] at this
theorem zero12_made (w:World) (T:TypeId):(w.alloc (.cells #[.string ⟨#[]⟩,.slice none 0 0,.slice none 0 0,.slice none 0 0,.slice none 0 0,.slice none 0 0,.string ⟨#[]⟩,.slice none 0 0,.slice none 0 0,.slice none 0 0,.slice none 0 0,.slice none 0 0] T)).ownsRow 0 T 12 (.slice (some ⟨w.heap.size,0,none⟩) 1 1) 1 zero12 :=
 ⟨rfl,.inr ⟨w.heap.size,1,_,rfl,Nat.zero_le _,World.alloc_heap_new w _,Nat.le_refl _,by unfold maxLen;omega,rfl,rfl⟩⟩
def BothS (m:MdlD) (w:World) (e:Ending) (w':World):Prop:=Below w.heap.size w w'∧∃ pr:Ph,((riM m=(0,0,0)∧∃ SB,e=.returned (.tuple #[.pointer (some ⟨SB,0,none⟩),stV m pr,.bool true,.bool true])∧SetAt w.heap.size m SB w'∧Mod anyM w' m pr) ∨
 ((riM m).2.2≠0∧e=.returned (.tuple #[.pointer none,stV m pr,.bool false,.bool true])))
theorem twelve {w:World} {H:Nat} {m:MdlD} {p:Ph} {w':World} (h:w.ownsRow 0 48 12 (.slice (some ⟨H,0,none⟩) 1 1) 1 zero12)
   (e:w'=(((((((((((w.setCell ⟨H,0,none⟩ (.string m.nm)).setCell ⟨H,1,none⟩ (.slice p.a1 m.vars.length p.c1)).setCell ⟨H,2,none⟩ (.slice p.a2 m.evs.length p.c2)).setCell ⟨H,3,none⟩ (.slice p.a3 m.regs.length p.c3)).setCell ⟨H,4,none⟩ (.slice p.a4 m.vers.length p.c4)).setCell ⟨H,5,none⟩ (.slice p.a5 m.trns.length p.c5)).setCell ⟨H,6,none⟩ (.string m.nm)).setCell ⟨H,7,none⟩ (.slice p.a1 m.vars.length p.c1)).setCell ⟨H,8,none⟩ (.slice p.a2 m.evs.length p.c2)).setCell ⟨H,9,none⟩ (.slice p.a3 m.regs.length p.c3)).setCell ⟨H,10,none⟩ (.slice p.a4 m.vers.length p.c4)).setCell ⟨H,11,none⟩ (.slice p.a5 m.trns.length p.c5)) :
   Six H w w'∧w'.ownsRow 0 48 12 (.slice (some ⟨H,0,none⟩) 1 1) 1 [.string m.nm,.slice p.a1 m.vars.length p.c1,.slice p.a2 m.evs.length p.c2,.slice p.a3 m.regs.length p.c3,.slice p.a4 m.vers.length p.c4,.slice p.a5 m.trns.length p.c5,.string m.nm,.slice p.a1 m.vars.length p.c1,.slice p.a2 m.evs.length p.c2,.slice p.a3 m.regs.length p.c3,.slice p.a4 m.vers.length p.c4,.slice p.a5 m.trns.length p.c5]:=by
 subst e
 refine ⟨(((((((((((((Six.refl H w).set _).set _).set _).set _).set _).set _).set _).set _).set _).set _).set _).set _),?_⟩
 have:=((((((((((((h.stored 0 (.string m.nm)).1.stored 1 (.slice p.a1 m.vars.length p.c1)).1.stored 2 (.slice p.a2 m.evs.length p.c2)).1.stored 3 (.slice p.a3 m.regs.length p.c3)).1.stored 4 (.slice p.a4 m.vers.length p.c4)).1.stored 5 (.slice p.a5 m.trns.length p.c5)).1.stored 6 (.string m.nm)).1.stored 7 (.slice p.a1 m.vars.length p.c1)).1.stored 8 (.slice p.a2 m.evs.length p.c2)).1.stored 9 (.slice p.a3 m.regs.length p.c3)).1.stored 10 (.slice p.a4 m.vers.length p.c4)).1.stored 11 (.slice p.a5 m.trns.length p.c5)).1
 exact this
set_option maxRecDepth 100000 in
set_option maxHeartbeats 8000000 in
theorem both20_any {Q:Nat→BP} (m:MdlD) (p:Ph) (w:World) (h:Mod Q w m p) (hm:MdlOk m) (hT:Tab w) (hs:Sm20 m) :
   Calls Tryz.prog 15 #[mdV m p] w (BothS m w):=by
 have hsm:=few_sml hs.few
 have HB:=Lib.hid ((Mb.made h).below (below_al1 _ (.cells #[.string ⟨#[]⟩,.slice none 0 0,.slice none 0 0,.slice none 0 0,.slice none 0 0,.slice none 0 0,.string ⟨#[]⟩,.slice none 0 0,.slice none 0 0,.slice none 0 0,.slice none 0 0,.slice none 0 0] 48)))
 have HZ:Hid (((w.alloc (.cells #[.string m.nm,.slice p.a1 m.vars.length p.c1,.slice p.a2 m.evs.length p.c2,.slice p.a3 m.regs.length p.c3,.slice p.a4 m.vers.length p.c4,.slice p.a5 m.trns.length p.c5] 28)).alloc (.cells #[.string ⟨#[]⟩,.slice none 0 0,.slice none 0 0,.slice none 0 0,.slice none 0 0,.slice none 0 0,.string ⟨#[]⟩,.slice none 0 0,.slice none 0 0,.slice none 0 0,.slice none 0 0,.slice none 0 0] 48)).ownsRow 0 48 12 (.slice (some ⟨w.heap.size+1,0,none⟩) 1 1) 1 zero12):=Lib.hid (by
   have:=zero12_made (w.alloc (.cells #[.string m.nm,.slice p.a1 m.vars.length p.c1,.slice p.a2 m.evs.length p.c2,.slice p.a3 m.regs.length p.c3,.slice p.a4 m.vers.length p.c4,.slice p.a5 m.trns.length p.c5] 28)) 48
   rw [World.size_alloc] at this;exact this)
 have RF:=Lib.hid (fun wx (g:Mb m p w.heap.size w wx)=>ref_low m p wx g.mod hsm)
 have RR:=Lib.hid (fun (pr:Ph) wx (hx:Mod anyM wx m pr)=>rright_any m pr wx hx hm)
 have NW:=Lib.hid (fun wx (g:Mb m p w.heap.size w wx)=>setsNew_any m p wx g.mod hm (hT.next g.bel) (by have:=hs.vr;omega) (by have:=hs.rg;omega) (by have:=hs.tr;omega))
 have OF:=Lib.hid (fun (pr:Ph) wx=>sof_any m pr wx)
 unfold mdV at RF RR NW OF ⊢
 clear h hm hT hs hsm
 go_enter Tryz.func15,Tryz.ntmps15
 go_wp2_with fail
 (with_reducible refine (RF.out _ HB.out).mono ?_)
 rintro e w3 ⟨pr1,rfl,hmr,g3⟩
 have HB3:=Lib.hid (HB.out.below g3)
 have HZ3:=Lib.hid (own_below HZ.out g3)
 have HMR:=Lib.hid hmr.any
 clear hmr g3 HB HZ
 unfold mdV
 go_wp2_with fail
 (with_reducible refine (RR.out pr1 _ HMR.out).mono ?_)
 rintro e w4 ⟨rfl,g4⟩
 have HB4:=Lib.hid (HB3.out.below g4)
 have HZ4:=Lib.hid (own_below HZ3.out g4)
 clear g4 HB3 HZ3 HMR RR
 obtain ⟨x0,x1,x2,x3,x4,x5,_⟩:=HB4.out.box
 go_wp2_with fail
 (with_reducible refine (NW.out _ HB4.out).mono ?_)
 rintro e w5 ⟨g5,(⟨hr,SB,rfl,hi⟩ | ⟨hr,rfl⟩)⟩
 · have HB5:=Lib.hid (HB4.out.below g5)
   have HZ5:=Lib.hid (own_below HZ4.out g5)
   have HI5:=Lib.hid hi
   have HR:=Lib.hid hr
   have hz4:Hid (w.heap.size+1<w4.heap.size):=Lib.hid (HZ4.out.lt (w.heap.size+1) rfl).2
   rw [hr]
   clear g5 hi HB4 HZ4 x0 x1 x2 x3 x4 x5 NW hr
   obtain ⟨x0,x1,x2,x3,x4,x5,_⟩:=HB5.out.box
   go_wp2_with fail
   (with_reducible refine (RF.out _ HB5.out).mono ?_)
   rintro e w6 ⟨pr,rfl,hmr,g6⟩
   have hz5:Hid (w.heap.size+1<w5.heap.size):=Lib.hid (HZ5.out.lt (w.heap.size+1) rfl).2
   have HB6:=Lib.hid (HB5.out.below g6)
   have HZ6:=Lib.hid (own_below HZ5.out g6)
   have HI6:=Lib.hid (HI5.out.grown g6)
   have HMR:=Lib.hid hmr
   have OFx:=Lib.hid (OF.out pr w6)
   clear g6 hmr HB5 HZ5 HI5 x0 x1 x2 x3 x4 x5 RF OF
   unfold mdV
   unfold stV at OFx
   go_wp2_with fail
   (with_reducible refine (OFx.out).mono ?_)
   rintro e w7 ⟨rfl,g7⟩
   have HB7:=Lib.hid (HB6.out.below g7)
   have HZ7:=Lib.hid (own_below HZ6.out g7)
   have HI7:=Lib.hid (HI6.out.grown g7)
   have HG7:=Lib.hid g7
   clear g7 HB6 HZ6 HI6 OFx
   have z0:w7.cell? ⟨w.heap.size+1,0,none⟩=some (.string ⟨#[]⟩):=own12_all HZ7.out 0
   have f0:=HZ7.out.frozenAt 0
   have z1:w7.cell? ⟨w.heap.size+1,1,none⟩=some (.slice none 0 0):=own12_all HZ7.out 1
   have f1:=HZ7.out.frozenAt 1
   have z2:w7.cell? ⟨w.heap.size+1,2,none⟩=some (.slice none 0 0):=own12_all HZ7.out 2
   have f2:=HZ7.out.frozenAt 2
   have z3:w7.cell? ⟨w.heap.size+1,3,none⟩=some (.slice none 0 0):=own12_all HZ7.out 3
   have f3:=HZ7.out.frozenAt 3
   have z4:w7.cell? ⟨w.heap.size+1,4,none⟩=some (.slice none 0 0):=own12_all HZ7.out 4
   have f4:=HZ7.out.frozenAt 4
   have z5:w7.cell? ⟨w.heap.size+1,5,none⟩=some (.slice none 0 0):=own12_all HZ7.out 5
   have f5:=HZ7.out.frozenAt 5
   have z6:w7.cell? ⟨w.heap.size+1,6,none⟩=some (.string ⟨#[]⟩):=own12_all HZ7.out 6
   have f6:=HZ7.out.frozenAt 6
   have z7:w7.cell? ⟨w.heap.size+1,7,none⟩=some (.slice none 0 0):=own12_all HZ7.out 7
   have f7:=HZ7.out.frozenAt 7
   have z8:w7.cell? ⟨w.heap.size+1,8,none⟩=some (.slice none 0 0):=own12_all HZ7.out 8
   have f8:=HZ7.out.frozenAt 8
   have z9:w7.cell? ⟨w.heap.size+1,9,none⟩=some (.slice none 0 0):=own12_all HZ7.out 9
   have f9:=HZ7.out.frozenAt 9
   have z10:w7.cell? ⟨w.heap.size+1,10,none⟩=some (.slice none 0 0):=own12_all HZ7.out 10
   have f10:=HZ7.out.frozenAt 10
   have z11:w7.cell? ⟨w.heap.size+1,11,none⟩=some (.slice none 0 0):=own12_all HZ7.out 11
   have f11:=HZ7.out.frozenAt 11
   go_wp2_with fail
   clear z0 f0 z1 f1 z2 f2 z3 f3 z4 f4 z5 f5 z6 f6 z7 f7 z8 f8 z9 f9 z10 f10 z11 f11
   have HT0:=twelve (m:=m) (p:=pr) HZ7.out rfl
   generalize ((((((((((((w7.setCell ⟨w.heap.size+1,0,none⟩ (.string m.nm)).setCell ⟨w.heap.size+1,1,none⟩ (.slice pr.a1 m.vars.length pr.c1)).setCell ⟨w.heap.size+1,2,none⟩ (.slice pr.a2 m.evs.length pr.c2)).setCell ⟨w.heap.size+1,3,none⟩ (.slice pr.a3 m.regs.length pr.c3)).setCell ⟨w.heap.size+1,4,none⟩ (.slice pr.a4 m.vers.length pr.c4)).setCell ⟨w.heap.size+1,5,none⟩ (.slice pr.a5 m.trns.length pr.c5)).setCell ⟨w.heap.size+1,6,none⟩ (.string m.nm)).setCell ⟨w.heap.size+1,7,none⟩ (.slice pr.a1 m.vars.length pr.c1)).setCell ⟨w.heap.size+1,8,none⟩ (.slice pr.a2 m.evs.length pr.c2)).setCell ⟨w.heap.size+1,9,none⟩ (.slice pr.a3 m.regs.length pr.c3)).setCell ⟨w.heap.size+1,10,none⟩ (.slice pr.a4 m.vers.length pr.c4)).setCell ⟨w.heap.size+1,11,none⟩ (.slice pr.a5 m.trns.length pr.c5))=W9 at *
   have HS:=Lib.hid HT0.1
   have HX:=Lib.hid HT0.2
   clear HT0
   have y0:W9.cell? ⟨w.heap.size+1,0,none⟩=some (.string m.nm):=own12_all HX.out 0
   have y1:W9.cell? ⟨w.heap.size+1,1,none⟩=some (.slice pr.a1 m.vars.length pr.c1):=own12_all HX.out 1
   have y2:W9.cell? ⟨w.heap.size+1,2,none⟩=some (.slice pr.a2 m.evs.length pr.c2):=own12_all HX.out 2
   have y3:W9.cell? ⟨w.heap.size+1,3,none⟩=some (.slice pr.a3 m.regs.length pr.c3):=own12_all HX.out 3
   have y4:W9.cell? ⟨w.heap.size+1,4,none⟩=some (.slice pr.a4 m.vers.length pr.c4):=own12_all HX.out 4
   have y5:W9.cell? ⟨w.heap.size+1,5,none⟩=some (.slice pr.a5 m.trns.length pr.c5):=own12_all HX.out 5
   have y6:W9.cell? ⟨w.heap.size+1,6,none⟩=some (.string m.nm):=own12_all HX.out 6
   have y7:W9.cell? ⟨w.heap.size+1,7,none⟩=some (.slice pr.a1 m.vars.length pr.c1):=own12_all HX.out 7
   have y8:W9.cell? ⟨w.heap.size+1,8,none⟩=some (.slice pr.a2 m.evs.length pr.c2):=own12_all HX.out 8
   have y9:W9.cell? ⟨w.heap.size+1,9,none⟩=some (.slice pr.a3 m.regs.length pr.c3):=own12_all HX.out 9
   have y10:W9.cell? ⟨w.heap.size+1,10,none⟩=some (.slice pr.a4 m.vers.length pr.c4):=own12_all HX.out 10
   have y11:W9.cell? ⟨w.heap.size+1,11,none⟩=some (.slice pr.a5 m.trns.length pr.c5):=own12_all HX.out 11
   have hz:=hz4.out
   have hy:=hz5.out
   refine bodyPost_ret (v:=.tuple #[.pointer (some ⟨SB,0,none⟩),stV m pr,.bool true,.bool true]) (by simp [results,Tryz.results15,go_sem,stV,y0,y1,y2,y3,y4,y5,y6,y7,y8,y9,y10,y11]) rfl ⟨HS.out.bel HB7.out.bel (by omega),pr,.inl ⟨HR.out,SB,rfl,?_,?_⟩⟩
   · exact (HI7.out.six HS.out (by omega) (zero12_u8 HZ7.out) (zero12_ptr HZ7.out)).low (by omega)
   · exact ((HMR.out.below HG7.out).kept fun _=>HS.out.kept hy).any
 · have HB5:=Lib.hid (HB4.out.below g5)
   have HZ5:=Lib.hid (own_below HZ4.out g5)
   have HR:=Lib.hid hr
   have hz4:Hid (w.heap.size+1<w4.heap.size):=Lib.hid (HZ4.out.lt (w.heap.size+1) rfl).2
   clear g5 HB4 HZ4 x0 x1 x2 x3 x4 x5 NW hr
   obtain ⟨x0,x1,x2,x3,x4,x5,_⟩:=HB5.out.box
   go_wp2_with fail
   (with_reducible refine (RF.out _ HB5.out).mono ?_)
   rintro e w6 ⟨pr,rfl,hmr,g6⟩
   have HB6:=Lib.hid (HB5.out.below g6)
   have HZ6:=Lib.hid (own_below HZ5.out g6)
   have OFx:=Lib.hid (OF.out pr w6)
   clear g6 hmr HB5 HZ5 x0 x1 x2 x3 x4 x5 RF OF
   unfold mdV
   unfold stV at OFx
   go_wp2_with fail
   (with_reducible refine (OFx.out).mono ?_)
   rintro e w7 ⟨rfl,g7⟩
   have HB7:=Lib.hid (HB6.out.below g7)
   have HZ7:=Lib.hid (own_below HZ6.out g7)
   clear g7 HB6 HZ6 OFx
   have z0:w7.cell? ⟨w.heap.size+1,0,none⟩=some (.string ⟨#[]⟩):=own12_all HZ7.out 0
   have f0:=HZ7.out.frozenAt 0
   have z1:w7.cell? ⟨w.heap.size+1,1,none⟩=some (.slice none 0 0):=own12_all HZ7.out 1
   have f1:=HZ7.out.frozenAt 1
   have z2:w7.cell? ⟨w.heap.size+1,2,none⟩=some (.slice none 0 0):=own12_all HZ7.out 2
   have f2:=HZ7.out.frozenAt 2
   have z3:w7.cell? ⟨w.heap.size+1,3,none⟩=some (.slice none 0 0):=own12_all HZ7.out 3
   have f3:=HZ7.out.frozenAt 3
   have z4:w7.cell? ⟨w.heap.size+1,4,none⟩=some (.slice none 0 0):=own12_all HZ7.out 4
   have f4:=HZ7.out.frozenAt 4
   have z5:w7.cell? ⟨w.heap.size+1,5,none⟩=some (.slice none 0 0):=own12_all HZ7.out 5
   have f5:=HZ7.out.frozenAt 5
   have z6:w7.cell? ⟨w.heap.size+1,6,none⟩=some (.string ⟨#[]⟩):=own12_all HZ7.out 6
   have f6:=HZ7.out.frozenAt 6
   have z7:w7.cell? ⟨w.heap.size+1,7,none⟩=some (.slice none 0 0):=own12_all HZ7.out 7
   have f7:=HZ7.out.frozenAt 7
   have z8:w7.cell? ⟨w.heap.size+1,8,none⟩=some (.slice none 0 0):=own12_all HZ7.out 8
   have f8:=HZ7.out.frozenAt 8
   have z9:w7.cell? ⟨w.heap.size+1,9,none⟩=some (.slice none 0 0):=own12_all HZ7.out 9
   have f9:=HZ7.out.frozenAt 9
   have z10:w7.cell? ⟨w.heap.size+1,10,none⟩=some (.slice none 0 0):=own12_all HZ7.out 10
   have f10:=HZ7.out.frozenAt 10
   have z11:w7.cell? ⟨w.heap.size+1,11,none⟩=some (.slice none 0 0):=own12_all HZ7.out 11
   have f11:=HZ7.out.frozenAt 11
   go_wp2_with fail
   clear z0 f0 z1 f1 z2 f2 z3 f3 z4 f4 z5 f5 z6 f6 z7 f7 z8 f8 z9 f9 z10 f10 z11 f11
   have HT0:=twelve (m:=m) (p:=pr) HZ7.out rfl
   generalize ((((((((((((w7.setCell ⟨w.heap.size+1,0,none⟩ (.string m.nm)).setCell ⟨w.heap.size+1,1,none⟩ (.slice pr.a1 m.vars.length pr.c1)).setCell ⟨w.heap.size+1,2,none⟩ (.slice pr.a2 m.evs.length pr.c2)).setCell ⟨w.heap.size+1,3,none⟩ (.slice pr.a3 m.regs.length pr.c3)).setCell ⟨w.heap.size+1,4,none⟩ (.slice pr.a4 m.vers.length pr.c4)).setCell ⟨w.heap.size+1,5,none⟩ (.slice pr.a5 m.trns.length pr.c5)).setCell ⟨w.heap.size+1,6,none⟩ (.string m.nm)).setCell ⟨w.heap.size+1,7,none⟩ (.slice pr.a1 m.vars.length pr.c1)).setCell ⟨w.heap.size+1,8,none⟩ (.slice pr.a2 m.evs.length pr.c2)).setCell ⟨w.heap.size+1,9,none⟩ (.slice pr.a3 m.regs.length pr.c3)).setCell ⟨w.heap.size+1,10,none⟩ (.slice pr.a4 m.vers.length pr.c4)).setCell ⟨w.heap.size+1,11,none⟩ (.slice pr.a5 m.trns.length pr.c5))=W9 at *
   have HS:=Lib.hid HT0.1
   have HX:=Lib.hid HT0.2
   clear HT0
   have y0:W9.cell? ⟨w.heap.size+1,0,none⟩=some (.string m.nm):=own12_all HX.out 0
   have y1:W9.cell? ⟨w.heap.size+1,1,none⟩=some (.slice pr.a1 m.vars.length pr.c1):=own12_all HX.out 1
   have y2:W9.cell? ⟨w.heap.size+1,2,none⟩=some (.slice pr.a2 m.evs.length pr.c2):=own12_all HX.out 2
   have y3:W9.cell? ⟨w.heap.size+1,3,none⟩=some (.slice pr.a3 m.regs.length pr.c3):=own12_all HX.out 3
   have y4:W9.cell? ⟨w.heap.size+1,4,none⟩=some (.slice pr.a4 m.vers.length pr.c4):=own12_all HX.out 4
   have y5:W9.cell? ⟨w.heap.size+1,5,none⟩=some (.slice pr.a5 m.trns.length pr.c5):=own12_all HX.out 5
   have y6:W9.cell? ⟨w.heap.size+1,6,none⟩=some (.string m.nm):=own12_all HX.out 6
   have y7:W9.cell? ⟨w.heap.size+1,7,none⟩=some (.slice pr.a1 m.vars.length pr.c1):=own12_all HX.out 7
   have y8:W9.cell? ⟨w.heap.size+1,8,none⟩=some (.slice pr.a2 m.evs.length pr.c2):=own12_all HX.out 8
   have y9:W9.cell? ⟨w.heap.size+1,9,none⟩=some (.slice pr.a3 m.regs.length pr.c3):=own12_all HX.out 9
   have y10:W9.cell? ⟨w.heap.size+1,10,none⟩=some (.slice pr.a4 m.vers.length pr.c4):=own12_all HX.out 10
   have y11:W9.cell? ⟨w.heap.size+1,11,none⟩=some (.slice pr.a5 m.trns.length pr.c5):=own12_all HX.out 11
   have hn:¬ (riM m).2.2=0:=HR.out
   refine bodyPost_ret (v:=.tuple #[.pointer none,stV m pr,.bool false,.bool true]) (by simp [results,Tryz.results15,go_sem,stV,y0,y1,y2,y3,y4,y5,y6,y7,y8,y9,y10,y11,hn]) rfl ⟨HS.out.bel HB7.out.bel (by omega),pr,.inr ⟨HR.out,rfl⟩⟩
structure Bx (H:Nat) (a1:Option Addr) (n1 c1:Nat) (a2:Option Addr) (n2 c2:Nat) (w:World):Prop where
 c0:w.cell? ⟨H,0,none⟩=some (.slice a1 n1 c1)
 c1:w.cell? ⟨H,1,none⟩=some (.slice a2 n2 c2)
 f0:w.frozen? ⟨H,0,none⟩=false
 f1:w.frozen? ⟨H,1,none⟩=false
 lt:H<w.heap.size
section
variable {H:Nat} {a1 a2:Option Addr} {n1 c1 n2 c2:Nat} {w w':World}
theorem Bx.below (h:Bx H a1 n1 c1 a2 n2 c2 w) (g:Below w.heap.size w w'):Bx H a1 n1 c1 a2 n2 c2 w' :=
 ⟨(g.cell (p:=⟨H,0,none⟩) h.lt).trans h.c0,(g.cell (p:=⟨H,1,none⟩) h.lt).trans h.c1,(g.frozen (p:=⟨H,0,none⟩) h.lt).trans h.f0,(g.frozen (p:=⟨H,1,none⟩) h.lt).trans h.f1,Nat.lt_of_lt_of_le h.lt g.size⟩
theorem Bx.set (h:Bx H a1 n1 c1 a2 n2 c2 w) (b1:Option Addr) (m1 d1:Nat) (b2:Option Addr) (m2 d2:Nat):Bx H b1 m1 d1 b2 m2 d2 ((w.setCell ⟨H,0,none⟩ (.slice b1 m1 d1)).setCell ⟨H,1,none⟩ (.slice b2 m2 d2)) :=
 ⟨(World.cell?_setCell_other _ _ _ _ (by simp)).trans (World.cell?_setCell_same _ _ _ h.c0),World.cell?_setCell_same _ _ _ ((World.cell?_setCell_other _ _ _ _ (by simp)).trans h.c1),by rw [World.frozen?_setCell,World.frozen?_setCell];exact h.f0,by rw [World.frozen?_setCell,World.frozen?_setCell];exact h.f1,by rw [World.size_setCell,World.size_setCell];exact h.lt⟩
theorem Bx.other (h:Bx H a1 n1 c1 a2 n2 c2 w) {K:Nat} (hK:H≠K) (u v:Value):Bx H a1 n1 c1 a2 n2 c2 ((w.setCell ⟨K,0,none⟩ u).setCell ⟨K,1,none⟩ v) :=
 ⟨((World.cell?_setCell_other _ _ _ _ (by simp <;> omega)).trans (World.cell?_setCell_other _ _ _ _ (by simp <;> omega))).trans h.c0,((World.cell?_setCell_other _ _ _ _ (by simp <;> omega)).trans (World.cell?_setCell_other _ _ _ _ (by simp <;> omega))).trans h.c1,by rw [World.frozen?_setCell,World.frozen?_setCell];exact h.f0,by rw [World.frozen?_setCell,World.frozen?_setCell];exact h.f1,by rw [World.size_setCell,World.size_setCell];exact h.lt⟩
theorem Bx.made (w:World) (a1:Option Addr) (n1 c1:Nat) (a2:Option Addr) (n2 c2:Nat) (T:TypeId):Bx w.heap.size a1 n1 c1 a2 n2 c2 (w.alloc (.cells #[.slice a1 n1 c1,.slice a2 n2 c2] T)):=by
 have e:=World.alloc_heap_new w (.cells #[.slice a1 n1 c1,.slice a2 n2 c2] T)
 exact ⟨cell_blk e 0,cell_blk e 1,frz_b e 0,frz_b e 1,by simp⟩
theorem RowIn.set {v:Value} {l:List Int} {k:Nat} (h:RowIn w v l) (hn:∀ x,w.cell? ⟨H,k,none⟩≠some (.int .i64 x)) (u:Value):RowIn (w.setCell ⟨H,k,none⟩ u) v l:=by
 rcases h with h | ⟨b,off,c,e,h0,h1,h3⟩
 · exact .inl h
 · refine .inr ⟨b,off,c,e,h0,by rw [World.size_setCell];exact h1,fun j u' hj=>?_⟩
   have h4:=h3 j u' hj
   rw [addr_add] at h4 ⊢
   have:(⟨b,off+j,none⟩:Addr)≠⟨H,k,none⟩:=fun e2=>by
     rw [e2] at h4
     simp only [nums,List.getElem?_map] at hj
     cases hl:l[j]? with
     | none=>rw [hl] at hj;cases hj
     | some x =>
      rw [hl] at hj
      simp only [Option.map_some,Option.some.injEq] at hj
      exact hn x (by rw [h4,hj])
   exact (World.cell?_setCell_other _ _ _ _ this.symm).trans h4
theorem RowIn.put {v:Value} {l:List Int} (h:RowIn w v l) (hb:Bx H a1 n1 c1 a2 n2 c2 w) (b1:Option Addr) (m1 d1:Nat) (b2:Option Addr) (m2 d2:Nat):RowIn ((w.setCell ⟨H,0,none⟩ (.slice b1 m1 d1)).setCell ⟨H,1,none⟩ (.slice b2 m2 d2)) v l :=
 (h.set (fun x e=>by rw [hb.c0] at e;cases e) _).set (fun x e=>by rw [World.cell?_setCell_other _ _ _ _ (by simp),hb.c1] at e;cases e) _
def CfgOk (m:MdlD) (a1:Option Addr) (n1 c1:Nat) (a2:Option Addr) (n2 c2:Nat) (w:World):Prop:=∃ la ll,la.length=n1∧ll.length=n2∧RowIn w (.slice a1 n1 c1) la∧RowIn w (.slice a2 n2 c2) ll∧Rch m la∧Fit m ll
theorem CfgOk.below {m:MdlD} (h:CfgOk m a1 n1 c1 a2 n2 c2 w) (g:Below w.heap.size w w'):CfgOk m a1 n1 c1 a2 n2 c2 w':=by
 obtain ⟨la,ll,e1,e2,r1,r2,h1,h2⟩:=h
 exact ⟨la,ll,e1,e2,r1.below g,r2.below g,h1,h2⟩
theorem CfgOk.put {m:MdlD} {x1 x2:Option Addr} {k1 d1 k2 d2:Nat} (h:CfgOk m x1 k1 d1 x2 k2 d2 w) (hb:Bx H a1 n1 c1 a2 n2 c2 w) (b1:Option Addr) (m1 t1:Nat) (b2:Option Addr) (m2 t2:Nat):CfgOk m x1 k1 d1 x2 k2 d2 ((w.setCell ⟨H,0,none⟩ (.slice b1 m1 t1)).setCell ⟨H,1,none⟩ (.slice b2 m2 t2)):=by
 obtain ⟨la,ll,e1,e2,r1,r2,h1,h2⟩:=h
 exact ⟨la,ll,e1,e2,r1.put hb b1 m1 t1 b2 m2 t2,r2.put hb b1 m1 t1 b2 m2 t2,h1,h2⟩
end
structure Str (m:MdlD) (R H:Nat) (w wr:World):Prop where
 bel:Below w.heap.size w wr
 rs:Bx R none 0 0 none 0 0 wr
 cb:∃ a1 n1 c1 a2 n2 c2,Bx H a1 n1 c1 a2 n2 c2 wr∧CfgOk m a1 n1 c1 a2 n2 c2 wr
theorem Str.below {m:MdlD} {R H:Nat} {w wr wy:World} (h:Str m R H w wr) (g:Below wr.heap.size wr wy):Str m R H w wy:=by
 obtain ⟨a1,n1,c1,a2,n2,c2,hb,ho⟩:=h.cb
 exact ⟨below_ch h.bel g,h.rs.below g,a1,n1,c1,a2,n2,c2,hb.below g,ho.below g⟩
theorem Str.put {m:MdlD} {R H:Nat} {w wr:World} (h:Str m R H w wr) (hR:R≠H) (hH:w.heap.size≤H) {u1:Option Addr} {k1 t1:Nat} {u2:Option Addr} {k2 t2:Nat} (ho:CfgOk m u1 k1 t1 u2 k2 t2 wr):Str m R H w ((wr.setCell ⟨H,0,none⟩ (.slice u1 k1 t1)).setCell ⟨H,1,none⟩ (.slice u2 k2 t2)):=by
 obtain ⟨a1,n1,c1,a2,n2,c2,hb,_⟩:=h.cb
 exact ⟨(h.bel.setCell (p:=⟨H,0,none⟩) hH _).setCell (p:=⟨H,1,none⟩) hH _,h.rs.other hR _ _,u1,k1,t1,u2,k2,t2,hb.set _ _ _ _ _ _,ho.put hb _ _ _ _ _ _⟩
theorem _root_.Go.RowKit.Below.two {B b:Nat} {w wx:World} (h:Below B w wx) (hb:B≤b) (u v:Value):Below B w ((wx.setCell ⟨b,0,none⟩ u).setCell ⟨b,1,none⟩ v) :=
 (h.setCell (p:=⟨b,0,none⟩) hb u).setCell (p:=⟨b,1,none⟩) hb v
structure CfgAt (la ll:List Int) (a1:Option Addr) (n1 c1:Nat) (a2:Option Addr) (n2 c2:Nat) (w:World):Prop where
 e1:la.length=n1
 e2:ll.length=n2
 r1:RowIn w (.slice a1 n1 c1) la
 r2:RowIn w (.slice a2 n2 c2) ll
section
variable {la ll:List Int} {a1 a2:Option Addr} {n1 c1 n2 c2:Nat} {w w':World} {m:MdlD}
theorem CfgAt.below (h:CfgAt la ll a1 n1 c1 a2 n2 c2 w) (g:Below w.heap.size w w'):CfgAt la ll a1 n1 c1 a2 n2 c2 w':=⟨h.e1,h.e2,h.r1.below g,h.r2.below g⟩
theorem CfgAt.put {H:Nat} {x1 x2:Option Addr} {k1 d1 k2 d2:Nat} (h:CfgAt la ll a1 n1 c1 a2 n2 c2 w) (hb:Bx H x1 k1 d1 x2 k2 d2 w) (b1:Option Addr) (m1 t1:Nat) (b2:Option Addr) (m2 t2:Nat):CfgAt la ll a1 n1 c1 a2 n2 c2 ((w.setCell ⟨H,0,none⟩ (.slice b1 m1 t1)).setCell ⟨H,1,none⟩ (.slice b2 m2 t2)) :=
 ⟨h.e1,h.e2,h.r1.put hb _ _ _ _ _ _,h.r2.put hb _ _ _ _ _ _⟩
theorem CfgOk.at (h:CfgOk m a1 n1 c1 a2 n2 c2 w):∃ la ll,CfgAt la ll a1 n1 c1 a2 n2 c2 w∧Rch m la∧Fit m ll:=by
 obtain ⟨la,ll,e1,e2,r1,r2,R,F⟩:=h
 exact ⟨la,ll,⟨e1,e2,r1,r2⟩,R,F⟩
variable {B SB:Nat}
end
end Go.Proofs
