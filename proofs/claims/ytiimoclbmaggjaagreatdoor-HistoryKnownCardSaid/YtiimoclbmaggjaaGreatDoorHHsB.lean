/- Walks: the law 'HistoryNotes'. -/
import Derived.Test.YtiimoclbmaggjaaGreatDoorHHsAP
import Derived.Test.YtiimoclbmaggjaaGreatDoorHMdRg
namespace Go.Proofs
open Go.RowKit Go.Lx Go.Md Go.Shelf Go.BigFrame
set_option linter.unusedVariables false
set_option maxRecDepth 100000 in
set_option maxHeartbeats 8000000 in
theorem historyNotes_any {Q:Nat→BP} (m:MdlD) (p:Ph) (last left:List Int) (lv ev:Value) (w:World) (h1:Mod Q w m p) (hm:MdlOk m) (hT:Tab w) (hr:RowIn w lv last) (hr2:RowIn w ev left) (hl:last.length≤140737488355328) (hl2:left.length≤140737488355328) :
   Calls Tryz.prog 11 #[mdV m p,lv,ev] w fun e w'=>e=.returned (.bool true)∧Below w.heap.size w w':=by
 obtain ⟨a1,c1,rfl,_,_⟩:=hr.len
 obtain ⟨a2,c2,rfl,_,_⟩:=hr2.len
 have HB:=Lib.hid (Mb.made h1)
 have SM:=Lib.hid (fun wx (g:Mb m p w.heap.size w wx)=>small21_any m p a1 a2 last.length c1 left.length c2 wx g.mod hm hl hl2)
 have WK:=Lib.hid (fun wx (g:Below w.heap.size w wx)=>works21 wx (hT.next g))
 have NT:=Lib.hid (fun (hs:Sm21 m last.length left.length) wx (g:Mb m p w.heap.size w wx) (l':List Int) (lv':Value) (hr':RowIn wx lv' l') (hl':l'.length≤100000)=>note_any m p l' left lv' (.slice a2 left.length c2) wx g.mod hm (hT.next g.bel) hr' hl' (hr2.below g.bel) (by have:=hs.b;omega))
 have FT:=Lib.hid (fun wx (g:Mb m p w.heap.size w wx) (l':List Int) (lv':Value) (hr':RowIn wx lv' l') (hl':l'.length≤100000)=>fits_any m p l' lv' wx g.mod hm (hT.next g.bel) hr' (by omega))
 have RF:=Lib.hid (fun (hs:Sml m) wx (g:Mb m p w.heap.size w wx)=>ref_any m p wx g.mod hs)
 have RN:=Lib.hid (fun (hs:Sm21 m last.length left.length) (pr:Ph) (kv:Value) wx (g:Mb m p w.heap.size w wx) (hx:Mod anyM wx m pr) (hk:RowIn wx kv last)=>rnote21_any m pr last left kv (.slice a2 left.length c2) wx hx hm hk (by have:=hs.a;omega) (hr2.below g.bel) (by have:=hs.b;omega))
 have HRI:=Lib.hid (fun wx (g:Below w.heap.size w wx)=>hr.below g)
 obtain ⟨iI,hiI,zI0,zI1,zI2⟩:=info_parts info_Num
 unfold mdV at SM NT FT RF RN ⊢
 have HFt:=Lib.hid (fun (h:fitsM m last=true)=>note_fits (left:=left) h)
 have HNt:=Lib.hid (fun (h:fitsM m last=false)=>(show noteM m last left=[] by unfold noteM;rw [h];rfl))
 have HNl:=Lib.hid (fun (h:fitsM m last=true)=>(show (noteM m last left).length=last.length by unfold noteM;rw [if_pos h,notes_len]))
 obtain ⟨n1,hn1⟩:∃ n,last.length=n:=⟨_,rfl⟩
 obtain ⟨n2,hn2⟩:∃ n,left.length=n:=⟨_,rfl⟩
 have HN1:=Lib.hid hn1
 rw [hn1] at SM NT RN HRI hl ⊢
 rw [hn2] at SM NT RN hl2 ⊢
 clear h1 hm hT hr hr2 hn1 hn2
 go_enter Tryz.func11,Tryz.ntmps11
 go_wp2_with fail
 (with_reducible refine (SM.out _ HB.out).mono ?_)
 rintro e w3 ⟨⟨b1,rfl,s1⟩,g3⟩
 have HB3:=Lib.hid (HB.out.below g3)
 have HSt:=Lib.hid s1
 clear s1 g3 HB SM
 cases b1
 · go_wp2_with fail
   (with_reducible refine (WK.out _ HB3.out.bel).mono ?_)
   rintro e w4 ⟨rfl,g4⟩
   go_wp2_with fail
   go_ret
   exact ⟨rfl,(HB3.out.below g4).bel⟩
 have hS:=Lib.hid (HSt.out rfl)
 have hs:=Lib.hid (few_sml hS.out.few)
 have hRI:=Lib.hid (HRI.out w3 HB3.out.bel)
 clear HSt
 go_wp2_with (at_builtin;refine wpList_append_row _ rfl _ _ 31 rfl 3 w3.heap.size iI (.int .i64 0) Tryz.underlying31 hiI zI0 zI1 zI2 rfl (.slice none 0 0) [] rfl (World.ownsRow_nil _ _ _ _) _ last rfl hRI.out (by have:=HN1.out;have:=hS.out.a;simp;omega) (Nat.le_refl _) ?_;intro v7 w4 hown4 hgrow4 hnxt4;(have g4:Below w3.heap.size w3 w4:=Below.grown (Below.refl _ w3) hgrow4 (Nat.le_refl _) (fun j hj=>by cases hj));have HB4:=Lib.hid (HB3.out.below g4);rw [List.nil_append] at hown4;have R7:=Lib.hid (RowIn.own hown4);clear hown4 hgrow4 hnxt4 g4 hRI HB3;obtain ⟨x0,x1,x2,x3,x4,x5,_⟩:=HB4.out.box)
 (with_reducible refine (NT.out hS.out _ HB4.out last _ (HRI.out _ HB4.out.bel) (by have:=HN1.out;have:=hS.out.a;omega)).mono ?_)
 rintro e w5 ⟨v8,rfl,o8,g5⟩
 have HB5:=Lib.hid (HB4.out.below g5)
 have T5:=Lib.hid g5
 have O8:=Lib.hid o8
 clear o8 g5 x0 x1 x2 x3 x4 x5
 obtain ⟨x0,x1,x2,x3,x4,x5,_⟩:=HB5.out.box
 go_wp2_with fail
 (with_reducible refine (RF.out hs.out _ HB5.out).mono ?_)
 rintro e w6 ⟨pr,rfl,hmr,g6⟩
 have HB6:=Lib.hid (HB5.out.below g6)
 have T6:=Lib.hid (T5.out.trans (g6.mono T5.out.size))
 have O8':=Lib.hid (ownsRow_keep O8.out g6)
 have HMR:=Lib.hid hmr
 clear hmr g6 x0 x1 x2 x3 x4 x5 HB5 T5 O8
 unfold mdV
 go_wp2_with fail
 (with_reducible refine (RN.out hS.out pr _ _ HB6.out HMR.out (R7.out.below T6.out)).mono ?_)
 rintro e w7 ⟨v29,rfl,o29,g7⟩
 have HB7:=Lib.hid (HB6.out.below g7)
 have T7:=Lib.hid (T6.out.trans (g7.mono T6.out.size))
 have O8:=Lib.hid (ownsRow_keep O8'.out g7)
 have R29:=Lib.hid (RowIn.own o29)
 clear o29 g7 HB6 T6 O8' HMR RN RF
 have hA8:Hid ((noteM m last left).length≤100000):=by
   cases hf:fitsM m last with
   | false=>exact Lib.hid (by rw [HNt.out hf];simp)
   | true=>exact Lib.hid (by rw [HNl.out hf];have:=HN1.out;have:=hS.out.a;omega)
 go_wp2_with fail
 (with_reducible refine (same21_self (noteM m last left) _ _ _ (RowIn.own O8.out) R29.out (by have:=hA8.out;omega)).mono ?_)
 rintro e w8 ⟨rfl,g8⟩
 have HB8:=Lib.hid (HB7.out.below g8)
 have T8:=Lib.hid (T7.out.trans (g8.mono T7.out.size))
 have O9:=Lib.hid (ownsRow_keep O8.out g8)
 clear g8 HB7 T7 O8 R29
 obtain ⟨x0,x1,x2,x3,x4,x5,_⟩:=HB8.out.box
 obtain ⟨a8,c8,rfl⟩:=ownsRow_slice O9.out
 obtain ⟨n8,hn8⟩:∃ n,(noteM m last left).length=n:=⟨_,rfl⟩
 by_cases hz:n8=0
 · have d1:((n8:Int) == 0)=true:=by rw [hz];rfl
   rw [hn8]
   clear hn8 hz
   go_wp2_with fail
   (with_reducible refine (WK.out _ HB8.out.bel).mono ?_)
   rintro e w9 ⟨rfl,g9⟩
   go_wp2_with fail
   go_ret
   exact ⟨rfl,(HB8.out.below g9).bel⟩
 have d1:((n8:Int) == 0)=false:=by simp;omega
 have hfit:Hid (fitsM m last=true):=by
   cases hf:fitsM m last with
   | true=>exact Lib.hid rfl
   | false=>rw [HNt.out hf] at hn8;exact absurd hn8.symm hz
 obtain ⟨hf2,hi2⟩:=HFt.out hfit.out
 have HI2:=Lib.hid hi2
 have NT8:=Lib.hid (fun wx g hr'=>NT.out hS.out wx g (noteM m last left) (.slice a8 n8 c8) hr' hA8.out)
 have FT8:=Lib.hid (fun wx g hr'=>FT.out wx g (noteM m last left) (.slice a8 n8 c8) hr' hA8.out)
 rw [hf2] at FT8
 rw [hi2] at NT8
 have HN8:=Lib.hid hn8
 have hn8b:n8≤100000:=by rw [← hn8];exact hA8.out
 have O10:Hid (w8.ownsRow w4.heap.size 3 1 (.slice a8 n8 c8) (noteM m last left).length (nums (noteM m last left))):=by rw [← hn8];exact O9
 rw [hn8]
 clear hn8 hf2 hi2 O9 NT FT HNt HNl HFt
 go_wp2_with fail
 (with_reducible refine (NT8.out _ HB8.out (RowIn.own O10.out)).mono ?_)
 rintro e w9 ⟨v9,rfl,o9,g9⟩
 have HB9:=Lib.hid (HB8.out.below g9)
 have T9:=Lib.hid (T8.out.trans (g9.mono T8.out.size))
 have O11:=Lib.hid (ownsRow_keep O10.out g9)
 have R9:=Lib.hid (RowIn.own o9)
 clear o9 g9 HB8 T8 O10 x0 x1 x2 x3 x4 x5 NT8
 obtain ⟨x0,x1,x2,x3,x4,x5,_⟩:=HB9.out.box
 go_wp2_with fail
 (with_reducible refine (FT8.out _ HB9.out (RowIn.own O11.out)).mono ?_)
 rintro e w10 ⟨rfl,g10⟩
 have HB10:=Lib.hid (HB9.out.below g10)
 have T10:=Lib.hid (T9.out.trans (g10.mono T9.out.size))
 have O12:=Lib.hid (ownsRow_keep O11.out g10)
 have R10:=Lib.hid (R9.out.below g10)
 clear g10 HB9 T9 O11 R9 x0 x1 x2 x3 x4 x5 FT8
 go_wp2_with fail
 (with_reducible refine (same21_self (noteM m last left) _ _ _ (RowIn.own O12.out) R10.out (by have:=hA8.out;omega)).mono ?_)
 rintro e w11 ⟨rfl,g11⟩
 have T11:=Lib.hid (T10.out.trans (g11.mono T10.out.size))
 have O13:=Lib.hid (ownsRow_keep O12.out g11)
 have HB4':=Lib.hid HB4.out.bel
 clear g11 HB10 T10 O12 R10 HB4
 have Q1:Hid (∃ xs,w11.ownsRow w4.heap.size 3 1 (.slice a8 n8 c8) n8 xs):=⟨_,by have:=O13.out;rw [HN8.out] at this;exact this⟩
 clear O13
 go_wp2_with fail
 go_loopw [10] (fun i wr=>∃ j:Nat,j≤n8∧i=.int .i64 j∧Below w4.heap.size w4 wr∧(∃ xs,wr.ownsRow w4.heap.size 3 1 (.slice a8 n8 c8) n8 xs)) (fun i _=>n8 - (intOf i).toNat)
 case atStart=>exact ⟨0,by omega,rfl,T11.out,Q1.out⟩
 case round =>
  obtain ⟨wi,rfl⟩:∃ wi:World,wi=wr:=⟨_,rfl⟩
  obtain ⟨j,hj,rfl,hb,⟨xs,h1⟩⟩:=hrel
  by_cases hjn:j<n8
  · have hjI:(j:Int)<(n8:Int):=by omega
    have hj0:(0:Int)≤(j:Int):=by omega
    obtain ⟨g,c1',e⟩:=ownsRow_pos h1 (by omega)
    simp only [Value.slice.injEq,true_and] at e
    obtain ⟨rfl,rfl⟩:=e
    have hg1:=(h1.lt g rfl).1
    obtain ⟨u,hu⟩:∃ u,xs[j]? = some u:=⟨xs[j]'(by have:=h1.1;omega),List.getElem?_eq_getElem _⟩
    have hc:=(h1.cellAt j (by omega)).trans hu
    have hf:=h1.frozenAt j
    have hcap:n8≤c8:=by
      rcases h1.2 with ⟨e,_⟩ | ⟨g',c',_,e,_,_,hc,_⟩
      · cases e
      · simp only [Value.slice.injEq] at e;omega
    have HFin:Hid (Below w4.heap.size w4 (wi.setCell ⟨g,j,none⟩ (.int .i64 77))∧(∃ xs,(wi.setCell ⟨g,j,none⟩ (.int .i64 77)).ownsRow w4.heap.size 3 1 (.slice (some ⟨g,0,none⟩) n8 c8) n8 xs)) :=
      ⟨hb.setCell (p:=⟨g,j,none⟩) (by simp only;omega) _,⟨_,(h1.stored j (.int .i64 77)).1⟩⟩
    clear h1 hu hb Q1 T11
    go_wp2_with fail
    go_roundw
    case rel=>exact ⟨j+1,by omega,by go_num,HFin.out⟩
    case measure=>simp [intOf] <;> omega
  · have hjI:¬ ((j:Int)<(n8:Int)):=by omega
    have HBi:=Lib.hid hb
    have HW:=Lib.hid (HB4'.out.trans (hb.mono HB4'.out.size))
    clear h1 hb Q1 T11
    go_wp2_with fail
    (with_reducible refine (same21_self last _ _ _ (HRI.out _ HW.out) (R7.out.below HBi.out) (by have:=HN1.out;have:=hS.out.a;omega)).mono ?_)
    rintro e w12 ⟨rfl,g12⟩
    have HW2:=Lib.hid (HW.out.trans (g12.mono HW.out.size))
    clear g12
    go_wp2_with fail
    (with_reducible refine (WK.out _ HW2.out).mono ?_)
    rintro e w13 ⟨rfl,g13⟩
    go_wp2_with fail
    go_ret
    exact ⟨rfl,HW2.out.trans (g13.mono HW2.out.size)⟩
end Go.Proofs
