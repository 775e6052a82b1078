/- Walks: what the laws of layer 21 call: small, none, works. -/
import Derived.Test.YtiimoclbmaggjaaGreatDoorHHrAE
namespace Go.Proofs
open Go.RowKit Go.Lx Go.Md Go.Shelf Go.BigFrame
set_option linter.unusedVariables false
theorem same21_any (l1 l2:List Int) (v1 v2:Value) (w:World) (h1:RowIn w v1 l1) (h2:RowIn w v2 l2) (b1:l1.length≤1000000) (b2:l2.length≤1000000):Calls Tryz.prog 65 #[v1,v2] w (SameP l1 l2 w):=by
 have R1:=Lib.hid (fun (wx:World) (g:Below w.heap.size w wx)=>(h1.below g).len)
 have R2:=Lib.hid (fun (wx:World) (g:Below w.heap.size w wx)=>(h2.below g).len)
 obtain ⟨a1,c1,rfl,hc1,_⟩:=h1.len
 obtain ⟨a2,c2,rfl,hc2,_⟩:=h2.len
 clear h1 h2
 by_cases hl:l1.length=l2.length
 · obtain ⟨n,hn⟩:∃ n,l1.length=n:=⟨_,rfl⟩
   have hn2:l2.length=n:=by omega
   have HN1:=Lib.hid hn
   have HN2:=Lib.hid hn2
   rw [hn] at hc1 b1 ⊢
   rw [hn2] at hc2 ⊢
   clear hl hn hn2
   go_enter Tryz.func65,Tryz.ntmps65
   go_wp2
   go_loopw [5] (fun i wr=>∃ k:Nat,k≤n∧i=.int .i64 k∧Below w.heap.size w wr∧l1.take k=l2.take k) (fun i _=>n - (intOf i).toNat)
   case atStart=>exact ⟨0,by omega,rfl,Below.refl _ _,by simp⟩
   case round =>
    obtain ⟨wo,rfl⟩:∃ wo:World,wo=wr:=⟨_,rfl⟩
    obtain ⟨k,hk,rfl,hb,ht⟩:=hrel
    have HB:=Lib.hid hb
    have HT:=Lib.hid ht
    clear hb ht
    by_cases hlt:k<n
    · have k1:k<l1.length:=by rw [HN1.out];exact hlt
      have k2:k<l2.length:=by rw [HN2.out];exact hlt
      obtain ⟨a1',c1',e1,_,q1⟩:=R1.out wo HB.out
      obtain ⟨a2',c2',e2,_,q2⟩:=R2.out wo HB.out
      obtain ⟨x1,o1,ea1,_,d1⟩:=q1 k k1
      obtain ⟨x2,o2,ea2,_,d2⟩:=q2 k k2
      simp only [Value.slice.injEq] at e1 e2
      obtain ⟨rfl,_,rfl⟩:=e1
      obtain ⟨rfl,_,rfl⟩:=e2
      subst ea1 ea2
      have hI:(k:Int)<(n:Int):=by omega
      have hI0:(0:Int)≤(k:Int):=by omega
      have HS:Hid (∀ b,(l1[k] == l2[k])=b→(b=true→l1.take (k+1)=l2.take (k+1))∧(b=false→l1≠l2)):=fun b hb=>⟨fun ht=>by
          rw [ht] at hb
          rw [List.take_succ_eq_append_getElem k1,List.take_succ_eq_append_getElem k2,HT.out,eq_of_beq hb],fun hf e=>by subst e;rw [hf] at hb;simp at hb⟩
      obtain ⟨y1,hy1⟩:∃ y,l1[k]=y:=⟨_,rfl⟩
      obtain ⟨y2,hy2⟩:∃ y,l2[k]=y:=⟨_,rfl⟩
      rw [hy1] at d1 HS
      rw [hy2] at d2 HS
      clear q1 q2 hy1 hy2 k1 k2
      cases hd:(y1 == y2) with
      | true =>
       have hT:=Lib.hid ((HS.out true hd).1 rfl)
       have hd2:(y1 != y2)=false:=by simp only [bne,hd];rfl
       clear HS
       go_wp2
       go_quiet (fail)
       go_wp2
       go_roundw
       case rel=>exact ⟨k+1,by omega,by go_num,below_drewN HB.out nq,hT.out⟩
       case measure=>simp [intOf] <;> omega
      | false =>
       have hF:=Lib.hid ((HS.out false hd).2 rfl)
       have hd2:(y1 != y2)=true:=by simp only [bne,hd];rfl
       clear HS
       go_wp2
       go_quiet (fail)
       go_wp2
       go_ret
       exact ⟨by rw [decide_eq_false hF.out];rfl,below_drewN HB.out nq⟩
    · have hE:Hid (l1=l2):=Lib.hid (by
        have:=HT.out
        rw [List.take_of_length_le (by have:=HN1.out;omega),List.take_of_length_le (by have:=HN2.out;omega)] at this
        exact this)
      go_wp2
      go_ret
      exact ⟨by rw [decide_eq_true hE.out];rfl,HB.out⟩
 · have hne:Hid (l1≠l2):=Lib.hid (fun e=>hl (by rw [e]))
   have hd:((l1.length:Int) != (l2.length:Int))=true:=by simp only [bne_iff_ne,ne_eq];omega
   clear R1 R2
   go_enter Tryz.func65,Tryz.ntmps65
   go_wp2
   all_goals first
     | (go_ret;exact ⟨by rw [decide_eq_false hne.out];rfl,Below.refl _ _⟩)
     | (exfalso;omega)
structure Sm21 (m:MdlD) (a b:Nat):Prop where
 few:FewP m
 tr:m.trns.length≤40
 vr:m.vers.length≤40
 rg:m.regs.length≤40
 a:a≤60
 b:b≤60
set_option maxHeartbeats 1000000 in
theorem small21_any {Q:Nat→BP} (m:MdlD) (p:Ph) (a1 a2:Option Addr) (n1 c1 n2 c2:Nat) (w:World) (h:Mod Q w m p) (hm:MdlOk m) (hn1:n1≤140737488355328) (hn2:n2≤140737488355328) :
   Calls Tryz.prog 62 #[mdV m p,.slice a1 n1 c1,.slice a2 n2 c2] w fun e w'=>BoolSays (Sm21 m n1 n2) e∧Below w.heap.size w w':=by
 have HB:=Lib.hid (Mb.made h)
 have HF:=Lib.hid (fun wx (g:Mb m p w.heap.size w wx)=>few_any m p wx g.mod hm)
 unfold mdV at HF ⊢
 have b1:=hm.regs
 have b2:=hm.vers
 have b3:=hm.trns
 clear h hm
 by_cases h1:m.trns.length≤40
 · have d1:((m.trns.length:Int)≤40):=by omega
   by_cases h2:m.vers.length≤40
   · have d2:((m.vers.length:Int)≤40):=by omega
     by_cases h3:m.regs.length≤40
     · have d3:((m.regs.length:Int)≤40):=by omega
       by_cases h4:n1≤60
       · have d4:((n1:Int)≤60):=by omega
         by_cases h5:n2≤60
         · have d5:decide ((n2:Int)≤60)=true:=by simp;omega
           go_enter Tryz.func62,Tryz.ntmps62
           go_wp2_with fail
           (with_reducible refine (HF.out _ HB.out).mono ?_)
           rintro e w2 ⟨⟨b,rfl,hs⟩,g2⟩
           have HB2:=Lib.hid (HB.out.below g2)
           obtain ⟨x0,x1,x2,x3,x4,x5,_⟩:=HB2.out.box
           clear g2 HF HB
           have HS:=Lib.hid hs
           clear hs
           cases b
           · go_wp2_with fail
             go_ret
             exact ⟨⟨false,rfl,fun ht=>by cases ht⟩,HB2.out.bel⟩
           · go_wp2_with fail
             go_ret
             exact ⟨⟨true,rfl,fun ht=>⟨HS.out ht,h1,h2,h3,h4,h5⟩⟩,HB2.out.bel⟩
         · have d5:decide ((n2:Int)≤60)=false:=by simp;omega
           go_enter Tryz.func62,Tryz.ntmps62
           go_wp2_with fail
           (with_reducible refine (HF.out _ HB.out).mono ?_)
           rintro e w2 ⟨⟨b,rfl,hs⟩,g2⟩
           have HB2:=Lib.hid (HB.out.below g2)
           obtain ⟨x0,x1,x2,x3,x4,x5,_⟩:=HB2.out.box
           clear g2 HF HB hs
           cases b
           all_goals
             go_wp2_with fail
             go_ret
             exact ⟨⟨false,rfl,fun ht=>by cases ht⟩,HB2.out.bel⟩
       · have d4:¬ ((n1:Int)≤60):=by omega
         go_enter Tryz.func62,Tryz.ntmps62
         go_wp2_with fail
         (with_reducible refine (HF.out _ HB.out).mono ?_)
         rintro e w2 ⟨⟨b,rfl,hs⟩,g2⟩
         have HB2:=Lib.hid (HB.out.below g2)
         obtain ⟨x0,x1,x2,x3,x4,x5,_⟩:=HB2.out.box
         clear g2 HF HB hs
         cases b
         all_goals
           go_wp2_with fail
           go_ret
           exact ⟨⟨false,rfl,fun ht=>by cases ht⟩,HB2.out.bel⟩
     · have d3:¬ ((m.regs.length:Int)≤40):=by omega
       go_enter Tryz.func62,Tryz.ntmps62
       go_wp2_with fail
       (with_reducible refine (HF.out _ HB.out).mono ?_)
       rintro e w2 ⟨⟨b,rfl,hs⟩,g2⟩
       have HB2:=Lib.hid (HB.out.below g2)
       obtain ⟨x0,x1,x2,x3,x4,x5,_⟩:=HB2.out.box
       clear g2 HF HB hs
       cases b
       all_goals
         go_wp2_with fail
         go_ret
         exact ⟨⟨false,rfl,fun ht=>by cases ht⟩,HB2.out.bel⟩
   · have d2:¬ ((m.vers.length:Int)≤40):=by omega
     go_enter Tryz.func62,Tryz.ntmps62
     go_wp2_with fail
     (with_reducible refine (HF.out _ HB.out).mono ?_)
     rintro e w2 ⟨⟨b,rfl,hs⟩,g2⟩
     have HB2:=Lib.hid (HB.out.below g2)
     obtain ⟨x0,x1,x2,x3,x4,x5,_⟩:=HB2.out.box
     clear g2 HF HB hs
     cases b
     all_goals
       go_wp2_with fail
       go_ret
       exact ⟨⟨false,rfl,fun ht=>by cases ht⟩,HB2.out.bel⟩
 · have d1:¬ ((m.trns.length:Int)≤40):=by omega
   go_enter Tryz.func62,Tryz.ntmps62
   go_wp2_with fail
   (with_reducible refine (HF.out _ HB.out).mono ?_)
   rintro e w2 ⟨⟨b,rfl,hs⟩,g2⟩
   have HB2:=Lib.hid (HB.out.below g2)
   obtain ⟨x0,x1,x2,x3,x4,x5,_⟩:=HB2.out.box
   clear g2 HF HB hs
   cases b
   all_goals
     go_wp2_with fail
     go_ret
     exact ⟨⟨false,rfl,fun ht=>by cases ht⟩,HB2.out.bel⟩
set_option maxRecDepth 100000 in
set_option maxHeartbeats 1000000 in
theorem none21_any {Q:Nat→BP} (m:MdlD) (p:Ph) (w:World) (h:Mod Q w m p) (hrl:m.regs.length≤100000) :
   Calls Tryz.prog 16 #[mdV m p] w (RowP (List.replicate m.regs.length (-1)) w):=by
 have HB:=Lib.hid (Mb.made h)
 obtain ⟨iI,hiI,zI0,zI1,zI2⟩:=info_parts info_Num
 have HT:Hid (∀ k,List.replicate (k+1) (-1:Int)=List.replicate k (-1) ++ [-1]):=Lib.hid (fun k=>List.replicate_succ')
 have HN:Hid (∀ k,(List.replicate k (-1:Int)).length=k):=Lib.hid (fun k=>List.length_replicate)
 unfold mdV
 clear h
 go_enter Tryz.func16,Tryz.ntmps16
 go_wp2_with fail
 go_loopw [3,4] (fun o i wr=>∃ k:Nat,k≤m.regs.length∧i=.int .i64 k∧Mb m p w.heap.size w wr∧wr.ownsRow (w.heap.size+1) 3 1 o (List.replicate k (-1:Int)).length (nums (List.replicate k (-1)))) (fun _ i _=>m.regs.length - (intOf i).toNat)
 case atStart=>exact ⟨0,by omega,rfl,HB.out,World.ownsRow_nil _ _ _ _⟩
 case round =>
  obtain ⟨wo,rfl⟩:∃ wo:World,wo=wr:=⟨_,rfl⟩
  obtain ⟨k,hk,rfl,hb,ho⟩:=hrel
  have HB5:=Lib.hid hb
  have HO:=Lib.hid ho
  clear hb HB ho
  obtain ⟨x0,x1,x2,x3,x4,x5,_⟩:=HB5.out.box
  by_cases hlt:k<m.regs.length
  · have hI:(k:Int)<(m.regs.length:Int):=by omega
    have hz5:w.heap.size+1≤wo.heap.size:=HB5.out.box.sl
    go_wp2_with (at_builtin;refine wpList_append_row _ rfl _ _ 31 rfl 3 (w.heap.size+1) iI (.int .i64 0) Tryz.underlying31 hiI zI0 zI1 zI2 rfl _ (List.replicate k (-1)) rfl (HO.out.alloc _) _ [-1] rfl (row1 _ _ _) (by rw [HN.out];simp;omega) (by simp;omega) ?_;intro v4 w4 hown4 hgrow4 hnxt4)
    have HB6:=Lib.hid (HB5.out.low (push_low hz5 HO.out hgrow4))
    go_roundw
    case rel=>exact ⟨k+1,by omega,by go_num,HB6.out,by rw [HT.out];exact hown4⟩
    case measure=>simp [intOf] <;> omega
  · obtain rfl:k=m.regs.length:=by omega
    go_wp2_with fail
    go_ret
    exact ⟨_,rfl,HO.out.mono (by omega),HB5.out.bel⟩
theorem RowIn.fresh' (w:World) (l:List Int) (cs:Array Value) (h:cs.toList=nums l) (n:Nat) (hn:l.length=n) (b:Nat) (hb:w.heap.size=b):RowIn (w.alloc (.cells cs 3)) (.slice (some ⟨b,0,none⟩) n n) l:=by
 subst hb;exact RowIn.fresh w l cs h n hn
theorem same21_self (l:List Int) (v1 v2:Value) (w:World) (h1:RowIn w v1 l) (h2:RowIn w v2 l) (b1:l.length≤1000000):Calls Tryz.prog 65 #[v1,v2] w fun e w'=>e=.returned (.bool true)∧Below w.heap.size w w' :=
 (same21_any l l v1 v2 w h1 h2 b1 b1).mono fun e w' ⟨he,hb⟩=>⟨by rw [he,decide_eq_true rfl],hb⟩
set_option maxRecDepth 100000 in
set_option maxHeartbeats 4000000 in
theorem works21 (w:World) (hT:Tab w):Calls Tryz.prog 17 #[] w fun e w'=>e=.returned (.bool true)∧Below w.heap.size w w':=by
 have E1:noteM doorM [-1,-1,-1] [4,7,1]=[1,4,7]:=by kernel_rfl
 have E2:endsM doorM [1,4,7] 8=([4],true):=by kernel_rfl
 have E3:endsM doorM [-1,-1,-1] 8=([],false):=by kernel_rfl
 have E4:fitsM doorM [1,4,7]=true:=by kernel_rfl
 have E5:fitsM doorM [4,4,7]=false:=by kernel_rfl
 have ND:=Lib.hid (fun (p:Ph) (ev lv:Value) (w1 wx:World) (g:Mb doorM p w1.heap.size w1 wx) (hT:Tab wx) (h1:RowIn wx lv [-1,-1,-1]) (h2:RowIn wx ev [4,7,1])=>note_any doorM p [-1,-1,-1] [4,7,1] lv ev wx g.mod door_ok hT h1 (by decide) h2 (by decide))
 have ED1:=Lib.hid (fun (p:Ph) (lv:Value) (w1 wx:World) (g:Mb doorM p w1.heap.size w1 wx) (hT:Tab wx) (h1:RowIn wx lv [1,4,7])=>ends_any doorM p [1,4,7] lv 8 wx g.mod door_ok hT h1 (by decide) (by decide) (by decide) (by decide))
 have ED2:=Lib.hid (fun (p:Ph) (lv:Value) (w1 wx:World) (g:Mb doorM p w1.heap.size w1 wx) (hT:Tab wx) (h1:RowIn wx lv [-1,-1,-1])=>ends_any doorM p [-1,-1,-1] lv 8 wx g.mod door_ok hT h1 (by decide) (by decide) (by decide) (by decide))
 have FD1:=Lib.hid (fun (p:Ph) (lv:Value) (w1 wx:World) (g:Mb doorM p w1.heap.size w1 wx) (hT:Tab wx) (h1:RowIn wx lv [1,4,7])=>fits_any doorM p [1,4,7] lv wx g.mod door_ok hT h1 (by decide))
 have FD2:=Lib.hid (fun (p:Ph) (lv:Value) (w1 wx:World) (g:Mb doorM p w1.heap.size w1 wx) (hT:Tab wx) (h1:RowIn wx lv [4,4,7])=>fits_any doorM p [4,4,7] lv wx g.mod door_ok hT h1 (by decide))
 rw [E1] at ND
 rw [E4] at FD1
 rw [E5] at FD2
 unfold EndsP at ED1 ED2
 rw [E2] at ED1
 rw [E3] at ED2
 have HTb:=Lib.hid (fun wx (g:Below w.heap.size w wx)=>hT.next g)
 unfold mdV at ND ED1 ED2 FD1 FD2
 clear hT E1 E2 E3 E4 E5
 go_enter Tryz.func17,Tryz.ntmps17
 go_wp2_with fail
 refine (door_any w).mono ?_
 rintro e w1 ⟨p,rfl,hm,g1⟩
 have HG1:=Lib.hid g1
 have HB:=Lib.hid (Mb.made hm)
 unfold mdV
 clear hm g1
 have hgo:Hid (∀ wx,Mb doorM p w1.heap.size w1 wx→Tab wx):=fun wx g=>HTb.out wx (HG1.out.trans (g.bel.mono HG1.out.size))
 go_wp2_with fail
 have HB2:=Lib.hid (HB.out.below (below_al2 _ (.cells #[.int .i64 (-1),.int .i64 (-1),.int .i64 (-1)] 3) (.cells #[.int .i64 4,.int .i64 7,.int .i64 1] 3)))
 refine (ND.out p _ _ w1 _ HB2.out (hgo.out _ HB2.out) ((RowIn.fresh' _ [-1,-1,-1] _ rfl 3 rfl _ (by simp)).below (below_al1 _ _)) (RowIn.fresh' _ [4,7,1] _ rfl 3 rfl _ (by simp))).mono ?_
 rintro e w3 ⟨v2,rfl,o2,g3⟩
 have HB3:=Lib.hid (HB2.out.below g3)
 have R2:=Lib.hid (RowIn.own o2)
 clear o2 g3 HB2 HB ND
 obtain ⟨x0,x1,x2,x3,x4,x5,_⟩:=HB3.out.box
 go_wp2_with fail
 refine (ED1.out p _ w1 _ HB3.out (hgo.out _ HB3.out) R2.out).mono ?_
 rintro e w4 ⟨v3,rfl,o3,g4⟩
 have HB4:=Lib.hid (HB3.out.below g4)
 have R2':=Lib.hid (R2.out.below g4)
 have R3:=Lib.hid (RowIn.own o3)
 clear o3 g4 HB3 R2 x0 x1 x2 x3 x4 x5 ED1
 obtain ⟨x0,x1,x2,x3,x4,x5,_⟩:=HB4.out.box
 go_wp2_with fail
 have HB4':=Lib.hid (HB4.out.below (below_al1 _ (.cells #[.int .i64 (-1),.int .i64 (-1),.int .i64 (-1)] 3)))
 refine (ED2.out p _ w1 _ HB4'.out (hgo.out _ HB4'.out) (RowIn.fresh' _ [-1,-1,-1] _ rfl 3 rfl _ rfl)).mono ?_
 rintro e w5 ⟨v4,rfl,o4,g5⟩
 have HB5:=Lib.hid (HB4'.out.below g5)
 have g45:=below_bx1 g5
 have R2:=Lib.hid (R2'.out.below g45)
 have R3':=Lib.hid (R3.out.below g45)
 clear o4 g5 g45 HB4 HB4' R2' R3 x0 x1 x2 x3 x4 x5 ED2
 obtain ⟨x0,x1,x2,x3,x4,x5,_⟩:=HB5.out.box
 go_wp2_with fail
 refine (same21_self [1,4,7] _ _ _ (R2.out.below (below_al1 _ _)) (RowIn.fresh' _ [1,4,7] _ rfl 3 rfl _ rfl) (by decide)).mono ?_
 rintro e w6 ⟨rfl,g6⟩
 have g56:=below_bx1 g6
 have HB6:=Lib.hid (HB5.out.below g56)
 have R2':=Lib.hid (R2.out.below g56)
 have R3:=Lib.hid (R3'.out.below g56)
 clear g6 g56 HB5 R2 R3' x0 x1 x2 x3 x4 x5
 obtain ⟨x0,x1,x2,x3,x4,x5,_⟩:=HB6.out.box
 go_wp2_with fail
 refine (same21_self [4] _ _ _ (R3.out.below (below_al1 _ _)) (RowIn.fresh' _ [4] _ rfl 1 rfl _ rfl) (by decide)).mono ?_
 rintro e w7 ⟨rfl,g7⟩
 have g67:=below_bx1 g7
 have HB7:=Lib.hid (HB6.out.below g67)
 have R2:=Lib.hid (R2'.out.below g67)
 clear g7 g67 HB6 R2' R3 x0 x1 x2 x3 x4 x5
 obtain ⟨x0,x1,x2,x3,x4,x5,_⟩:=HB7.out.box
 go_wp2_with fail
 refine (FD1.out p _ w1 _ HB7.out (hgo.out _ HB7.out) R2.out).mono ?_
 rintro e w8 ⟨rfl,g8⟩
 have HB8:=Lib.hid (HB7.out.below g8)
 clear g8 HB7 R2 x0 x1 x2 x3 x4 x5
 obtain ⟨x0,x1,x2,x3,x4,x5,_⟩:=HB8.out.box
 go_wp2_with fail
 have HB8':=Lib.hid (HB8.out.below (below_al1 _ (.cells #[.int .i64 4,.int .i64 4,.int .i64 7] 3)))
 refine (FD2.out p _ w1 _ HB8'.out (hgo.out _ HB8'.out) (RowIn.fresh' _ [4,4,7] _ rfl 3 rfl _ rfl)).mono ?_
 rintro e w9 ⟨rfl,g9⟩
 have HB9:=Lib.hid (HB8'.out.below g9)
 clear g9 HB8 HB8' x0 x1 x2 x3 x4 x5
 go_wp2_with fail
 go_ret
 exact ⟨rfl,HG1.out.trans (HB9.out.bel.mono HG1.out.size)⟩
end Go.Proofs

namespace Go.Md
open Go.RowKit Go.Lx Go.Proofs
set_option linter.unusedVariables false
def pickF (m:MdlD) (r:Nat):List Int→Int→Int
 | [],d=>d
 | v :: t,d=>pickF m r t (if stands m v && (rgA m v).toNat == r then v else d)
theorem pick_two (m:MdlD) (r:Nat):∀ l:List Int,(∀ d,pickF m r l d=d)∨∃ c,∀ d,pickF m r l d=c
 | []=>.inl fun _=>rfl
 | v :: t=>by
   cases hv:(stands m v && (rgA m v).toNat == r) with
   | true =>
    right
    exact ⟨pickF m r t v,fun d=>by show pickF m r t (if (stands m v && (rgA m v).toNat == r) then v else d)=_;rw [hv];rfl⟩
   | false =>
    rcases pick_two m r t with h | ⟨c,h⟩
    · left;intro d;show pickF m r t (if (stands m v && (rgA m v).toNat == r) then v else d)=_;rw [hv];exact h d
    · right;exact ⟨c,fun d=>by show pickF m r t (if (stands m v && (rgA m v).toNat == r) then v else d)=_;rw [hv];exact h d⟩
theorem note1_at (m:MdlD) (l:List Int) (v:Int) (r:Nat):(note1 m l v)[r]? = (l[r]?).map fun d=>if stands m v && (rgA m v).toNat == r then v else d:=by
 unfold note1
 cases hs:stands m v with
 | false=>simp
 | true =>
  rw [if_pos rfl,List.getElem?_set]
  by_cases h:(rgA m v).toNat=r
  · rw [if_pos h]
    by_cases hl:(rgA m v).toNat<l.length
    · rw [if_pos hl,List.getElem?_eq_getElem (by omega)];simp [h]
    · rw [if_neg hl,List.getElem?_eq_none (by omega)];rfl
  · rw [if_neg h]
    have:((rgA m v).toNat == r)=false:=by simpa using h
    rw [this];simp
theorem notes_at (m:MdlD) (r:Nat):∀ (vs l:List Int),(vs.foldl (note1 m) l)[r]? = (l[r]?).map (pickF m r vs)
 | [],l=>by
   show l[r]? = _
   have:pickF m r []=id:=by funext d;rfl
   rw [this,Option.map_id];rfl
 | v :: t,l=>by
   rw [List.foldl_cons,notes_at m r t,note1_at,Option.map_map]
   rfl
theorem notes_twice (m:MdlD) (vs l:List Int):vs.foldl (note1 m) (vs.foldl (note1 m) l)=vs.foldl (note1 m) l:=by
 apply List.ext_getElem?
 intro r
 rw [notes_at,notes_at,Option.map_map]
 congr 1
 funext d
 rcases pick_two m r vs with h | ⟨c,h⟩
 · show pickF m r vs (pickF m r vs d)=_;rw [h,h]
 · show pickF m r vs (pickF m r vs d)=_;rw [h,h]
theorem note1_len' (m:MdlD) (l:List Int) (v:Int):(note1 m l v).length=l.length:=by unfold note1;split <;> simp
theorem notes_len' (m:MdlD):∀ (vs l:List Int),(vs.foldl (note1 m) l).length=l.length
 | [],l=>rfl
 | v :: vs,l=>by rw [List.foldl_cons,notes_len' m vs,note1_len']
theorem fitRow_iff {m:MdlD} {l:List Int}:fitRow m l=true↔∀ r (h:r<l.length),mayM m l[r] r=true:=by
 unfold fitRow
 rw [List.all_eq_true]
 constructor
 · intro h r hr
   have:=h r (List.mem_range.2 hr)
   rwa [List.getD_eq_getElem?_getD,List.getElem?_eq_getElem hr] at this
 · intro h r hr
   have hr':=List.mem_range.1 hr
   rw [List.getD_eq_getElem?_getD,List.getElem?_eq_getElem hr']
   exact h r hr'
theorem may_stands {m:MdlD} {v:Int} (h:stands m v=true):mayM m v (rgA m v)=true:=by
 unfold stands at h
 rw [Bool.and_eq_true] at h
 unfold mayM rgA
 rw [if_pos h.1]
 have h2:=h.2
 cases hx:m.vers[v.toNat]? with
 | none=>rw [hx] at h2;cases h2
 | some x=>rw [hx] at h2;simpa using h2
theorem stands_nat {m:MdlD} (h0:riM m=(0,0,0)) {v:Int} (h:stands m v=true):∃ r:Nat,rgA m v=r∧r<m.regs.length:=by
 unfold stands at h
 rw [Bool.and_eq_true] at h
 obtain ⟨k,rfl,hk⟩:=hasV_nat h.1
 have h2:=h.2
 rw [Int.toNat_natCast,List.getElem?_eq_getElem hk] at h2
 have hkd:m.vers[k].kd=1∨m.vers[k].kd=2:=by simpa using h2
 have:=plain_at h0 hk ⟨by omega,by omega⟩
 refine ⟨m.vers[k].rg.toNat,?_,by omega⟩
 unfold rgA
 rw [Int.toNat_natCast,List.getElem?_eq_getElem hk]
 show m.vers[k].rg=_
 omega
theorem pick_fits {m:MdlD} (h0:riM m=(0,0,0)) {r:Nat}:∀ (vs:List Int) (d:Int),mayM m d r=true→mayM m (pickF m r vs d) r=true
 | [],d,h=>h
 | v :: t,d,h=>by
   unfold pickF
   refine pick_fits h0 t _ ?_
   cases hv:(stands m v && (rgA m v).toNat == r) with
   | false=>exact h
   | true =>
    rw [if_pos rfl]
    rw [Bool.and_eq_true,beq_iff_eq] at hv
    obtain ⟨q,hq,_⟩:=stands_nat h0 hv.1
    have:=may_stands hv.1
    rw [hq] at this hv
    have:q=r:=by simpa using hv.2
    subst this;assumption
theorem note_fits {m:MdlD} {last left:List Int} (h:fitsM m last=true):fitsM m (noteM m last left)=true∧noteM m (noteM m last left) left=noteM m last left:=by
 have h':=h
 unfold fitsM at h'
 simp only [Bool.and_eq_true,beq_iff_eq] at h'
 obtain ⟨⟨hz,hl⟩,hf⟩:=h'
 have h0:=riM_ok hz
 have hN:noteM m last left=left.foldl (note1 m) last:=by unfold noteM;rw [if_pos h]
 have h2:fitsM m (noteM m last left)=true:=by
   rw [hN]
   unfold fitsM
   simp only [Bool.and_eq_true,beq_iff_eq]
   refine ⟨⟨hz,by rw [notes_len',hl]⟩,fitRow_iff.2 fun r hr=>?_⟩
   have hr':r<last.length:=by rwa [notes_len'] at hr
   have e:(left.foldl (note1 m) last)[r]=pickF m r left last[r]:=by
     have:=notes_at m r left last
     rw [List.getElem?_eq_getElem hr,List.getElem?_eq_getElem hr'] at this
     simpa using this
   rw [e]
   exact pick_fits h0 left _ (fitRow_iff.1 hf r hr')
 refine ⟨h2,?_⟩
 have e:noteM m (noteM m last left) left=left.foldl (note1 m) (noteM m last left):=by
   rw [noteM,if_pos h2]
 rw [e,hN,notes_twice]
theorem keeps_apart {m:MdlD} (h0:riM m=(0,0,0)) {last:List Int} (hl:last.length=m.regs.length) (hf:fitRow m last=true):∀ (f s:Nat) (hs:s<m.vers.length) (x y:Int),x ∈ keepsF m last f s→y ∈ keepsF m last f s→underM m x y=false
 | 0,s,hs,x,y,h,_=>by cases h
 | f+1,s,hs,x,y,hx,hy=>by
   unfold keepsF at hx hy
   split at hx
   · rename_i ha
     rw [if_pos ha] at hy
     rw [List.mem_flatMap] at hx hy
     obtain ⟨r,hr,hx⟩:=hx
     obtain ⟨r',hr',hy⟩:=hy
     rw [List.mem_filter] at hr hr'
     obtain ⟨q,hq,e,ho⟩:=(sel_mem _ _ _).1 hr.1
     obtain ⟨q',hq',e',ho'⟩:=(sel_mem _ _ _).1 hr'.1
     subst e e'
     obtain ⟨k,hk,e1,_,_,e4⟩:=rem_at h0 hl hf hq hr.2
     obtain ⟨k',hk',e1',_,_,e4'⟩:=rem_at h0 hl hf hq' hr'.2
     rw [e1] at hx
     rw [e1'] at hy
     by_cases hqq:q=q'
     · subst hqq
       obtain rfl:k=k':=by rw [e1] at e1';omega
       exact keeps_apart h0 hl hf f k hk x y hx hy
     · cases hu:underM m x y with
       | false=>rfl
       | true =>
        exfalso
        obtain ⟨a,rfl,ha1,hina⟩:=keeps_in h0 hl hf f k hk x hx
        obtain ⟨b,rfl,hb1,hinb⟩:=keeps_in h0 hl hf f k' hk' y hy
        have hu2:=(under_at h0 ha1).1 hu
        have hkk:=up_trans h0 ha1 hu2.1 hinb
        have a1:arM m k=(s:Int):=by rw [e4];simpa [isOwn] using ho
        have a2:arM m k'=(s:Int):=by rw [e4'];simpa [isOwn] using ho'
        have d1:=dp_succ h0 hk hs a1
        have d2:=dp_succ h0 hk' hs a2
        have:=up_one h0 ha1 hina hkk (by omega)
        subst this
        have r1:=rem_at h0 hl hf hq hr.2
        have r2:=rem_at h0 hl hf hq' hr'.2
        obtain ⟨k1,_,f1,_,g1,_⟩:=r1
        obtain ⟨k2,_,f2,_,g2,_⟩:=r2
        obtain rfl:k=k1:=by rw [e1] at f1;omega
        obtain rfl:k=k2:=by rw [e1'] at f2;omega
        omega
   · rename_i ha
     rw [if_neg ha] at hy
     rw [List.mem_singleton] at hx hy
     subst hx hy
     cases hu:underM m s s with
     | false=>rfl
     | true=>have:=((under_at h0 hs).1 hu).2;omega
theorem keeps_leaf {m:MdlD} (h0:riM m=(0,0,0)) {last:List Int} (hl:last.length=m.regs.length) (hf:fitRow m last=true):∀ (f s:Nat) (hs:s<m.vers.length) (x:Int),x ∈ keepsF m last f s→∀ r ∈ ownM m x,remM m last r=false
 | 0,s,hs,x,h,_,_=>by cases h
 | f+1,s,hs,x,hx,r,hr=>by
   unfold keepsF at hx
   split at hx
   · rw [List.mem_flatMap] at hx
     obtain ⟨r',hr',hx⟩:=hx
     rw [List.mem_filter] at hr'
     obtain ⟨q,hq,e,ho⟩:=(sel_mem _ _ _).1 hr'.1
     subst e
     obtain ⟨k,hk,e1,_⟩:=rem_at h0 hl hf hq hr'.2
     rw [e1] at hx
     exact keeps_leaf h0 hl hf f k hk x hx r hr
   · rename_i ha
     rw [List.mem_singleton] at hx
     subst hx
     cases hm:remM m last r with
     | false=>rfl
     | true=>exact absurd (List.any_eq_true.2 ⟨r,hr,hm⟩) ha
structure LiesP (m:MdlD) (last:List Int) (h:Int) (l:List Int):Prop where
 has:hasV m h=true
 fits:fitsM m last=true
 ne:l≠[]
 vtx:∀ x ∈ l,hasV m x=true
 ins:∀ x ∈ l,inM m x (rgA m h)=true
 apart:∀ x ∈ l,∀ y ∈ l,underM m x y=false
 nodup:l.Nodup
 leaf:kdA m h≠8→∀ x ∈ l,∀ r ∈ ownM m x,remM m last r=false
 le:l.length≤m.vers.length
theorem keeps_some {m:MdlD} (h0:riM m=(0,0,0)) {last:List Int} (hl:last.length=m.regs.length) (hf:fitRow m last=true):∀ (f s:Nat) (hs:s<m.vers.length),65≤deM m s+f→keepsF m last f s≠[]
 | 0,s,hs,hd=>by have:=deep_right h0 hs;omega
 | f+1,s,hs,hd=>by
   unfold keepsF
   split
   · rename_i ha
     obtain ⟨r,hr,hq⟩:=List.any_eq_true.1 ha
     obtain ⟨q,hql,e,ho⟩:=(sel_mem _ _ _).1 hr
     subst e
     obtain ⟨k,hk,e1,_,_,e2⟩:=rem_at h0 hl hf hql hq
     have ho':m.regs[q].own=(s:Int):=by simpa [isOwn] using ho
     have hd2:=dp_succ h0 hk hs (by rw [e2,ho'])
     have hne:=keeps_some h0 hl hf f k hk (by omega)
     intro hnil
     rw [List.flatMap_eq_nil_iff] at hnil
     have:=hnil (q:Int) (List.mem_filter.2 ⟨hr,hq⟩)
     rw [e1] at this
     exact hne this
   · simp
theorem ends_lies {m:MdlD} {last:List Int} {h:Int} (he:(endsM m last h).2=true):LiesP m last h (endsM m last h).1:=by
 unfold endsM at he ⊢
 split at he
 · rename_i hc
   rw [if_pos hc]
   simp only [Bool.and_eq_true,Bool.or_eq_true,beq_iff_eq] at hc
   obtain ⟨⟨⟨hfit,hv⟩,hkd⟩,hrm⟩:=hc
   have h':=hfit
   unfold fitsM at h'
   simp only [Bool.and_eq_true,beq_iff_eq] at h'
   obtain ⟨⟨hz,hl⟩,hf⟩:=h'
   have h0:=riM_ok hz
   obtain ⟨k,rfl,hk⟩:=hasV_nat hv
   have e1:kdA m (k:Int)=m.vers[k].kd:=by unfold kdA;rw [Int.toNat_natCast,List.getElem?_eq_getElem hk]
   have e2:rgA m (k:Int)=m.vers[k].rg:=by unfold rgA;rw [Int.toNat_natCast,List.getElem?_eq_getElem hk]
   obtain ⟨_,hr0,hr1⟩:=plain_at h0 hk ⟨by omega,by omega⟩
   obtain ⟨r,hr⟩:=Int.eq_ofNat_of_zero_le hr0
   rw [e2,hr] at hrm ⊢
   have hrl:r<m.regs.length:=by omega
   obtain ⟨s,hs,es,hskd,hsrg,hsar⟩:=rem_at h0 hl hf hrl hrm
   have hsin:inM m s r=true:=by
     refine in_iff.2 ⟨hasV_at hs,s,ups_self,?_⟩
     rcases ver_at h0 hs with ⟨_,q,_,f1,f2,_⟩ | ⟨hof,_⟩
     · rw [f1];omega
     · have:=point_at h0 hs hof;omega
   have hins:∀ x:Nat,x<m.vers.length→(s:Int) ∈ upsM m x→inM m x r=true:=fun x hx hin=>by
     obtain ⟨_,p,hp,e⟩:=in_iff.1 hsin
     obtain ⟨t,_,rfl⟩:=up_nat h0 hs hp
     exact in_iff.2 ⟨hasV_at hx,t,up_trans h0 hx hin hp,e⟩
   by_cases h8:kdA m (k:Int)=8
   · have h8':(kdA m (k:Int) == 8)=true:=by simpa using h8
     rw [es,h8',if_pos rfl]
     refine ⟨hasV_at hk,hfit,by simp,?_,?_,?_,by simp,fun h=>absurd h8 h,by simp;omega⟩
     · intro x hx;rw [List.mem_singleton] at hx;subst hx;exact hasV_at hs
     · intro x hx;rw [List.mem_singleton] at hx;subst hx;rw [e2,hr];exact hsin
     · intro x hx y hy
       rw [List.mem_singleton] at hx hy
       subst hx hy
       cases hu:underM m s s with
       | false=>rfl
       | true=>have:=((under_at h0 hs).1 hu).2;omega
   · have h8':(kdA m (k:Int) == 8)=false:=by simpa using h8
     rw [es,h8',if_neg (by decide)]
     refine ⟨hasV_at hk,hfit,keeps_some h0 hl hf 65 s hs (by omega),?_,?_,fun x hx y hy=>keeps_apart h0 hl hf 65 s hs x y hx hy,keeps_nodup h0 hl hf 65 s hs,fun _ x hx=>keeps_leaf h0 hl hf 65 s hs x hx,keeps_le h0 hl hf hs⟩
     · intro x hx
       obtain ⟨y,rfl,hy,_⟩:=keeps_in h0 hl hf 65 s hs x hx
       exact hasV_at hy
     · intro x hx
       obtain ⟨y,rfl,hy,hin⟩:=keeps_in h0 hl hf 65 s hs x hx
       rw [e2,hr]
       exact hins y hy hin
 · cases he
end Go.Md
