/- Walks: 'first', 'Right', 'Depth'. -/
import Derived.Test.YtfladiadgkfebaaGreatDoorKMdXY
namespace Go.Proofs
open Go.RowKit Go.Lx Go.Md Go.Shelf
open Lib(hid)
set_option maxRecDepth 100000
set_option maxHeartbeats 0
set_option linter.unusedVariables false
def fK (m:MdlD):Nat->Flt
 | 0=>f1 m | 1=>f2 m | 2=>f3 m | 3=>f4 m | 4=>f5 m | 5=>f6 m | 6=>f7 m | _=>(0,0,0)
theorem fK_fine (m:MdlD):∀ k,Fine (fK m k)
 | 0=>f1_fine m
 | 1=>wrL_is' (by decide)
 | 2=>wrL_is' (by decide)
 | 3=>f4_fine m
 | 4=>wrL_is' (by decide)
 | 5=>wrL_is' (by decide)
 | 6=>wrL_is' (by decide)
 | n+7=>.inl rfl
theorem ri_first {m:MdlD} {k:Nat} (hk:k<7) (h:∀ j,j<k->fK m j=(0,0,0)) (hn:(fK m k).1≠0):riM m=fK m k:=by
 have g:∀ j,j<k->(fK m j).1=0:=fun j hj=>by rw [h j hj]
 have:k=0\/k=1\/k=2\/k=3\/k=4\/k=5\/k=6:=by omega
 unfold riM fst2
 rcases this with rfl | rfl | rfl | rfl | rfl | rfl | rfl
 . rw [if_neg (show (f1 m).1≠0 from hn)];rfl
 . rw [if_pos (show (f1 m).1=0 from g 0 (by omega)),if_neg (show (f2 m).1≠0 from hn)];rfl
 . rw [if_pos (show (f1 m).1=0 from g 0 (by omega)),if_pos (show (f2 m).1=0 from g 1 (by omega)),if_neg (show (f3 m).1≠0 from hn)];rfl
 . rw [if_pos (show (f1 m).1=0 from g 0 (by omega)),if_pos (show (f2 m).1=0 from g 1 (by omega)),if_pos (show (f3 m).1=0 from g 2 (by omega)),if_neg (show (f4 m).1≠0 from hn)];rfl
 . rw [if_pos (show (f1 m).1=0 from g 0 (by omega)),if_pos (show (f2 m).1=0 from g 1 (by omega)),if_pos (show (f3 m).1=0 from g 2 (by omega)),if_pos (show (f4 m).1=0 from g 3 (by omega)),if_neg (show (f5 m).1≠0 from hn)];rfl
 . rw [if_pos (show (f1 m).1=0 from g 0 (by omega)),if_pos (show (f2 m).1=0 from g 1 (by omega)),if_pos (show (f3 m).1=0 from g 2 (by omega)),if_pos (show (f4 m).1=0 from g 3 (by omega)),if_pos (show (f5 m).1=0 from g 4 (by omega)),if_neg (show (f6 m).1≠0 from hn)];rfl
 . rw [if_pos (show (f1 m).1=0 from g 0 (by omega)),if_pos (show (f2 m).1=0 from g 1 (by omega)),if_pos (show (f3 m).1=0 from g 2 (by omega)),if_pos (show (f4 m).1=0 from g 3 (by omega)),if_pos (show (f5 m).1=0 from g 4 (by omega)),if_pos (show (f6 m).1=0 from g 5 (by omega))];rfl
theorem ri_none {m:MdlD} (h:∀ j,j<7->fK m j=(0,0,0)):riM m=(0,0,0) :=
 riM_zero.2 ⟨h 0 (by omega),h 1 (by omega),h 2 (by omega),h 3 (by omega),h 4 (by omega),h 5 (by omega),h 6 (by omega)⟩
theorem mFirst {Q:Nat->BP} (m:MdlD) (p:Ph) (S:Nat) (w:World) (h:Mod Q w m p) (hT:Tab w) (hm:MdlOk m) (hS:S<w.heap.size) (h0:w.cell? ⟨S,0,none⟩=some (.func (.func 60) #[mdV m p] #[])) (h1:w.cell? ⟨S,1,none⟩=some (.func (.func 61) #[mdV m p] #[])) (h2:w.cell? ⟨S,2,none⟩=some (.func (.func 62) #[mdV m p] #[])) (h3:w.cell? ⟨S,3,none⟩=some (.func (.func 63) #[mdV m p] #[])) (h4:w.cell? ⟨S,4,none⟩=some (.func (.func 64) #[mdV m p] #[])) (h5:w.cell? ⟨S,5,none⟩=some (.func (.func 65) #[mdV m p] #[])) (h6:w.cell? ⟨S,6,none⟩=some (.func (.func 66) #[mdV m p] #[])) :
   Calls Tryz.prog 59 #[.slice (some ⟨S,0,none⟩) 7 7] w (FltR (riM m) w):=by
 have HC:=hid (fun wx (hb:Bl w wx)=>(⟨h.below hb,hT.next hb⟩:Mod Q wx m p/\Tab wx))
 have HM:=hid hm
 clear h hm hT
 go_enter Tryz.func59,Tryz.ntmps59
 go_wp2_with fail
 go_loopw [8] (fun i wr=>∃ k:Nat,k<=7/\i=.int .i64 k/\Below (w.heap.size+1) (w.alloc (.cells #[.int .u8 0,.int .i64 0,.int .i64 0] 114)) wr/\Hid (∀ j,j<k->fK m j=(0,0,0))) (fun i _=>7 - (intOf i).toNat)
 case atStart=>exact ⟨0,by omega,rfl,Below.refl _ _,(show Hid _ from fun j hj=>by omega)⟩
 case round =>
  obtain ⟨wo,rfl⟩:=ex1 wr
  obtain ⟨k,hk,rfl,hg,HE⟩:=hrel
  have hgw:Bl w wo:=(below_al1 w _).trans (hg.mono (by omega))
  have hzo:w.heap.size+1<=wo.heap.size:=by have:=hg.size;simpa using this
  have hzo':w.heap.size<wo.heap.size:=hzo
  have hcase:k=0\/k=1\/k=2\/k=3\/k=4\/k=5\/k=6\/k=7:=by omega
  rcases hcase with rfl | rfl | rfl | rfl | rfl | rfl | rfl | rfl
  . have c0:=(hgw.cell (p:=⟨S,0,none⟩) hS).trans h0
    have HD:=hid (mName m p wo (HC.o wo hgw).1 (HC.o wo hgw).2 HM.o)
    have HN:Hid ((fK m 0).1≠0->riM m=fK m 0):=fun hn=>ri_first (by omega) HE.o hn
    have HZ:Hid (Fine (fK m 0)):=fK_fine m 0
    have HJ:Hid (fK m 0=(0,0,0)->∀ j,j<1->fK m j=(0,0,0)):=fun h0 j hj=>by
      by_cases e:j=0
      . rw [e];exact h0
      . exact HE.o j (by omega)
    have HFE:Hid (fK m 0=f1 m):=by unfold Hid;rfl
    rw [<- HFE.o] at HD
    unfold FltR fltV at HD
    generalize fK m 0=f at HD HN HZ HJ HFE
    generalize riM m=R at HN |-
    clear h0 h1 h2 h3 h4 h5 h6 HE
    obtain ⟨a,b,c⟩:=f
    simp only at HD
    go_wp2_with fail
    refine HD.o.mono ?_
    rintro e w2 ⟨rfl,g2⟩
    have g2':Below (w.heap.size+1) wo w2:=g2.mono hzo
    have hz2:w.heap.size<w2.heap.size:=Nat.lt_of_lt_of_le hzo' g2'.size
    have q0:w2.cell? ⟨w.heap.size,0,none⟩=some (.int .u8 0):=((hg.trans g2').cell (p:=⟨w.heap.size,0,none⟩) (by simp)).trans (by simp)
    have q1:w2.cell? ⟨w.heap.size,1,none⟩=some (.int .i64 0):=((hg.trans g2').cell (p:=⟨w.heap.size,1,none⟩) (by simp)).trans (by simp)
    have q2:w2.cell? ⟨w.heap.size,2,none⟩=some (.int .i64 0):=((hg.trans g2').cell (p:=⟨w.heap.size,2,none⟩) (by simp)).trans (by simp)
    have y0:w2.frozen? ⟨w.heap.size,0,none⟩=false:=((hg.trans g2').frozen (p:=⟨w.heap.size,0,none⟩) (by simp)).trans (by simp)
    have y1:w2.frozen? ⟨w.heap.size,1,none⟩=false:=((hg.trans g2').frozen (p:=⟨w.heap.size,1,none⟩) (by simp)).trans (by simp)
    have y2:w2.frozen? ⟨w.heap.size,2,none⟩=false:=((hg.trans g2').frozen (p:=⟨w.heap.size,2,none⟩) (by simp)).trans (by simp)
    by_cases ha:a=0
    . have hf:Hid ((a,b,c)=((0:Nat),(0:Nat),(0:Nat))):=by
        rcases HZ.o with h | h
        . exact h
        . exact absurd ha h.1
      have HJ2:=hid (HJ.o hf.o)
      subst ha
      go_wp2_with fail
      go_roundw
      case rel=>exact ⟨1,by omega,rfl,hg.trans ((g2'.alloc (by have:=g2'.size;omega) _)),HJ2⟩
      case measure=>simp [intOf]
    . have ha1:((a:Int) == 0)=false:=int_ne_lit (m:=0) ha
      have ha2:((a:Int) != 0)=true:=by simp [bne,ha1]
      obtain rfl:=HN.o ha
      clear ha
      go_wp2_with fail
      refine bodyPost_ret (v:=fltV (a,b,c)) (by simp [results,Tryz.results59,go_sem,fltV,q0,q1,q2,hz2]) rfl ⟨rfl,?_⟩
      first
      | exact below_set3 ((hgw.trans (g2'.mono (by omega))).alloc (by omega) _) (Nat.le_refl _) _ _ _
      | exact (below_set3 (hgw.trans (g2'.mono (by omega))) (Nat.le_refl _) _ _ _).alloc (by simp;omega) _
  . have c0:=(hgw.cell (p:=⟨S,1,none⟩) hS).trans h1
    have HD:=hid (mVars m p wo (HC.o wo hgw).1 (HC.o wo hgw).2 HM.o)
    have HN:Hid ((fK m 1).1≠0->riM m=fK m 1):=fun hn=>ri_first (by omega) HE.o hn
    have HZ:Hid (Fine (fK m 1)):=fK_fine m 1
    have HJ:Hid (fK m 1=(0,0,0)->∀ j,j<2->fK m j=(0,0,0)):=fun h0 j hj=>by
      by_cases e:j=1
      . rw [e];exact h0
      . exact HE.o j (by omega)
    have HFE:Hid (fK m 1=f2 m):=by unfold Hid;rfl
    rw [<- HFE.o] at HD
    unfold FltR fltV at HD
    generalize fK m 1=f at HD HN HZ HJ HFE
    generalize riM m=R at HN |-
    clear h0 h1 h2 h3 h4 h5 h6 HE
    obtain ⟨a,b,c⟩:=f
    simp only at HD
    go_wp2_with fail
    refine HD.o.mono ?_
    rintro e w2 ⟨rfl,g2⟩
    have g2':Below (w.heap.size+1) wo w2:=g2.mono hzo
    have hz2:w.heap.size<w2.heap.size:=Nat.lt_of_lt_of_le hzo' g2'.size
    have q0:w2.cell? ⟨w.heap.size,0,none⟩=some (.int .u8 0):=((hg.trans g2').cell (p:=⟨w.heap.size,0,none⟩) (by simp)).trans (by simp)
    have q1:w2.cell? ⟨w.heap.size,1,none⟩=some (.int .i64 0):=((hg.trans g2').cell (p:=⟨w.heap.size,1,none⟩) (by simp)).trans (by simp)
    have q2:w2.cell? ⟨w.heap.size,2,none⟩=some (.int .i64 0):=((hg.trans g2').cell (p:=⟨w.heap.size,2,none⟩) (by simp)).trans (by simp)
    have y0:w2.frozen? ⟨w.heap.size,0,none⟩=false:=((hg.trans g2').frozen (p:=⟨w.heap.size,0,none⟩) (by simp)).trans (by simp)
    have y1:w2.frozen? ⟨w.heap.size,1,none⟩=false:=((hg.trans g2').frozen (p:=⟨w.heap.size,1,none⟩) (by simp)).trans (by simp)
    have y2:w2.frozen? ⟨w.heap.size,2,none⟩=false:=((hg.trans g2').frozen (p:=⟨w.heap.size,2,none⟩) (by simp)).trans (by simp)
    by_cases ha:a=0
    . have hf:Hid ((a,b,c)=((0:Nat),(0:Nat),(0:Nat))):=by
        rcases HZ.o with h | h
        . exact h
        . exact absurd ha h.1
      have HJ2:=hid (HJ.o hf.o)
      subst ha
      go_wp2_with fail
      go_roundw
      case rel=>exact ⟨2,by omega,rfl,hg.trans ((g2'.alloc (by have:=g2'.size;omega) _)),HJ2⟩
      case measure=>simp [intOf]
    . have ha1:((a:Int) == 0)=false:=int_ne_lit (m:=0) ha
      have ha2:((a:Int) != 0)=true:=by simp [bne,ha1]
      obtain rfl:=HN.o ha
      clear ha
      go_wp2_with fail
      refine bodyPost_ret (v:=fltV (a,b,c)) (by simp [results,Tryz.results59,go_sem,fltV,q0,q1,q2,hz2]) rfl ⟨rfl,?_⟩
      first
      | exact below_set3 ((hgw.trans (g2'.mono (by omega))).alloc (by omega) _) (Nat.le_refl _) _ _ _
      | exact (below_set3 (hgw.trans (g2'.mono (by omega))) (Nat.le_refl _) _ _ _).alloc (by simp;omega) _
  . have c0:=(hgw.cell (p:=⟨S,2,none⟩) hS).trans h2
    have HD:=hid (mSignals m p wo (HC.o wo hgw).1 (HC.o wo hgw).2 HM.o)
    have HN:Hid ((fK m 2).1≠0->riM m=fK m 2):=fun hn=>ri_first (by omega) HE.o hn
    have HZ:Hid (Fine (fK m 2)):=fK_fine m 2
    have HJ:Hid (fK m 2=(0,0,0)->∀ j,j<3->fK m j=(0,0,0)):=fun h0 j hj=>by
      by_cases e:j=2
      . rw [e];exact h0
      . exact HE.o j (by omega)
    have HFE:Hid (fK m 2=f3 m):=by unfold Hid;rfl
    rw [<- HFE.o] at HD
    unfold FltR fltV at HD
    generalize fK m 2=f at HD HN HZ HJ HFE
    generalize riM m=R at HN |-
    clear h0 h1 h2 h3 h4 h5 h6 HE
    obtain ⟨a,b,c⟩:=f
    simp only at HD
    go_wp2_with fail
    refine HD.o.mono ?_
    rintro e w2 ⟨rfl,g2⟩
    have g2':Below (w.heap.size+1) wo w2:=g2.mono hzo
    have hz2:w.heap.size<w2.heap.size:=Nat.lt_of_lt_of_le hzo' g2'.size
    have q0:w2.cell? ⟨w.heap.size,0,none⟩=some (.int .u8 0):=((hg.trans g2').cell (p:=⟨w.heap.size,0,none⟩) (by simp)).trans (by simp)
    have q1:w2.cell? ⟨w.heap.size,1,none⟩=some (.int .i64 0):=((hg.trans g2').cell (p:=⟨w.heap.size,1,none⟩) (by simp)).trans (by simp)
    have q2:w2.cell? ⟨w.heap.size,2,none⟩=some (.int .i64 0):=((hg.trans g2').cell (p:=⟨w.heap.size,2,none⟩) (by simp)).trans (by simp)
    have y0:w2.frozen? ⟨w.heap.size,0,none⟩=false:=((hg.trans g2').frozen (p:=⟨w.heap.size,0,none⟩) (by simp)).trans (by simp)
    have y1:w2.frozen? ⟨w.heap.size,1,none⟩=false:=((hg.trans g2').frozen (p:=⟨w.heap.size,1,none⟩) (by simp)).trans (by simp)
    have y2:w2.frozen? ⟨w.heap.size,2,none⟩=false:=((hg.trans g2').frozen (p:=⟨w.heap.size,2,none⟩) (by simp)).trans (by simp)
    by_cases ha:a=0
    . have hf:Hid ((a,b,c)=((0:Nat),(0:Nat),(0:Nat))):=by
        rcases HZ.o with h | h
        . exact h
        . exact absurd ha h.1
      have HJ2:=hid (HJ.o hf.o)
      subst ha
      go_wp2_with fail
      go_roundw
      case rel=>exact ⟨3,by omega,rfl,hg.trans ((g2'.alloc (by have:=g2'.size;omega) _)),HJ2⟩
      case measure=>simp [intOf]
    . have ha1:((a:Int) == 0)=false:=int_ne_lit (m:=0) ha
      have ha2:((a:Int) != 0)=true:=by simp [bne,ha1]
      obtain rfl:=HN.o ha
      clear ha
      go_wp2_with fail
      refine bodyPost_ret (v:=fltV (a,b,c)) (by simp [results,Tryz.results59,go_sem,fltV,q0,q1,q2,hz2]) rfl ⟨rfl,?_⟩
      first
      | exact below_set3 ((hgw.trans (g2'.mono (by omega))).alloc (by omega) _) (Nat.le_refl _) _ _ _
      | exact (below_set3 (hgw.trans (g2'.mono (by omega))) (Nat.le_refl _) _ _ _).alloc (by simp;omega) _
  . have c0:=(hgw.cell (p:=⟨S,3,none⟩) hS).trans h3
    have HD:=hid (mRegions m p wo (HC.o wo hgw).1 (HC.o wo hgw).2 HM.o)
    have HN:Hid ((fK m 3).1≠0->riM m=fK m 3):=fun hn=>ri_first (by omega) HE.o hn
    have HZ:Hid (Fine (fK m 3)):=fK_fine m 3
    have HJ:Hid (fK m 3=(0,0,0)->∀ j,j<4->fK m j=(0,0,0)):=fun h0 j hj=>by
      by_cases e:j=3
      . rw [e];exact h0
      . exact HE.o j (by omega)
    have HFE:Hid (fK m 3=f4 m):=by unfold Hid;rfl
    rw [<- HFE.o] at HD
    unfold FltR fltV at HD
    generalize fK m 3=f at HD HN HZ HJ HFE
    generalize riM m=R at HN |-
    clear h0 h1 h2 h3 h4 h5 h6 HE
    obtain ⟨a,b,c⟩:=f
    simp only at HD
    go_wp2_with fail
    refine HD.o.mono ?_
    rintro e w2 ⟨rfl,g2⟩
    have g2':Below (w.heap.size+1) wo w2:=g2.mono hzo
    have hz2:w.heap.size<w2.heap.size:=Nat.lt_of_lt_of_le hzo' g2'.size
    have q0:w2.cell? ⟨w.heap.size,0,none⟩=some (.int .u8 0):=((hg.trans g2').cell (p:=⟨w.heap.size,0,none⟩) (by simp)).trans (by simp)
    have q1:w2.cell? ⟨w.heap.size,1,none⟩=some (.int .i64 0):=((hg.trans g2').cell (p:=⟨w.heap.size,1,none⟩) (by simp)).trans (by simp)
    have q2:w2.cell? ⟨w.heap.size,2,none⟩=some (.int .i64 0):=((hg.trans g2').cell (p:=⟨w.heap.size,2,none⟩) (by simp)).trans (by simp)
    have y0:w2.frozen? ⟨w.heap.size,0,none⟩=false:=((hg.trans g2').frozen (p:=⟨w.heap.size,0,none⟩) (by simp)).trans (by simp)
    have y1:w2.frozen? ⟨w.heap.size,1,none⟩=false:=((hg.trans g2').frozen (p:=⟨w.heap.size,1,none⟩) (by simp)).trans (by simp)
    have y2:w2.frozen? ⟨w.heap.size,2,none⟩=false:=((hg.trans g2').frozen (p:=⟨w.heap.size,2,none⟩) (by simp)).trans (by simp)
    by_cases ha:a=0
    . have hf:Hid ((a,b,c)=((0:Nat),(0:Nat),(0:Nat))):=by
        rcases HZ.o with h | h
        . exact h
        . exact absurd ha h.1
      have HJ2:=hid (HJ.o hf.o)
      subst ha
      go_wp2_with fail
      go_roundw
      case rel=>exact ⟨4,by omega,rfl,hg.trans ((g2'.alloc (by have:=g2'.size;omega) _)),HJ2⟩
      case measure=>simp [intOf]
    . have ha1:((a:Int) == 0)=false:=int_ne_lit (m:=0) ha
      have ha2:((a:Int) != 0)=true:=by simp [bne,ha1]
      obtain rfl:=HN.o ha
      clear ha
      go_wp2_with fail
      refine bodyPost_ret (v:=fltV (a,b,c)) (by simp [results,Tryz.results59,go_sem,fltV,q0,q1,q2,hz2]) rfl ⟨rfl,?_⟩
      first
      | exact below_set3 ((hgw.trans (g2'.mono (by omega))).alloc (by omega) _) (Nat.le_refl _) _ _ _
      | exact (below_set3 (hgw.trans (g2'.mono (by omega))) (Nat.le_refl _) _ _ _).alloc (by simp;omega) _
  . have c0:=(hgw.cell (p:=⟨S,4,none⟩) hS).trans h4
    have HD:=hid (mVertices m p wo (HC.o wo hgw).1 (HC.o wo hgw).2 HM.o)
    have HN:Hid ((fK m 4).1≠0->riM m=fK m 4):=fun hn=>ri_first (by omega) HE.o hn
    have HZ:Hid (Fine (fK m 4)):=fK_fine m 4
    have HJ:Hid (fK m 4=(0,0,0)->∀ j,j<5->fK m j=(0,0,0)):=fun h0 j hj=>by
      by_cases e:j=4
      . rw [e];exact h0
      . exact HE.o j (by omega)
    have HFE:Hid (fK m 4=f5 m):=by unfold Hid;rfl
    rw [<- HFE.o] at HD
    unfold FltR fltV at HD
    generalize fK m 4=f at HD HN HZ HJ HFE
    generalize riM m=R at HN |-
    clear h0 h1 h2 h3 h4 h5 h6 HE
    obtain ⟨a,b,c⟩:=f
    simp only at HD
    go_wp2_with fail
    refine HD.o.mono ?_
    rintro e w2 ⟨rfl,g2⟩
    have g2':Below (w.heap.size+1) wo w2:=g2.mono hzo
    have hz2:w.heap.size<w2.heap.size:=Nat.lt_of_lt_of_le hzo' g2'.size
    have q0:w2.cell? ⟨w.heap.size,0,none⟩=some (.int .u8 0):=((hg.trans g2').cell (p:=⟨w.heap.size,0,none⟩) (by simp)).trans (by simp)
    have q1:w2.cell? ⟨w.heap.size,1,none⟩=some (.int .i64 0):=((hg.trans g2').cell (p:=⟨w.heap.size,1,none⟩) (by simp)).trans (by simp)
    have q2:w2.cell? ⟨w.heap.size,2,none⟩=some (.int .i64 0):=((hg.trans g2').cell (p:=⟨w.heap.size,2,none⟩) (by simp)).trans (by simp)
    have y0:w2.frozen? ⟨w.heap.size,0,none⟩=false:=((hg.trans g2').frozen (p:=⟨w.heap.size,0,none⟩) (by simp)).trans (by simp)
    have y1:w2.frozen? ⟨w.heap.size,1,none⟩=false:=((hg.trans g2').frozen (p:=⟨w.heap.size,1,none⟩) (by simp)).trans (by simp)
    have y2:w2.frozen? ⟨w.heap.size,2,none⟩=false:=((hg.trans g2').frozen (p:=⟨w.heap.size,2,none⟩) (by simp)).trans (by simp)
    by_cases ha:a=0
    . have hf:Hid ((a,b,c)=((0:Nat),(0:Nat),(0:Nat))):=by
        rcases HZ.o with h | h
        . exact h
        . exact absurd ha h.1
      have HJ2:=hid (HJ.o hf.o)
      subst ha
      go_wp2_with fail
      go_roundw
      case rel=>exact ⟨5,by omega,rfl,hg.trans ((g2'.alloc (by have:=g2'.size;omega) _)),HJ2⟩
      case measure=>simp [intOf]
    . have ha1:((a:Int) == 0)=false:=int_ne_lit (m:=0) ha
      have ha2:((a:Int) != 0)=true:=by simp [bne,ha1]
      obtain rfl:=HN.o ha
      clear ha
      go_wp2_with fail
      refine bodyPost_ret (v:=fltV (a,b,c)) (by simp [results,Tryz.results59,go_sem,fltV,q0,q1,q2,hz2]) rfl ⟨rfl,?_⟩
      first
      | exact below_set3 ((hgw.trans (g2'.mono (by omega))).alloc (by omega) _) (Nat.le_refl _) _ _ _
      | exact (below_set3 (hgw.trans (g2'.mono (by omega))) (Nat.le_refl _) _ _ _).alloc (by simp;omega) _
  . have c0:=(hgw.cell (p:=⟨S,5,none⟩) hS).trans h5
    have hU:UpOk m:=upOk (HE.o 3 (by omega)) (HE.o 4 (by omega))
    have HD:=hid (mDeep m p wo (HC.o wo hgw).1 (HC.o wo hgw).2 HM.o hU)
    clear hU
    have HN:Hid ((fK m 5).1≠0->riM m=fK m 5):=fun hn=>ri_first (by omega) HE.o hn
    have HZ:Hid (Fine (fK m 5)):=fK_fine m 5
    have HJ:Hid (fK m 5=(0,0,0)->∀ j,j<6->fK m j=(0,0,0)):=fun h0 j hj=>by
      by_cases e:j=5
      . rw [e];exact h0
      . exact HE.o j (by omega)
    have HFE:Hid (fK m 5=f6 m):=by unfold Hid;rfl
    rw [<- HFE.o] at HD
    unfold FltR fltV at HD
    generalize fK m 5=f at HD HN HZ HJ HFE
    generalize riM m=R at HN |-
    clear h0 h1 h2 h3 h4 h5 h6 HE
    obtain ⟨a,b,c⟩:=f
    simp only at HD
    go_wp2_with fail
    refine HD.o.mono ?_
    rintro e w2 ⟨rfl,g2⟩
    have g2':Below (w.heap.size+1) wo w2:=g2.mono hzo
    have hz2:w.heap.size<w2.heap.size:=Nat.lt_of_lt_of_le hzo' g2'.size
    have q0:w2.cell? ⟨w.heap.size,0,none⟩=some (.int .u8 0):=((hg.trans g2').cell (p:=⟨w.heap.size,0,none⟩) (by simp)).trans (by simp)
    have q1:w2.cell? ⟨w.heap.size,1,none⟩=some (.int .i64 0):=((hg.trans g2').cell (p:=⟨w.heap.size,1,none⟩) (by simp)).trans (by simp)
    have q2:w2.cell? ⟨w.heap.size,2,none⟩=some (.int .i64 0):=((hg.trans g2').cell (p:=⟨w.heap.size,2,none⟩) (by simp)).trans (by simp)
    have y0:w2.frozen? ⟨w.heap.size,0,none⟩=false:=((hg.trans g2').frozen (p:=⟨w.heap.size,0,none⟩) (by simp)).trans (by simp)
    have y1:w2.frozen? ⟨w.heap.size,1,none⟩=false:=((hg.trans g2').frozen (p:=⟨w.heap.size,1,none⟩) (by simp)).trans (by simp)
    have y2:w2.frozen? ⟨w.heap.size,2,none⟩=false:=((hg.trans g2').frozen (p:=⟨w.heap.size,2,none⟩) (by simp)).trans (by simp)
    by_cases ha:a=0
    . have hf:Hid ((a,b,c)=((0:Nat),(0:Nat),(0:Nat))):=by
        rcases HZ.o with h | h
        . exact h
        . exact absurd ha h.1
      have HJ2:=hid (HJ.o hf.o)
      subst ha
      go_wp2_with fail
      go_roundw
      case rel=>exact ⟨6,by omega,rfl,hg.trans ((g2'.alloc (by have:=g2'.size;omega) _)),HJ2⟩
      case measure=>simp [intOf]
    . have ha1:((a:Int) == 0)=false:=int_ne_lit (m:=0) ha
      have ha2:((a:Int) != 0)=true:=by simp [bne,ha1]
      obtain rfl:=HN.o ha
      clear ha
      go_wp2_with fail
      refine bodyPost_ret (v:=fltV (a,b,c)) (by simp [results,Tryz.results59,go_sem,fltV,q0,q1,q2,hz2]) rfl ⟨rfl,?_⟩
      first
      | exact below_set3 ((hgw.trans (g2'.mono (by omega))).alloc (by omega) _) (Nat.le_refl _) _ _ _
      | exact (below_set3 (hgw.trans (g2'.mono (by omega))) (Nat.le_refl _) _ _ _).alloc (by simp;omega) _
  . have c0:=(hgw.cell (p:=⟨S,6,none⟩) hS).trans h6
    have HD:=hid (mWays m p wo (HC.o wo hgw).1 (HC.o wo hgw).2 HM.o)
    have HN:Hid ((fK m 6).1≠0->riM m=fK m 6):=fun hn=>ri_first (by omega) HE.o hn
    have HZ:Hid (Fine (fK m 6)):=fK_fine m 6
    have HJ:Hid (fK m 6=(0,0,0)->∀ j,j<7->fK m j=(0,0,0)):=fun h0 j hj=>by
      by_cases e:j=6
      . rw [e];exact h0
      . exact HE.o j (by omega)
    have HFE:Hid (fK m 6=f7 m):=by unfold Hid;rfl
    rw [<- HFE.o] at HD
    unfold FltR fltV at HD
    generalize fK m 6=f at HD HN HZ HJ HFE
    generalize riM m=R at HN |-
    clear h0 h1 h2 h3 h4 h5 h6 HE
    obtain ⟨a,b,c⟩:=f
    simp only at HD
    go_wp2_with fail
    refine HD.o.mono ?_
    rintro e w2 ⟨rfl,g2⟩
    have g2':Below (w.heap.size+1) wo w2:=g2.mono hzo
    have hz2:w.heap.size<w2.heap.size:=Nat.lt_of_lt_of_le hzo' g2'.size
    have q0:w2.cell? ⟨w.heap.size,0,none⟩=some (.int .u8 0):=((hg.trans g2').cell (p:=⟨w.heap.size,0,none⟩) (by simp)).trans (by simp)
    have q1:w2.cell? ⟨w.heap.size,1,none⟩=some (.int .i64 0):=((hg.trans g2').cell (p:=⟨w.heap.size,1,none⟩) (by simp)).trans (by simp)
    have q2:w2.cell? ⟨w.heap.size,2,none⟩=some (.int .i64 0):=((hg.trans g2').cell (p:=⟨w.heap.size,2,none⟩) (by simp)).trans (by simp)
    have y0:w2.frozen? ⟨w.heap.size,0,none⟩=false:=((hg.trans g2').frozen (p:=⟨w.heap.size,0,none⟩) (by simp)).trans (by simp)
    have y1:w2.frozen? ⟨w.heap.size,1,none⟩=false:=((hg.trans g2').frozen (p:=⟨w.heap.size,1,none⟩) (by simp)).trans (by simp)
    have y2:w2.frozen? ⟨w.heap.size,2,none⟩=false:=((hg.trans g2').frozen (p:=⟨w.heap.size,2,none⟩) (by simp)).trans (by simp)
    by_cases ha:a=0
    . have hf:Hid ((a,b,c)=((0:Nat),(0:Nat),(0:Nat))):=by
        rcases HZ.o with h | h
        . exact h
        . exact absurd ha h.1
      have HJ2:=hid (HJ.o hf.o)
      subst ha
      go_wp2_with fail
      go_roundw
      case rel=>exact ⟨7,by omega,rfl,hg.trans ((g2'.alloc (by have:=g2'.size;omega) _)),HJ2⟩
      case measure=>simp [intOf]
    . have ha1:((a:Int) == 0)=false:=int_ne_lit (m:=0) ha
      have ha2:((a:Int) != 0)=true:=by simp [bne,ha1]
      obtain rfl:=HN.o ha
      clear ha
      go_wp2_with fail
      refine bodyPost_ret (v:=fltV (a,b,c)) (by simp [results,Tryz.results59,go_sem,fltV,q0,q1,q2,hz2]) rfl ⟨rfl,?_⟩
      first
      | exact below_set3 ((hgw.trans (g2'.mono (by omega))).alloc (by omega) _) (Nat.le_refl _) _ _ _
      | exact (below_set3 (hgw.trans (g2'.mono (by omega))) (Nat.le_refl _) _ _ _).alloc (by simp;omega) _
  . have HF:=hid (ri_none (m:=m) HE.o)
    have q0:wo.cell? ⟨w.heap.size,0,none⟩=some (.int .u8 0):=(hg.cell (p:=⟨w.heap.size,0,none⟩) (by simp)).trans (by simp)
    have q1:wo.cell? ⟨w.heap.size,1,none⟩=some (.int .i64 0):=(hg.cell (p:=⟨w.heap.size,1,none⟩) (by simp)).trans (by simp)
    have q2:wo.cell? ⟨w.heap.size,2,none⟩=some (.int .i64 0):=(hg.cell (p:=⟨w.heap.size,2,none⟩) (by simp)).trans (by simp)
    have y0:wo.frozen? ⟨w.heap.size,0,none⟩=false:=(hg.frozen (p:=⟨w.heap.size,0,none⟩) (by simp)).trans (by simp)
    have y1:wo.frozen? ⟨w.heap.size,1,none⟩=false:=(hg.frozen (p:=⟨w.heap.size,1,none⟩) (by simp)).trans (by simp)
    have y2:wo.frozen? ⟨w.heap.size,2,none⟩=false:=(hg.frozen (p:=⟨w.heap.size,2,none⟩) (by simp)).trans (by simp)
    go_wp2_with fail
    refine bodyPost_ret (v:=fltV (0,0,0)) (by simp [results,Tryz.results59,go_sem,fltV,q0,q1,q2]) rfl ⟨by rw [HF.o],?_⟩
    exact below_set3 hgw (Nat.le_refl _) _ _ _
theorem right_any {Q:Nat->BP} (m:MdlD) (p:Ph) (w:World) (h:Mod Q w m p) (hT:Tab w) (hm:MdlOk m) :
   Calls Tryz.prog 31 #[mdV m p] w fun e w'=>e=.returned (.tuple #[.int .u8 (riM m).1,.int .i64 (riM m).2.1,.int .i64 (riM m).2.2])/\Bl w w':=by
 have HC:=hid (fun wx (hb:Bl w wx)=>(⟨h.below hb,hT.next hb⟩:Mod Q wx m p/\Tab wx))
 have HD:=hid (fun wx (hb:Bl w wx) S (hS:S<wx.heap.size)=>mFirst m p S wx (HC.o wx hb).1 (HC.o wx hb).2 hm hS)
 unfold mdV at HD |-
 unfold FltR fltV at HD
 generalize riM m=f at HD |-
 obtain ⟨a,b,c⟩:=f
 simp only at HD |-
 clear h hT hm HC
 go_enter Tryz.func31,Tryz.ntmps31
 go_wp2_with (go_at_call 59;refine (HD.o _ ((below_al1 w _).alloc (by simp) _) _ (by simp) (by simp) (by simp) (by simp) (by simp) (by simp) (by simp) (by simp)).mono ?_;rintro e wx ⟨rfl,g⟩)
 go_quiet (fail)
 go_wp2_with fail
 go_ret3
 refine ⟨rfl,below_drewN ((((below_al1 w _).alloc (by simp) _).trans (g.mono (by simp;omega))).alloc ?_ _) _⟩
 have:=g.size
 simp at this
 omega
theorem cell_blk {w:World} {b:Nat} {cs:Array Value} {T:TypeId} {fr:Nat × Nat} (h:w.heap[b]? = some (.cells cs T fr)) (j:Nat):w.cell? ⟨b,j,none⟩=cs[j]? := by
 unfold World.cell?;simp only [h];rfl
theorem at4_1 (w:World) (a b c d:Obj):((((w.alloc a).alloc b).alloc c).alloc d).heap[w.heap.size+1]? = some b:=by
 rw [Below.heap_alloc _ _ _ (by simp <;> omega),Below.heap_alloc _ _ _ (by simp)];exact alloc2_at w a b
theorem at4_2 (w:World) (a b c d:Obj):((((w.alloc a).alloc b).alloc c).alloc d).heap[w.heap.size+2]? = some c:=by
 rw [Below.heap_alloc _ _ _ (by simp <;> omega)]
 have:=alloc2_at (w.alloc a) b c
 simpa using this
theorem at4_3 (w:World) (a b c d:Obj):((((w.alloc a).alloc b).alloc c).alloc d).heap[w.heap.size+3]? = some d:=by
 have:=alloc2_at ((w.alloc a).alloc b) c d
 simpa using this
def smallM:MdlD where
 nm:=⟨#[77]⟩
 vars:=[]
 evs:=[]
 regs:=[⟨⟨#[]⟩,-1⟩]
 vers:=[⟨⟨#[]⟩,3,0,-1,⟨#[]⟩,⟨#[]⟩,[],⟨#[]⟩⟩,⟨⟨#[115]⟩,1,0,-1,⟨#[]⟩,⟨#[]⟩,[],⟨#[]⟩⟩]
 trns:=[⟨⟨#[]⟩,0,1,[],0,⟨#[]⟩,⟨#[]⟩,1⟩]
def MadeP (m:MdlD) (w:World) (e:Ending) (w':World):Prop:=∃ p,e=.returned (mdV m p)/\Mod anyM w' m p/\Bl w w'
end Go.Proofs
