/- Walks: the law 'HistoryEnds'. -/
import Derived.Test.YtiimoclbmaggjaaGreatDoorHHsB
namespace Go.Proofs
open Go.RowKit Go.Lx Go.Md Go.Shelf Go.BigFrame Go.Rgi
set_option linter.unusedVariables false
theorem below_chain {w a b:World} (h:Below w.heap.size w a) (g:Below a.heap.size a b):Below w.heap.size w b:=h.trans (g.mono h.size)
set_option maxRecDepth 100000 in
set_option maxHeartbeats 8000000 in
theorem historyEnds_any {Q:Nat→BP} (m:MdlD) (p:Ph) (last:List Int) (lv:Value) (h:Int) (w:World) (h1:Mod Q w m p) (hm:MdlOk m) (hT:Tab w) (hr:RowIn w lv last) (hl:last.length≤140737488355328) :
   Calls Tryz.prog 10 #[mdV m p,lv,.int .i64 h] w fun e w'=>e=.returned (.bool true)∧Below w.heap.size w w':=by
 obtain ⟨a1,c1,rfl,_,_⟩:=hr.len
 have HB:=Lib.hid (Mb.made h1)
 have SM:=Lib.hid (fun wx (g:Mb m p w.heap.size w wx)=>small21_any m p a1 none last.length c1 0 0 wx g.mod hm hl (by omega))
 have WK:=Lib.hid (fun wx (g:Below w.heap.size w wx)=>works21 wx (hT.next g))
 have ET:=Lib.hid (fun (hs:Sm21 m last.length 0) wx (g:Mb m p w.heap.size w wx)=>ends_any m p last (.slice a1 last.length c1) h wx g.mod hm (hT.next g.bel) (hr.below g.bel) (by have:=hs.a;omega) (by have:=hs.rg;omega) (by have:=hs.vr;omega) (by have:=hs.tr;omega))
 have FT:=Lib.hid (fun (hs:Sm21 m last.length 0) wx (g:Mb m p w.heap.size w wx)=>fits_any m p last (.slice a1 last.length c1) wx g.mod hm (hT.next g.bel) (hr.below g.bel) (by have:=hs.a;omega))
 have RF:=Lib.hid (fun (hs:Sml m) wx (g:Mb m p w.heap.size w wx)=>ref_any m p wx g.mod hs)
 have RE:=Lib.hid (fun (hs:Sm21 m last.length 0) (pr:Ph) wx (g:Mb m p w.heap.size w wx) (hx:Mod anyM wx m pr)=>rends21_any m pr last (.slice a1 last.length c1) h wx hx hm (hr.below g.bel) (by have:=hs.rg;omega) (by have:=hs.vr;omega) (by have:=hs.a;omega))
 have RT:=Lib.hid (fun (hs:Sm21 m last.length 0) (pr:Ph) wx (g:Mb m p w.heap.size w wx) (hx:Mod anyM wx m pr)=>rfits21_any m pr last (.slice a1 last.length c1) wx hx hm (hr.below g.bel) (by have:=hs.a;omega))
 have HEl:Hid (Sm21 m last.length 0→(endsM m last h).1.length≤1000):=Lib.hid (fun hs=>by
   cases he:(endsM m last h).2 with
   | true=>have:=(ends_lies he).le;have:=hs.vr;omega
   | false =>
    unfold endsM at he ⊢
    split at he
    · cases he
    · rename_i hc;rw [if_neg hc];simp)
 unfold EndsP at ET RE
 generalize endsM m last h=en at ET RE HEl
 generalize fitsM m last=fb at FT RT
 obtain ⟨el,eb⟩:=en
 unfold mdV at SM ET FT RF RE RT ⊢
 dsimp only at ET RE HEl
 obtain ⟨n1,hn1⟩:∃ n,last.length=n:=⟨_,rfl⟩
 rw [hn1] at SM ET FT RE RT HEl ⊢
 clear h1 hm hT hr hn1 hl
 go_enter Tryz.func10,Tryz.ntmps10
 go_wp2_with fail
 (with_reducible refine (SM.out _ HB.out).mono ?_)
 rintro e w3 ⟨⟨b1,rfl,s1⟩,g3⟩
 have HB3:=Lib.hid (HB.out.below g3)
 have HSt:=Lib.hid s1
 clear s1 g3 HB SM
 cases b1
 · go_wp2_with fail
   (with_reducible refine (WK.out _ HB3.out.bel).mono ?_)
   rintro e w4 ⟨rfl,g4⟩
   go_wp2_with fail
   go_ret
   exact ⟨rfl,(HB3.out.below g4).bel⟩
 have hS:=Lib.hid (HSt.out rfl)
 have hs:=Lib.hid (few_sml hS.out.few)
 have hel:=HEl.out hS.out
 have ET':=Lib.hid (ET.out hS.out)
 have FT':=Lib.hid (FT.out hS.out)
 have RE':=Lib.hid (RE.out hS.out)
 have RT':=Lib.hid (RT.out hS.out)
 obtain ⟨x0,x1,x2,x3,x4,x5,_⟩:=HB3.out.box
 clear HSt ET FT RE RT hS HEl
 go_wp2_with fail
 (with_reducible refine (RF.out hs.out _ HB3.out).mono ?_)
 rintro e w4 ⟨pr,rfl,hmr,g4⟩
 have HB4:=Lib.hid (HB3.out.below g4)
 have HR5:=Lib.hid (Mb.madeT hmr 60)
 have HB5:=Lib.hid (HB4.out.below (below_al1 w4 (.cells #[.string m.nm,.slice pr.a1 m.vars.length pr.c1,.slice pr.a2 m.evs.length pr.c2,.slice pr.a3 m.regs.length pr.c3,.slice pr.a4 m.vers.length pr.c4,.slice pr.a5 m.trns.length pr.c5] 60)))
 clear g4 hmr x0 x1 x2 x3 x4 x5 HB3 HB4 RF hs
 unfold mdV
 go_wp2_with fail
 (with_reducible refine (RE'.out pr _ HB5.out HR5.out.mod.any).mono ?_)
 rintro e w6 ⟨v8,rfl,o8,g6⟩
 have HB6:=Lib.hid (HB5.out.below g6)
 have HR6:=Lib.hid (HR5.out.below g6)
 have R8:=Lib.hid (RowIn.own o8)
 clear g6 o8 HB5 HR5 RE'
 go_wp2_with fail
 go_loopw [10] (fun i wr=>∃ k:Nat,k≤2∧i=.int .i64 k∧Below w6.heap.size w6 wr) (fun i _=>2 - (intOf i).toNat)
 case atStart=>exact ⟨0,by omega,rfl,Below.refl _ _⟩
 case round =>
  obtain ⟨wo,rfl⟩:∃ wo:World,wo=wr:=⟨_,rfl⟩
  obtain ⟨k,hk,rfl,hb⟩:=hrel
  have HBo:=Lib.hid hb
  clear hb
  by_cases hlt:k<2
  · have hI:(k:Int)<2:=by omega
    have HM6:=Lib.hid (HB6.out.below HBo.out)
    obtain ⟨x0,x1,x2,x3,x4,x5,_⟩:=HM6.out.box
    go_wp2_with fail
    (with_reducible refine (ET'.out _ HM6.out).mono ?_)
    rintro e w7 ⟨v11,rfl,o11,g7⟩
    have HB7:=Lib.hid (below_chain HBo.out g7)
    have O11:=Lib.hid o11
    clear g7 o11 x0 x1 x2 x3 x4 x5 HM6
    go_wp2_with fail
    (with_reducible refine (same21_self el _ _ _ (RowIn.own O11.out) (R8.out.below HB7.out) (by omega)).mono ?_)
    rintro e w8 ⟨rfl,g8⟩
    have HB8:=Lib.hid (below_chain HB7.out g8)
    have O12:=Lib.hid (ownsRow_keep O11.out g8)
    clear g8 HB7 O11
    obtain ⟨a11,c11,rfl⟩:=ownsRow_slice O12.out
    obtain ⟨n11,hn11⟩:∃ n,el.length=n:=⟨_,rfl⟩
    have Q1:Hid (∃ xs,w8.ownsRow wo.heap.size 3 1 (.slice a11 n11 c11) n11 xs):=⟨_,by have:=O12.out;rw [hn11] at this;exact this⟩
    have hn11b:n11≤1000:=by rw [← hn11];exact hel
    have hzo:w6.heap.size≤wo.heap.size:=HBo.out.size
    rw [hn11]
    clear hn11 O12
    cases eb
    all_goals
      go_wp2_with fail
      go_loopw [13] (fun i wr=>∃ j:Nat,j≤n11∧i=.int .i64 j∧Below w6.heap.size w6 wr∧(∃ xs,wr.ownsRow wo.heap.size 3 1 (.slice a11 n11 c11) n11 xs)) (fun i _=>n11 - (intOf i).toNat)
      case atStart=>exact ⟨0,by omega,rfl,HB8.out,Q1.out⟩
      case round =>
       obtain ⟨wi,rfl⟩:∃ wi:World,wi=wr:=⟨_,rfl⟩
       obtain ⟨j,hj,rfl,hb,⟨xs,h1⟩⟩:=hrel
       by_cases hjn:j<n11
       · have hjI:(j:Int)<(n11:Int):=by omega
         have hj0:(0:Int)≤(j:Int):=by omega
         obtain ⟨g,c1',e⟩:=ownsRow_pos h1 (by omega)
         simp only [Value.slice.injEq,true_and] at e
         obtain ⟨rfl,rfl⟩:=e
         have hg1:=(h1.lt g rfl).1
         obtain ⟨u,hu⟩:∃ u,xs[j]? = some u:=⟨xs[j]'(by have:=h1.1;omega),List.getElem?_eq_getElem _⟩
         have hc:=(h1.cellAt j (by omega)).trans hu
         have hf:=h1.frozenAt j
         have hcap:n11≤c11:=by
           rcases h1.2 with ⟨e,_⟩ | ⟨g',c',_,e,_,_,hc,_⟩
           · cases e
           · simp only [Value.slice.injEq] at e;omega
         have HFin:Hid (Below w6.heap.size w6 (wi.setCell ⟨g,j,none⟩ (.int .i64 99))∧(∃ xs,(wi.setCell ⟨g,j,none⟩ (.int .i64 99)).ownsRow wo.heap.size 3 1 (.slice (some ⟨g,0,none⟩) n11 c11) n11 xs)) :=
           ⟨hb.setCell (p:=⟨g,j,none⟩) (by simp only;omega) _,⟨_,(h1.stored j (.int .i64 99)).1⟩⟩
         clear h1 hu hb Q1
         go_wp2_with fail
         go_roundw
         case rel=>exact ⟨j+1,by omega,by go_num,HFin.out⟩
         case measure=>simp [intOf] <;> omega
       · have hjI:¬ ((j:Int)<(n11:Int)):=by omega
         have HBi:=Lib.hid hb
         clear h1 hb Q1
         go_wp2_with fail
         go_roundw
         case rel=>exact ⟨k+1,by omega,by go_num,HBi.out⟩
         case measure=>simp [intOf] <;> omega
  · have hI:¬ ((k:Int)<2):=by omega
    have HS:Hid (∀ W',Below w6.heap.size w6 W'→(W'.cell? ⟨w.heap.size,0,none⟩=some (.string m.nm)∧W'.cell? ⟨w.heap.size,1,none⟩=some (.slice p.a1 m.vars.length p.c1)∧W'.cell? ⟨w.heap.size,2,none⟩=some (.slice p.a2 m.evs.length p.c2)∧W'.cell? ⟨w.heap.size,3,none⟩=some (.slice p.a3 m.regs.length p.c3)∧W'.cell? ⟨w.heap.size,4,none⟩=some (.slice p.a4 m.vers.length p.c4)∧W'.cell? ⟨w.heap.size,5,none⟩=some (.slice p.a5 m.trns.length p.c5))∧(W'.cell? ⟨w4.heap.size,0,none⟩=some (.string m.nm)∧W'.cell? ⟨w4.heap.size,1,none⟩=some (.slice pr.a1 m.vars.length pr.c1)∧W'.cell? ⟨w4.heap.size,2,none⟩=some (.slice pr.a2 m.evs.length pr.c2)∧W'.cell? ⟨w4.heap.size,3,none⟩=some (.slice pr.a3 m.regs.length pr.c3)∧W'.cell? ⟨w4.heap.size,4,none⟩=some (.slice pr.a4 m.vers.length pr.c4)∧W'.cell? ⟨w4.heap.size,5,none⟩=some (.slice pr.a5 m.trns.length pr.c5))):=fun W' g=>by
      obtain ⟨x0,x1,x2,x3,x4,x5,_⟩:=(HB6.out.below g).box
      obtain ⟨y0,y1,y2,y3,y4,y5,_⟩:=(HR6.out.below g).box
      exact ⟨⟨x0,x1,x2,x3,x4,x5⟩,y0,y1,y2,y3,y4,y5⟩
    have FTw:=Lib.hid (fun wx (g:Below w6.heap.size w6 wx)=>FT'.out wx (HB6.out.below g))
    have RTw:=Lib.hid (fun wx (g:Below w6.heap.size w6 wx)=>RT'.out pr wx (HB6.out.below g) (HR6.out.below g).mod.any)
    have WKw:=Lib.hid (fun wx (g:Below w6.heap.size w6 wx)=>WK.out wx (HB6.out.below g).bel)
    unfold mdV at RTw
    have HBw:=Lib.hid (HB6.out.bel)
    clear FT' RT' ET' R8 WK HB6 HR6
    go_wp2_with fail
    cases fb
    all_goals
      refine wp_region_any (by kernel_rfl) ?_
      change wpAny _ _ _ _ _ _ _ (World.drew _)
      refine wpAny_of_heldS (S:=(fun W'=>(W'.cell? ⟨w.heap.size,0,none⟩=some (.string m.nm)∧W'.cell? ⟨w.heap.size,1,none⟩=some (.slice p.a1 m.vars.length p.c1)∧W'.cell? ⟨w.heap.size,2,none⟩=some (.slice p.a2 m.evs.length p.c2)∧W'.cell? ⟨w.heap.size,3,none⟩=some (.slice p.a3 m.regs.length p.c3)∧W'.cell? ⟨w.heap.size,4,none⟩=some (.slice p.a4 m.vers.length p.c4)∧W'.cell? ⟨w.heap.size,5,none⟩=some (.slice p.a5 m.trns.length p.c5))∧(W'.cell? ⟨w4.heap.size,0,none⟩=some (.string m.nm)∧W'.cell? ⟨w4.heap.size,1,none⟩=some (.slice pr.a1 m.vars.length pr.c1)∧W'.cell? ⟨w4.heap.size,2,none⟩=some (.slice pr.a2 m.evs.length pr.c2)∧W'.cell? ⟨w4.heap.size,3,none⟩=some (.slice pr.a3 m.regs.length pr.c3)∧W'.cell? ⟨w4.heap.size,4,none⟩=some (.slice pr.a4 m.vers.length pr.c4)∧W'.cell? ⟨w4.heap.size,5,none⟩=some (.slice pr.a5 m.trns.length pr.c5)))) ?_ (fun hHeld=>?_)
      · (try dsimp only) <;> (first | exact HS.out _ (by assumption) | exact HS.out _ HBo.out.drew)
      refine tk 0 rfl ?_
      try simp only [Act.put,lyA,lyZ,lyS]
      refine tk 1 rfl ?_
      try simp only [Act.put,lyA,lyZ,lyS]
      refine tk 3 rfl ?_
      try simp only [Act.put,lyA,lyZ,lyS]
      refine tk 4 rfl ?_
      try simp only [Act.put,lyA,lyZ,lyS]
      refine rdy [2] ?_
      refine rdC rfl (fun K hK=>?_) ?_
      (go_simp;(with_reducible refine (FTw.out _ (by first | assumption | exact HBo.out.drew)).mono ?_);rintro e w11 ⟨rfl,hb11⟩;have hB11:Below w6.heap.size w6 w11:=below_chain (by first | assumption | exact HBo.out.drew) hb11;go_wp2_with fail)
      refine hK.out _ _ ?_ (fun hH1=>?_)
      · (try dsimp only) <;> (first | exact HS.out _ (by assumption) | exact HS.out _ HBo.out.drew)
      clear hK K hHeld
      try simp only [Act.put,lyA,lyZ,lyS]
      refine rdy [5] ?_
      refine rdC rfl (fun K hK=>?_) ?_
      (go_simp;(with_reducible refine (RTw.out _ (by first | assumption | exact HBo.out.drew)).mono ?_);rintro e w12 ⟨rfl,hb12⟩;have hB12:Below w6.heap.size w6 w12:=below_chain (by first | assumption | exact HBo.out.drew) hb12;go_wp2_with fail)
      refine hK.out _ _ ?_ (fun hH2=>?_)
      · (try dsimp only) <;> (first | exact HS.out _ (by assumption) | exact HS.out _ HBo.out.drew)
      clear hK K hH1
      try simp only [Act.put,lyA,lyZ,lyS]
      refine tk 6 rfl ?_
      try simp only [Act.put,lyA,lyZ,lyS]
      refine tk 7 rfl ?_
      try simp only [Act.put,lyA,lyZ,lyS]
      refine rdy [8] ?_
      refine rdC rfl (fun K hK=>?_) ?_
      (go_simp;(with_reducible refine (WKw.out _ (by assumption)).mono ?_);rintro e w13 ⟨rfl,hb13⟩;have hB13:Below w6.heap.size w6 w13:=below_chain (by assumption) hb13;go_wp2_with fail)
      refine hK.out _ _ ?_ (fun hH3=>?_)
      · (try dsimp only) <;> (first | exact HS.out _ (by assumption) | exact HS.out _ HBo.out.drew)
      clear hK K hH2
      try simp only [Act.put,lyA,lyZ,lyS]
      refine tk 9 rfl ?_
      try simp only [Act.put,lyA,lyZ,lyS]
      refine tk 10 rfl ?_
      try simp only [Act.put,lyA,lyZ,lyS]
      refine wpAnyH_done (by kernel_rfl) ?_ _
      rotate_left
      exact AllReadyH.nil
      exact AllReadyH.nil
      exact AllReadyH.nil
      all_goals
        go_wp2_with fail
        go_ret
        exact ⟨rfl,HBw.out.trans ((by assumption:Below w6.heap.size w6 _).mono HBw.out.size)⟩
end Go.Proofs
