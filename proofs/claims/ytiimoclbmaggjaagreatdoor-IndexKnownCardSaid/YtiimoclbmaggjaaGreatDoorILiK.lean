/- Walks: the law 'IndexCommon'. -/
import Derived.Test.YtiimoclbmaggjaaGreatDoorILiB
namespace Go.Proofs
open Go.RowKit Go.Lx Go.Md Go.Shelf Go.BigFrame Go.Rgi
set_option linter.unusedVariables false
theorem own_two (w:World) (x y:Int) (T:TypeId):(w.alloc (.cells #[.int .i64 x,.int .i64 y] T)).ownsRow w.heap.size T 1 (.slice (some ⟨w.heap.size,0,none⟩) 2 2) 2 (nums [x,y]) :=
 ⟨rfl,.inr ⟨w.heap.size,2,_,rfl,Nat.le_refl _,World.alloc_heap_new w _,Nat.le_refl _,by unfold maxLen;omega,rfl,rfl⟩⟩
theorem ownsRow_capK {N T S n c:Nat} {a:Option Addr} {w:World} {xs:List Value} (h:w.ownsRow N T S (.slice a n c) n xs):n≤c:=by
 rcases h.2 with ⟨e,h0⟩ | ⟨g',c',_,e,_,_,hc,_⟩
 · omega
 · simp only [Value.slice.injEq] at e;rw [e.2.2];exact hc
theorem swap_mem (a b:Int) (l:List Int) {i:Nat} (hi:i<l.length) (x:Int):x ∈ b :: a :: l↔x=l[i]∨x ∈ a :: l.set i b:=by
 simp only [List.mem_cons]
 constructor
 · rintro (rfl | rfl | h)
   · exact .inr (.inr (List.mem_set hi _))
   · exact .inr (.inl rfl)
   · obtain ⟨j,hj,e⟩:=List.getElem_of_mem h
     by_cases hij:i=j
     · subst hij;exact .inl e.symm
     · refine .inr (.inr ?_)
       rw [← e]
       have:(l.set i b)[j]'(by simpa using hj)=l[j]:=List.getElem_set_ne hij _
       rw [← this];exact List.getElem_mem _
 · rintro (rfl | rfl | h)
   · exact .inr (.inr (List.getElem_mem _))
   · exact .inr (.inl rfl)
   · rcases List.mem_or_eq_of_mem_set h with h | h
     · exact .inr (.inr h)
     · exact .inl h
theorem com_swap {m:MdlD} (h0:riM m=(0,0,0)) (a b:Int) (l:List Int) {i:Nat} (hi:i<l.length):commonM m l[i] (a :: l.set i b)=commonM m a (b :: l):=by
 rw [common_eq h0 l[i] (a :: l.set i b) (b :: a :: l) (fun x=>swap_mem a b l hi x),common_eq h0 a (b :: l) (b :: a :: l) (fun x=>by simp;constructor <;> (intro h;rcases h with h | h | h <;> simp [h]))]
set_option maxRecDepth 100000 in
set_option maxHeartbeats 16000000 in
theorem indexCommon_any {Q:Nat→BP} (m:MdlD) (p:Ph) (a b:Int) (l:List Int) (av:Option Addr) (cv:Nat) (w:World) (h:Mod Q w m p) (hm:MdlOk m) (hT:Tab w) (ha:(Lit.int .i64 a).wf=true) (hb:(Lit.int .i64 b).wf=true) (hr:RowIn w (.slice av l.length cv) l) (hl:l.length≤140737488355328) :
   Calls Tryz.prog 19 #[mdV m p,.int .i64 a,.int .i64 b,.slice av l.length cv] w fun e w'=>e=.returned (.bool true)∧Below w.heap.size w w':=by
 have HB:=Lib.hid (Mb.made h)
 have F1:=Lib.hid (fun wx (g:Mb m p w.heap.size w wx)=>small16_any m p wx g.mod hm)
 have BT:=Lib.hid (fun (hs:Sm16 m) wx (g:Mb m p w.heap.size w wx)=>both16_any m p wx g.mod hm (hT.next g.bel) hs)
 have WK:=Lib.hid (fun wx (g:Below w.heap.size w wx)=>works16 wx (hT.next g))
 have HRo:=Lib.hid hr
 have HLo:=Lib.hid hl
 obtain ⟨iI,hiI,zI0,zI1,zI2⟩:=info_parts info_Num
 unfold mdV at F1 BT ⊢
 clear h hm hT ha hb hr hl
 go_enter Tryz.func19,Tryz.ntmps19
 obtain ⟨x0,x1,x2,x3,x4,x5,_⟩:=HB.out.box
 go_wp2_with fail
 (with_reducible refine (F1.out _ HB.out).mono ?_)
 rintro e w3 ⟨⟨b1,rfl,s1⟩,g3⟩
 have HB3:=Lib.hid (HB.out.below g3)
 clear HB x0 x1 x2 x3 x4 x5 F1
 obtain ⟨x0,x1,x2,x3,x4,x5,_⟩:=HB3.out.box
 cases b1
 · go_wp2_with fail
   (with_reducible refine (WK.out _ HB3.out.bel).mono ?_)
   rintro e w4 ⟨rfl,g4⟩
   go_wp2_with fail
   go_ret
   exact ⟨rfl,HB3.out.bel.trans (g4.mono HB3.out.bel.size)⟩
 have hS:=Lib.hid (s1 rfl)
 clear s1 g3
 by_cases h5:l.length≤5
 rotate_left
 · have hI:(5:Int)<(l.length:Int):=by omega
   go_wp2_with fail
   (with_reducible refine (WK.out _ HB3.out.bel).mono ?_)
   rintro e w4 ⟨rfl,g4⟩
   go_wp2_with fail
   go_ret
   exact ⟨rfl,HB3.out.bel.trans (g4.mono HB3.out.bel.size)⟩
 have hI:¬ ((5:Int)<(l.length:Int)):=by omega
 go_wp2_with fail
 (with_reducible refine (BT.out hS.out _ HB3.out).mono ?_)
 rintro e w4 ⟨g4,pr,(⟨hr,IB,rfl,hi,hmr⟩ | ⟨hr,rfl⟩)⟩
 rotate_left
 · have HB4:=Lib.hid (HB3.out.bel.trans (g4.mono HB3.out.bel.size))
   clear x0 x1 x2 x3 x4 x5 HB3 BT
   unfold ixV mdV
   go_wp2_with fail
   have G5:=Lib.hid (below_al1 w4 (.cells #[.string m.nm,.slice pr.a1 m.vars.length pr.c1,.slice pr.a2 m.evs.length pr.c2,.slice pr.a3 m.regs.length pr.c3,.slice pr.a4 m.vers.length pr.c4,.slice pr.a5 m.trns.length pr.c5] 93))
   (with_reducible refine (WK.out _ (HB4.out.trans (G5.out.mono HB4.out.size))).mono ?_)
   rintro e w5 ⟨rfl,g5⟩
   go_wp2_with fail
   go_ret
   exact ⟨rfl,(HB4.out.trans (G5.out.mono HB4.out.size)).trans (g5.mono (HB4.out.trans (G5.out.mono HB4.out.size)).size)⟩
 · have HB4:=Lib.hid (HB3.out.bel.trans (g4.mono HB3.out.bel.size))
   have HI:=Lib.hid (hi.low HB3.out.bel.size)
   have HM:=Lib.hid hmr
   have HR:=Lib.hid hr
   clear x0 x1 x2 x3 x4 x5 HB3 BT hi hmr hr
   unfold ixV mdV
   have h0:=HR.out
   have hv:=hS.out.vr
   have hg:=hS.out.rg
   have K1:=Lib.hid (fun wx (g:Tl m pr IB w4.heap.size w wx) (x y:Int) (mv:Value) (q:List Int) (hq:q.length≤5) (hr:RowIn wx mv q)=>common_any g.idx x y mv q (by omega) hr h0)
   have K2:=Lib.hid (fun wx (g:Tl m pr IB w4.heap.size w wx) (lv:Value) (q:List Int) (hq:q.length≤7) (hr:RowIn wx lv q)=>rcommon16_any m pr q lv wx g.mod h0 hr (by omega) (by omega) (by omega))
   have HQ:Hid (comR m (b :: a :: l)=commonM m a (b :: l)):=Lib.hid (common_eq h0 a (b :: l) (b :: a :: l) (fun x=>by simp;constructor <;> (intro h;rcases h with h | h | h <;> simp [h]))).symm
   have HSw:=Lib.hid (fun (i:Nat) (hi:i<l.length)=>com_swap h0 a b l hi)
   unfold ixV mdV at K2
   have G5:=Lib.hid (below_al1 w4 (.cells #[.string m.nm,.slice pr.a1 m.vars.length pr.c1,.slice pr.a2 m.evs.length pr.c2,.slice pr.a3 m.regs.length pr.c3,.slice pr.a4 m.vers.length pr.c4,.slice pr.a5 m.trns.length pr.c5] 93))
   have HT:Hid (Tl m pr IB w4.heap.size w (w4.alloc (.cells #[.string m.nm,.slice pr.a1 m.vars.length pr.c1,.slice pr.a2 m.evs.length pr.c2,.slice pr.a3 m.regs.length pr.c3,.slice pr.a4 m.vers.length pr.c4,.slice pr.a5 m.trns.length pr.c5] 93))):=Lib.hid ⟨HB4.out.trans (G5.out.mono HB4.out.size),HI.out.grown G5.out,HM.out.below G5.out,boxT w4 m pr _⟩
   clear h0 hv hg G5 HB4 HI HM
   go_upto_region 6 with fail
   generalize w4.alloc (.cells #[.string m.nm,.slice pr.a1 m.vars.length pr.c1,.slice pr.a2 m.evs.length pr.c2,.slice pr.a3 m.regs.length pr.c3,.slice pr.a4 m.vers.length pr.c4,.slice pr.a5 m.trns.length pr.c5] 93)=W5 at *
   have HO5:=Lib.hid (own_two W5 b a 3)
   have HR5:=Lib.hid (HRo.out.below (HT.out.bel.trans ((below_al1 W5 (.cells #[.int .i64 b,.int .i64 a] 3)).mono HT.out.bel.size)))
   go_upto_region 8 with (at_builtin;refine wpList_append_row _ rfl _ _ 31 rfl 3 W5.heap.size iI (.int .i64 0) Tryz.underlying31 hiI zI0 zI1 zI2 rfl (.slice (some ⟨W5.heap.size,0,none⟩) 2 2) [b,a] rfl HO5.out _ l rfl HR5.out (by simp;omega) (by simp) ?_;intro v6 w6 hown6 hgrow6 hnxt6)
   obtain ⟨X6,Y6,rfl⟩:=ownsRow_slice hown6
   have HB6:Hid (Below W5.heap.size W5 w6):=Lib.hid (((Below.refl W5.heap.size W5).alloc (Nat.le_refl _) _).grown hgrow6 (by simp) (fun q hq=>by simp only [Value.ownBlock,Option.some.injEq] at hq;omega))
   have HT6:=Lib.hid (HT.out.below HB6.out)
   have HR6:Hid (RowIn w6 (.slice X6 (l.length+1+1) Y6) (b :: a :: l)):=Lib.hid (RowIn.own hown6)
   clear hown6 hgrow6 hnxt6 HO5 HR5 HB6 HT
   have HRl:=Lib.hid (fun wx (g:Tl m pr IB w4.heap.size w wx)=>HRo.out.below g.bel)
   go_wp2_with fail
   (with_reducible refine (K1.out _ HT6.out a b _ l h5 (HRl.out _ HT6.out)).mono ?_)
   rintro e w8 ⟨rfl,g8⟩
   have HT8:=Lib.hid (HT6.out.below g8)
   have K8:=K2.out _ HT8.out _ (b :: a :: l) (by simp;omega) (HR6.out.below g8)
   rw [HQ.out] at K8
   have HK8:=Lib.hid K8
   clear K8 g8 HT6 HR6 HQ K2
   obtain ⟨x0,x1,x2,x3,x4,x5,_⟩:=HT8.out.box
   generalize commonM m a (b :: l)=n0 at *
   go_wp2_with fail
   (with_reducible refine (HK8.out).mono ?_)
   rintro e w9 ⟨rfl,g9⟩
   have HT9:=Lib.hid (HT8.out.below g9)
   clear g9 HT8 HK8 x0 x1 x2 x3 x4 x5
   go_wp2_with fail
   go_loopw [15] (fun i wr=>∃ k:Nat,k≤l.length∧i=.int .i64 k∧Tl m pr IB w4.heap.size w wr) (fun i _=>l.length - (intOf i).toNat)
   case atStart=>exact ⟨0,by omega,by go_num,HT9.out⟩
   case round =>
    obtain ⟨wo,rfl⟩:∃ wo:World,wo=wr:=⟨_,rfl⟩
    obtain ⟨i,hi,rfl,ht⟩:=hrel
    have HTo:=Lib.hid ht
    clear ht HT9
    by_cases hlt:i<l.length
    · have hlI:(i:Int)<(l.length:Int):=by omega
      have hi0:(0:Int)≤(i:Int):=by omega
      have HO5:=Lib.hid (own_two wo b a 3)
      have HR5:=Lib.hid (HRl.out (wo.alloc (.cells #[.int .i64 b,.int .i64 a] 3)) (HTo.out.below (below_al1 _ _)))
      have hi2:IntKind.i64.wrap ((i:Int)+2)=((i+2:Nat):Int):=IntWalk.i64_in _ (by omega)
      go_upto_region 16 with (at_builtin;refine wpList_append_row _ rfl _ _ 31 rfl 3 wo.heap.size iI (.int .i64 0) Tryz.underlying31 hiI zI0 zI1 zI2 rfl (.slice (some ⟨wo.heap.size,0,none⟩) 2 2) [b,a] rfl HO5.out _ l rfl HR5.out (by simp;omega) (by simp) ?_;intro v6 w6 hown6 hgrow6 hnxt6)
      obtain ⟨g7,Y7,rfl⟩:=ownsRow_pos hown6 (by simp)
      have HB6:Hid (Below wo.heap.size wo w6):=Lib.hid (((Below.refl wo.heap.size wo).alloc (Nat.le_refl _) _).grown hgrow6 (by simp) (fun q hq=>by simp only [Value.ownBlock,Option.some.injEq] at hq;omega))
      have hg7:=(hown6.lt g7 rfl).1
      have hg7s:=(hown6.lt g7 rfl).2
      have hcap7:=ownsRow_capK hown6
      have hcap7':l.length+1+1≤Y7:=hcap7
      have cz:=(hown6.cellAt 0 (by simp)).trans (show (nums ([b,a] ++ l))[0]? = some (.int .i64 b) from rfl)
      have ci:=(hown6.cellAt (i+2) (by simp;omega)).trans (show (nums ([b,a] ++ l))[i+2]? = some (.int .i64 l[i]) by simp [nums,hlt])
      have fz:=hown6.frozenAt 0
      have fi:=hown6.frozenAt (i+2)
      obtain ⟨a',c',e',_,q'⟩:=(HRl.out w6 (HTo.out.below HB6.out)).len
      obtain ⟨b1,o1,ea,hb1,hc1⟩:=q' i hlt
      simp only [Value.slice.injEq] at e'
      obtain ⟨ea',z36,z37⟩:=e'
      clear z36 z37
      rw [ea] at ea'
      have hca:l.length≤cv:=by
        obtain ⟨a2,c2,e2,h2,_⟩:=(HRl.out w6 (HTo.out.below HB6.out)).len
        simp only [Value.slice.injEq] at e2
        rw [e2.2.2];exact h2
      subst ea'
      obtain ⟨y,hy⟩:∃ y,l[i]=y:=⟨_,rfl⟩
      rw [hy] at hc1 ci
      have HFin:Hid (Below wo.heap.size wo ((w6.setCell ⟨g7,0,none⟩ (.int .i64 y)).setCell ⟨g7,i+2,none⟩ (.int .i64 b))∧RowIn ((w6.setCell ⟨g7,0,none⟩ (.int .i64 y)).setCell ⟨g7,i+2,none⟩ (.int .i64 b)) (.slice (some ⟨g7,0,none⟩) (l.length+1+1) Y7) (y :: a :: l.set i b)):=Lib.hid (by
        refine ⟨(HB6.out.setCell (p:=⟨g7,0,none⟩) hg7 _).setCell (p:=⟨g7,i+2,none⟩) hg7 _,?_⟩
        have ho:=((hown6.stored 0 (.int .i64 y)).1.stored (i+2) (.int .i64 b)).1
        have e:((nums ([b,a] ++ l)).set 0 (.int .i64 y)).set (i+2) (.int .i64 b)=nums (y :: a :: l.set i b):=by simp [nums,List.map_set]
        rw [e] at ho
        have:=RowIn.own (l:=y :: a :: l.set i b) (by simpa using ho)
        simpa using this)
      have HCm:=Lib.hid (HSw.out i hlt)
      rw [hy] at HCm
      clear hy hown6 hgrow6 hnxt6 HO5 HR5 HB6 q' hg7
      go_upto_region 18 with fail
      generalize (w6.setCell ⟨g7,0,none⟩ (.int .i64 y)).setCell ⟨g7,i+2,none⟩ (.int .i64 b)=W7 at *
      obtain ⟨hB7,hR7⟩:=HFin.out
      have hTd:Tl m pr IB w4.heap.size w W7.drew:=(HTo.out.below hB7).below (Below.refl _ _).drew
      have hR7d:=hR7.below (Below.refl W7.heap.size W7).drew
      have hbk:=RowIn.back (j:=2) hR7d (by simp;omega)
      simp only [List.length_cons,List.drop_succ_cons,List.drop_zero,List.length_set,Nat.zero_add] at hbk
      obtain ⟨a3,c3,e3,z31,q3⟩:=hR7d.len
      obtain ⟨b3,o3,ea3,z32,hq0⟩:=q3 0 (by simp)
      obtain ⟨b4,o4,ea4,z33,hq1⟩:=q3 1 (by simp)
      simp only [Value.slice.injEq] at e3
      obtain ⟨e3,z34,z35⟩:=e3
      have HGd:=Lib.hid z32
      clear z31 z32 z33 z34 z35
      rw [ea3] at ea4 e3
      simp only [Option.some.injEq,Addr.mk.injEq,and_true] at e3 ea4
      obtain ⟨rfl,rfl⟩:=e3
      obtain ⟨rfl,rfl⟩:=ea4
      have HS18:W7.drew.cell? ⟨g7,0,none⟩=some (.int .i64 y)∧W7.drew.cell? ⟨g7,1,none⟩=some (.int .i64 a):=⟨by simpa using hq0,by simpa using hq1⟩
      have hle:([b,a] ++ l).length=l.length+2:=by simp
      have hle2:2≤l.length+2:=by omega
      have hle3:l.length+2≤Y7:=by omega
      rw [hle]
      have hY2:(l.set i b).length=l.length:=by simp
      have K18:=K1.out _ hTd y a _ (l.set i b) (by rw [hY2];exact h5) hbk
      rw [HCm.out,show l.length+1+1 - 2=l.length by omega] at K18
      have HK18:=Lib.hid K18
      have HTd:=Lib.hid hTd
      have HS18':=Lib.hid HS18
      clear hle hq0 hq1 q3 hR7d hR7 hB7 HFin hTd hbk HS18 hcap7 hcap7' cz ci fz fi hc1 hb1 HRl HTo K18 K1 HCm hY2
      have hB0:Below W7.heap.size W7 W7:=Below.refl _ _
      have hY7:¬ (Y7=2):=by omega
      have hj0:(0:Int)<(l.length:Int)+2:=by omega
      have hj1:(1:Int)<(l.length:Int)+2:=by omega
      have hj2:(2:Int)≤(l.length:Int)+2:=by omega
      refine wp_region_any (by kernel_rfl) ?_
      change wpAny _ _ _ _ _ _ _ (World.drew _)
      refine wpAny_of_heldS (S:=(fun W'=>W'.cell? ⟨g7,0,none⟩=some (.int .i64 y)∧W'.cell? ⟨g7,1,none⟩=some (.int .i64 a))) ?_ (fun hHeld=>?_)
      · (try dsimp only) <;> (first | exact HS18'.out | exact ⟨(g9.cell (p:=⟨g7,0,none⟩) HGd.out).trans HS18'.out.1,(g9.cell (p:=⟨g7,1,none⟩) HGd.out).trans HS18'.out.2⟩)
      refine tk 0 rfl ?_
      try simp only [Act.put,lyA,lyZ,lyS]
      refine tk 1 rfl ?_
      try simp only [Act.put,lyA,lyZ,lyS]
      refine tk 2 rfl ?_
      try simp only [Act.put,lyA,lyZ,lyS]
      refine tk 3 rfl ?_
      try simp only [Act.put,lyA,lyZ,lyS]
      refine tk 4 rfl ?_
      try simp only [Act.put,lyA,lyZ,lyS]
      refine tk 5 rfl ?_
      try simp only [Act.put,lyA,lyZ,lyS]
      refine tk 6 rfl ?_
      try simp only [Act.put,lyA,lyZ,lyS]
      refine tk 7 rfl ?_
      try simp only [Act.put,lyA,lyZ,lyS]
      refine tk 8 rfl ?_
      try simp only [Act.put,lyA,lyZ,lyS]
      refine tk 10 rfl ?_
      try simp only [Act.put,lyA,lyZ,lyS]
      refine rdy [9] ?_
      refine rdC rfl (fun K hK=>?_) ?_
      (go_simp;(with_reducible refine (HK18.out).mono ?_);rintro e w9 ⟨rfl,g9⟩;have HT9:=Lib.hid (HTd.out.below g9);go_wp2_with fail)
      refine hK.out _ _ ?_ (fun hH1=>?_)
      · (try dsimp only) <;> (first | exact HS18'.out | exact ⟨(g9.cell (p:=⟨g7,0,none⟩) HGd.out).trans HS18'.out.1,(g9.cell (p:=⟨g7,1,none⟩) HGd.out).trans HS18'.out.2⟩)
      clear hK K hHeld
      try simp only [Act.put,lyA,lyZ,lyS]
      refine tk 11 rfl ?_
      try simp only [Act.put,lyA,lyZ,lyS]
      refine wpAnyH_done (by kernel_rfl) ?_ _
      rotate_left
      exact AllReadyH.nil
      go_wp2_with fail
      go_roundw
      case rel=>exact ⟨i+1,by omega,by go_num,HT9.out⟩
      case measure=>simp [intOf] <;> omega
    · have hlI:¬ ((i:Int)<(l.length:Int)):=by omega
      go_wp2_with fail
      (with_reducible refine (WK.out _ HTo.out.bel).mono ?_)
      rintro e w10 ⟨rfl,g10⟩
      go_wp2_with fail
      go_ret
      exact ⟨rfl,HTo.out.bel.trans (g10.mono HTo.out.bel.size)⟩
theorem indexCommon_row {Q:Nat→BP} (m:MdlD) (p:Ph) (a b:Int) (l:List Int) (lv:Value) (w:World) (h:Mod Q w m p) (hm:MdlOk m) (hT:Tab w) (ha:(Lit.int .i64 a).wf=true) (hb:(Lit.int .i64 b).wf=true) (hr:RowIn w lv l) (hl:l.length≤140737488355328) :
   Calls Tryz.prog 19 #[mdV m p,.int .i64 a,.int .i64 b,lv] w fun e w'=>e=.returned (.bool true)∧Below w.heap.size w w':=by
 obtain ⟨av,cv,rfl,_⟩:=hr.len
 exact indexCommon_any m p a b l av cv w h hm hT ha hb hr hl
end Go.Proofs
