/- Walks: the law 'IndexTells'. -/
import Derived.Test.YtiimoclbmaggjaaGreatDoorILiA
namespace Go.Proofs
open Go.RowKit Go.Lx Go.Md Go.Shelf Go.BigFrame Go.Rgi
set_option linter.unusedVariables false
structure Tl (m:MdlD) (pr:Ph) (IB H:Nat) (w wx:World):Prop where
 bel:Below w.heap.size w wx
 idx:IdxAt w.heap.size m IB wx
 mod:Mod anyM wx m pr
 box:Box wx H (.string m.nm) (.slice pr.a1 m.vars.length pr.c1) (.slice pr.a2 m.evs.length pr.c2) (.slice pr.a3 m.regs.length pr.c3) (.slice pr.a4 m.vers.length pr.c4) (.slice pr.a5 m.trns.length pr.c5)
theorem Tl.below {m:MdlD} {pr:Ph} {IB H:Nat} {w wx wy:World} (h:Tl m pr IB H w wx) (g:Below wx.heap.size wx wy):Tl m pr IB H w wy :=
 ⟨h.bel.trans (g.mono h.bel.size),h.idx.grown g,h.mod.below g,h.box.below g h.box.sl⟩
def TlV (m:MdlD) (pr:Ph) (IB H:Nat) (w:World) (u:Value) (e:Ending) (w':World):Prop:=e=.returned u∧Hid (Tl m pr IB H w w')
def TlX (m:MdlD) (pr:Ph) (IB H:Nat) (w wx:World) (u:Value) (e:Ending) (w':World):Prop:=e=.returned u∧Hid (Tl m pr IB H w w')∧Below wx.heap.size wx w'
def TlR (m:MdlD) (pr:Ph) (IB H:Nat) (w wx:World) (l:List Int) (e:Ending) (w':World):Prop:=∃ v,e=.returned v∧Hid (RowIn w' v l)∧Hid (Tl m pr IB H w w')∧Below wx.heap.size wx w'
section
variable {m:MdlD} {pr:Ph} {IB H:Nat} {w wx:World} {f:Nat} {args:Array Value} {u u':Value}
theorem tl1 (g:Tl m pr IB H w wx) (h:Calls Tryz.prog f args wx fun e w'=>e=.returned u∧wx=w'):Calls Tryz.prog f args wx (TlV m pr IB H w u) :=
 h.mono fun e w' ⟨he,hw⟩=>⟨he,Lib.hid (hw ▸ g)⟩
theorem tl2 (g:Tl m pr IB H w wx) (h:Calls Tryz.prog f args wx fun e w'=>e=.returned u∧Below wx.heap.size wx w') (hu:u=u'):Calls Tryz.prog f args wx (TlV m pr IB H w u') :=
 h.mono fun e w' ⟨he,hw⟩=>⟨hu ▸ he,Lib.hid (g.below hw)⟩
theorem tl3 (g:Tl m pr IB H w wx) (h:Calls Tryz.prog f args wx fun e w'=>e=.returned u∧Below wx.heap.size wx w'):Calls Tryz.prog f args wx (TlX m pr IB H w wx u) :=
 h.mono fun e w' ⟨he,hw⟩=>⟨he,Lib.hid (g.below hw),hw⟩
theorem tlr {l l':List Int} (g:Tl m pr IB H w wx) (h:Calls Tryz.prog f args wx (RowP l wx)) (hl:l=l'):Calls Tryz.prog f args wx (TlR m pr IB H w wx l') :=
 h.mono fun e w' ⟨v,he,ho,hb⟩=>⟨v,he,Lib.hid (hl ▸ RowIn.own ho),Lib.hid (g.below hb),hb⟩
theorem tls {l:List Int} {v1 v2:Value} (g:Tl m pr IB H w wx) (h1:RowIn wx v1 l) (h2:RowIn wx v2 l) (hl:l.length≤1000000):Calls Tryz.prog 81 #[v1,v2] wx (TlV m pr IB H w (.bool true)) :=
 tl2 g (same_self l v1 v2 wx h1 h2 hl) rfl
theorem tlc (g:Tl m pr IB H w wx) (a b:Int) (h0:riM m=(0,0,0)) (hv:m.vers.length≤1000) (hr:m.regs.length≤100000):Calls Tryz.prog 87 #[ixV m pr,.slice (some ⟨wx.heap.size,0,none⟩) 2 2] (wx.alloc (.cells #[.int .i64 a,.int .i64 b] 3)) (TlV m pr IB H w (.int .i64 (commonM m a [b]))):=by
 have g2:=g.below (below_al1 wx (.cells #[.int .i64 a,.int .i64 b] 3))
 refine tl2 g2 (rcommon16_any m pr [a,b] _ _ g2.mod h0 (RowIn.fresh wx [a,b] _ rfl 2 rfl) (by simp) hv hr) ?_
 rw [common_eq h0 a [b] [a,b] (fun x=>by simp)]
end
theorem chainM_le {m:MdlD} (h0:riM m=(0,0,0)) (v:Int):(chainM m v).length≤64:=by
 cases hv:hasV m v with
 | false=>unfold chainM;rw [hv];simp
 | true =>
  obtain ⟨k,rfl,hk⟩:=hasV_nat hv
  rw [chainM_len h0 hk,← (len_par h0 hk).1];exact (len_par h0 hk).2.1
set_option maxRecDepth 100000 in
set_option maxHeartbeats 16000000 in
theorem indexTells_any {Q:Nat→BP} (m:MdlD) (p:Ph) (a b:Int) (w:World) (h:Mod Q w m p) (hm:MdlOk m) (hT:Tab w) (ha:(Lit.int .i64 a).wf=true) (hb:(Lit.int .i64 b).wf=true) :
   Calls Tryz.prog 18 #[mdV m p,.int .i64 a,.int .i64 b] w fun e w'=>e=.returned (.bool true)∧Below w.heap.size w w':=by
 have HB:=Lib.hid (Mb.made h)
 have F1:=Lib.hid (fun wx (g:Mb m p w.heap.size w wx)=>small16_any m p wx g.mod hm)
 have BT:=Lib.hid (fun (hs:Sm16 m) wx (g:Mb m p w.heap.size w wx)=>both16_any m p wx g.mod hm (hT.next g.bel) hs)
 have WK:=Lib.hid (fun wx (g:Below w.heap.size w wx)=>works16 wx (hT.next g))
 have HA:=Lib.hid ha
 unfold mdV at F1 BT ⊢
 clear h hm hT ha hb
 go_enter Tryz.func18,Tryz.ntmps18
 simp only [List.append_eq,List.cons_append,List.nil_append]
 obtain ⟨x0,x1,x2,x3,x4,x5,_⟩:=HB.out.box
 go_wp2_with fail
 (with_reducible refine (F1.out _ HB.out).mono ?_)
 rintro e w3 ⟨⟨b1,rfl,s1⟩,g3⟩
 have HB3:=Lib.hid (HB.out.below g3)
 clear HB x0 x1 x2 x3 x4 x5 F1
 obtain ⟨x0,x1,x2,x3,x4,x5,_⟩:=HB3.out.box
 cases b1
 · go_wp2_with fail
   (with_reducible refine (WK.out _ HB3.out.bel).mono ?_)
   rintro e w4 ⟨rfl,g4⟩
   go_wp2_with fail
   go_ret
   exact ⟨rfl,HB3.out.bel.trans (g4.mono HB3.out.bel.size)⟩
 have hS:=Lib.hid (s1 rfl)
 clear s1 g3
 go_wp2_with fail
 (with_reducible refine (BT.out hS.out _ HB3.out).mono ?_)
 rintro e w4 ⟨g4,pr,(⟨hr,IB,rfl,hi,hmr⟩ | ⟨hr,rfl⟩)⟩
 rotate_left
 · have HB4:=Lib.hid (HB3.out.bel.trans (g4.mono HB3.out.bel.size))
   clear x0 x1 x2 x3 x4 x5 HB3 BT
   unfold ixV mdV
   go_wp2_with fail
   have G5:=Lib.hid (below_al1 w4 (.cells #[.string m.nm,.slice pr.a1 m.vars.length pr.c1,.slice pr.a2 m.evs.length pr.c2,.slice pr.a3 m.regs.length pr.c3,.slice pr.a4 m.vers.length pr.c4,.slice pr.a5 m.trns.length pr.c5] 93))
   (with_reducible refine (WK.out _ (HB4.out.trans (G5.out.mono HB4.out.size))).mono ?_)
   rintro e w5 ⟨rfl,g5⟩
   go_wp2_with fail
   go_ret
   exact ⟨rfl,(HB4.out.trans (G5.out.mono HB4.out.size)).trans (g5.mono (HB4.out.trans (G5.out.mono HB4.out.size)).size)⟩
 · have HB4:=Lib.hid (HB3.out.bel.trans (g4.mono HB3.out.bel.size))
   have HI:=Lib.hid (hi.low HB3.out.bel.size)
   have HM:=Lib.hid hmr
   have HR:=Lib.hid hr
   clear x0 x1 x2 x3 x4 x5 HB3 BT hi hmr hr
   unfold ixV mdV
   have CS:=Lib.hid (fun wx (g:Hid (Tl m pr IB w4.heap.size w wx)) (v1 v2:Value) (l:List Int) (h1:Hid (RowIn wx v1 l)) (h2:Hid (RowIn wx v2 l)) (hl:l.length≤1000000)=>tls g.out h1.out h2.out hl)
   have h0:=HR.out
   have ha:=HA.out
   have hv:=hS.out.vr
   have hg:=hS.out.rg
   have ht:=hS.out.tr
   have C0:=Lib.hid (fun wx (g:Hid (Tl m pr IB w4.heap.size w wx))=>tl1 g.out (parent_any g.out.idx a ha))
   have C1:=Lib.hid (fun wx (g:Hid (Tl m pr IB w4.heap.size w wx))=>tl2 g.out (rparent16_any m pr a wx g.out.mod h0 (by omega) (by omega)) rfl)
   have C2:=Lib.hid (fun wx (g:Hid (Tl m pr IB w4.heap.size w wx))=>tl1 g.out (home_any g.out.idx a ha))
   have C3:=Lib.hid (fun wx (g:Hid (Tl m pr IB w4.heap.size w wx))=>tl2 g.out (rhome16_any m pr a wx g.out.mod h0 (by omega)) rfl)
   have C4:=Lib.hid (fun wx (g:Hid (Tl m pr IB w4.heap.size w wx))=>tl1 g.out (ixdepth_any g.out.idx a ha))
   have C5:=Lib.hid (fun wx (g:Hid (Tl m pr IB w4.heap.size w wx))=>tl2 g.out (rdepth16_any m pr a wx g.out.mod h0 (by omega) (by omega)) rfl)
   have C6:=Lib.hid (fun wx (g:Hid (Tl m pr IB w4.heap.size w wx))=>tl2 g.out (iunder_any g.out.idx a b h0) rfl)
   have C7:=Lib.hid (fun wx (g:Hid (Tl m pr IB w4.heap.size w wx))=>tl2 g.out (runder16_any m pr a b wx g.out.mod h0 (by omega) (by omega)) rfl)
   have C8:=Lib.hid (fun wx (g:Hid (Tl m pr IB w4.heap.size w wx))=>tl2 g.out (in_any g.out.idx a b h0) rfl)
   have C9:=Lib.hid (fun wx (g:Hid (Tl m pr IB w4.heap.size w wx))=>tl2 g.out (rin16_any m pr a b wx g.out.mod h0 (by omega) (by omega)) rfl)
   have C10:=Lib.hid (fun wx (g:Hid (Tl m pr IB w4.heap.size w wx))=>tl2 g.out (orth_any g.out.idx a b h0) rfl)
   have C11:=Lib.hid (fun wx (g:Hid (Tl m pr IB w4.heap.size w wx))=>tl2 g.out (rorth16_any m pr a b wx g.out.mod h0 (by omega) (by omega)) (congrArg Value.bool (orth_eq h0 a b).symm))
   have C12:=Lib.hid (fun wx (g:Hid (Tl m pr IB w4.heap.size w wx))=>tl1 g.out (icomp_any g.out.idx a ha))
   have C13:=Lib.hid (fun wx (g:Hid (Tl m pr IB w4.heap.size w wx))=>tl2 g.out (rcomp16_any m pr a wx g.out.mod (by omega) (by omega)) rfl)
   have D0:=Lib.hid (fun wx (g:Hid (Tl m pr IB w4.heap.size w wx))=>tlr (l':=kidsM m a) g.out (kids_any g.out.idx a (by omega)) (kidsR_eq h0 a))
   have E0:=Lib.hid (fun wx (g:Hid (Tl m pr IB w4.heap.size w wx))=>tlr (l':=kidsM m a) g.out (rkids16_any m pr a wx g.out.mod (by omega)) (rfl))
   have L0:Hid ((kidsM m a).length≤1000000):=Lib.hid (by have:=sel_len (isKid a) m.vers;have e:(kidsM m a).length≤m.vers.length:=this;omega)
   have D1:=Lib.hid (fun wx (g:Hid (Tl m pr IB w4.heap.size w wx))=>tlr (l':=ownM m a) g.out (regions_any g.out.idx a ha (by omega)) (rfl))
   have E1:=Lib.hid (fun wx (g:Hid (Tl m pr IB w4.heap.size w wx))=>tlr (l':=ownM m a) g.out (rregions16_any m pr a wx g.out.mod (by omega)) (rfl))
   have L1:Hid ((ownM m a).length≤1000000):=Lib.hid (by have:=sel_len (isOwn a) m.regs;have e:(ownM m a).length≤m.regs.length:=this;omega)
   have D2:=Lib.hid (fun wx (g:Hid (Tl m pr IB w4.heap.size w wx))=>tlr (l':=pntM m a) g.out (points_any g.out.idx a ha (by omega)) (rfl))
   have E2:=Lib.hid (fun wx (g:Hid (Tl m pr IB w4.heap.size w wx))=>tlr (l':=pntM m a) g.out (rpoints16_any m pr a wx g.out.mod (by omega)) (rfl))
   have L2:Hid ((pntM m a).length≤1000000):=Lib.hid (by have:=sel_len (isPnt a) m.vers;have e:(pntM m a).length≤m.vers.length:=this;omega)
   have D3:=Lib.hid (fun wx (g:Hid (Tl m pr IB w4.heap.size w wx))=>tlr (l':=outM m a) g.out (out_any g.out.idx a (by omega)) (outR_eq h0 a))
   have E3:=Lib.hid (fun wx (g:Hid (Tl m pr IB w4.heap.size w wx))=>tlr (l':=outM m a) g.out (rout16_any m pr a wx g.out.mod (by omega)) (rfl))
   have L3:Hid ((outM m a).length≤1000000):=Lib.hid (by have:=sel_len (isOut a) m.trns;have e:(outM m a).length≤m.trns.length:=this;omega)
   have D4:=Lib.hid (fun wx (g:Hid (Tl m pr IB w4.heap.size w wx))=>tlr (l':=intoM m a) g.out (into_any g.out.idx a (by omega)) (intoR_eq h0 a))
   have E4:=Lib.hid (fun wx (g:Hid (Tl m pr IB w4.heap.size w wx))=>tlr (l':=intoM m a) g.out (rinto16_any m pr a wx g.out.mod (by omega)) (rfl))
   have L4:Hid ((intoM m a).length≤1000000):=Lib.hid (by have:=sel_len (isInto a) m.trns;have e:(intoM m a).length≤m.trns.length:=this;omega)
   have D5:=Lib.hid (fun wx (g:Hid (Tl m pr IB w4.heap.size w wx))=>tlr (l':=chainM m a) g.out (chain_any g.out.idx a h0) (rfl))
   have E5:=Lib.hid (fun wx (g:Hid (Tl m pr IB w4.heap.size w wx))=>tlr (l':=chainM m a) g.out (rchain16_any m pr a wx g.out.mod h0 (by omega) (by omega)) (rfl))
   have L5:Hid ((chainM m a).length≤1000000):=Lib.hid (by have:=chainM_le h0 a;omega)
   have K1:=Lib.hid (fun wx (g:Hid (Tl m pr IB w4.heap.size w wx))=>tl3 g.out (common_any g.out.idx a b (.slice none 0 0) [] (by simp) (.inl ⟨none,0,rfl,rfl⟩) h0))
   have K2:=Lib.hid (fun wx (g:Hid (Tl m pr IB w4.heap.size w wx)) (lv:Value) (hr:Hid (RowIn wx lv [a,b]))=>tl2 (u':=.int .i64 (commonM m a [b])) g.out (rcommon16_any m pr [a,b] lv wx g.out.mod h0 hr.out (by simp) (by omega) (by omega)) (by rw [common_eq h0 a [b] [a,b] (fun x=>by simp)]))
   have W8:=Lib.hid (fun wx (g:Hid (Tl m pr IB w4.heap.size w wx))=>WK.out wx g.out.bel)
   unfold ixV mdV at C1 C3 C5 C7 C9 C11 C13 E0 E1 E2 E3 E4 E5 K2
   clear h0 ha hv hg ht HA
   have G5:=Lib.hid (below_al1 w4 (.cells #[.string m.nm,.slice pr.a1 m.vars.length pr.c1,.slice pr.a2 m.evs.length pr.c2,.slice pr.a3 m.regs.length pr.c3,.slice pr.a4 m.vers.length pr.c4,.slice pr.a5 m.trns.length pr.c5] 93))
   have HT:Hid (Tl m pr IB w4.heap.size w (w4.alloc (.cells #[.string m.nm,.slice pr.a1 m.vars.length pr.c1,.slice pr.a2 m.evs.length pr.c2,.slice pr.a3 m.regs.length pr.c3,.slice pr.a4 m.vers.length pr.c4,.slice pr.a5 m.trns.length pr.c5] 93))):=Lib.hid ⟨HB4.out.trans (G5.out.mono HB4.out.size),HI.out.grown G5.out,HM.out.below G5.out,boxT w4 m pr _⟩
   clear G5 HB4 HI HM
   go_upto_region 6 with fail
   generalize w4.alloc (.cells #[.string m.nm,.slice pr.a1 m.vars.length pr.c1,.slice pr.a2 m.evs.length pr.c2,.slice pr.a3 m.regs.length pr.c3,.slice pr.a4 m.vers.length pr.c4,.slice pr.a5 m.trns.length pr.c5] 93)=W5 at *
   have HSS:Hid (∀ W',Hid (Tl m pr IB w4.heap.size w W')→(W'.cell? ⟨w4.heap.size,0,none⟩=some (.string m.nm)∧W'.cell? ⟨w4.heap.size,1,none⟩=some (.slice pr.a1 m.vars.length pr.c1)∧W'.cell? ⟨w4.heap.size,2,none⟩=some (.slice pr.a2 m.evs.length pr.c2)∧W'.cell? ⟨w4.heap.size,3,none⟩=some (.slice pr.a3 m.regs.length pr.c3)∧W'.cell? ⟨w4.heap.size,4,none⟩=some (.slice pr.a4 m.vers.length pr.c4)∧W'.cell? ⟨w4.heap.size,5,none⟩=some (.slice pr.a5 m.trns.length pr.c5))):=Lib.hid fun W' g=>by
     obtain ⟨x0,x1,x2,x3,x4,x5,_⟩:=g.out.box
     exact ⟨x0,x1,x2,x3,x4,x5⟩
   have HTd:Hid (Tl m pr IB w4.heap.size w W5.drew):=Lib.hid (HT.out.below (Below.refl _ _).drew)
   refine wp_region_any (by kernel_rfl) ?_
   change wpAny _ _ _ _ _ _ _ (World.drew _)
   refine wpAny_of_heldS (S:=(fun W'=>(W'.cell? ⟨w4.heap.size,0,none⟩=some (.string m.nm)∧W'.cell? ⟨w4.heap.size,1,none⟩=some (.slice pr.a1 m.vars.length pr.c1)∧W'.cell? ⟨w4.heap.size,2,none⟩=some (.slice pr.a2 m.evs.length pr.c2)∧W'.cell? ⟨w4.heap.size,3,none⟩=some (.slice pr.a3 m.regs.length pr.c3)∧W'.cell? ⟨w4.heap.size,4,none⟩=some (.slice pr.a4 m.vers.length pr.c4)∧W'.cell? ⟨w4.heap.size,5,none⟩=some (.slice pr.a5 m.trns.length pr.c5)))) ?_ (fun hHeld=>?_)
   · (try dsimp only) <;> (exact HSS.out _ (by assumption))
   refine tk 0 rfl ?_
   try simp only [Act.put,lyA,lyZ,lyS]
   refine tk 1 rfl ?_
   try simp only [Act.put,lyA,lyZ,lyS]
   refine tk 3 rfl ?_
   try simp only [Act.put,lyA,lyZ,lyS]
   refine tk 4 rfl ?_
   try simp only [Act.put,lyA,lyZ,lyS]
   refine rdy [2] ?_
   refine rdC rfl (fun K hK=>?_) ?_
   (go_simp;(with_reducible refine (C0.out _ (by assumption)).mono ?_);rintro e v1 ⟨rfl,hn1⟩;go_wp2_with fail)
   refine hK.out _ _ ?_ (fun hH1=>?_)
   · (try dsimp only) <;> (exact HSS.out _ (by assumption))
   clear hK K hHeld
   try simp only [Act.put,lyA,lyZ,lyS]
   refine rdy [5] ?_
   refine rdC rfl (fun K hK=>?_) ?_
   (go_simp;(with_reducible refine (C1.out _ (by assumption)).mono ?_);rintro e v2 ⟨rfl,hn2⟩;go_wp2_with fail)
   refine hK.out _ _ ?_ (fun hH2=>?_)
   · (try dsimp only) <;> (exact HSS.out _ (by assumption))
   clear hK K hH1
   try simp only [Act.put,lyA,lyZ,lyS]
   refine tk 6 rfl ?_
   try simp only [Act.put,lyA,lyZ,lyS]
   refine tk 7 rfl ?_
   try simp only [Act.put,lyA,lyZ,lyS]
   refine tk 8 rfl ?_
   try simp only [Act.put,lyA,lyZ,lyS]
   refine tk 9 rfl ?_
   try simp only [Act.put,lyA,lyZ,lyS]
   refine tk 11 rfl ?_
   try simp only [Act.put,lyA,lyZ,lyS]
   refine tk 12 rfl ?_
   try simp only [Act.put,lyA,lyZ,lyS]
   refine rdy [10] ?_
   refine rdC rfl (fun K hK=>?_) ?_
   (go_simp;(with_reducible refine (C2.out _ (by assumption)).mono ?_);rintro e v3 ⟨rfl,hn3⟩;go_wp2_with fail)
   refine hK.out _ _ ?_ (fun hH3=>?_)
   · (try dsimp only) <;> (exact HSS.out _ (by assumption))
   clear hK K hH2
   try simp only [Act.put,lyA,lyZ,lyS]
   refine rdy [13] ?_
   refine rdC rfl (fun K hK=>?_) ?_
   (go_simp;(with_reducible refine (C3.out _ (by assumption)).mono ?_);rintro e v4 ⟨rfl,hn4⟩;go_wp2_with fail)
   refine hK.out _ _ ?_ (fun hH4=>?_)
   · (try dsimp only) <;> (exact HSS.out _ (by assumption))
   clear hK K hH3
   try simp only [Act.put,lyA,lyZ,lyS]
   refine tk 14 rfl ?_
   try simp only [Act.put,lyA,lyZ,lyS]
   refine tk 15 rfl ?_
   try simp only [Act.put,lyA,lyZ,lyS]
   refine tk 16 rfl ?_
   try simp only [Act.put,lyA,lyZ,lyS]
   refine tk 17 rfl ?_
   try simp only [Act.put,lyA,lyZ,lyS]
   refine tk 18 rfl ?_
   try simp only [Act.put,lyA,lyZ,lyS]
   refine tk 20 rfl ?_
   try simp only [Act.put,lyA,lyZ,lyS]
   refine tk 21 rfl ?_
   try simp only [Act.put,lyA,lyZ,lyS]
   refine rdy [19] ?_
   refine rdC rfl (fun K hK=>?_) ?_
   (go_simp;(with_reducible refine (C4.out _ (by assumption)).mono ?_);rintro e v5 ⟨rfl,hn5⟩;go_wp2_with fail)
   refine hK.out _ _ ?_ (fun hH5=>?_)
   · (try dsimp only) <;> (exact HSS.out _ (by assumption))
   clear hK K hH4
   try simp only [Act.put,lyA,lyZ,lyS]
   refine rdy [22] ?_
   refine rdC rfl (fun K hK=>?_) ?_
   (go_simp;(with_reducible refine (C5.out _ (by assumption)).mono ?_);rintro e v6 ⟨rfl,hn6⟩;go_wp2_with fail)
   refine hK.out _ _ ?_ (fun hH6=>?_)
   · (try dsimp only) <;> (exact HSS.out _ (by assumption))
   clear hK K hH5
   try simp only [Act.put,lyA,lyZ,lyS]
   refine tk 23 rfl ?_
   try simp only [Act.put,lyA,lyZ,lyS]
   refine tk 24 rfl ?_
   try simp only [Act.put,lyA,lyZ,lyS]
   refine tk 25 rfl ?_
   try simp only [Act.put,lyA,lyZ,lyS]
   refine tk 26 rfl ?_
   try simp only [Act.put,lyA,lyZ,lyS]
   refine tk 27 rfl ?_
   try simp only [Act.put,lyA,lyZ,lyS]
   refine tk 28 rfl ?_
   try simp only [Act.put,lyA,lyZ,lyS]
   refine tk 30 rfl ?_
   try simp only [Act.put,lyA,lyZ,lyS]
   refine tk 31 rfl ?_
   try simp only [Act.put,lyA,lyZ,lyS]
   refine tk 32 rfl ?_
   try simp only [Act.put,lyA,lyZ,lyS]
   refine rdy [29] ?_
   refine rdC rfl (fun K hK=>?_) ?_
   (go_simp;(with_reducible refine (C6.out _ (by assumption)).mono ?_);rintro e v7 ⟨rfl,hn7⟩;go_wp2_with fail)
   refine hK.out _ _ ?_ (fun hH7=>?_)
   · (try dsimp only) <;> (exact HSS.out _ (by assumption))
   clear hK K hH6
   try simp only [Act.put,lyA,lyZ,lyS]
   refine rdy [33] ?_
   refine rdC rfl (fun K hK=>?_) ?_
   (go_simp;(with_reducible refine (C7.out _ (by assumption)).mono ?_);rintro e v8 ⟨rfl,hn8⟩;go_wp2_with fail)
   refine hK.out _ _ ?_ (fun hH8=>?_)
   · (try dsimp only) <;> (exact HSS.out _ (by assumption))
   clear hK K hH7
   try simp only [Act.put,lyA,lyZ,lyS]
   refine tk 34 rfl ?_
   try simp only [Act.put,lyA,lyZ,lyS]
   refine tk 35 rfl ?_
   try simp only [Act.put,lyA,lyZ,lyS]
   refine tk 36 rfl ?_
   try simp only [Act.put,lyA,lyZ,lyS]
   refine tk 37 rfl ?_
   try simp only [Act.put,lyA,lyZ,lyS]
   refine tk 38 rfl ?_
   try simp only [Act.put,lyA,lyZ,lyS]
   refine tk 39 rfl ?_
   try simp only [Act.put,lyA,lyZ,lyS]
   refine tk 41 rfl ?_
   try simp only [Act.put,lyA,lyZ,lyS]
   refine tk 42 rfl ?_
   try simp only [Act.put,lyA,lyZ,lyS]
   refine tk 43 rfl ?_
   try simp only [Act.put,lyA,lyZ,lyS]
   refine rdy [40] ?_
   refine rdC rfl (fun K hK=>?_) ?_
   (go_simp;(with_reducible refine (C8.out _ (by assumption)).mono ?_);rintro e v9 ⟨rfl,hn9⟩;go_wp2_with fail)
   refine hK.out _ _ ?_ (fun hH9=>?_)
   · (try dsimp only) <;> (exact HSS.out _ (by assumption))
   clear hK K hH8
   try simp only [Act.put,lyA,lyZ,lyS]
   refine rdy [44] ?_
   refine rdC rfl (fun K hK=>?_) ?_
   (go_simp;(with_reducible refine (C9.out _ (by assumption)).mono ?_);rintro e v10 ⟨rfl,hn10⟩;go_wp2_with fail)
   refine hK.out _ _ ?_ (fun hH10=>?_)
   · (try dsimp only) <;> (exact HSS.out _ (by assumption))
   clear hK K hH9
   try simp only [Act.put,lyA,lyZ,lyS]
   refine tk 45 rfl ?_
   try simp only [Act.put,lyA,lyZ,lyS]
   refine tk 46 rfl ?_
   try simp only [Act.put,lyA,lyZ,lyS]
   refine tk 47 rfl ?_
   try simp only [Act.put,lyA,lyZ,lyS]
   refine tk 48 rfl ?_
   try simp only [Act.put,lyA,lyZ,lyS]
   refine tk 49 rfl ?_
   try simp only [Act.put,lyA,lyZ,lyS]
   refine tk 50 rfl ?_
   try simp only [Act.put,lyA,lyZ,lyS]
   refine tk 52 rfl ?_
   try simp only [Act.put,lyA,lyZ,lyS]
   refine tk 53 rfl ?_
   try simp only [Act.put,lyA,lyZ,lyS]
   refine tk 54 rfl ?_
   try simp only [Act.put,lyA,lyZ,lyS]
   refine rdy [51] ?_
   refine rdC rfl (fun K hK=>?_) ?_
   (go_simp;(with_reducible refine (C10.out _ (by assumption)).mono ?_);rintro e v11 ⟨rfl,hn11⟩;go_wp2_with fail)
   refine hK.out _ _ ?_ (fun hH11=>?_)
   · (try dsimp only) <;> (exact HSS.out _ (by assumption))
   clear hK K hH10
   try simp only [Act.put,lyA,lyZ,lyS]
   refine rdy [55] ?_
   refine rdC rfl (fun K hK=>?_) ?_
   (go_simp;(with_reducible refine (C11.out _ (by assumption)).mono ?_);rintro e v12 ⟨rfl,hn12⟩;go_wp2_with fail)
   refine hK.out _ _ ?_ (fun hH12=>?_)
   · (try dsimp only) <;> (exact HSS.out _ (by assumption))
   clear hK K hH11
   try simp only [Act.put,lyA,lyZ,lyS]
   refine tk 56 rfl ?_
   try simp only [Act.put,lyA,lyZ,lyS]
   refine tk 57 rfl ?_
   try simp only [Act.put,lyA,lyZ,lyS]
   refine tk 58 rfl ?_
   try simp only [Act.put,lyA,lyZ,lyS]
   refine tk 59 rfl ?_
   try simp only [Act.put,lyA,lyZ,lyS]
   refine tk 60 rfl ?_
   try simp only [Act.put,lyA,lyZ,lyS]
   refine tk 62 rfl ?_
   try simp only [Act.put,lyA,lyZ,lyS]
   refine tk 63 rfl ?_
   try simp only [Act.put,lyA,lyZ,lyS]
   refine rdy [61] ?_
   refine rdC rfl (fun K hK=>?_) ?_
   (go_simp;(with_reducible refine (C12.out _ (by assumption)).mono ?_);rintro e v13 ⟨rfl,hn13⟩;go_wp2_with fail)
   refine hK.out _ _ ?_ (fun hH13=>?_)
   · (try dsimp only) <;> (exact HSS.out _ (by assumption))
   clear hK K hH12
   try simp only [Act.put,lyA,lyZ,lyS]
   refine rdy [64] ?_
   refine rdC rfl (fun K hK=>?_) ?_
   (go_simp;(with_reducible refine (C13.out _ (by assumption)).mono ?_);rintro e v14 ⟨rfl,hn14⟩;go_wp2_with fail)
   refine hK.out _ _ ?_ (fun hH14=>?_)
   · (try dsimp only) <;> (exact HSS.out _ (by assumption))
   clear hK K hH13
   try simp only [Act.put,lyA,lyZ,lyS]
   refine tk 65 rfl ?_
   try simp only [Act.put,lyA,lyZ,lyS]
   refine tk 66 rfl ?_
   try simp only [Act.put,lyA,lyZ,lyS]
   refine wpAnyH_done (by kernel_rfl) ?_ _
   rotate_left
   exact AllReadyH.nil
   exact AllReadyH.nil
   exact AllReadyH.nil
   exact AllReadyH.nil
   exact AllReadyH.nil
   exact AllReadyH.nil
   exact AllReadyH.nil
   exact AllReadyH.nil
   exact AllReadyH.nil
   exact AllReadyH.nil
   exact AllReadyH.nil
   exact AllReadyH.nil
   exact AllReadyH.nil
   exact AllReadyH.nil
   all_goals as_aux_lemma =>
     go_wp2_with fail
     have HTe:Hid (Tl m pr IB w4.heap.size w v14.drew):=Lib.hid (hn14.out.below (Below.refl _ _).drew)
     clear hn1 hn2 hn3 hn4 hn5 hn6 hn7 hn8 hn9 hn10 hn11 hn12 hn13 HTd HT C0 C1 C2 C3 C4 C5 C6 C7 C8 C9 C10 C11 C12 C13
     refine wp_region_any (by kernel_rfl) ?_
     change wpAny _ _ _ _ _ _ _ (World.drew _)
     refine wpAny_of_heldS (S:=(fun W'=>(W'.cell? ⟨w4.heap.size,0,none⟩=some (.string m.nm)∧W'.cell? ⟨w4.heap.size,1,none⟩=some (.slice pr.a1 m.vars.length pr.c1)∧W'.cell? ⟨w4.heap.size,2,none⟩=some (.slice pr.a2 m.evs.length pr.c2)∧W'.cell? ⟨w4.heap.size,3,none⟩=some (.slice pr.a3 m.regs.length pr.c3)∧W'.cell? ⟨w4.heap.size,4,none⟩=some (.slice pr.a4 m.vers.length pr.c4)∧W'.cell? ⟨w4.heap.size,5,none⟩=some (.slice pr.a5 m.trns.length pr.c5)))) ?_ (fun hHeld=>?_)
     · (try dsimp only) <;> (exact HSS.out _ (by assumption))
     refine tk 0 rfl ?_
     try simp only [Act.put,lyA,lyZ,lyS]
     refine tk 1 rfl ?_
     try simp only [Act.put,lyA,lyZ,lyS]
     refine tk 3 rfl ?_
     try simp only [Act.put,lyA,lyZ,lyS]
     refine tk 4 rfl ?_
     try simp only [Act.put,lyA,lyZ,lyS]
     refine rdy [2] ?_
     refine rdC rfl (fun K hK=>?_) ?_
     (go_simp;(with_reducible refine (D0.out _ (by assumption)).mono ?_);rintro e d0 ⟨r0,rfl,h0,hn,_⟩;go_wp2_with fail)
     refine hK.out _ _ ?_ (fun hH1=>?_)
     · (try dsimp only) <;> (exact HSS.out _ (by assumption))
     clear hK K hHeld
     try simp only [Act.put,lyA,lyZ,lyS]
     refine rdy [5] ?_
     refine rdC rfl (fun K hK=>?_) ?_
     (go_simp;(with_reducible refine (E0.out _ (by assumption)).mono ?_);rintro e e0 ⟨s0,rfl,k0,hn,g⟩;have t0:=Lib.hid (h0.out.below g);go_wp2_with fail)
     refine hK.out _ _ ?_ (fun hH2=>?_)
     · (try dsimp only) <;> (exact HSS.out _ (by assumption))
     clear hK K hH1
     try simp only [Act.put,lyA,lyZ,lyS]
     refine rdy [6] ?_
     refine rdC rfl (fun K hK=>?_) ?_
     (go_simp;(with_reducible refine (CS.out _ (by assumption) _ _ _ t0 k0 L0.out).mono ?_);rintro e f0 ⟨rfl,hnF0⟩;go_wp2_with fail)
     refine hK.out _ _ ?_ (fun hH3=>?_)
     · (try dsimp only) <;> (exact HSS.out _ (by assumption))
     clear hK K hH2
     try simp only [Act.put,lyA,lyZ,lyS]
     refine tk 7 rfl ?_
     try simp only [Act.put,lyA,lyZ,lyS]
     refine tk 8 rfl ?_
     try simp only [Act.put,lyA,lyZ,lyS]
     refine tk 9 rfl ?_
     try simp only [Act.put,lyA,lyZ,lyS]
     refine tk 11 rfl ?_
     try simp only [Act.put,lyA,lyZ,lyS]
     refine tk 12 rfl ?_
     try simp only [Act.put,lyA,lyZ,lyS]
     refine rdy [10] ?_
     refine rdC rfl (fun K hK=>?_) ?_
     (go_simp;(with_reducible refine (D1.out _ (by assumption)).mono ?_);rintro e d1 ⟨r1,rfl,h1,hn,_⟩;go_wp2_with fail)
     refine hK.out _ _ ?_ (fun hH4=>?_)
     · (try dsimp only) <;> (exact HSS.out _ (by assumption))
     clear hK K hH3
     try simp only [Act.put,lyA,lyZ,lyS]
     refine rdy [13] ?_
     refine rdC rfl (fun K hK=>?_) ?_
     (go_simp;(with_reducible refine (E1.out _ (by assumption)).mono ?_);rintro e e1 ⟨s1,rfl,k1,hn,g⟩;have t1:=Lib.hid (h1.out.below g);go_wp2_with fail)
     refine hK.out _ _ ?_ (fun hH5=>?_)
     · (try dsimp only) <;> (exact HSS.out _ (by assumption))
     clear hK K hH4
     try simp only [Act.put,lyA,lyZ,lyS]
     refine rdy [14] ?_
     refine rdC rfl (fun K hK=>?_) ?_
     (go_simp;(with_reducible refine (CS.out _ (by assumption) _ _ _ t1 k1 L1.out).mono ?_);rintro e f1 ⟨rfl,hnF1⟩;go_wp2_with fail)
     refine hK.out _ _ ?_ (fun hH6=>?_)
     · (try dsimp only) <;> (exact HSS.out _ (by assumption))
     clear hK K hH5
     try simp only [Act.put,lyA,lyZ,lyS]
     refine tk 15 rfl ?_
     try simp only [Act.put,lyA,lyZ,lyS]
     refine tk 16 rfl ?_
     try simp only [Act.put,lyA,lyZ,lyS]
     refine tk 17 rfl ?_
     try simp only [Act.put,lyA,lyZ,lyS]
     refine tk 18 rfl ?_
     try simp only [Act.put,lyA,lyZ,lyS]
     refine tk 20 rfl ?_
     try simp only [Act.put,lyA,lyZ,lyS]
     refine tk 21 rfl ?_
     try simp only [Act.put,lyA,lyZ,lyS]
     refine rdy [19] ?_
     refine rdC rfl (fun K hK=>?_) ?_
     (go_simp;(with_reducible refine (D2.out _ (by assumption)).mono ?_);rintro e d2 ⟨r2,rfl,h2,hn,_⟩;go_wp2_with fail)
     refine hK.out _ _ ?_ (fun hH7=>?_)
     · (try dsimp only) <;> (exact HSS.out _ (by assumption))
     clear hK K hH6
     try simp only [Act.put,lyA,lyZ,lyS]
     refine rdy [22] ?_
     refine rdC rfl (fun K hK=>?_) ?_
     (go_simp;(with_reducible refine (E2.out _ (by assumption)).mono ?_);rintro e e2 ⟨s2,rfl,k2,hn,g⟩;have t2:=Lib.hid (h2.out.below g);go_wp2_with fail)
     refine hK.out _ _ ?_ (fun hH8=>?_)
     · (try dsimp only) <;> (exact HSS.out _ (by assumption))
     clear hK K hH7
     try simp only [Act.put,lyA,lyZ,lyS]
     refine rdy [23] ?_
     refine rdC rfl (fun K hK=>?_) ?_
     (go_simp;(with_reducible refine (CS.out _ (by assumption) _ _ _ t2 k2 L2.out).mono ?_);rintro e f2 ⟨rfl,hnF2⟩;go_wp2_with fail)
     refine hK.out _ _ ?_ (fun hH9=>?_)
     · (try dsimp only) <;> (exact HSS.out _ (by assumption))
     clear hK K hH8
     try simp only [Act.put,lyA,lyZ,lyS]
     refine tk 24 rfl ?_
     try simp only [Act.put,lyA,lyZ,lyS]
     refine tk 25 rfl ?_
     try simp only [Act.put,lyA,lyZ,lyS]
     refine tk 26 rfl ?_
     try simp only [Act.put,lyA,lyZ,lyS]
     refine tk 27 rfl ?_
     try simp only [Act.put,lyA,lyZ,lyS]
     refine tk 29 rfl ?_
     try simp only [Act.put,lyA,lyZ,lyS]
     refine tk 30 rfl ?_
     try simp only [Act.put,lyA,lyZ,lyS]
     refine rdy [28] ?_
     refine rdC rfl (fun K hK=>?_) ?_
     (go_simp;(with_reducible refine (D3.out _ (by assumption)).mono ?_);rintro e d3 ⟨r3,rfl,h3,hn,_⟩;go_wp2_with fail)
     refine hK.out _ _ ?_ (fun hH10=>?_)
     · (try dsimp only) <;> (exact HSS.out _ (by assumption))
     clear hK K hH9
     try simp only [Act.put,lyA,lyZ,lyS]
     refine rdy [31] ?_
     refine rdC rfl (fun K hK=>?_) ?_
     (go_simp;(with_reducible refine (E3.out _ (by assumption)).mono ?_);rintro e e3 ⟨s3,rfl,k3,hn,g⟩;have t3:=Lib.hid (h3.out.below g);go_wp2_with fail)
     refine hK.out _ _ ?_ (fun hH11=>?_)
     · (try dsimp only) <;> (exact HSS.out _ (by assumption))
     clear hK K hH10
     try simp only [Act.put,lyA,lyZ,lyS]
     refine rdy [32] ?_
     refine rdC rfl (fun K hK=>?_) ?_
     (go_simp;(with_reducible refine (CS.out _ (by assumption) _ _ _ t3 k3 L3.out).mono ?_);rintro e f3 ⟨rfl,hnF3⟩;go_wp2_with fail)
     refine hK.out _ _ ?_ (fun hH12=>?_)
     · (try dsimp only) <;> (exact HSS.out _ (by assumption))
     clear hK K hH11
     try simp only [Act.put,lyA,lyZ,lyS]
     refine tk 33 rfl ?_
     try simp only [Act.put,lyA,lyZ,lyS]
     refine tk 34 rfl ?_
     try simp only [Act.put,lyA,lyZ,lyS]
     refine tk 35 rfl ?_
     try simp only [Act.put,lyA,lyZ,lyS]
     refine tk 36 rfl ?_
     try simp only [Act.put,lyA,lyZ,lyS]
     refine tk 38 rfl ?_
     try simp only [Act.put,lyA,lyZ,lyS]
     refine tk 39 rfl ?_
     try simp only [Act.put,lyA,lyZ,lyS]
     refine rdy [37] ?_
     refine rdC rfl (fun K hK=>?_) ?_
     (go_simp;(with_reducible refine (D4.out _ (by assumption)).mono ?_);rintro e d4 ⟨r4,rfl,h4,hn,_⟩;go_wp2_with fail)
     refine hK.out _ _ ?_ (fun hH13=>?_)
     · (try dsimp only) <;> (exact HSS.out _ (by assumption))
     clear hK K hH12
     try simp only [Act.put,lyA,lyZ,lyS]
     refine rdy [40] ?_
     refine rdC rfl (fun K hK=>?_) ?_
     (go_simp;(with_reducible refine (E4.out _ (by assumption)).mono ?_);rintro e e4 ⟨s4,rfl,k4,hn,g⟩;have t4:=Lib.hid (h4.out.below g);go_wp2_with fail)
     refine hK.out _ _ ?_ (fun hH14=>?_)
     · (try dsimp only) <;> (exact HSS.out _ (by assumption))
     clear hK K hH13
     try simp only [Act.put,lyA,lyZ,lyS]
     refine rdy [41] ?_
     refine rdC rfl (fun K hK=>?_) ?_
     (go_simp;(with_reducible refine (CS.out _ (by assumption) _ _ _ t4 k4 L4.out).mono ?_);rintro e f4 ⟨rfl,hnF4⟩;go_wp2_with fail)
     refine hK.out _ _ ?_ (fun hH15=>?_)
     · (try dsimp only) <;> (exact HSS.out _ (by assumption))
     clear hK K hH14
     try simp only [Act.put,lyA,lyZ,lyS]
     refine tk 42 rfl ?_
     try simp only [Act.put,lyA,lyZ,lyS]
     refine tk 43 rfl ?_
     try simp only [Act.put,lyA,lyZ,lyS]
     refine tk 44 rfl ?_
     try simp only [Act.put,lyA,lyZ,lyS]
     refine tk 45 rfl ?_
     try simp only [Act.put,lyA,lyZ,lyS]
     refine tk 47 rfl ?_
     try simp only [Act.put,lyA,lyZ,lyS]
     refine tk 48 rfl ?_
     try simp only [Act.put,lyA,lyZ,lyS]
     refine rdy [46] ?_
     refine rdC rfl (fun K hK=>?_) ?_
     (go_simp;(with_reducible refine (D5.out _ (by assumption)).mono ?_);rintro e d5 ⟨r5,rfl,h5,hn,_⟩;go_wp2_with fail)
     refine hK.out _ _ ?_ (fun hH16=>?_)
     · (try dsimp only) <;> (exact HSS.out _ (by assumption))
     clear hK K hH15
     try simp only [Act.put,lyA,lyZ,lyS]
     refine rdy [49] ?_
     refine rdC rfl (fun K hK=>?_) ?_
     (go_simp;(with_reducible refine (E5.out _ (by assumption)).mono ?_);rintro e e5 ⟨s5,rfl,k5,hn,g⟩;have t5:=Lib.hid (h5.out.below g);go_wp2_with fail)
     refine hK.out _ _ ?_ (fun hH17=>?_)
     · (try dsimp only) <;> (exact HSS.out _ (by assumption))
     clear hK K hH16
     try simp only [Act.put,lyA,lyZ,lyS]
     refine rdy [50] ?_
     refine rdC rfl (fun K hK=>?_) ?_
     (go_simp;(with_reducible refine (CS.out _ (by assumption) _ _ _ t5 k5 L5.out).mono ?_);rintro e f5 ⟨rfl,hnF5⟩;go_wp2_with fail)
     refine hK.out _ _ ?_ (fun hH18=>?_)
     · (try dsimp only) <;> (exact HSS.out _ (by assumption))
     clear hK K hH17
     try simp only [Act.put,lyA,lyZ,lyS]
     refine tk 51 rfl ?_
     try simp only [Act.put,lyA,lyZ,lyS]
     refine tk 52 rfl ?_
     try simp only [Act.put,lyA,lyZ,lyS]
     refine tk 53 rfl ?_
     try simp only [Act.put,lyA,lyZ,lyS]
     refine tk 54 rfl ?_
     try simp only [Act.put,lyA,lyZ,lyS]
     refine tk 55 rfl ?_
     try simp only [Act.put,lyA,lyZ,lyS]
     refine tk 57 rfl ?_
     try simp only [Act.put,lyA,lyZ,lyS]
     refine tk 58 rfl ?_
     try simp only [Act.put,lyA,lyZ,lyS]
     refine tk 59 rfl ?_
     try simp only [Act.put,lyA,lyZ,lyS]
     refine rdy [56,60] ?_
     refine rdC rfl (fun K hK=>?_) ?_
     (go_simp;(with_reducible refine (K1.out _ (by assumption)).mono ?_);rintro e kk1 ⟨rfl,hnK,gK⟩;(first | (have hrC:=Lib.hid (hrB.out.below gK)) | skip);go_wp2_with fail)
     refine hK.out _ _ ?_ (fun hH19=>?_)
     · (try dsimp only) <;> (exact HSS.out _ (by assumption))
     clear hK K hH18
     try simp only [Act.put,lyA,lyZ,lyS]
     refine rdy [60] ?_
     refine rdC rfl (fun K hK=>?_) ?_
     (go_simp;(first | (have hnB:Hid (Tl m pr IB w4.heap.size w (kk1.alloc (.cells #[.int .i64 a,.int .i64 b] 3))):=Lib.hid (hnK.out.below (below_al1 kk1 _));have hrC:Hid (RowIn (kk1.alloc (.cells #[.int .i64 a,.int .i64 b] 3)) (.slice (some ⟨kk1.heap.size,0,none⟩) 2 2) [a,b]):=Lib.hid (RowIn.fresh kk1 [a,b] _ rfl 2 rfl)) | (have hnB:Hid (Tl m pr IB w4.heap.size w (f5.alloc (.cells #[.int .i64 a,.int .i64 b] 3))):=Lib.hid (hnF5.out.below (below_al1 f5 _));have hrB:Hid (RowIn (f5.alloc (.cells #[.int .i64 a,.int .i64 b] 3)) (.slice (some ⟨f5.heap.size,0,none⟩) 2 2) [a,b]):=Lib.hid (RowIn.fresh f5 [a,b] _ rfl 2 rfl))))
     refine hK.out _ _ ?_ (fun hH20=>?_)
     · (try dsimp only) <;> (exact HSS.out _ (by assumption))
     clear hK K hH19
     try simp only [Act.put,lyA,lyZ,lyS]
     refine rdy [61] ?_
     refine rdC rfl (fun K hK=>?_) ?_
     (go_simp;(with_reducible refine (K2.out _ (by assumption) _ (by assumption)).mono ?_);rintro e kk2 ⟨rfl,hnL⟩;go_wp2_with fail)
     refine hK.out _ _ ?_ (fun hH21=>?_)
     · (try dsimp only) <;> (exact HSS.out _ (by assumption))
     clear hK K hH20
     try simp only [Act.put,lyA,lyZ,lyS]
     refine tk 62 rfl ?_
     try simp only [Act.put,lyA,lyZ,lyS]
     refine tk 63 rfl ?_
     try simp only [Act.put,lyA,lyZ,lyS]
     refine tk 64 rfl ?_
     try simp only [Act.put,lyA,lyZ,lyS]
     refine rdy [65] ?_
     refine rdC rfl (fun K hK=>?_) ?_
     (go_simp;(with_reducible refine (W8.out _ (by assumption)).mono ?_);rintro e kk3 ⟨rfl,gZ⟩;have hnZ:=Lib.hid (hnL.out.below gZ);go_wp2_with fail)
     refine hK.out _ _ ?_ (fun hH22=>?_)
     · (try dsimp only) <;> (exact HSS.out _ (by assumption))
     clear hK K hH21
     try simp only [Act.put,lyA,lyZ,lyS]
     refine tk 66 rfl ?_
     try simp only [Act.put,lyA,lyZ,lyS]
     refine tk 67 rfl ?_
     try simp only [Act.put,lyA,lyZ,lyS]
     refine wpAnyH_done (by kernel_rfl) ?_ _
     rotate_left
     exact AllReadyH.nil
     exact AllReadyH.nil
     exact AllReadyH.nil
     refine rdC rfl (fun K hK=>?_) ?_
     (go_simp;(first | (have hnB:Hid (Tl m pr IB w4.heap.size w (kk1.alloc (.cells #[.int .i64 a,.int .i64 b] 3))):=Lib.hid (hnK.out.below (below_al1 kk1 _));have hrC:Hid (RowIn (kk1.alloc (.cells #[.int .i64 a,.int .i64 b] 3)) (.slice (some ⟨kk1.heap.size,0,none⟩) 2 2) [a,b]):=Lib.hid (RowIn.fresh kk1 [a,b] _ rfl 2 rfl)) | (have hnB:Hid (Tl m pr IB w4.heap.size w (f5.alloc (.cells #[.int .i64 a,.int .i64 b] 3))):=Lib.hid (hnF5.out.below (below_al1 f5 _));have hrB:Hid (RowIn (f5.alloc (.cells #[.int .i64 a,.int .i64 b] 3)) (.slice (some ⟨f5.heap.size,0,none⟩) 2 2) [a,b]):=Lib.hid (RowIn.fresh f5 [a,b] _ rfl 2 rfl))))
     refine hK.out _ _ ?_ (fun hH23=>?_)
     · (try dsimp only) <;> (exact HSS.out _ (by assumption))
     clear hK K hH18
     try simp only [Act.put,lyA,lyZ,lyS]
     refine rdy [56] ?_
     refine rdC rfl (fun K hK=>?_) ?_
     (go_simp;(with_reducible refine (K1.out _ (by assumption)).mono ?_);rintro e kk1 ⟨rfl,hnK,gK⟩;(first | (have hrC:=Lib.hid (hrB.out.below gK)) | skip);go_wp2_with fail)
     refine hK.out _ _ ?_ (fun hH24=>?_)
     · (try dsimp only) <;> (exact HSS.out _ (by assumption))
     clear hK K hH23
     try simp only [Act.put,lyA,lyZ,lyS]
     refine rdy [61] ?_
     refine rdC rfl (fun K hK=>?_) ?_
     (go_simp;(with_reducible refine (K2.out _ (by assumption) _ (by assumption)).mono ?_);rintro e kk2 ⟨rfl,hnL⟩;go_wp2_with fail)
     refine hK.out _ _ ?_ (fun hH25=>?_)
     · (try dsimp only) <;> (exact HSS.out _ (by assumption))
     clear hK K hH24
     try simp only [Act.put,lyA,lyZ,lyS]
     refine tk 62 rfl ?_
     try simp only [Act.put,lyA,lyZ,lyS]
     refine tk 63 rfl ?_
     try simp only [Act.put,lyA,lyZ,lyS]
     refine tk 64 rfl ?_
     try simp only [Act.put,lyA,lyZ,lyS]
     refine rdy [65] ?_
     refine rdC rfl (fun K hK=>?_) ?_
     (go_simp;(with_reducible refine (W8.out _ (by assumption)).mono ?_);rintro e kk3 ⟨rfl,gZ⟩;have hnZ:=Lib.hid (hnL.out.below gZ);go_wp2_with fail)
     refine hK.out _ _ ?_ (fun hH26=>?_)
     · (try dsimp only) <;> (exact HSS.out _ (by assumption))
     clear hK K hH25
     try simp only [Act.put,lyA,lyZ,lyS]
     refine tk 66 rfl ?_
     try simp only [Act.put,lyA,lyZ,lyS]
     refine tk 67 rfl ?_
     try simp only [Act.put,lyA,lyZ,lyS]
     refine wpAnyH_done (by kernel_rfl) ?_ _
     rotate_left
     exact AllReadyH.nil
     exact AllReadyH.nil
     exact AllReadyH.nil
     exact AllReadyH.nil
     exact AllReadyH.nil
     exact AllReadyH.nil
     exact AllReadyH.nil
     exact AllReadyH.nil
     exact AllReadyH.nil
     exact AllReadyH.nil
     exact AllReadyH.nil
     exact AllReadyH.nil
     exact AllReadyH.nil
     exact AllReadyH.nil
     exact AllReadyH.nil
     exact AllReadyH.nil
     exact AllReadyH.nil
     exact AllReadyH.nil
     exact AllReadyH.nil
     exact AllReadyH.nil
     exact AllReadyH.nil
     exact AllReadyH.nil
     all_goals
       go_wp2_with fail
       go_ret
       exact ⟨rfl,hnZ.out.bel⟩
end Go.Proofs

