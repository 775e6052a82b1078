/- Walks: the law 'SetsTell'. -/
import Derived.Test.YtodbdacdnoeheaaGreatDoorZRsAF
namespace Go.Proofs
open Go.RowKit Go.Lx Go.Md Go.Shelf Go.BigFrame Go.Rgi
set_option linter.unusedVariables false
structure Ur (W:World) (R:List (Value × List Int)) (wx:World):Prop where
 bel:Below W.heap.size W wx
 rows:∀ x ∈ R,RowIn wx x.1 x.2
section
variable {W wx wy:World} {R:List (Value × List Int)} {f:Nat} {args:Array Value} {u:Value} {l:List Int}
theorem Ur.below (g:Ur W R wx) (h:Below wx.heap.size wx wy):Ur W R wy:=⟨g.bel.trans (h.mono g.bel.size),fun x hx=>(g.rows x hx).below h⟩
theorem Ur.drop (g:Ur W R wx):Ur W [] wx:=⟨g.bel,fun x hx=>by cases hx⟩
theorem Ur.start (W:World):Ur W [] W:=⟨Below.refl _ _,fun x hx=>by cases hx⟩
theorem Ur.add (g:Ur W R wx) {v:Value} {l:List Int} (h:RowIn wx v l):Ur W ((v,l) :: R) wx:=⟨g.bel,fun x hx=>by
 rcases List.mem_cons.1 hx with rfl | hx
 · exact h
 · exact g.rows x hx⟩
theorem ur1 (g:Ur W R wx) (h:Calls Tryz.prog f args wx fun e w'=>e=.returned u∧Below wx.heap.size wx w'):Calls Tryz.prog f args wx fun e w'=>e=.returned u∧Hid (Ur W R w') :=
 h.mono fun e w' ⟨he,hw⟩=>⟨he,Lib.hid (g.below hw)⟩
theorem ur0 (g:Ur W R wx) (h:Calls Tryz.prog f args wx fun e w'=>e=.returned u∧Below wx.heap.size wx w'):Calls Tryz.prog f args wx fun e w'=>e=.returned u∧Hid (Ur W [] w') :=
 h.mono fun e w' ⟨he,hw⟩=>⟨he,Lib.hid (g.below hw).drop⟩
theorem urr (g:Ur W R wx) (h:Calls Tryz.prog f args wx (RowP l wx)):Calls Tryz.prog f args wx fun e w'=>∃ v,e=.returned v∧Hid (Ur W ((v,l) :: R) w') :=
 h.mono fun e w' ⟨v,he,ho,hb⟩=>⟨v,he,Lib.hid ((g.below hb).add (RowIn.own ho))⟩
theorem urs (g:Ur W R wx) {u1 u2:Value} (h1:(u1,l) ∈ R) (h2:(u2,l) ∈ R) (hl:l.length≤1000000):Calls Tryz.prog 26 #[u1,u2] wx fun e w'=>e=.returned (.bool true)∧Hid (Ur W [] w') :=
 ur0 g (same_self l u1 u2 wx (g.rows _ h1) (g.rows _ h2) hl)
theorem urm1 (g:Ur W R wx) (x:Int):∃ u q,Value.slice (some ⟨wx.heap.size,0,none⟩) 1 1=u∧wx.alloc (.cells #[.int .i64 x] 3)=q∧Hid (Ur W ((u,[x]) :: R) q) :=
 ⟨_,_,rfl,rfl,Lib.hid ((g.below (below_al1 _ _)).add (RowIn.fresh wx [x] _ rfl 1 rfl))⟩
theorem urm2 (g:Ur W R wx) (x y:Int):∃ u q,Value.slice (some ⟨wx.heap.size,0,none⟩) 2 2=u∧wx.alloc (.cells #[.int .i64 x,.int .i64 y] 3)=q∧Hid (Ur W ((u,[x,y]) :: R) q) :=
 ⟨_,_,rfl,rfl,Lib.hid ((g.below (below_al1 _ _)).add (RowIn.fresh wx [x,y] _ rfl 2 rfl))⟩
def Ur2 (W:World) (R:List (Value × List Int)) (l1 l2:List Int) (e:Ending) (w':World):Prop:=∃ u1 t1 u2 t2,e=.returned (.agg #[.slice u1 l1.length t1,.slice u2 l2.length t2])∧Hid (Ur W ((.slice u1 l1.length t1,l1) :: (.slice u2 l2.length t2,l2) :: R) w')
theorem urp (g:Ur W R wx) {l1 l2:List Int} (h:Calls Tryz.prog f args wx (RefC l1 l2 wx)):Calls Tryz.prog f args wx (Ur2 W R l1 l2) :=
 h.mono fun e w' ⟨v1,v2,he,o1,o2,hb⟩=>by
   obtain ⟨u1,t1,rfl⟩:=ownsRow_slice o1
   obtain ⟨u2,t2,rfl⟩:=ownsRow_slice o2
   exact ⟨u1,t1,u2,t2,he,Lib.hid (((g.below hb).add (RowIn.own o2)).add (RowIn.own o1))⟩
theorem urc (g:Ur W R wx) {l1 l2:List Int} (h:Calls Tryz.prog f args wx (CloneC l1 l2 wx)):Calls Tryz.prog f args wx (Ur2 W R l1 l2) :=
 urp g (h.mono fun e w' ⟨v1,v2,he,o1,o2,_,hb⟩=>⟨v1,v2,he,o1,o2,hb⟩)
theorem uri {la ll da dl:List Int} {a1 a2 a3 a4:Option Addr} {c1 c2 c3 c4:Nat} (g:Ur W R wx) (h1:(Value.slice a1 la.length c1,la) ∈ R) (h2:(Value.slice a2 ll.length c2,ll) ∈ R) (h3:(Value.slice a3 da.length c3,da) ∈ R) (h4:(Value.slice a4 dl.length c4,dl) ∈ R) (b1:la.length≤900000) (b2:ll.length≤900000) (b3:da.length≤900000) (b4:dl.length≤900000) :
   Calls Tryz.prog 40 #[.agg #[.slice a1 la.length c1,.slice a2 ll.length c2],.agg #[.slice a3 da.length c3,.slice a4 dl.length c4]] wx fun e w'=>e=.returned (.bool (sameC la ll da dl))∧Hid (Ur W R w') :=
 ur1 g (is20_any la ll da dl a1 a2 a3 a4 c1 c2 c3 c4 wx (g.rows _ h1) (g.rows _ h2) (g.rows _ h3) (g.rows _ h4) b1 b2 b3 b4)
end
theorem Bx.keep1 {H g k n1 c1 n2 c2:Nat} {a1 a2:Option Addr} {w:World} (h:Bx H a1 n1 c1 a2 n2 c2 w) (hg:g≠H) (u:Value):Bx H a1 n1 c1 a2 n2 c2 (w.setCell ⟨g,k,none⟩ u) :=
 ⟨(World.cell?_setCell_other _ _ _ _ (by simp <;> omega)).trans h.c0,(World.cell?_setCell_other _ _ _ _ (by simp <;> omega)).trans h.c1,by rw [World.frozen?_setCell];exact h.f0,by rw [World.frozen?_setCell];exact h.f1,by rw [World.size_setCell];exact h.lt⟩
structure Wo (N M Ha Hd:Nat) (u1:Option Addr) (n1 t1:Nat) (u2:Option Addr) (n2 t2:Nat) (y1:Option Addr) (m1 s1:Nat) (y2:Option Addr) (m2 s2:Nat) (Wq wr:World):Prop where
 bel:Below N Wq wr
 ba:Bx Ha u1 n1 t1 u2 n2 t2 wr
 bd:Bx Hd y1 m1 s1 y2 m2 s2 wr
 oa:∃ xs,wr.ownsRow N 3 1 (.slice u1 n1 t1) n1 xs
 od:∃ xs,wr.ownsRow M 3 1 (.slice y2 m2 s2) m2 xs
theorem Wo.set1 {N M Ha Hd:Nat} {n1 t1:Nat} {u2:Option Addr} {n2 t2:Nat} {y1:Option Addr} {m1 s1:Nat} {y2:Option Addr} {m2 s2 g:Nat} {Wq wr:World} (h:Wo N M Ha Hd (some ⟨g,0,none⟩) n1 t1 u2 n2 t2 y1 m1 s1 y2 m2 s2 Wq wr) (hM:g<M) (ha:g≠Ha) (hd:g≠Hd) (k:Nat) (u:Value) :
   Wo N M Ha Hd (some ⟨g,0,none⟩) n1 t1 u2 n2 t2 y1 m1 s1 y2 m2 s2 Wq (wr.setCell ⟨g,k,none⟩ u):=by
 obtain ⟨xs,oa⟩:=h.oa
 obtain ⟨ys,od⟩:=h.od
 exact ⟨h.bel.setCell (p:=⟨g,k,none⟩) (oa.lt g rfl).1 u,h.ba.keep1 ha u,h.bd.keep1 hd u,⟨_,(oa.stored k u).1⟩,⟨ys,ownsRow_setCell_below (a:=⟨g,k,none⟩) od hM u⟩⟩
structure Wd (N M Hd:Nat) (y1:Option Addr) (m1 s1:Nat) (y2:Option Addr) (m2 s2:Nat) (Wq wr:World):Prop where
 bel:Below N Wq wr
 bd:Bx Hd y1 m1 s1 y2 m2 s2 wr
 od:∃ xs,wr.ownsRow M 3 1 (.slice y2 m2 s2) m2 xs
theorem Wd.set1 {N M Hd:Nat} {y1:Option Addr} {m1 s1 m2 s2 g:Nat} {Wq wr:World} (h:Wd N M Hd y1 m1 s1 (some ⟨g,0,none⟩) m2 s2 Wq wr) (hM:N≤M) (hd:g≠Hd) (k:Nat) (u:Value):Wd N M Hd y1 m1 s1 (some ⟨g,0,none⟩) m2 s2 Wq (wr.setCell ⟨g,k,none⟩ u):=by
 obtain ⟨ys,od⟩:=h.od
 exact ⟨h.bel.setCell (p:=⟨g,k,none⟩) (Nat.le_trans hM (od.lt g rfl).1) u,h.bd.keep1 hd u,⟨_,(od.stored k u).1⟩⟩
theorem own_in {N n c:Nat} {a:Option Addr} {w:World} {xs:List Value} (h:w.ownsRow N 3 1 (.slice a n c) n xs) (hn:0<n):∃ g,a=some ⟨g,0,none⟩∧n≤c:=by
 obtain ⟨g,c',e⟩:=ownsRow_pos h hn
 simp only [Value.slice.injEq,true_and] at e
 obtain ⟨rfl,rfl⟩:=e
 exact ⟨g,rfl,ownsRow_capL h⟩
theorem own_cell {N n c g k:Nat} {w:World} {xs:List Value} (h:w.ownsRow N 3 1 (.slice (some ⟨g,0,none⟩) n c) n xs) (hk:k<n):∃ u,w.cell? ⟨g,k,none⟩=some u:=by
 have:=h.cellAt k (by omega)
 have hl:k<xs.length:=by rw [h.1];omega
 exact ⟨xs[k],this.trans (List.getElem?_eq_getElem hl)⟩
set_option maxRecDepth 100000 in
set_option maxHeartbeats 32000000 in
theorem setsTell_any {Q:Nat→BP} (m:MdlD) (p:Ph) (la ll:List Int) (a1 a2:Option Addr) (c1 c2:Nat) (v z:Int) (w:World) (h:Mod Q w m p) (hm:MdlOk m) (hT:Tab w) (h1:RowIn w (.slice a1 la.length c1) la) (h2:RowIn w (.slice a2 ll.length c2) ll) (b1:la.length≤140737488355328) (b2:ll.length≤140737488355328) :
   Calls Tryz.prog 7 #[mdV m p,.agg #[.slice a1 la.length c1,.slice a2 ll.length c2],.int .i64 v,.int .i64 z] w fun e w'=>e=.returned (.bool true)∧Below w.heap.size w w':=by
 have HB:=Lib.hid (Mc.made h h1 h2)
 have SM:=Lib.hid (fun wx (g:Mc m p la ll a1 a2 c1 c2 w wx)=>small20_any m p wx g.mb.mod hm)
 have BR:=Lib.hid (fun wx=>bear20_any a1 a2 la.length ll.length c1 c2 wx b1 b2)
 have WK:=Lib.hid (fun wx (g:Below w.heap.size w wx)=>works20 wx (hT.next g))
 have BT:=Lib.hid (fun (hs:Sm20 m) wx (g:Mc m p la ll a1 a2 c1 c2 w wx)=>both20_any m p wx g.mb.mod hm (hT.next g.mb.bel) hs)
 unfold mdV at SM BT ⊢
 clear h hm hT h1 h2 b1 b2
 go_enter Tryz.func7,Tryz.ntmps7
 simp only [List.append_eq,List.cons_append,List.nil_append]
 obtain ⟨x0,x1,x2,x3,x4,x5,_⟩:=HB.out.mb.box
 go_wp2_with fail
 (with_reducible refine (SM.out _ HB.out).mono ?_)
 rintro e w3 ⟨⟨b1,rfl,s1⟩,g3⟩
 have HB3:=Lib.hid (HB.out.below g3)
 have HSt:=Lib.hid s1
 clear s1 g3 HB SM x0 x1 x2 x3 x4 x5
 cases b1
 · go_wp2_with fail
   (with_reducible refine (WK.out _ HB3.out.mb.bel).mono ?_)
   rintro e w4 ⟨rfl,g4⟩
   go_wp2_with fail
   go_ret
   exact ⟨rfl,(HB3.out.below g4).mb.bel⟩
 have hS:=Lib.hid (HSt.out rfl)
 have BTs:=Lib.hid (BT.out hS.out)
 clear HSt BT
 have d0:=HB3.out.d0
 have d1:=HB3.out.d1
 obtain ⟨bb,hbb⟩:∃ b,(decide (la.length≤40) && decide (ll.length≤40))=b:=⟨_,rfl⟩
 rw [hbb] at BR
 have HBb:=Lib.hid hbb
 clear hbb
 go_wp2_with fail
 (with_reducible refine (BR.out _).mono ?_)
 rintro e w4 ⟨rfl,g4⟩
 have HB4:=Lib.hid (HB3.out.below g4)
 clear d0 d1 g4 HB3 BR
 cases bb
 · go_wp2_with fail
   (with_reducible refine (WK.out _ HB4.out.mb.bel).mono ?_)
   rintro e w5 ⟨rfl,g5⟩
   go_wp2_with fail
   go_ret
   exact ⟨rfl,(HB4.out.below g5).mb.bel⟩
 obtain ⟨hla,hll⟩:la.length≤40∧ll.length≤40:=by
   have:=HBb.out
   simp only [Bool.and_eq_true,decide_eq_true_eq] at this
   exact this
 clear HBb
 obtain ⟨x0,x1,x2,x3,x4,x5,_⟩:=HB4.out.mb.box
 go_wp2_with fail
 (with_reducible refine (BTs.out _ HB4.out).mono ?_)
 rintro e w5 ⟨g5,pr,(⟨hr0,SB,rfl,hset,hmr⟩ | ⟨hr0,rfl⟩)⟩
 rotate_left
 · have HB5:Hid (Below w.heap.size w (w5.alloc (.cells #[.string m.nm,.slice pr.a1 m.vars.length pr.c1,.slice pr.a2 m.evs.length pr.c2,.slice pr.a3 m.regs.length pr.c3,.slice pr.a4 m.vers.length pr.c4,.slice pr.a5 m.trns.length pr.c5,.string m.nm,.slice pr.a1 m.vars.length pr.c1,.slice pr.a2 m.evs.length pr.c2,.slice pr.a3 m.regs.length pr.c3,.slice pr.a4 m.vers.length pr.c4,.slice pr.a5 m.trns.length pr.c5] 48))):=Lib.hid (below_ch (HB4.out.below g5).mb.bel (below_al1 _ _))
   clear x0 x1 x2 x3 x4 x5 g5 HB4 BTs
   unfold stV
   go_wp2_with fail
   (with_reducible refine (WK.out _ HB5.out).mono ?_)
   rintro e w6 ⟨rfl,g6⟩
   go_wp2_with fail
   go_ret
   exact ⟨rfl,below_ch HB5.out g6⟩
 have HM5:Hid (Mc m p la ll a1 a2 c1 c2 w (w5.alloc (.cells #[.string m.nm,.slice pr.a1 m.vars.length pr.c1,.slice pr.a2 m.evs.length pr.c2,.slice pr.a3 m.regs.length pr.c3,.slice pr.a4 m.vers.length pr.c4,.slice pr.a5 m.trns.length pr.c5,.string m.nm,.slice pr.a1 m.vars.length pr.c1,.slice pr.a2 m.evs.length pr.c2,.slice pr.a3 m.regs.length pr.c3,.slice pr.a4 m.vers.length pr.c4,.slice pr.a5 m.trns.length pr.c5] 48))):=Lib.hid ((HB4.out.below g5).below (below_al1 _ _))
 have HS5:Hid (SetAt w4.heap.size m SB (w5.alloc (.cells #[.string m.nm,.slice pr.a1 m.vars.length pr.c1,.slice pr.a2 m.evs.length pr.c2,.slice pr.a3 m.regs.length pr.c3,.slice pr.a4 m.vers.length pr.c4,.slice pr.a5 m.trns.length pr.c5,.string m.nm,.slice pr.a1 m.vars.length pr.c1,.slice pr.a2 m.evs.length pr.c2,.slice pr.a3 m.regs.length pr.c3,.slice pr.a4 m.vers.length pr.c4,.slice pr.a5 m.trns.length pr.c5] 48))):=Lib.hid (hset.grown (below_al1 _ _))
 have HR5:Hid (Sb m pr w5.heap.size w5 (w5.alloc (.cells #[.string m.nm,.slice pr.a1 m.vars.length pr.c1,.slice pr.a2 m.evs.length pr.c2,.slice pr.a3 m.regs.length pr.c3,.slice pr.a4 m.vers.length pr.c4,.slice pr.a5 m.trns.length pr.c5,.string m.nm,.slice pr.a1 m.vars.length pr.c1,.slice pr.a2 m.evs.length pr.c2,.slice pr.a3 m.regs.length pr.c3,.slice pr.a4 m.vers.length pr.c4,.slice pr.a5 m.trns.length pr.c5] 48))):=Lib.hid (Sb.made hmr)
 have H0:=Lib.hid hr0
 have hm1:m.regs.length≤30:=hS.out.rg
 have hm2:m.vers.length≤40:=hS.out.vr
 clear x0 x1 x2 x3 x4 x5 g5 HB4 BTs hset hmr hr0 hS
 unfold stV
 obtain ⟨Hr,hHr⟩:∃ Hr,w5.heap.size=Hr:=⟨_,rfl⟩
 rw [hHr] at HR5
 go_upto_region 6 with fail
 clear hHr
 generalize w5.alloc (.cells #[.string m.nm,.slice pr.a1 m.vars.length pr.c1,.slice pr.a2 m.evs.length pr.c2,.slice pr.a3 m.regs.length pr.c3,.slice pr.a4 m.vers.length pr.c4,.slice pr.a5 m.trns.length pr.c5,.string m.nm,.slice pr.a1 m.vars.length pr.c1,.slice pr.a2 m.evs.length pr.c2,.slice pr.a3 m.regs.length pr.c3,.slice pr.a4 m.vers.length pr.c4,.slice pr.a5 m.trns.length pr.c5] 48)=W5 at *
 have RF:=Lib.hid (ref20_any la ll a1 a2 c1 c2 W5 HM5.out.r1 HM5.out.r2 (by omega) (by omega))
 have d0:=HM5.out.d0
 have d1:=HM5.out.d1
 go_wp2_with fail
 (with_reducible refine (RF.out).mono ?_)
 rintro e w6 ⟨v1,v2,rfl,o1,o2,g6⟩
 obtain ⟨y1,t1,rfl⟩:=ownsRow_slice o1
 obtain ⟨y2,t2,rfl⟩:=ownsRow_slice o2
 have HM6:Hid (Mc m p la ll a1 a2 c1 c2 w (w6.alloc (.cells #[.slice y1 la.length t1,.slice y2 ll.length t2] 62))):=Lib.hid ((HM5.out.below g6).below (below_al1 _ _))
 have HS6:Hid (SetAt w4.heap.size m SB (w6.alloc (.cells #[.slice y1 la.length t1,.slice y2 ll.length t2] 62))):=Lib.hid ((HS5.out.grown g6).grown (below_al1 _ _))
 have HR6:Hid (Sb m pr Hr w5 (w6.alloc (.cells #[.slice y1 la.length t1,.slice y2 ll.length t2] 62))):=Lib.hid ((HR5.out.below g6).below (below_al1 _ _))
 have HX6:=Lib.hid (Bx.made w6 y1 la.length t1 y2 ll.length t2 62)
 have HY1:Hid (RowIn (w6.alloc (.cells #[.slice y1 la.length t1,.slice y2 ll.length t2] 62)) (.slice y1 la.length t1) la):=Lib.hid ((RowIn.own o1).below (below_al1 _ _))
 have HY2:Hid (RowIn (w6.alloc (.cells #[.slice y1 la.length t1,.slice y2 ll.length t2] 62)) (.slice y2 ll.length t2) ll):=Lib.hid ((RowIn.own o2).below (below_al1 _ _))
 obtain ⟨Hx,hHx⟩:∃ Hx,w6.heap.size=Hx:=⟨_,rfl⟩
 rw [hHx] at HX6
 clear d0 d1 o1 o2 g6 HM5 HS5 HR5 RF
 go_upto_region 7 with fail
 clear hHx
 generalize w6.alloc (.cells #[.slice y1 la.length t1,.slice y2 ll.length t2] 62)=W6 at *
 have h0:=H0.out
 have C2:=Lib.hid (fun R wx (g:Hid (Ur W6 R wx))=>ur1 g.out (setsFits_any (HS6.out.grown g.out.bel) h0 la ll a1 a2 c1 c2 (HM6.out.below g.out.bel).r1 (HM6.out.below g.out.bel).r2 (by omega) (by omega) (by omega)))
 have C5:=Lib.hid (fun R wx (g:Hid (Ur W6 R wx))=>ur1 g.out (sfits_any m pr la ll y1 y2 t1 t2 wx (HR6.out.below g.out.bel).mb.mod h0 (HY1.out.below g.out.bel) (HY2.out.below g.out.bel) (by omega) (by omega) (by omega) (by omega)))
 have M1:=Lib.hid (fun R wx (g:Hid (Ur W6 R wx))=>urm1 g.out v)
 have M2:=Lib.hid (fun R wx (g:Hid (Ur W6 R wx))=>urm2 g.out v z)
 have HM1:=Lib.hid (fun R wx (g:Hid (Ur W6 R wx)) (lv:Value) (hl:(lv,[v]) ∈ R)=>ur1 g.out (home20_any (HS6.out.grown g.out.bel) h0 [v] lv (g.out.rows _ hl) (by simp)))
 have RM1:=Lib.hid (fun R wx (g:Hid (Ur W6 R wx)) (lv:Value) (hl:(lv,[v]) ∈ R)=>ur0 g.out (shome_any m pr [v] lv wx (HR6.out.below g.out.bel).mb.mod h0 (g.out.rows _ hl) (by simp) (by omega) (by omega)))
 have HM2:=Lib.hid (fun R wx (g:Hid (Ur W6 R wx)) (lv:Value) (hl:(lv,[v,z]) ∈ R)=>ur1 g.out (home20_any (HS6.out.grown g.out.bel) h0 [v,z] lv (g.out.rows _ hl) (by simp)))
 have RM2:=Lib.hid (fun R wx (g:Hid (Ur W6 R wx)) (lv:Value) (hl:(lv,[v,z]) ∈ R)=>ur0 g.out (shome_any m pr [v,z] lv wx (HR6.out.below g.out.bel).mb.mod h0 (g.out.rows _ hl) (by simp) (by omega) (by omega)))
 have HM0:Hid (∀ (R:List (Value × List Int)) wx (g:Hid (Ur W6 R wx)),Calls Tryz.prog 27 #[.pointer (some ⟨SB,0,none⟩),.slice none 0 0] wx fun e w'=>e=.returned (.int .i64 (-1))∧Hid (Ur W6 R w')):=Lib.hid (fun R wx g=>ur1 g.out (home20_any (HS6.out.grown g.out.bel) h0 [] (.slice none 0 0) (.inl ⟨_,_,rfl,rfl⟩) (by simp)))
 have E1:=Lib.hid (fun R wx (g:Hid (Ur W6 R wx))=>urr g.out (exits_any (HS6.out.grown g.out.bel) h0 (by omega) (by omega) la ll a1 a2 c1 c2 (HM6.out.below g.out.bel).r1 (HM6.out.below g.out.bel).r2 (by omega) (by omega) v))
 have E2:=Lib.hid (fun R wx (g:Hid (Ur W6 R wx))=>urr g.out (sexits_any m pr la ll y1 y2 t1 t2 v wx (HR6.out.below g.out.bel).mb.mod h0 (HY1.out.below g.out.bel) (HY2.out.below g.out.bel) (by omega) (by omega) (by omega) (by omega)))
 have hLE:=exits_len (la:=la) (ll:=ll) h0 v
 have LE:Hid ((exitsM m la ll v).length≤1000000):=Lib.hid (by omega)
 have N1:Hid (∀ (R:List (Value × List Int)) wx (g:Hid (Ur W6 R wx)),Calls Tryz.prog 24 #[.pointer (some ⟨SB,0,none⟩),.int .i64 v,.int .i64 z] wx fun e w'=>∃ u,e=.returned u∧Hid (Ur W6 ((u,entM m v z) :: R) w')):=Lib.hid (fun R wx g=>urr g.out (by rw [← entX_eq h0];exact entries_any (HS6.out.grown g.out.bel) h0 v z))
 have N2:=Lib.hid (fun R wx (g:Hid (Ur W6 R wx))=>urr g.out (sentries_any m pr v z wx (HR6.out.below g.out.bel).mb.mod h0 (by omega) (by omega)))
 have LN:Hid ((entM m v z).length≤1000000):=Lib.hid (by
   have hc:=chn_le h0 z
   unfold entM
   split
   · have h1:=List.length_filter_le (fun x=>inM m x v) (chainM m z)
     rw [List.length_append]
     split <;> simp <;> omega
   · simp)
 have V1:=Lib.hid (fun R wx (g:Hid (Ur W6 R wx))=>urr g.out (active_any (HS6.out.grown g.out.bel) h0 (by omega) (by omega) la ll a1 a2 c1 c2 (HM6.out.below g.out.bel).r1 (HM6.out.below g.out.bel).r2 (by omega) (by omega)))
 have V2:Hid (∀ (R:List (Value × List Int)) wx (g:Hid (Ur W6 R wx)),Calls Tryz.prog 36 #[stV m pr,.agg #[.slice y1 la.length t1,.slice y2 ll.length t2]] wx fun e w'=>∃ u,e=.returned u∧Hid (Ur W6 ((u,actC m la ll) :: R) w')):=Lib.hid (fun R wx g=>urr g.out (by rw [← act_same h0];exact sactive_any m pr la ll y1 y2 t1 t2 wx (HR6.out.below g.out.bel).mb.mod h0 (HY1.out.below g.out.bel) (HY2.out.below g.out.bel) (by omega) (by omega) (by omega) (by omega)))
 have hLV:=actC_len h0 la ll
 have LV:Hid ((actC m la ll).length≤1000000):=Lib.hid (by omega)
 have K1:=Lib.hid (fun R wx (g:Hid (Ur W6 R wx))=>ur1 g.out (complete_any (HS6.out.grown g.out.bel) h0 (by omega) (by omega) la ll a1 a2 c1 c2 (HM6.out.below g.out.bel).r1 (HM6.out.below g.out.bel).r2 (by omega) (by omega) v))
 have K2:Hid (∀ (R:List (Value × List Int)) wx (g:Hid (Ur W6 R wx)),Calls Tryz.prog 37 #[stV m pr,.agg #[.slice y1 la.length t1,.slice y2 ll.length t2],.int .i64 v] wx fun e w'=>e=.returned (.bool (compl m la ll v))∧Hid (Ur W6 R w')):=Lib.hid (fun R wx g=>ur1 g.out (scomplete_any m pr la ll y1 y2 t1 t2 v wx (HR6.out.below g.out.bel).mb.mod h0 (HY1.out.below g.out.bel) (HY2.out.below g.out.bel) (by omega) (by omega) (by omega) (by omega)))
 have CS:=Lib.hid (fun (l:List Int) (hl:l.length≤1000000) R wx (g:Hid (Ur W6 R wx)) (u1 u2:Value) (h1:(u1,l) ∈ R) (h2:(u2,l) ∈ R)=>urs g.out h1 h2 hl)
 have EA:=Lib.hid (fun R wx (g:Hid (Ur W6 R wx))=>(enter_any (HS6.out.grown g.out.bel) h0 (by omega) (by omega) la ll a1 a2 c1 c2 (HM6.out.below g.out.bel).r1 (HM6.out.below g.out.bel).r2 (by omega) (by omega) v).mono (fun e w' q=>(show AnsO (entA m la ll v) wx e w' from ansO_of (la':=la.set (rgA m v).toNat v) (ll':=ll) List.length_set.symm rfl q)))
 have EB:=Lib.hid (fun R wx (g:Hid (Ur W6 R wx))=>(senter_any m pr la ll y1 y2 t1 t2 v wx (HR6.out.below g.out.bel).mb.mod h0 (HY1.out.below g.out.bel) (HY2.out.below g.out.bel) (by omega) (by omega) (by omega) (by omega)).mono (fun e w' q=>(show AnsR (entA m la ll v) wx e w' from ansR_of q)))
 have ED:=Lib.hid (fun R wx (g:Hid (Ur W6 R wx))=>(leave_any (HS6.out.grown g.out.bel) h0 (by omega) (by omega) la ll a1 a2 c1 c2 (HM6.out.below g.out.bel).r1 (HM6.out.below g.out.bel).r2 (by omega) (by omega) v).mono (fun e w' q=>(show AnsO (leaA m la ll v) wx e w' from ansO_of (la':=la.set (rgA m v).toNat (-1)) (ll':=ll.set (rgA m v).toNat v) List.length_set.symm List.length_set.symm q)))
 have EH:=Lib.hid (fun R wx (g:Hid (Ur W6 R wx))=>(sleave_any m pr la ll y1 y2 t1 t2 v wx (HR6.out.below g.out.bel).mb.mod h0 (HY1.out.below g.out.bel) (HY2.out.below g.out.bel) (by omega) (by omega) (by omega) (by omega)).mono (fun e w' q=>(show AnsR (leaA m la ll v) wx e w' from ansR_of q)))
 have hAl:(entA m la ll v).a.length≤40∧(entA m la ll v).l.length≤40:=by have:=ans_len (mayE m la ll v) (enterOk m la v) (la.set (rgA m v).toNat v) ll;rw [List.length_set] at this;unfold entA;omega
 have hDl:(leaA m la ll v).a.length≤40∧(leaA m la ll v).l.length≤40:=by have:=ans_len (mayE m la ll v) (leaveOk m la v) (la.set (rgA m v).toNat (-1)) (ll.set (rgA m v).toNat v);rw [List.length_set,List.length_set] at this;unfold leaA;omega
 have IC:Hid (∀ (R:List (Value × List Int)) wx (g:Hid (Ur W6 R wx)),Calls Tryz.prog 40 #[.agg #[.slice a1 la.length c1,.slice a2 ll.length c2],.agg #[.slice y1 la.length t1,.slice y2 ll.length t2]] wx fun e w'=>e=.returned (.bool true)∧Hid (Ur W6 R w')):=Lib.hid (fun R wx g=>ur1 g.out (by rw [← sameC_self la ll];exact is20_any la ll la ll a1 a2 y1 y2 c1 c2 t1 t2 wx (HM6.out.below g.out.bel).r1 (HM6.out.below g.out.bel).r2 (HY1.out.below g.out.bel) (HY2.out.below g.out.bel) (by omega) (by omega) (by omega) (by omega)))
 have W8:=Lib.hid (fun R wx (g:Hid (Ur W6 R wx))=>WK.out wx (HM6.out.below g.out.bel).mb.bel)
 have HSS:Hid (∀ (R:List (Value × List Int)) W',Hid (Ur W6 R W')→(W'.cell? ⟨Hr,0,none⟩=some (.string m.nm)∧W'.cell? ⟨Hr,1,none⟩=some (.slice pr.a1 m.vars.length pr.c1)∧W'.cell? ⟨Hr,2,none⟩=some (.slice pr.a2 m.evs.length pr.c2)∧W'.cell? ⟨Hr,3,none⟩=some (.slice pr.a3 m.regs.length pr.c3)∧W'.cell? ⟨Hr,4,none⟩=some (.slice pr.a4 m.vers.length pr.c4)∧W'.cell? ⟨Hr,5,none⟩=some (.slice pr.a5 m.trns.length pr.c5))∧(W'.cell? ⟨Hr,6,none⟩=some (.string m.nm)∧W'.cell? ⟨Hr,7,none⟩=some (.slice pr.a1 m.vars.length pr.c1)∧W'.cell? ⟨Hr,8,none⟩=some (.slice pr.a2 m.evs.length pr.c2)∧W'.cell? ⟨Hr,9,none⟩=some (.slice pr.a3 m.regs.length pr.c3)∧W'.cell? ⟨Hr,10,none⟩=some (.slice pr.a4 m.vers.length pr.c4)∧W'.cell? ⟨Hr,11,none⟩=some (.slice pr.a5 m.trns.length pr.c5))∧W'.cell? ⟨w.heap.size+1,0,none⟩=some (.slice a1 la.length c1)∧W'.cell? ⟨w.heap.size+1,1,none⟩=some (.slice a2 ll.length c2)∧W'.cell? ⟨Hx,0,none⟩=some (.slice y1 la.length t1)∧W'.cell? ⟨Hx,1,none⟩=some (.slice y2 ll.length t2)):=Lib.hid fun R W' g=>by
   have hs:=HR6.out.below g.out.bel
   obtain ⟨j0,j1,j2,j3,j4,j5,_⟩:=hs.mb.box
   have hx:=HX6.out.below g.out.bel
   have hc:=HM6.out.below g.out.bel
   exact ⟨⟨j0,j1,j2,j3,j4,j5⟩,hs.y,hc.d0,hc.d1,hx.c0,hx.c1⟩
 have HBw:=Lib.hid (fun R wx (g:Hid (Ur W6 R wx))=>(HM6.out.below g.out.bel).mb.bel)
 have hn0:Hid (Ur W6 [] W6.drew):=Lib.hid ((Ur.start W6).below (Below.refl _ _).drew)
 unfold stV at C5 RM1 RM2 E2 N2 V2 K2 EB EH
 generalize fit2 m la ll=fb at *
 generalize homeL m [v]=hv1 at *
 generalize homeL m [v,z]=hv2 at *
 generalize exitsM m la ll v=X1 at *
 generalize entM m v z=X2 at *
 generalize actC m la ll=X3 at *
 generalize compl m la ll v=X4 at *
 generalize entA m la ll v=EN at *
 generalize leaA m la ll v=LE9 at *
 clear h0 hLE hLV
 refine wp_region_any (by kernel_rfl) ?_
 change wpAny _ _ _ _ _ _ _ (World.drew _)
 refine wpAny_of_heldS (S:=(fun W'=>(W'.cell? ⟨Hr,0,none⟩=some (.string m.nm)∧W'.cell? ⟨Hr,1,none⟩=some (.slice pr.a1 m.vars.length pr.c1)∧W'.cell? ⟨Hr,2,none⟩=some (.slice pr.a2 m.evs.length pr.c2)∧W'.cell? ⟨Hr,3,none⟩=some (.slice pr.a3 m.regs.length pr.c3)∧W'.cell? ⟨Hr,4,none⟩=some (.slice pr.a4 m.vers.length pr.c4)∧W'.cell? ⟨Hr,5,none⟩=some (.slice pr.a5 m.trns.length pr.c5))∧(W'.cell? ⟨Hr,6,none⟩=some (.string m.nm)∧W'.cell? ⟨Hr,7,none⟩=some (.slice pr.a1 m.vars.length pr.c1)∧W'.cell? ⟨Hr,8,none⟩=some (.slice pr.a2 m.evs.length pr.c2)∧W'.cell? ⟨Hr,9,none⟩=some (.slice pr.a3 m.regs.length pr.c3)∧W'.cell? ⟨Hr,10,none⟩=some (.slice pr.a4 m.vers.length pr.c4)∧W'.cell? ⟨Hr,11,none⟩=some (.slice pr.a5 m.trns.length pr.c5))∧W'.cell? ⟨w.heap.size+1,0,none⟩=some (.slice a1 la.length c1)∧W'.cell? ⟨w.heap.size+1,1,none⟩=some (.slice a2 ll.length c2)∧W'.cell? ⟨Hx,0,none⟩=some (.slice y1 la.length t1)∧W'.cell? ⟨Hx,1,none⟩=some (.slice y2 ll.length t2))) ?_ (fun hHeld=>?_)
 · (try dsimp only) <;> (exact HSS.out _ _ (by assumption))
 refine tk 0 rfl ?_
 try simp only [Act.put,lyA,lyZ,lyS]
 refine tk 1 rfl ?_
 try simp only [Act.put,lyA,lyZ,lyS]
 refine tk 3 rfl ?_
 try simp only [Act.put,lyA,lyZ,lyS]
 refine tk 4 rfl ?_
 try simp only [Act.put,lyA,lyZ,lyS]
 refine rdy [2] ?_
 refine rdC rfl (fun K hK=>?_) ?_
 (go_simp;(with_reducible refine (C2.out _ _ (by assumption)).mono ?_);rintro e q2 ⟨rfl,hn2⟩;go_wp2_with fail)
 refine hK.out _ _ ?_ (fun hH1=>?_)
 · (try dsimp only) <;> (exact HSS.out _ _ (by assumption))
 clear hK K hHeld
 try simp only [Act.put,lyA,lyZ,lyS]
 refine rdy [5] ?_
 refine rdC rfl (fun K hK=>?_) ?_
 (go_simp;(with_reducible refine (C5.out _ _ (by assumption)).mono ?_);rintro e q5 ⟨rfl,hn5⟩;go_wp2_with fail)
 refine hK.out _ _ ?_ (fun hH2=>?_)
 · (try dsimp only) <;> (exact HSS.out _ _ (by assumption))
 clear hK K hH1
 try simp only [Act.put,lyA,lyZ,lyS]
 refine tk 6 rfl ?_
 try simp only [Act.put,lyA,lyZ,lyS]
 refine tk 7 rfl ?_
 try simp only [Act.put,lyA,lyZ,lyS]
 refine tk 8 rfl ?_
 try simp only [Act.put,lyA,lyZ,lyS]
 refine tk 9 rfl ?_
 try simp only [Act.put,lyA,lyZ,lyS]
 refine tk 12 rfl ?_
 try simp only [Act.put,lyA,lyZ,lyS]
 refine tk 13 rfl ?_
 try simp only [Act.put,lyA,lyZ,lyS]
 refine rdy [10,14] ?_
 refine rdC rfl (fun K hK=>?_) ?_
 (go_simp;first | (have hx:=hn14;obtain ⟨u10,q10,eu,eq,hn10⟩:=M1.out _ _ hx;rw [eu,eq];clear eu eq hx) | (have hx:=hn5;obtain ⟨u10,q10,eu,eq,hn10⟩:=M1.out _ _ hx;rw [eu,eq];clear eu eq hx))
 refine hK.out _ _ ?_ (fun hH3=>?_)
 · (try dsimp only) <;> (exact HSS.out _ _ (by assumption))
 clear hK K hH2
 try simp only [Act.put,lyA,lyZ,lyS]
 refine rdy [11,14] ?_
 refine rdC rfl (fun K hK=>?_) ?_
 (go_simp;(with_reducible refine (HM1.out _ _ (by assumption) _ (by simp)).mono ?_);rintro e q11 ⟨rfl,hn11⟩;go_wp2_with fail)
 refine hK.out _ _ ?_ (fun hH4=>?_)
 · (try dsimp only) <;> (exact HSS.out _ _ (by assumption))
 clear hK K hH3
 try simp only [Act.put,lyA,lyZ,lyS]
 refine rdy [14] ?_
 refine rdC rfl (fun K hK=>?_) ?_
 (go_simp;first | (have hx:=hn11;obtain ⟨u14,q14,eu,eq,hn14⟩:=M1.out _ _ hx;rw [eu,eq];clear eu eq hx) | (have hx:=hn10;obtain ⟨u14,q14,eu,eq,hn14⟩:=M1.out _ _ hx;rw [eu,eq];clear eu eq hx) | (have hx:=hn5;obtain ⟨u14,q14,eu,eq,hn14⟩:=M1.out _ _ hx;rw [eu,eq];clear eu eq hx))
 refine hK.out _ _ ?_ (fun hH5=>?_)
 · (try dsimp only) <;> (exact HSS.out _ _ (by assumption))
 clear hK K hH4
 try simp only [Act.put,lyA,lyZ,lyS]
 refine rdy [15] ?_
 refine rdC rfl (fun K hK=>?_) ?_
 (go_simp;(with_reducible refine (RM1.out _ _ (by assumption) _ (by simp)).mono ?_);rintro e q15 ⟨rfl,hn15⟩;go_wp2_with fail)
 refine hK.out _ _ ?_ (fun hH6=>?_)
 · (try dsimp only) <;> (exact HSS.out _ _ (by assumption))
 clear hK K hH5
 try simp only [Act.put,lyA,lyZ,lyS]
 (clear hn10 hn11 hn14;clear q10 q11 q14)
 revert hH6
 revert hn15
 revert q15
 revert u10
 revert u14
 refine ?J1
 rotate_left
 exact AllReadyH.nil
 exact AllReadyH.nil
 refine rdC rfl (fun K hK=>?_) ?_
 (go_simp;first | (have hx:=hn11;obtain ⟨u14,q14,eu,eq,hn14⟩:=M1.out _ _ hx;rw [eu,eq];clear eu eq hx) | (have hx:=hn10;obtain ⟨u14,q14,eu,eq,hn14⟩:=M1.out _ _ hx;rw [eu,eq];clear eu eq hx) | (have hx:=hn5;obtain ⟨u14,q14,eu,eq,hn14⟩:=M1.out _ _ hx;rw [eu,eq];clear eu eq hx))
 refine hK.out _ _ ?_ (fun hH7=>?_)
 · (try dsimp only) <;> (exact HSS.out _ _ (by assumption))
 clear hK K hH3
 try simp only [Act.put,lyA,lyZ,lyS]
 refine rdy [11] ?_
 refine rdC rfl (fun K hK=>?_) ?_
 (go_simp;(with_reducible refine (HM1.out _ _ (by assumption) _ (by simp)).mono ?_);rintro e q11 ⟨rfl,hn11⟩;go_wp2_with fail)
 refine hK.out _ _ ?_ (fun hH8=>?_)
 · (try dsimp only) <;> (exact HSS.out _ _ (by assumption))
 clear hK K hH7
 try simp only [Act.put,lyA,lyZ,lyS]
 refine rdy [15] ?_
 refine rdC rfl (fun K hK=>?_) ?_
 (go_simp;(with_reducible refine (RM1.out _ _ (by assumption) _ (by simp)).mono ?_);rintro e q15 ⟨rfl,hn15⟩;go_wp2_with fail)
 refine hK.out _ _ ?_ (fun hH9=>?_)
 · (try dsimp only) <;> (exact HSS.out _ _ (by assumption))
 clear hK K hH8
 try simp only [Act.put,lyA,lyZ,lyS]
 (clear hn10 hn11 hn14;clear q10 q11 q14)
 revert hH9
 revert hn15
 revert q15
 revert u10
 revert u14
 refine ?J1
 exact AllReadyH.nil
 exact AllReadyH.nil
 exact AllReadyH.nil
 refine rdC rfl (fun K hK=>?_) ?_
 (go_simp;first | (have hx:=hn11;obtain ⟨u14,q14,eu,eq,hn14⟩:=M1.out _ _ hx;rw [eu,eq];clear eu eq hx) | (have hx:=hn10;obtain ⟨u14,q14,eu,eq,hn14⟩:=M1.out _ _ hx;rw [eu,eq];clear eu eq hx) | (have hx:=hn5;obtain ⟨u14,q14,eu,eq,hn14⟩:=M1.out _ _ hx;rw [eu,eq];clear eu eq hx))
 refine hK.out _ _ ?_ (fun hH10=>?_)
 · (try dsimp only) <;> (exact HSS.out _ _ (by assumption))
 clear hK K hH2
 try simp only [Act.put,lyA,lyZ,lyS]
 refine rdy [10] ?_
 refine rdC rfl (fun K hK=>?_) ?_
 (go_simp;first | (have hx:=hn14;obtain ⟨u10,q10,eu,eq,hn10⟩:=M1.out _ _ hx;rw [eu,eq];clear eu eq hx) | (have hx:=hn5;obtain ⟨u10,q10,eu,eq,hn10⟩:=M1.out _ _ hx;rw [eu,eq];clear eu eq hx))
 refine hK.out _ _ ?_ (fun hH11=>?_)
 · (try dsimp only) <;> (exact HSS.out _ _ (by assumption))
 clear hK K hH10
 try simp only [Act.put,lyA,lyZ,lyS]
 refine rdy [11] ?_
 refine rdC rfl (fun K hK=>?_) ?_
 (go_simp;(with_reducible refine (HM1.out _ _ (by assumption) _ (by simp)).mono ?_);rintro e q11 ⟨rfl,hn11⟩;go_wp2_with fail)
 refine hK.out _ _ ?_ (fun hH12=>?_)
 · (try dsimp only) <;> (exact HSS.out _ _ (by assumption))
 clear hK K hH11
 try simp only [Act.put,lyA,lyZ,lyS]
 refine rdy [15] ?_
 refine rdC rfl (fun K hK=>?_) ?_
 (go_simp;(with_reducible refine (RM1.out _ _ (by assumption) _ (by simp)).mono ?_);rintro e q15 ⟨rfl,hn15⟩;go_wp2_with fail)
 refine hK.out _ _ ?_ (fun hH13=>?_)
 · (try dsimp only) <;> (exact HSS.out _ _ (by assumption))
 clear hK K hH12
 try simp only [Act.put,lyA,lyZ,lyS]
 (clear hn10 hn11 hn14;clear q10 q11 q14)
 revert hH13
 revert hn15
 revert q15
 revert u10
 revert u14
 refine ?J1
 exact AllReadyH.nil
 exact AllReadyH.nil
 exact AllReadyH.nil
 exact AllReadyH.nil
 exact AllReadyH.nil
 exact AllReadyH.nil
 intro u14 u10 q15 hn15 hH14
 as_aux_lemma =>
 refine tk 16 rfl ?_
 try simp only [Act.put,lyA,lyZ,lyS]
 refine tk 17 rfl ?_
 try simp only [Act.put,lyA,lyZ,lyS]
 refine tk 18 rfl ?_
 try simp only [Act.put,lyA,lyZ,lyS]
 refine tk 19 rfl ?_
 try simp only [Act.put,lyA,lyZ,lyS]
 refine tk 20 rfl ?_
 try simp only [Act.put,lyA,lyZ,lyS]
 refine tk 21 rfl ?_
 try simp only [Act.put,lyA,lyZ,lyS]
 refine tk 24 rfl ?_
 try simp only [Act.put,lyA,lyZ,lyS]
 refine tk 25 rfl ?_
 try simp only [Act.put,lyA,lyZ,lyS]
 refine tk 26 rfl ?_
 try simp only [Act.put,lyA,lyZ,lyS]
 refine rdy [22,27] ?_
 refine rdC rfl (fun K hK=>?_) ?_
 (go_simp;first | (have hx:=hn27;obtain ⟨u22,q22,eu,eq,hn22⟩:=M2.out _ _ hx;rw [eu,eq];clear eu eq hx) | (have hx:=hn15;obtain ⟨u22,q22,eu,eq,hn22⟩:=M2.out _ _ hx;rw [eu,eq];clear eu eq hx))
 refine hK.out _ _ ?_ (fun hH15=>?_)
 · (try dsimp only) <;> (exact HSS.out _ _ (by assumption))
 clear hK K hH14
 try simp only [Act.put,lyA,lyZ,lyS]
 refine rdy [23,27] ?_
 refine rdC rfl (fun K hK=>?_) ?_
 (go_simp;(with_reducible refine (HM2.out _ _ (by assumption) _ (by simp)).mono ?_);rintro e q23 ⟨rfl,hn23⟩;go_wp2_with fail)
 refine hK.out _ _ ?_ (fun hH16=>?_)
 · (try dsimp only) <;> (exact HSS.out _ _ (by assumption))
 clear hK K hH15
 try simp only [Act.put,lyA,lyZ,lyS]
 refine rdy [27] ?_
 refine rdC rfl (fun K hK=>?_) ?_
 (go_simp;first | (have hx:=hn23;obtain ⟨u27,q27,eu,eq,hn27⟩:=M2.out _ _ hx;rw [eu,eq];clear eu eq hx) | (have hx:=hn22;obtain ⟨u27,q27,eu,eq,hn27⟩:=M2.out _ _ hx;rw [eu,eq];clear eu eq hx) | (have hx:=hn15;obtain ⟨u27,q27,eu,eq,hn27⟩:=M2.out _ _ hx;rw [eu,eq];clear eu eq hx))
 refine hK.out _ _ ?_ (fun hH17=>?_)
 · (try dsimp only) <;> (exact HSS.out _ _ (by assumption))
 clear hK K hH16
 try simp only [Act.put,lyA,lyZ,lyS]
 refine rdy [28] ?_
 refine rdC rfl (fun K hK=>?_) ?_
 (go_simp;(with_reducible refine (RM2.out _ _ (by assumption) _ (by simp)).mono ?_);rintro e q28 ⟨rfl,hn28⟩;go_wp2_with fail)
 refine hK.out _ _ ?_ (fun hH18=>?_)
 · (try dsimp only) <;> (exact HSS.out _ _ (by assumption))
 clear hK K hH17
 try simp only [Act.put,lyA,lyZ,lyS]
 (clear hn22 hn23 hn27;clear q22 q23 q27)
 revert hH18
 revert hn28
 revert q28
 revert u22
 revert u27
 refine ?J2
 rotate_left
 exact AllReadyH.nil
 exact AllReadyH.nil
 refine rdC rfl (fun K hK=>?_) ?_
 (go_simp;first | (have hx:=hn23;obtain ⟨u27,q27,eu,eq,hn27⟩:=M2.out _ _ hx;rw [eu,eq];clear eu eq hx) | (have hx:=hn22;obtain ⟨u27,q27,eu,eq,hn27⟩:=M2.out _ _ hx;rw [eu,eq];clear eu eq hx) | (have hx:=hn15;obtain ⟨u27,q27,eu,eq,hn27⟩:=M2.out _ _ hx;rw [eu,eq];clear eu eq hx))
 refine hK.out _ _ ?_ (fun hH19=>?_)
 · (try dsimp only) <;> (exact HSS.out _ _ (by assumption))
 clear hK K hH15
 try simp only [Act.put,lyA,lyZ,lyS]
 refine rdy [23] ?_
 refine rdC rfl (fun K hK=>?_) ?_
 (go_simp;(with_reducible refine (HM2.out _ _ (by assumption) _ (by simp)).mono ?_);rintro e q23 ⟨rfl,hn23⟩;go_wp2_with fail)
 refine hK.out _ _ ?_ (fun hH20=>?_)
 · (try dsimp only) <;> (exact HSS.out _ _ (by assumption))
 clear hK K hH19
 try simp only [Act.put,lyA,lyZ,lyS]
 refine rdy [28] ?_
 refine rdC rfl (fun K hK=>?_) ?_
 (go_simp;(with_reducible refine (RM2.out _ _ (by assumption) _ (by simp)).mono ?_);rintro e q28 ⟨rfl,hn28⟩;go_wp2_with fail)
 refine hK.out _ _ ?_ (fun hH21=>?_)
 · (try dsimp only) <;> (exact HSS.out _ _ (by assumption))
 clear hK K hH20
 try simp only [Act.put,lyA,lyZ,lyS]
 (clear hn22 hn23 hn27;clear q22 q23 q27)
 revert hH21
 revert hn28
 revert q28
 revert u22
 revert u27
 refine ?J2
 exact AllReadyH.nil
 exact AllReadyH.nil
 exact AllReadyH.nil
 refine rdC rfl (fun K hK=>?_) ?_
 (go_simp;first | (have hx:=hn23;obtain ⟨u27,q27,eu,eq,hn27⟩:=M2.out _ _ hx;rw [eu,eq];clear eu eq hx) | (have hx:=hn22;obtain ⟨u27,q27,eu,eq,hn27⟩:=M2.out _ _ hx;rw [eu,eq];clear eu eq hx) | (have hx:=hn15;obtain ⟨u27,q27,eu,eq,hn27⟩:=M2.out _ _ hx;rw [eu,eq];clear eu eq hx))
 refine hK.out _ _ ?_ (fun hH22=>?_)
 · (try dsimp only) <;> (exact HSS.out _ _ (by assumption))
 clear hK K hH14
 try simp only [Act.put,lyA,lyZ,lyS]
 refine rdy [22] ?_
 refine rdC rfl (fun K hK=>?_) ?_
 (go_simp;first | (have hx:=hn27;obtain ⟨u22,q22,eu,eq,hn22⟩:=M2.out _ _ hx;rw [eu,eq];clear eu eq hx) | (have hx:=hn15;obtain ⟨u22,q22,eu,eq,hn22⟩:=M2.out _ _ hx;rw [eu,eq];clear eu eq hx))
 refine hK.out _ _ ?_ (fun hH23=>?_)
 · (try dsimp only) <;> (exact HSS.out _ _ (by assumption))
 clear hK K hH22
 try simp only [Act.put,lyA,lyZ,lyS]
 refine rdy [23] ?_
 refine rdC rfl (fun K hK=>?_) ?_
 (go_simp;(with_reducible refine (HM2.out _ _ (by assumption) _ (by simp)).mono ?_);rintro e q23 ⟨rfl,hn23⟩;go_wp2_with fail)
 refine hK.out _ _ ?_ (fun hH24=>?_)
 · (try dsimp only) <;> (exact HSS.out _ _ (by assumption))
 clear hK K hH23
 try simp only [Act.put,lyA,lyZ,lyS]
 refine rdy [28] ?_
 refine rdC rfl (fun K hK=>?_) ?_
 (go_simp;(with_reducible refine (RM2.out _ _ (by assumption) _ (by simp)).mono ?_);rintro e q28 ⟨rfl,hn28⟩;go_wp2_with fail)
 refine hK.out _ _ ?_ (fun hH25=>?_)
 · (try dsimp only) <;> (exact HSS.out _ _ (by assumption))
 clear hK K hH24
 try simp only [Act.put,lyA,lyZ,lyS]
 (clear hn22 hn23 hn27;clear q22 q23 q27)
 revert hH25
 revert hn28
 revert q28
 revert u22
 revert u27
 refine ?J2
 exact AllReadyH.nil
 exact AllReadyH.nil
 exact AllReadyH.nil
 exact AllReadyH.nil
 intro u27 u22 q28 hn28 hH26
 as_aux_lemma =>
 refine tk 29 rfl ?_
 try simp only [Act.put,lyA,lyZ,lyS]
 refine tk 30 rfl ?_
 try simp only [Act.put,lyA,lyZ,lyS]
 refine tk 31 rfl ?_
 try simp only [Act.put,lyA,lyZ,lyS]
 refine tk 32 rfl ?_
 try simp only [Act.put,lyA,lyZ,lyS]
 refine rdy [33] ?_
 refine rdC rfl (fun K hK=>?_) ?_
 (go_simp;(with_reducible refine (HM0.out _ _ (by assumption)).mono ?_);rintro e q33 ⟨rfl,hn33⟩;go_wp2_with fail)
 refine hK.out _ _ ?_ (fun hH27=>?_)
 · (try dsimp only) <;> (exact HSS.out _ _ (by assumption))
 clear hK K hH26
 try simp only [Act.put,lyA,lyZ,lyS]
 refine tk 34 rfl ?_
 try simp only [Act.put,lyA,lyZ,lyS]
 refine tk 35 rfl ?_
 try simp only [Act.put,lyA,lyZ,lyS]
 refine tk 36 rfl ?_
 try simp only [Act.put,lyA,lyZ,lyS]
 refine tk 37 rfl ?_
 try simp only [Act.put,lyA,lyZ,lyS]
 refine tk 38 rfl ?_
 try simp only [Act.put,lyA,lyZ,lyS]
 refine tk 39 rfl ?_
 try simp only [Act.put,lyA,lyZ,lyS]
 refine tk 41 rfl ?_
 try simp only [Act.put,lyA,lyZ,lyS]
 refine tk 42 rfl ?_
 try simp only [Act.put,lyA,lyZ,lyS]
 refine tk 43 rfl ?_
 try simp only [Act.put,lyA,lyZ,lyS]
 refine rdy [40] ?_
 refine rdC rfl (fun K hK=>?_) ?_
 (go_simp;(with_reducible refine (E1.out _ _ (by assumption)).mono ?_);rintro e q40 ⟨r40,rfl,hn40⟩;go_wp2_with fail)
 refine hK.out _ _ ?_ (fun hH28=>?_)
 · (try dsimp only) <;> (exact HSS.out _ _ (by assumption))
 clear hK K hH27
 try simp only [Act.put,lyA,lyZ,lyS]
 refine rdy [44] ?_
 refine rdC rfl (fun K hK=>?_) ?_
 (go_simp;(with_reducible refine (E2.out _ _ (by assumption)).mono ?_);rintro e q44 ⟨r44,rfl,hn44⟩;go_wp2_with fail)
 refine hK.out _ _ ?_ (fun hH29=>?_)
 · (try dsimp only) <;> (exact HSS.out _ _ (by assumption))
 clear hK K hH28
 try simp only [Act.put,lyA,lyZ,lyS]
 refine rdy [45] ?_
 refine rdC rfl (fun K hK=>?_) ?_
 (go_simp;(with_reducible refine (CS.out _ LE.out _ _ (by assumption) _ _ (by simp) (by simp)).mono ?_);rintro e q45 ⟨rfl,hn45⟩;go_wp2_with fail)
 refine hK.out _ _ ?_ (fun hH30=>?_)
 · (try dsimp only) <;> (exact HSS.out _ _ (by assumption))
 clear hK K hH29
 try simp only [Act.put,lyA,lyZ,lyS]
 refine tk 46 rfl ?_
 try simp only [Act.put,lyA,lyZ,lyS]
 refine tk 47 rfl ?_
 try simp only [Act.put,lyA,lyZ,lyS]
 refine tk 48 rfl ?_
 try simp only [Act.put,lyA,lyZ,lyS]
 refine tk 49 rfl ?_
 try simp only [Act.put,lyA,lyZ,lyS]
 refine tk 50 rfl ?_
 try simp only [Act.put,lyA,lyZ,lyS]
 refine tk 51 rfl ?_
 try simp only [Act.put,lyA,lyZ,lyS]
 refine tk 53 rfl ?_
 try simp only [Act.put,lyA,lyZ,lyS]
 refine tk 54 rfl ?_
 try simp only [Act.put,lyA,lyZ,lyS]
 refine tk 55 rfl ?_
 try simp only [Act.put,lyA,lyZ,lyS]
 refine rdy [52] ?_
 refine rdC rfl (fun K hK=>?_) ?_
 (go_simp;(with_reducible refine (N1.out _ _ (by assumption)).mono ?_);rintro e q52 ⟨r52,rfl,hn52⟩;go_wp2_with fail)
 refine hK.out _ _ ?_ (fun hH31=>?_)
 · (try dsimp only) <;> (exact HSS.out _ _ (by assumption))
 clear hK K hH30
 try simp only [Act.put,lyA,lyZ,lyS]
 refine rdy [56] ?_
 refine rdC rfl (fun K hK=>?_) ?_
 (go_simp;(with_reducible refine (N2.out _ _ (by assumption)).mono ?_);rintro e q56 ⟨r56,rfl,hn56⟩;go_wp2_with fail)
 refine hK.out _ _ ?_ (fun hH32=>?_)
 · (try dsimp only) <;> (exact HSS.out _ _ (by assumption))
 clear hK K hH31
 try simp only [Act.put,lyA,lyZ,lyS]
 refine rdy [57] ?_
 refine rdC rfl (fun K hK=>?_) ?_
 (go_simp;(with_reducible refine (CS.out _ LN.out _ _ (by assumption) _ _ (by simp) (by simp)).mono ?_);rintro e q57 ⟨rfl,hn57⟩;go_wp2_with fail)
 refine hK.out _ _ ?_ (fun hH33=>?_)
 · (try dsimp only) <;> (exact HSS.out _ _ (by assumption))
 clear hK K hH32
 try simp only [Act.put,lyA,lyZ,lyS]
 refine tk 58 rfl ?_
 try simp only [Act.put,lyA,lyZ,lyS]
 refine tk 59 rfl ?_
 try simp only [Act.put,lyA,lyZ,lyS]
 refine tk 60 rfl ?_
 try simp only [Act.put,lyA,lyZ,lyS]
 refine tk 61 rfl ?_
 try simp only [Act.put,lyA,lyZ,lyS]
 refine tk 62 rfl ?_
 try simp only [Act.put,lyA,lyZ,lyS]
 refine tk 64 rfl ?_
 try simp only [Act.put,lyA,lyZ,lyS]
 refine tk 65 rfl ?_
 try simp only [Act.put,lyA,lyZ,lyS]
 refine rdy [63] ?_
 refine rdC rfl (fun K hK=>?_) ?_
 (go_simp;(with_reducible refine (V1.out _ _ (by assumption)).mono ?_);rintro e q63 ⟨r63,rfl,hn63⟩;go_wp2_with fail)
 refine hK.out _ _ ?_ (fun hH34=>?_)
 · (try dsimp only) <;> (exact HSS.out _ _ (by assumption))
 clear hK K hH33
 try simp only [Act.put,lyA,lyZ,lyS]
 refine rdy [66] ?_
 refine rdC rfl (fun K hK=>?_) ?_
 (go_simp;(with_reducible refine (V2.out _ _ (by assumption)).mono ?_);rintro e q66 ⟨r66,rfl,hn66⟩;go_wp2_with fail)
 refine hK.out _ _ ?_ (fun hH35=>?_)
 · (try dsimp only) <;> (exact HSS.out _ _ (by assumption))
 clear hK K hH34
 try simp only [Act.put,lyA,lyZ,lyS]
 refine rdy [67] ?_
 refine rdC rfl (fun K hK=>?_) ?_
 (go_simp;(with_reducible refine (CS.out _ LV.out _ _ (by assumption) _ _ (by simp) (by simp)).mono ?_);rintro e q67 ⟨rfl,hn67⟩;go_wp2_with fail)
 refine hK.out _ _ ?_ (fun hH36=>?_)
 · (try dsimp only) <;> (exact HSS.out _ _ (by assumption))
 clear hK K hH35
 try simp only [Act.put,lyA,lyZ,lyS]
 refine tk 68 rfl ?_
 try simp only [Act.put,lyA,lyZ,lyS]
 refine tk 69 rfl ?_
 try simp only [Act.put,lyA,lyZ,lyS]
 refine tk 70 rfl ?_
 try simp only [Act.put,lyA,lyZ,lyS]
 refine tk 71 rfl ?_
 try simp only [Act.put,lyA,lyZ,lyS]
 refine tk 72 rfl ?_
 try simp only [Act.put,lyA,lyZ,lyS]
 refine tk 73 rfl ?_
 try simp only [Act.put,lyA,lyZ,lyS]
 refine tk 75 rfl ?_
 try simp only [Act.put,lyA,lyZ,lyS]
 refine tk 76 rfl ?_
 try simp only [Act.put,lyA,lyZ,lyS]
 refine tk 77 rfl ?_
 try simp only [Act.put,lyA,lyZ,lyS]
 refine rdy [74] ?_
 refine rdC rfl (fun K hK=>?_) ?_
 (go_simp;(with_reducible refine (K1.out _ _ (by assumption)).mono ?_);rintro e q74 ⟨rfl,hn74⟩;go_wp2_with fail)
 refine hK.out _ _ ?_ (fun hH37=>?_)
 · (try dsimp only) <;> (exact HSS.out _ _ (by assumption))
 clear hK K hH36
 try simp only [Act.put,lyA,lyZ,lyS]
 refine rdy [78] ?_
 refine rdC rfl (fun K hK=>?_) ?_
 (go_simp;(with_reducible refine (K2.out _ _ (by assumption)).mono ?_);rintro e q78 ⟨rfl,hn78⟩;go_wp2_with fail)
 refine hK.out _ _ ?_ (fun hH38=>?_)
 · (try dsimp only) <;> (exact HSS.out _ _ (by assumption))
 clear hK K hH37
 try simp only [Act.put,lyA,lyZ,lyS]
 refine tk 79 rfl ?_
 try simp only [Act.put,lyA,lyZ,lyS]
 refine tk 80 rfl ?_
 try simp only [Act.put,lyA,lyZ,lyS]
 refine wpAnyH_done (by kernel_rfl) ?_ _
 rotate_left
 exact AllReadyH.nil
 exact AllReadyH.nil
 exact AllReadyH.nil
 exact AllReadyH.nil
 exact AllReadyH.nil
 exact AllReadyH.nil
 exact AllReadyH.nil
 exact AllReadyH.nil
 exact AllReadyH.nil
 exact AllReadyH.nil
 exact AllReadyH.nil
 exact AllReadyH.nil
 all_goals as_aux_lemma =>
 go_wp2_with fail
 clear hn0 hn2 hn5 hn15 hn28 hn33 hn40 hn44 hn45 hn52 hn56 hn57 hn63 hn66 hn67 hn74 C2 C5 M1 M2 HM1 RM1 HM2 RM2 HM0 E1 E2 LE N1 N2 LN V1 V2 LV K1 K2 CS
 have hq:Hid (Ur W6 [] q78):=Lib.hid hn78.out.drop
 clear hn78
 obtain ⟨⟨x0,x1,x2,x3,x4,x5⟩,⟨z0,z1,z2,z3,z4,z5⟩,d0,d1,s0,s1⟩:=HSS.out _ _ hq
 go_wp2_with fail
 (with_reducible refine (EA.out _ _ hq).mono ?_)
 rintro e w9 ⟨ra1,rat1,ra2,rat2,rfl,g,o1,o2⟩
 have HBra:Hid (Below q78.heap.size q78 (w9.alloc (.cells #[.slice ra1 EN.a.length rat1,.slice ra2 EN.l.length rat2] 52))):=Lib.hid (below_ch g (below_al1 _ _))
 have HXra:=Lib.hid (Bx.made w9 ra1 EN.a.length rat1 ra2 EN.l.length rat2 52)
 have HOra1:=Lib.hid (own_below o1 (below_al1 w9 (.cells #[.slice ra1 EN.a.length rat1,.slice ra2 EN.l.length rat2] 52)))
 have HOra2:=Lib.hid (own_below o2 (below_al1 w9 (.cells #[.slice ra1 EN.a.length rat1,.slice ra2 EN.l.length rat2] 52)))
 have hlra1:Hid (∀ g,(Value.slice ra1 EN.a.length rat1).ownBlock=some g→g<w9.heap.size):=Lib.hid fun g hg=>(o1.lt g hg).2
 have hlra2:Hid (∀ g,(Value.slice ra2 EN.l.length rat2).ownBlock=some g→g<w9.heap.size):=Lib.hid fun g hg=>(o2.lt g hg).2
 have hzra:q78.heap.size≤w9.heap.size:=g.size
 obtain ⟨Ha,hH⟩:∃ H,w9.heap.size=H:=⟨_,rfl⟩
 rw [hH] at HXra hzra hlra1 hlra2
 clear g o1 o2
 clear x0 x1 x2 x3 x4 x5 z0 z1 z2 z3 z4 z5 d0 d1 s0 s1
 go_upto_region 10 with fail
 clear hH
 generalize (w9.alloc (.cells #[.slice ra1 EN.a.length rat1,.slice ra2 EN.l.length rat2] 52))=Wra at *
 have hnra:Hid (Ur W6 [] Wra):=Lib.hid (hq.out.below HBra.out)
 obtain ⟨⟨x0,x1,x2,x3,x4,x5⟩,⟨z0,z1,z2,z3,z4,z5⟩,d0,d1,s0,s1⟩:=HSS.out _ _ hnra
 go_wp2_with fail
 (with_reducible refine (EB.out _ _ hnra).mono ?_)
 rintro e w10 ⟨rb1,rbt1,rb2,rbt2,rfl,g,o1,o2⟩
 have HBrb:Hid (Below Wra.heap.size Wra (w10.alloc (.cells #[.slice rb1 EN.a.length rbt1,.slice rb2 EN.l.length rbt2] 62))):=Lib.hid (below_ch g (below_al1 _ _))
 have HXrb:=Lib.hid (Bx.made w10 rb1 EN.a.length rbt1 rb2 EN.l.length rbt2 62)
 have HOrb1:Hid (RowIn (w10.alloc (.cells #[.slice rb1 EN.a.length rbt1,.slice rb2 EN.l.length rbt2] 62)) (.slice rb1 EN.a.length rbt1) EN.a):=Lib.hid (o1.below (below_al1 _ _))
 have HOrb2:Hid (RowIn (w10.alloc (.cells #[.slice rb1 EN.a.length rbt1,.slice rb2 EN.l.length rbt2] 62)) (.slice rb2 EN.l.length rbt2) EN.l):=Lib.hid (o2.below (below_al1 _ _))
 have hzrb:Wra.heap.size≤w10.heap.size:=g.size
 obtain ⟨Hb,hH⟩:∃ H,w10.heap.size=H:=⟨_,rfl⟩
 rw [hH] at HXrb hzrb
 clear g o1 o2
 clear x0 x1 x2 x3 x4 x5 z0 z1 z2 z3 z4 z5 d0 d1 s0 s1
 go_upto_region 11 with fail
 clear hH
 generalize (w10.alloc (.cells #[.slice rb1 EN.a.length rbt1,.slice rb2 EN.l.length rbt2] 62))=Wrb at *
 have hnrb:Hid (Ur W6 [] Wrb):=Lib.hid (hnra.out.below HBrb.out)
 obtain ⟨⟨x0,x1,x2,x3,x4,x5⟩,⟨z0,z1,z2,z3,z4,z5⟩,d0,d1,s0,s1⟩:=HSS.out _ _ hnrb
 go_wp2_with fail
 (with_reducible refine (ED.out _ _ hnrb).mono ?_)
 rintro e w11 ⟨rd1,rdt1,rd2,rdt2,rfl,g,o1,o2⟩
 have HBrd:Hid (Below Wrb.heap.size Wrb (w11.alloc (.cells #[.slice rd1 LE9.a.length rdt1,.slice rd2 LE9.l.length rdt2] 52))):=Lib.hid (below_ch g (below_al1 _ _))
 have HXrd:=Lib.hid (Bx.made w11 rd1 LE9.a.length rdt1 rd2 LE9.l.length rdt2 52)
 have HOrd1:=Lib.hid (own_below o1 (below_al1 w11 (.cells #[.slice rd1 LE9.a.length rdt1,.slice rd2 LE9.l.length rdt2] 52)))
 have HOrd2:=Lib.hid (own_below o2 (below_al1 w11 (.cells #[.slice rd1 LE9.a.length rdt1,.slice rd2 LE9.l.length rdt2] 52)))
 have hlrd1:Hid (∀ g,(Value.slice rd1 LE9.a.length rdt1).ownBlock=some g→g<w11.heap.size):=Lib.hid fun g hg=>(o1.lt g hg).2
 have hlrd2:Hid (∀ g,(Value.slice rd2 LE9.l.length rdt2).ownBlock=some g→g<w11.heap.size):=Lib.hid fun g hg=>(o2.lt g hg).2
 have hzrd:Wrb.heap.size≤w11.heap.size:=g.size
 obtain ⟨Hd,hH⟩:∃ H,w11.heap.size=H:=⟨_,rfl⟩
 rw [hH] at HXrd hzrd hlrd1 hlrd2
 clear g o1 o2
 clear x0 x1 x2 x3 x4 x5 z0 z1 z2 z3 z4 z5 d0 d1 s0 s1
 go_upto_region 12 with fail
 clear hH
 generalize (w11.alloc (.cells #[.slice rd1 LE9.a.length rdt1,.slice rd2 LE9.l.length rdt2] 52))=Wrd at *
 have hnrd:Hid (Ur W6 [] Wrd):=Lib.hid (hnrb.out.below HBrd.out)
 obtain ⟨⟨x0,x1,x2,x3,x4,x5⟩,⟨z0,z1,z2,z3,z4,z5⟩,d0,d1,s0,s1⟩:=HSS.out _ _ hnrd
 go_wp2_with fail
 (with_reducible refine (EH.out _ _ hnrd).mono ?_)
 rintro e w12 ⟨rh1,rht1,rh2,rht2,rfl,g,o1,o2⟩
 have HBrh:Hid (Below Wrd.heap.size Wrd (w12.alloc (.cells #[.slice rh1 LE9.a.length rht1,.slice rh2 LE9.l.length rht2] 62))):=Lib.hid (below_ch g (below_al1 _ _))
 have HXrh:=Lib.hid (Bx.made w12 rh1 LE9.a.length rht1 rh2 LE9.l.length rht2 62)
 have HOrh1:Hid (RowIn (w12.alloc (.cells #[.slice rh1 LE9.a.length rht1,.slice rh2 LE9.l.length rht2] 62)) (.slice rh1 LE9.a.length rht1) LE9.a):=Lib.hid (o1.below (below_al1 _ _))
 have HOrh2:Hid (RowIn (w12.alloc (.cells #[.slice rh1 LE9.a.length rht1,.slice rh2 LE9.l.length rht2] 62)) (.slice rh2 LE9.l.length rht2) LE9.l):=Lib.hid (o2.below (below_al1 _ _))
 have hzrh:Wrd.heap.size≤w12.heap.size:=g.size
 obtain ⟨Hh,hH⟩:∃ H,w12.heap.size=H:=⟨_,rfl⟩
 rw [hH] at HXrh hzrh
 clear g o1 o2
 clear x0 x1 x2 x3 x4 x5 z0 z1 z2 z3 z4 z5 d0 d1 s0 s1
 go_upto_region 13 with fail
 clear hH
 generalize (w12.alloc (.cells #[.slice rh1 LE9.a.length rht1,.slice rh2 LE9.l.length rht2] 62))=Wrh at *
 have hnrh:Hid (Ur W6 [] Wrh):=Lib.hid (hnrd.out.below HBrh.out)
 have hzd1:Wra.heap.size≤Wrb.heap.size:=HBrb.out.size
 have hza1:q78.heap.size≤Wra.heap.size:=HBra.out.size
 have hxa:=HXra.out.lt
 have hxb:=HXrb.out.lt
 have hxd:=HXrd.out.lt
 have hxh:=HXrh.out.lt
 have hbd1:Wrb.heap.size≤Wrd.heap.size:=HBrd.out.size
 have hbh1:Wrd.heap.size≤Wrh.heap.size:=HBrh.out.size
 -- all at the last world
 have ga:=below_ch HBrb.out HBrd.out
 have gb:=below_ch ga HBrh.out
 have gd:=below_ch HBrd.out HBrh.out
 have FXa:=Lib.hid (HXra.out.below gb)
 have FXb:=Lib.hid (HXrb.out.below gd)
 have FXd:=Lib.hid (HXrd.out.below HBrh.out)
 have FXh:=HXrh
 have FOa1:=Lib.hid (own_below HOra1.out gb)
 have FOa2:=Lib.hid (own_below HOra2.out gb)
 have FOd1:=Lib.hid (own_below HOrd1.out HBrh.out)
 have FOd2:=Lib.hid (own_below HOrd2.out HBrh.out)
 have FRb1:=Lib.hid (HOrb1.out.below gd)
 have FRb2:=Lib.hid (HOrb2.out.below gd)
 have HK78:Hid (Below q78.heap.size q78 Wrh):=Lib.hid (below_ch HBra.out gb)
 have QK:=Lib.hid (fun R wx (g:Hid (Ur Wrh R wx))=>(Lib.hid (hnrh.out.below g.out.bel):Hid (Ur W6 [] wx)))
 have I1:Hid (∀ (R:List (Value × List Int)) wx (g:Hid (Ur Wrh R wx)),Calls Tryz.prog 40 #[.agg #[.slice ra1 EN.a.length rat1,.slice ra2 EN.l.length rat2],.agg #[.slice rb1 EN.a.length rbt1,.slice rb2 EN.l.length rbt2]] wx fun e w'=>e=.returned (.bool true)∧Hid (Ur Wrh R w')):=Lib.hid (fun R wx g=>ur1 g.out (by rw [← sameC_self EN.a EN.l];exact is20_any _ _ _ _ _ _ _ _ _ _ _ _ wx ((RowIn.own FOa1.out).below g.out.bel) ((RowIn.own FOa2.out).below g.out.bel) (FRb1.out.below g.out.bel) (FRb2.out.below g.out.bel) (by omega) (by omega) (by omega) (by omega)))
 have I2:Hid (∀ (R:List (Value × List Int)) wx (g:Hid (Ur Wrh R wx)),Calls Tryz.prog 40 #[.agg #[.slice rd1 LE9.a.length rdt1,.slice rd2 LE9.l.length rdt2],.agg #[.slice rh1 LE9.a.length rht1,.slice rh2 LE9.l.length rht2]] wx fun e w'=>e=.returned (.bool true)∧Hid (Ur Wrh R w')):=Lib.hid (fun R wx g=>ur1 g.out (by rw [← sameC_self LE9.a LE9.l];exact is20_any _ _ _ _ _ _ _ _ _ _ _ _ wx ((RowIn.own FOd1.out).below g.out.bel) ((RowIn.own FOd2.out).below g.out.bel) (HOrh1.out.below g.out.bel) (HOrh2.out.below g.out.bel) (by omega) (by omega) (by omega) (by omega)))
 have B1:=Lib.hid (fun R wx (g:Hid (Ur Wrh R wx))=>urc g.out (blank_any (HS6.out.grown (below_ch hnrh.out.bel g.out.bel)) (by omega)))
 have B2:=Lib.hid (fun R wx (g:Hid (Ur Wrh R wx))=>urp g.out (sblank_any m pr wx (HR6.out.below (below_ch hnrh.out.bel g.out.bel)).mb.mod (by omega)))
 have hBl:(List.replicate m.regs.length (-1:Int)).length≤900000:=by rw [List.length_replicate];omega
 have I3:Hid (∀ (L:List Int),L.length≤900000→∀ (R:List (Value × List Int)) wx (g:Hid (Ur Wrh R wx)) (k1 k2 k3 k4:Option Addr) (e1 e2 e3 e4:Nat),(Value.slice k1 L.length e1,L) ∈ R→(Value.slice k2 L.length e2,L) ∈ R→(Value.slice k3 L.length e3,L) ∈ R→(Value.slice k4 L.length e4,L) ∈ R→Calls Tryz.prog 40 #[.agg #[.slice k1 L.length e1,.slice k2 L.length e2],.agg #[.slice k3 L.length e3,.slice k4 L.length e4]] wx fun e w'=>e=.returned (.bool true)∧Hid (Ur Wrh [] w')):=Lib.hid (fun L hL R wx g k1 k2 k3 k4 e1 e2 e3 e4 m1 m2 m3 m4=>((uri g.out m1 m2 m3 m4 hL hL hL hL).mono fun e w' ⟨he,hu⟩=>⟨by rw [← sameC_self L L];exact he,Lib.hid hu.out.drop⟩))
 have S1:=Lib.hid (fun R wx (g:Hid (Ur Wrh R wx))=>ur1 g.out (sameCfg_any EN.a EN.l LE9.a LE9.l ra1 ra2 rd1 rd2 rat1 rat2 rdt1 rdt2 wx ((RowIn.own FOa1.out).below g.out.bel) ((RowIn.own FOa2.out).below g.out.bel) ((RowIn.own FOd1.out).below g.out.bel) ((RowIn.own FOd2.out).below g.out.bel) (by omega) (by omega) (by omega) (by omega)))
 have R1:=Lib.hid (fun R wx (g:Hid (Ur Wrh R wx))=>urp g.out (ref20_any LE9.a LE9.l rd1 rd2 rdt1 rdt2 wx ((RowIn.own FOd1.out).below g.out.bel) ((RowIn.own FOd2.out).below g.out.bel) (by omega) (by omega)))
 have I4:=Lib.hid (fun R wx (g:Hid (Ur Wrh R wx)) (k3 k4:Option Addr) (e3 e4:Nat) (m3:(Value.slice k3 LE9.a.length e3,LE9.a) ∈ R) (m4:(Value.slice k4 LE9.l.length e4,LE9.l) ∈ R)=>ur1 g.out (is20_any EN.a EN.l LE9.a LE9.l ra1 ra2 k3 k4 rat1 rat2 e3 e4 wx ((RowIn.own FOa1.out).below g.out.bel) ((RowIn.own FOa2.out).below g.out.bel) (g.out.rows _ m3) (g.out.rows _ m4) (by omega) (by omega) (by omega) (by omega)))
 unfold stV at B2
 unfold Ur2 at B1 B2 R1
 generalize sameC EN.a EN.l LE9.a LE9.l=sc at *
 generalize List.replicate m.regs.length (-1:Int)=BL at *
 have HS2:Hid (∀ (R:List (Value × List Int)) W',Hid (Ur Wrh R W')→(W'.cell? ⟨Hr,0,none⟩=some (.string m.nm)∧W'.cell? ⟨Hr,1,none⟩=some (.slice pr.a1 m.vars.length pr.c1)∧W'.cell? ⟨Hr,2,none⟩=some (.slice pr.a2 m.evs.length pr.c2)∧W'.cell? ⟨Hr,3,none⟩=some (.slice pr.a3 m.regs.length pr.c3)∧W'.cell? ⟨Hr,4,none⟩=some (.slice pr.a4 m.vers.length pr.c4)∧W'.cell? ⟨Hr,5,none⟩=some (.slice pr.a5 m.trns.length pr.c5))∧(W'.cell? ⟨Hr,6,none⟩=some (.string m.nm)∧W'.cell? ⟨Hr,7,none⟩=some (.slice pr.a1 m.vars.length pr.c1)∧W'.cell? ⟨Hr,8,none⟩=some (.slice pr.a2 m.evs.length pr.c2)∧W'.cell? ⟨Hr,9,none⟩=some (.slice pr.a3 m.regs.length pr.c3)∧W'.cell? ⟨Hr,10,none⟩=some (.slice pr.a4 m.vers.length pr.c4)∧W'.cell? ⟨Hr,11,none⟩=some (.slice pr.a5 m.trns.length pr.c5))∧W'.cell? ⟨Ha,0,none⟩=some (.slice ra1 EN.a.length rat1)∧W'.cell? ⟨Ha,1,none⟩=some (.slice ra2 EN.l.length rat2)∧W'.cell? ⟨Hb,0,none⟩=some (.slice rb1 EN.a.length rbt1)∧W'.cell? ⟨Hb,1,none⟩=some (.slice rb2 EN.l.length rbt2)∧W'.cell? ⟨Hd,0,none⟩=some (.slice rd1 LE9.a.length rdt1)∧W'.cell? ⟨Hd,1,none⟩=some (.slice rd2 LE9.l.length rdt2)∧W'.cell? ⟨Hh,0,none⟩=some (.slice rh1 LE9.a.length rht1)∧W'.cell? ⟨Hh,1,none⟩=some (.slice rh2 LE9.l.length rht2)):=Lib.hid fun R W' g=>by
   obtain ⟨j,j',_⟩:=HSS.out _ _ (QK.out _ _ g)
   have x1:=FXa.out.below g.out.bel
   have x2:=FXb.out.below g.out.bel
   have x3:=FXd.out.below g.out.bel
   have x4:=FXh.out.below g.out.bel
   exact ⟨j,j',x1.c0,x1.c1,x2.c0,x2.c1,x3.c0,x3.c1,x4.c0,x4.c1⟩
 have hu0:Hid (Ur Wrh [] Wrh.drew):=Lib.hid ((Ur.start Wrh).below (Below.refl _ _).drew)
 clear ga gb gd EA EB ED EH HXra HXrb HXrd HXrh HOrb1 HOrb2 HOrh1 HOrh2 HBra HBrb HBrd HBrh
 refine wp_region_any (by kernel_rfl) ?_
 change wpAny _ _ _ _ _ _ _ (World.drew _)
 refine wpAny_of_heldS (S:=(fun W'=>(W'.cell? ⟨Hr,0,none⟩=some (.string m.nm)∧W'.cell? ⟨Hr,1,none⟩=some (.slice pr.a1 m.vars.length pr.c1)∧W'.cell? ⟨Hr,2,none⟩=some (.slice pr.a2 m.evs.length pr.c2)∧W'.cell? ⟨Hr,3,none⟩=some (.slice pr.a3 m.regs.length pr.c3)∧W'.cell? ⟨Hr,4,none⟩=some (.slice pr.a4 m.vers.length pr.c4)∧W'.cell? ⟨Hr,5,none⟩=some (.slice pr.a5 m.trns.length pr.c5))∧(W'.cell? ⟨Hr,6,none⟩=some (.string m.nm)∧W'.cell? ⟨Hr,7,none⟩=some (.slice pr.a1 m.vars.length pr.c1)∧W'.cell? ⟨Hr,8,none⟩=some (.slice pr.a2 m.evs.length pr.c2)∧W'.cell? ⟨Hr,9,none⟩=some (.slice pr.a3 m.regs.length pr.c3)∧W'.cell? ⟨Hr,10,none⟩=some (.slice pr.a4 m.vers.length pr.c4)∧W'.cell? ⟨Hr,11,none⟩=some (.slice pr.a5 m.trns.length pr.c5))∧W'.cell? ⟨Ha,0,none⟩=some (.slice ra1 EN.a.length rat1)∧W'.cell? ⟨Ha,1,none⟩=some (.slice ra2 EN.l.length rat2)∧W'.cell? ⟨Hb,0,none⟩=some (.slice rb1 EN.a.length rbt1)∧W'.cell? ⟨Hb,1,none⟩=some (.slice rb2 EN.l.length rbt2)∧W'.cell? ⟨Hd,0,none⟩=some (.slice rd1 LE9.a.length rdt1)∧W'.cell? ⟨Hd,1,none⟩=some (.slice rd2 LE9.l.length rdt2)∧W'.cell? ⟨Hh,0,none⟩=some (.slice rh1 LE9.a.length rht1)∧W'.cell? ⟨Hh,1,none⟩=some (.slice rh2 LE9.l.length rht2))) ?_ (fun hHeld=>?_)
 · (try dsimp only) <;> (exact HS2.out _ _ (by assumption))
 refine tk 0 rfl ?_
 try simp only [Act.put,lyA,lyZ,lyS]
 refine tk 1 rfl ?_
 try simp only [Act.put,lyA,lyZ,lyS]
 refine rdy [2] ?_
 refine rdC rfl (fun K hK=>?_) ?_
 (go_simp;(with_reducible refine (I1.out _ _ (by assumption)).mono ?_);rintro e o2 ⟨rfl,hm2⟩;go_wp2_with fail)
 refine hK.out _ _ ?_ (fun hH1=>?_)
 · (try dsimp only) <;> (exact HS2.out _ _ (by assumption))
 clear hK K hHeld
 try simp only [Act.put,lyA,lyZ,lyS]
 refine tk 3 rfl ?_
 try simp only [Act.put,lyA,lyZ,lyS]
 refine tk 4 rfl ?_
 try simp only [Act.put,lyA,lyZ,lyS]
 refine tk 5 rfl ?_
 try simp only [Act.put,lyA,lyZ,lyS]
 refine tk 6 rfl ?_
 try simp only [Act.put,lyA,lyZ,lyS]
 refine tk 7 rfl ?_
 try simp only [Act.put,lyA,lyZ,lyS]
 refine tk 8 rfl ?_
 try simp only [Act.put,lyA,lyZ,lyS]
 refine tk 9 rfl ?_
 try simp only [Act.put,lyA,lyZ,lyS]
 refine tk 10 rfl ?_
 try simp only [Act.put,lyA,lyZ,lyS]
 refine tk 11 rfl ?_
 try simp only [Act.put,lyA,lyZ,lyS]
 refine rdy [12] ?_
 refine rdC rfl (fun K hK=>?_) ?_
 (go_simp;(with_reducible refine (I2.out _ _ (by assumption)).mono ?_);rintro e o12 ⟨rfl,hm12⟩;go_wp2_with fail)
 refine hK.out _ _ ?_ (fun hH2=>?_)
 · (try dsimp only) <;> (exact HS2.out _ _ (by assumption))
 clear hK K hH1
 try simp only [Act.put,lyA,lyZ,lyS]
 refine tk 13 rfl ?_
 try simp only [Act.put,lyA,lyZ,lyS]
 refine tk 14 rfl ?_
 try simp only [Act.put,lyA,lyZ,lyS]
 refine tk 15 rfl ?_
 try simp only [Act.put,lyA,lyZ,lyS]
 refine tk 16 rfl ?_
 try simp only [Act.put,lyA,lyZ,lyS]
 refine tk 17 rfl ?_
 try simp only [Act.put,lyA,lyZ,lyS]
 refine tk 18 rfl ?_
 try simp only [Act.put,lyA,lyZ,lyS]
 refine tk 19 rfl ?_
 try simp only [Act.put,lyA,lyZ,lyS]
 refine tk 20 rfl ?_
 try simp only [Act.put,lyA,lyZ,lyS]
 refine tk 21 rfl ?_
 try simp only [Act.put,lyA,lyZ,lyS]
 refine tk 23 rfl ?_
 try simp only [Act.put,lyA,lyZ,lyS]
 refine rdy [22] ?_
 refine rdC rfl (fun K hK=>?_) ?_
 (go_simp;(with_reducible refine (B1.out _ _ (by assumption)).mono ?_);rintro e o22 ⟨k22,i22,l22,j22,rfl,hm22⟩;go_wp2_with fail)
 refine hK.out _ _ ?_ (fun hH3=>?_)
 · (try dsimp only) <;> (exact HS2.out _ _ (by assumption))
 clear hK K hH2
 try simp only [Act.put,lyA,lyZ,lyS]
 refine rdy [24] ?_
 refine rdC rfl (fun K hK=>?_) ?_
 (go_simp;(with_reducible refine (B2.out _ _ (by assumption)).mono ?_);rintro e o24 ⟨k24,i24,l24,j24,rfl,hm24⟩;go_wp2_with fail)
 refine hK.out _ _ ?_ (fun hH4=>?_)
 · (try dsimp only) <;> (exact HS2.out _ _ (by assumption))
 clear hK K hH3
 try simp only [Act.put,lyA,lyZ,lyS]
 refine rdy [25] ?_
 refine rdC rfl (fun K hK=>?_) ?_
 (go_simp;(with_reducible refine (I3.out BL hBl _ _ (by assumption) _ _ _ _ _ _ _ _ (by simp) (by simp) (by simp) (by simp)).mono ?_);rintro e o25 ⟨rfl,hm25⟩;go_wp2_with fail)
 refine hK.out _ _ ?_ (fun hH5=>?_)
 · (try dsimp only) <;> (exact HS2.out _ _ (by assumption))
 clear hK K hH4
 try simp only [Act.put,lyA,lyZ,lyS]
 refine tk 26 rfl ?_
 try simp only [Act.put,lyA,lyZ,lyS]
 refine tk 27 rfl ?_
 try simp only [Act.put,lyA,lyZ,lyS]
 refine tk 28 rfl ?_
 try simp only [Act.put,lyA,lyZ,lyS]
 refine tk 29 rfl ?_
 try simp only [Act.put,lyA,lyZ,lyS]
 refine tk 30 rfl ?_
 try simp only [Act.put,lyA,lyZ,lyS]
 refine tk 32 rfl ?_
 try simp only [Act.put,lyA,lyZ,lyS]
 refine tk 33 rfl ?_
 try simp only [Act.put,lyA,lyZ,lyS]
 refine rdy [31] ?_
 refine rdC rfl (fun K hK=>?_) ?_
 (go_simp;(with_reducible refine (S1.out _ _ (by assumption)).mono ?_);rintro e o31 ⟨rfl,hm31⟩;go_wp2_with fail)
 refine hK.out _ _ ?_ (fun hH6=>?_)
 · (try dsimp only) <;> (exact HS2.out _ _ (by assumption))
 clear hK K hH5
 try simp only [Act.put,lyA,lyZ,lyS]
 refine rdy [34] ?_
 refine rdC rfl (fun K hK=>?_) ?_
 (go_simp;(with_reducible refine (R1.out _ _ (by assumption)).mono ?_);rintro e o34 ⟨k34,i34,l34,j34,rfl,hm34⟩;go_wp2_with fail)
 refine hK.out _ _ ?_ (fun hH7=>?_)
 · (try dsimp only) <;> (exact HS2.out _ _ (by assumption))
 clear hK K hH6
 try simp only [Act.put,lyA,lyZ,lyS]
 refine rdy [35] ?_
 refine rdC rfl (fun K hK=>?_) ?_
 (go_simp;(with_reducible refine (I4.out _ _ (by assumption) _ _ _ _ (by simp) (by simp)).mono ?_);rintro e o35 ⟨rfl,hm35⟩;go_wp2_with fail)
 refine hK.out _ _ ?_ (fun hH8=>?_)
 · (try dsimp only) <;> (exact HS2.out _ _ (by assumption))
 clear hK K hH7
 try simp only [Act.put,lyA,lyZ,lyS]
 refine tk 36 rfl ?_
 try simp only [Act.put,lyA,lyZ,lyS]
 refine tk 37 rfl ?_
 try simp only [Act.put,lyA,lyZ,lyS]
 refine wpAnyH_done (by kernel_rfl) ?_ _
 rotate_left
 exact AllReadyH.nil
 exact AllReadyH.nil
 exact AllReadyH.nil
 exact AllReadyH.nil
 exact AllReadyH.nil
 exact AllReadyH.nil
 exact AllReadyH.nil
 exact AllReadyH.nil
 all_goals as_aux_lemma =>
 go_wp2_with fail
 clear hu0 hm2 hm12 hm22 hm24 hm25 hm31 hm34 I1 I2 B1 B2 I3 S1 R1 I4 HS2
 have hWo:Hid (Wo q78.heap.size Wrb.heap.size Ha Hd ra1 EN.a.length rat1 ra2 EN.l.length rat2 rd1 LE9.a.length rdt1 rd2 LE9.l.length rdt2 o35 o35):=Lib.hid
   ⟨Below.refl _ _,FXa.out.below hm35.out.bel,FXd.out.below hm35.out.bel,⟨_,own_below FOa1.out hm35.out.bel⟩,⟨_,own_below FOd2.out hm35.out.bel⟩⟩
 have HK0:Hid (Below q78.heap.size q78 o35):=Lib.hid (below_ch HK78.out hm35.out.bel)
 clear FXa FXb FXd FXh FOa1 FOa2 FOd1 FOd2 FRb1 FRb2 HK78 QK hm35 HOra1 HOra2 HOrd1 HOrd2
 obtain ⟨na,hna⟩:∃ n,EN.a.length=n:=⟨_,rfl⟩
 obtain ⟨nd,hnd⟩:∃ n,LE9.l.length=n:=⟨_,rfl⟩
 rw [hna] at hWo hlra1
 rw [hnd] at hWo hlrd2
 rw [hna] at hAl
 rw [hnd] at hDl
 clear hna hnd
 go_loopw [22] (fun i wr=>∃ k:Nat,k≤na∧i=.int .i64 k∧Wo q78.heap.size Wrb.heap.size Ha Hd ra1 na rat1 ra2 EN.l.length rat2 rd1 LE9.a.length rdt1 rd2 nd rdt2 o35 wr) (fun i _=>na - (intOf i).toNat)
 case atStart=>exact ⟨0,by omega,rfl,hWo.out⟩
 case round =>
  obtain ⟨wo,rfl⟩:∃ wo:World,wo=wr:=⟨_,rfl⟩
  obtain ⟨k,hk,rfl,hw⟩:=hrel
  have HWo:=Lib.hid hw
  have c0:=hw.ba.c0
  clear hw hWo
  by_cases hkn:k<na
  · have hkI:(k:Int)<(na:Int):=by omega
    have hk0:(0:Int)≤(k:Int):=by omega
    obtain ⟨xs,ho⟩:=HWo.out.oa
    obtain ⟨g,rfl,hcap⟩:=own_in ho (by omega)
    have hga:=hlra1.out g rfl
    obtain ⟨uk,hck⟩:=own_cell ho hkn
    have hfk:=ho.frozenAt k
    have HN:=Lib.hid (HWo.out.set1 (by omega) (by omega) (by omega) k (.int .i64 99))
    clear ho
    go_wp2_with fail
    go_roundw
    case rel=>exact ⟨k+1,by omega,by go_num,HN.out⟩
    case measure=>simp [intOf] <;> omega
  · obtain rfl:na=k:=by omega
    have hWd:Hid (Wd q78.heap.size Wrb.heap.size Hd rd1 LE9.a.length rdt1 rd2 nd rdt2 o35 wo):=Lib.hid ⟨HWo.out.bel,HWo.out.bd,HWo.out.od⟩
    clear HWo hkn
    go_wp2_with fail
    clear c0
    go_loopw [23] (fun i wr=>∃ k:Nat,k≤nd∧i=.int .i64 k∧Wd q78.heap.size Wrb.heap.size Hd rd1 LE9.a.length rdt1 rd2 nd rdt2 o35 wr) (fun i _=>nd - (intOf i).toNat)
    case atStart=>exact ⟨0,by omega,rfl,hWd.out⟩
    case round =>
     obtain ⟨wp,rfl⟩:∃ wo:World,wo=wr:=⟨_,rfl⟩
     obtain ⟨k2,hk2,rfl,hw⟩:=hrel
     have HWp:=Lib.hid hw
     have c1:=hw.bd.c1
     clear hw hWd
     by_cases hkn:k2<nd
     · have hkI:(k2:Int)<(nd:Int):=by omega
       have hk0:(0:Int)≤(k2:Int):=by omega
       obtain ⟨xs,ho⟩:=HWp.out.od
       obtain ⟨g,rfl,hcap⟩:=own_in ho (by omega)
       have hgd:=hlrd2.out g rfl
       obtain ⟨uk,hck⟩:=own_cell ho hkn
       have hfk:=ho.frozenAt k2
       have HN:=Lib.hid (HWp.out.set1 (by omega) (by omega) k2 (.int .i64 99))
       clear ho
       go_wp2_with fail
       go_roundw
       case rel=>exact ⟨k2+1,by omega,by go_num,HN.out⟩
       case measure=>simp [intOf] <;> omega
     · obtain rfl:nd=k2:=by omega
       have hq9:Hid (Ur W6 [] wp):=Lib.hid (hq.out.below (HK0.out.trans HWp.out.bel))
       obtain ⟨⟨x0,x1,x2,x3,x4,x5⟩,⟨z0,z1,z2,z3,z4,z5⟩,d0,d1,s0,s1⟩:=HSS.out _ _ hq9
       go_wp2_with fail
       (with_reducible refine (IC.out _ _ hq9).mono ?_)
       rintro e w30 ⟨rfl,hq30⟩
       go_wp2_with fail
       (with_reducible refine (W8.out _ _ hq30).mono ?_)
       rintro e w31 ⟨rfl,g31⟩
       go_wp2_with fail
       go_ret
       exact ⟨rfl,below_ch (HBw.out _ _ hq30) g31⟩
end Go.Proofs
