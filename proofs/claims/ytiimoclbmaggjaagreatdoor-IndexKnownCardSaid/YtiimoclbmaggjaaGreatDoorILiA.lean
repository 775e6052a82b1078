/- Walks: the law 16's 'both'. -/
import Derived.Test.YtiimoclbmaggjaaGreatDoorIRyF
import Derived.Test.YtiimoclbmaggjaaGreatDoorILiP
import Derived.Test.YtiimoclbmaggjaaGreatDoorIMdRg
import Derived.Test.YtiimoclbmaggjaaGreatDoorIIxXZ
namespace Go.Proofs
open Go.RowKit Go.Lx Go.Md Go.Shelf Go.BigFrame Go.Rgi
set_option linter.unusedVariables false
theorem boxAny (w:World) (v0 v1 v2 v3 v4 v5:Value) (T:TypeId):Box (w.alloc (.cells #[v0,v1,v2,v3,v4,v5] T)) w.heap.size v0 v1 v2 v3 v4 v5:=by
 constructor <;> simp
theorem IdxAt.low {B C:Nat} {m:MdlD} {IB:Nat} {w:World} (h:IdxAt B m IB w) (hC:C≤B):IdxAt C m IB w:=by
 obtain ⟨W,N1,PB,KB,MO,MP,XB,cp,V,h1,h2,D,hs⟩:=h
 exact ⟨W,N1,PB,KB,MO,MP,XB,cp,V,Nat.le_trans hC h1,h2,D,hs⟩
structure Six (H:Nat) (w w':World):Prop where
 os:w'.os=w.os
 tape:w'.tape=w.tape
 output:w'.output=w.output
 size:w'.heap.size=w.heap.size
 blk:∀ b,b≠H→w'.heap[b]? = w.heap[b]?
theorem Six.refl (H:Nat) (w:World):Six H w w:=⟨rfl,rfl,rfl,rfl,fun _ _=>rfl⟩
theorem Six.set {H k:Nat} {w w':World} (h:Six H w w') (u:Value):Six H w (w'.setCell ⟨H,k,none⟩ u) :=
 ⟨h.os,h.tape,h.output,by rw [World.size_setCell];exact h.size,fun b hb=>(Below.heap_setCell _ _ _ _ hb).trans (h.blk b hb)⟩
theorem Six.bel {H B:Nat} {w0 w w':World} (h:Six H w w') (g:Below B w0 w) (hB:B≤H):Below B w0 w' :=
 ⟨h.os.trans g.os,h.tape.trans g.tape,h.output.trans g.output,by rw [h.size];exact g.size,fun b hb=>(h.blk b (by omega)).trans (g.block b hb)⟩
theorem Six.kept {H n:Nat} {w w':World} (h:Six H w w') (hn:H<n):Kept (LowB n) w w' :=
 ⟨by rw [h.size];exact Nat.le_refl _,fun b _ hQ=>h.blk b (by have:n≤b:=hQ;omega)⟩
def BothP (m:MdlD) (w:World) (e:Ending) (w':World):Prop:=Below w.heap.size w w'∧∃ pr:Ph,((riM m=(0,0,0)∧∃ IB,e=.returned (.tuple #[.pointer (some ⟨IB,0,none⟩),ixV m pr,.bool true,.bool true])∧IdxAt w.heap.size m IB w'∧Mod anyM w' m pr) ∨
 ((riM m).2.2≠0∧e=.returned (.tuple #[.pointer none,ixV m pr,.bool false,.bool true])))
set_option maxRecDepth 100000 in
set_option maxHeartbeats 8000000 in
theorem both16_any {Q:Nat→BP} (m:MdlD) (p:Ph) (w:World) (h:Mod Q w m p) (hm:MdlOk m) (hT:Tab w) (hs:Sm16 m) :
   Calls Tryz.prog 75 #[mdV m p] w (BothP m w):=by
 have hsm:=few_sml hs.few
 have HB:=Lib.hid ((Mb.made h).below (below_al1 _ (.cells #[.string ⟨#[]⟩,.slice none 0 0,.slice none 0 0,.slice none 0 0,.slice none 0 0,.slice none 0 0] 93)))
 have HZ:Hid (Box ((w.alloc (.cells #[.string m.nm,.slice p.a1 m.vars.length p.c1,.slice p.a2 m.evs.length p.c2,.slice p.a3 m.regs.length p.c3,.slice p.a4 m.vers.length p.c4,.slice p.a5 m.trns.length p.c5] 28)).alloc (.cells #[.string ⟨#[]⟩,.slice none 0 0,.slice none 0 0,.slice none 0 0,.slice none 0 0,.slice none 0 0] 93)) (w.heap.size+1) (.string ⟨#[]⟩) (.slice none 0 0) (.slice none 0 0) (.slice none 0 0) (.slice none 0 0) (.slice none 0 0)):=Lib.hid (by
   have:=boxAny (w.alloc (.cells #[.string m.nm,.slice p.a1 m.vars.length p.c1,.slice p.a2 m.evs.length p.c2,.slice p.a3 m.regs.length p.c3,.slice p.a4 m.vers.length p.c4,.slice p.a5 m.trns.length p.c5] 28)) (.string ⟨#[]⟩) (.slice none 0 0) (.slice none 0 0) (.slice none 0 0) (.slice none 0 0) (.slice none 0 0) 93
   rw [World.size_alloc] at this;exact this)
 have RF:=Lib.hid (fun wx (g:Mb m p w.heap.size w wx)=>ref_low m p wx g.mod hsm)
 have RR:=Lib.hid (fun (pr:Ph) wx (hx:Mod anyM wx m pr)=>rright_any m pr wx hx hm)
 have NW:=Lib.hid (fun wx (g:Mb m p w.heap.size w wx)=>new_any m p wx g.mod hm (hT.next g.bel) (by have:=hs.vr;omega) (by have:=hs.rg;omega) (by have:=hs.tr;omega))
 unfold mdV at RF RR NW ⊢
 clear h hm hT hs hsm
 go_enter Tryz.func75,Tryz.ntmps75
 go_wp2_with fail
 (with_reducible refine (RF.out _ HB.out).mono ?_)
 rintro e w3 ⟨pr1,rfl,hmr,g3⟩
 have HB3:=Lib.hid (HB.out.below g3)
 have HZ3:=Lib.hid (HZ.out.below g3 HZ.out.sl)
 have HMR:=Lib.hid hmr.any
 clear hmr g3 HB HZ
 unfold mdV
 go_wp2_with fail
 (with_reducible refine (RR.out pr1 _ HMR.out).mono ?_)
 rintro e w4 ⟨rfl,g4⟩
 have HB4:=Lib.hid (HB3.out.below g4)
 have HZ4:=Lib.hid (HZ3.out.below g4 HZ3.out.sl)
 clear g4 HB3 HZ3 HMR RR
 obtain ⟨x0,x1,x2,x3,x4,x5,_⟩:=HB4.out.box
 go_wp2_with fail
 (with_reducible refine (NW.out _ HB4.out).mono ?_)
 rintro e w5 ⟨g5,(⟨hr,IB1,rfl,hi⟩ | ⟨hr,rfl⟩)⟩
 · have HB5:=Lib.hid (HB4.out.below g5)
   have HZ5:=Lib.hid (HZ4.out.below g5 HZ4.out.sl)
   have HI5:=Lib.hid hi
   have HR:=Lib.hid hr
   have hz4:=Lib.hid HZ4.out.sl
   rw [hr]
   clear g5 hi HB4 HZ4 x0 x1 x2 x3 x4 x5 NW hr
   obtain ⟨x0,x1,x2,x3,x4,x5,_⟩:=HB5.out.box
   go_wp2_with fail
   (with_reducible refine (RF.out _ HB5.out).mono ?_)
   rintro e w6 ⟨pr,rfl,hmr,g6⟩
   have hz5:=Lib.hid HZ5.out.sl
   have HB6:=Lib.hid (HB5.out.below g6)
   have HZ6:=Lib.hid (HZ5.out.below g6 HZ5.out.sl)
   have HI6:=Lib.hid (HI5.out.grown g6)
   have HMR:=Lib.hid hmr
   clear g6 hmr HB5 HZ5 HI5 x0 x1 x2 x3 x4 x5 RF
   obtain ⟨x0,x1,x2,x3,x4,x5,y0,y1,y2,y3,y4,y5⟩:=HZ6.out
   unfold mdV
   go_wp2_with fail
   clear x0 x1 x2 x3 x4 x5 y0 y1 y2 y3 y4 y5
   have HS:=Lib.hid (((((((Six.refl (w.heap.size+1) w6).set (k:=0) (.string m.nm)).set (k:=1) (.slice pr.a1 m.vars.length pr.c1)).set (k:=2) (.slice pr.a2 m.evs.length pr.c2)).set (k:=3) (.slice pr.a3 m.regs.length pr.c3)).set (k:=4) (.slice pr.a4 m.vers.length pr.c4)).set (k:=5) (.slice pr.a5 m.trns.length pr.c5))
   have HX:=Lib.hid ((((((HZ6.out.set0 (.string m.nm)).set1 (.slice pr.a1 m.vars.length pr.c1)).set2 (.slice pr.a2 m.evs.length pr.c2)).set3 (.slice pr.a3 m.regs.length pr.c3)).set4 (.slice pr.a4 m.vers.length pr.c4)).set5 (.slice pr.a5 m.trns.length pr.c5))
   obtain ⟨x0,x1,x2,x3,x4,x5,_⟩:=HX.out
   have hz:=hz4.out
   have hy:=hz5.out
   refine bodyPost_ret (v:=.tuple #[.pointer (some ⟨IB1,0,none⟩),mdV m pr,.bool true,.bool true]) (by simp [results,Tryz.results75,go_sem,mdV,x0,x1,x2,x3,x4,x5]) rfl ⟨HS.out.bel HB6.out.bel (by omega),pr,.inl ⟨HR.out,IB1,rfl,?_,?_⟩⟩
   · exact ((HI6.out.low (C:=w.heap.size+2) (by omega)).keep (by rw [HS.out.size];exact Nat.le_refl _) fun b hb _=>HS.out.blk b (by omega)).low (by omega)
   · exact (HMR.out.kept fun _=>HS.out.kept hy).any
 · have HB5:=Lib.hid (HB4.out.below g5)
   have HZ5:=Lib.hid (HZ4.out.below g5 HZ4.out.sl)
   have HR:=Lib.hid hr
   have hz4:=Lib.hid HZ4.out.sl
   clear g5 HB4 HZ4 x0 x1 x2 x3 x4 x5 NW hr
   obtain ⟨x0,x1,x2,x3,x4,x5,_⟩:=HB5.out.box
   go_wp2_with fail
   (with_reducible refine (RF.out _ HB5.out).mono ?_)
   rintro e w6 ⟨pr,rfl,hmr,g6⟩
   have hz5:=Lib.hid HZ5.out.sl
   have HB6:=Lib.hid (HB5.out.below g6)
   have HZ6:=Lib.hid (HZ5.out.below g6 HZ5.out.sl)
   have HMR:=Lib.hid hmr
   clear g6 hmr HB5 HZ5 x0 x1 x2 x3 x4 x5 RF
   obtain ⟨x0,x1,x2,x3,x4,x5,y0,y1,y2,y3,y4,y5⟩:=HZ6.out
   unfold mdV
   go_wp2_with fail
   clear x0 x1 x2 x3 x4 x5 y0 y1 y2 y3 y4 y5
   have HS:=Lib.hid (((((((Six.refl (w.heap.size+1) w6).set (k:=0) (.string m.nm)).set (k:=1) (.slice pr.a1 m.vars.length pr.c1)).set (k:=2) (.slice pr.a2 m.evs.length pr.c2)).set (k:=3) (.slice pr.a3 m.regs.length pr.c3)).set (k:=4) (.slice pr.a4 m.vers.length pr.c4)).set (k:=5) (.slice pr.a5 m.trns.length pr.c5))
   have HX:=Lib.hid ((((((HZ6.out.set0 (.string m.nm)).set1 (.slice pr.a1 m.vars.length pr.c1)).set2 (.slice pr.a2 m.evs.length pr.c2)).set3 (.slice pr.a3 m.regs.length pr.c3)).set4 (.slice pr.a4 m.vers.length pr.c4)).set5 (.slice pr.a5 m.trns.length pr.c5))
   obtain ⟨x0,x1,x2,x3,x4,x5,_⟩:=HX.out
   have hz:=hz4.out
   have hy:=hz5.out
   have hn:¬ (riM m).2.2=0:=HR.out
   refine bodyPost_ret (v:=.tuple #[.pointer none,mdV m pr,.bool false,.bool true]) (by simp [results,Tryz.results75,go_sem,mdV,x0,x1,x2,x3,x4,x5,hn]) rfl ⟨HS.out.bel HB6.out.bel (by omega),pr,.inr ⟨HR.out,rfl⟩⟩
end Go.Proofs
