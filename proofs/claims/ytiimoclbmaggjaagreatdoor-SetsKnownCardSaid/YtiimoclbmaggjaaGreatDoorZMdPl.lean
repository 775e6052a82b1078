/- A world in which the rows of a range of blocks may have been written over, but for the slices in them. -/
import Derived.Test.YtiimoclbmaggjaaGreatDoorZMdIJ
namespace Go.Proofs
open Go.RowKit Go.Lx Go.Md

def isSl:Value->Bool
 | .slice ..=>true
 | _=>false
structure Pl (lo hi:Nat) (w w':World):Prop where
 os:w'.os=w.os
 tape:w'.tape=w.tape
 output:w'.output=w.output
 size:w.heap.size<=w'.heap.size
 block:∀ b,b<w.heap.size->(b<lo\/hi<=b)->w'.heap[b]? = w.heap[b]?
 cell:∀ b o u,w.cell? ⟨b,o,none⟩=some u->∃ u',w'.cell? ⟨b,o,none⟩=some u'/\(u'=u\/(isSl u=false/\isSl u'=false))
 frz:∀ b o,b<w.heap.size->w'.frozen? ⟨b,o,none⟩=w.frozen? ⟨b,o,none⟩
theorem Pl.refl (lo hi:Nat) (w:World):Pl lo hi w w:=⟨rfl,rfl,rfl,Nat.le_refl _,fun _ _ _=>rfl,fun _ _ u h=>⟨u,h,.inl rfl⟩,fun _ _ _=>rfl⟩
theorem Pl.drew {lo hi:Nat} {w w':World} (h:Pl lo hi w w'):Pl lo hi w w'.drew:=⟨h.os,h.tape,h.output,h.size,h.block,h.cell,h.frz⟩
theorem Pl.trans {lo hi:Nat} {a b c:World} (h:Pl lo hi a b) (k:Pl lo hi b c):Pl lo hi a c :=
 ⟨k.os.trans h.os,k.tape.trans h.tape,k.output.trans h.output,Nat.le_trans h.size k.size,fun x hx hr=>(k.block x (Nat.lt_of_lt_of_le hx h.size) hr).trans (h.block x hx hr),fun x o u hu=>by
   obtain ⟨u1,h1,e1⟩:=h.cell x o u hu;obtain ⟨u2,h2,e2⟩:=k.cell x o u1 h1;refine ⟨u2,h2,?_⟩
   rcases e1 with rfl | ⟨e1,e3⟩
   . exact e2
   . rcases e2 with rfl | ⟨_,e4⟩
     . exact .inr ⟨e1,e3⟩
     . exact .inr ⟨e1,e4⟩,fun x o hx=>(k.frz x o (Nat.lt_of_lt_of_le hx h.size)).trans (h.frz x o hx)⟩
theorem Pl.of_below {lo hi:Nat} {w w':World} (h:Bl w w'):Pl lo hi w w' :=
 ⟨h.os,h.tape,h.output,h.size,fun b hb _=>h.block b hb,fun b o u hu=>⟨u,(h.cell (p:=⟨b,o,none⟩) (World.block_lt_of_cell? w _ hu)).trans hu,.inl rfl⟩,fun b o hb=>h.frozen (p:=⟨b,o,none⟩) hb⟩
theorem Pl.set {lo hi:Nat} {w w':World} (h:Pl lo hi w w') {b o:Nat} {u0 u:Value} (h1:lo<=b) (h2:b<hi) (hc:w.cell? ⟨b,o,none⟩=some u0) (n0:isSl u0=false) (nu:isSl u=false):Pl lo hi w (w'.setCell ⟨b,o,none⟩ u):=by
 have hb:=Below.setCell (B:=0) (Below.refl 0 w') (p:=⟨b,o,none⟩) (Nat.zero_le _) u;refine ⟨hb.os.trans h.os,hb.tape.trans h.tape,hb.output.trans h.output,Nat.le_trans h.size hb.size,fun x hx hr=>?_,fun x y v hv=>?_,fun x y hx=>?_⟩
 . rw [Below.heap_setCell w' ⟨b,o,none⟩ u x (by simp only;omega)];exact h.block x hx hr
 . by_cases he:(⟨x,y,none⟩:Addr)=⟨b,o,none⟩
   . rw [he] at hv |-
     obtain ⟨u',h3,_⟩:=h.cell b o u0 hc;rw [hc] at hv;obtain rfl:=Option.some.inj hv;exact ⟨u,World.cell?_setCell_same _ _ _ h3,.inr ⟨n0,nu⟩⟩
   . obtain ⟨u',h3,e3⟩:=h.cell x y v hv
     exact ⟨u',by rw [World.cell?_setCell_other w' _ _ u (Ne.symm he)];exact h3,e3⟩
 . have:=h.frz x y hx
   simpa using this
theorem Pl.kept {lo hi:Nat} {w w':World} (h:Pl lo hi w w') {Q:BP} (hQ:∀ b o,Q b o->b<lo\/hi<=b):Kept Q w w':=⟨h.size,fun b hb hq=>h.block b hb (hQ b _ hq)⟩
theorem Pl.zf {lo hi:Nat} {w w':World} (h:Pl lo hi w w') {B:Nat} (h1:B<=lo) (h2:B<=w.heap.size):Below B w w':=⟨h.os,h.tape,h.output,h.size,fun b hb=>h.block b (by omega) (.inl (by omega))⟩
theorem Box.pl {w wx:World} {lo hi H:Nat} {v0 v1 v2 v3 v4 v5:Value} (h:Box w H v0 v1 v2 v3 v4 v5) (hb:Pl lo hi w wx) (hB:hi<=H):Box wx H v0 v1 v2 v3 v4 v5:=by
 have hl:H<w.heap.size:=World.block_lt_of_cell? w _ h.c0;have hk:=hb.block H hl (.inr hB);have hc:∀ k,wx.cell? ⟨H,k,none⟩=w.cell? ⟨H,k,none⟩:=fun k=>World.cell?_of_block (w:=w) hk;have hf:∀ k,wx.frozen? ⟨H,k,none⟩=w.frozen? ⟨H,k,none⟩:=fun k=>World.frozen?_of_block (w:=w) hk;exact ⟨(hc 0).trans h.c0,(hc 1).trans h.c1,(hc 2).trans h.c2,(hc 3).trans h.c3,(hc 4).trans h.c4,(hc 5).trans h.c5,(hf 0).trans h.f0,(hf 1).trans h.f1,(hf 2).trans h.f2,(hf 3).trans h.f3,(hf 4).trans h.f4,(hf 5).trans h.f5⟩
end Go.Proofs
