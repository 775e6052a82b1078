/- Walks: 'other', 'change', 'Odd': the door with one thing another one. -/
import Derived.Test.YtiimoclbmaggjaaGreatDoorHOdA
import Derived.Laws.BytesArg
namespace Go.Proofs
open Go.RowKit Go.Lx Go.Md Go.Shelf
set_option linter.unusedVariables false
structure OdS (bk:Nat→Nat) (N:Nat) (nm:ByteArray) (rs:Value) (w wx:World):Prop where
 o:Odw bk wx
 bel:Below N w wx
 c0:wx.cell? ⟨w.heap.size,0,none⟩=some (.string nm)
 c1:wx.cell? ⟨w.heap.size,1,none⟩=some (.slice (some ⟨bk 0,0,none⟩) 2 2)
 c2:wx.cell? ⟨w.heap.size,2,none⟩=some (.slice (some ⟨bk 1,0,none⟩) 3 3)
 c3:wx.cell? ⟨w.heap.size,3,none⟩=some rs
 c4:wx.cell? ⟨w.heap.size,4,none⟩=some (.slice (some ⟨bk 3,0,none⟩) 11 11)
 c5:wx.cell? ⟨w.heap.size,5,none⟩=some (.slice (some ⟨bk 4,0,none⟩) 8 8)
 rb:wx.heap[w.heap.size+1]? = some zeroM
 fr:∀ k,wx.frozen? ⟨w.heap.size,k,none⟩=false
 lt:w.heap.size+1<wx.heap.size
 nz:N≤w.heap.size
 up:∀ f,f<5→N≤bk f∧bk f<w.heap.size
 ks:∀ b,b<w.heap.size→(∀ f,f<5→b≠bk f)→wx.heap[b]? = w.heap[b]?
 mb:∃ cs,wx.heap[w.heap.size]? = some (.cells cs 28 (0,0))
section
variable {bk:Nat→Nat} {N:Nat} {nm:ByteArray} {rs:Value} {w wx:World}
theorem OdS.below {wy:World} (h:OdS bk N nm rs w wx) (g:Below wx.heap.size wx wy):OdS bk N nm rs w wy:=by
 have hl:=h.lt
 have k:∀ j,wy.cell? ⟨w.heap.size,j,none⟩=wx.cell? ⟨w.heap.size,j,none⟩:=fun j=>g.cell (p:=⟨w.heap.size,j,none⟩) (by simp only;omega)
 exact ⟨h.o.below g,h.bel.trans (g.mono (by have:=h.nz;omega)),(k 0).trans h.c0,(k 1).trans h.c1,(k 2).trans h.c2,(k 3).trans h.c3,(k 4).trans h.c4,(k 5).trans h.c5,(g.block _ hl).trans h.rb,fun j=>(g.frozen (p:=⟨w.heap.size,j,none⟩) (by simp only;omega)).trans (h.fr j),Nat.lt_of_lt_of_le hl g.size,h.nz,h.up,fun b hb hn=>(g.block b (by omega)).trans (h.ks b hb hn),h.mb.imp fun _ e=>(g.block _ (by omega)).trans e⟩
theorem OdS.set (h:OdS bk N nm rs w wx) (f k:Nat) (hf:f<5) (hk:k<sF f) {u:Value} (hu:OkV bk wx u (kF f k)):OdS bk N nm rs w (wx.setCell ⟨bk f,k,none⟩ u):=by
 have hn:=h.up f hf
 have hb:∀ b,b≠bk f→(wx.setCell ⟨bk f,k,none⟩ u).heap[b]? = wx.heap[b]? := fun b hb=>Below.heap_setCell _ _ _ _ hb
 have kc:∀ j,(wx.setCell ⟨bk f,k,none⟩ u).cell? ⟨w.heap.size,j,none⟩=wx.cell? ⟨w.heap.size,j,none⟩:=fun j=>World.cell?_of_block (w:=wx) (hb _ (by simp only;omega))
 exact ⟨h.o.set f k hf hk hu,h.bel.setCell (p:=⟨bk f,k,none⟩) hn.1 _,(kc 0).trans h.c0,(kc 1).trans h.c1,(kc 2).trans h.c2,(kc 3).trans h.c3,(kc 4).trans h.c4,(kc 5).trans h.c5,(hb _ (by omega)).trans h.rb,fun j=>by rw [World.frozen?_setCell];exact h.fr j,by rw [World.size_setCell];exact h.lt,h.nz,h.up,fun b hb' hn'=>(hb b (hn' f hf)).trans (h.ks b hb' hn'),h.mb.imp fun _ e=>(hb _ (by omega)).trans e⟩
theorem OdS.setS (h:OdS bk N nm rs w wx) (f k:Nat) (hf:f<5) (hk:k<sF f) (hc:kF f k=0) (s:ByteArray) (hs:s.size≤140737488355328):OdS bk N nm rs w (wx.setCell ⟨bk f,k,none⟩ (.string s)):=h.set f k hf hk (by rw [hc];exact ⟨s,rfl,hs⟩)
theorem OdS.setI (h:OdS bk N nm rs w wx) (f k:Nat) (hf:f<5) (hk:k<sF f) (hc:kF f k=1) (x:Int) (hx:-9223372036854775808≤x∧x≤9223372036854775807):OdS bk N nm rs w (wx.setCell ⟨bk f,k,none⟩ (.int .i64 x)):=h.set f k hf hk (by rw [hc];exact ⟨x,rfl,hx⟩)
theorem OdS.setU (h:OdS bk N nm rs w wx) (f k:Nat) (hf:f<5) (hk:k<sF f) (hc:kF f k=2) (x:Nat) (hx:x<256):OdS bk N nm rs w (wx.setCell ⟨bk f,k,none⟩ (.int .u8 (x:Int))):=h.set f k hf hk (by rw [hc];exact ⟨x,rfl,hx⟩)
theorem OdS.setD (h:OdS bk N nm rs w wx) (f k:Nat) (hf:f<5) (hk:k<sF f) (hc:kF f k=3) (cs:Array Value) (l:List ByteArray) (he:cs.toList=l.map Value.string) (n:Nat) (hn:l.length=n) (hl:n≤100) (hs:∀ s ∈ l,s.size≤100):OdS bk N nm rs w ((wx.alloc (.cells cs 9)).setCell ⟨bk f,k,none⟩ (.slice (some ⟨wx.heap.size,0,none⟩) n n)):=by
 subst hn
 refine (h.below (below_al1 wx (.cells cs 9))).set f k hf hk ?_
 rw [hc]
 refine ⟨l,.inr ⟨wx.heap.size,0,l.length,rfl,Nat.le_refl _,by simp,⟨fun f hf e=>?_,_,_,World.alloc_heap_new wx (.cells cs 9)⟩,fun i hi=>?_⟩,by omega,fun s hs'=>by have:=hs s hs';omega⟩
 · have:=h.o.lt f hf;omega
 · have e:=World.alloc_heap_new wx (.cells cs 9)
   rw [Nat.zero_add]
   unfold World.cell?
   simp only [e]
   rw [← Array.getElem?_toList,he]
   simp [hi]
end
def oddV (bk:Nat→Nat) (nm:ByteArray) (rs:Value):Value:=.agg #[.string nm,.slice (some ⟨bk 0,0,none⟩) 2 2,.slice (some ⟨bk 1,0,none⟩) 3 3,rs,.slice (some ⟨bk 3,0,none⟩) 11 11,.slice (some ⟨bk 4,0,none⟩) 8 8]
theorem ods_made {bk:Nat→Nat} {N:Nat} {nm:ByteArray} {rs:Value} {w:World} (h:Odw bk w) (hup:∀ f,f<5→N≤bk f∧bk f<w.heap.size) (hN:N≤w.heap.size) :
   OdS bk N nm rs w ((w.alloc (.cells #[.string nm,.slice (some ⟨bk 0,0,none⟩) 2 2,.slice (some ⟨bk 1,0,none⟩) 3 3,rs,.slice (some ⟨bk 3,0,none⟩) 11 11,.slice (some ⟨bk 4,0,none⟩) 8 8] 28)).alloc zeroM):=by
 have e0:((w.alloc (.cells #[.string nm,.slice (some ⟨bk 0,0,none⟩) 2 2,.slice (some ⟨bk 1,0,none⟩) 3 3,rs,.slice (some ⟨bk 3,0,none⟩) 11 11,.slice (some ⟨bk 4,0,none⟩) 8 8] 28)).alloc zeroM).heap[w.heap.size]? = some (.cells #[.string nm,.slice (some ⟨bk 0,0,none⟩) 2 2,.slice (some ⟨bk 1,0,none⟩) 3 3,rs,.slice (some ⟨bk 3,0,none⟩) 11 11,.slice (some ⟨bk 4,0,none⟩) 8 8] 28 (0,0)):=(Below.heap_alloc _ _ _ (by simp)).trans (World.alloc_heap_new w _)
 have e1:=World.alloc_heap_new (w.alloc (.cells #[.string nm,.slice (some ⟨bk 0,0,none⟩) 2 2,.slice (some ⟨bk 1,0,none⟩) 3 3,rs,.slice (some ⟨bk 3,0,none⟩) 11 11,.slice (some ⟨bk 4,0,none⟩) 8 8] 28)) zeroM
 rw [World.size_alloc] at e1
 have hb:Below w.heap.size w ((w.alloc (.cells #[.string nm,.slice (some ⟨bk 0,0,none⟩) 2 2,.slice (some ⟨bk 1,0,none⟩) 3 3,rs,.slice (some ⟨bk 3,0,none⟩) 11 11,.slice (some ⟨bk 4,0,none⟩) 8 8] 28)).alloc zeroM):=((Below.refl _ w).alloc (Nat.le_refl _) _).alloc (by simp) _
 exact ⟨h.below hb,hb.mono hN,cell_blk e0 0,cell_blk e0 1,cell_blk e0 2,cell_blk e0 3,cell_blk e0 4,cell_blk e0 5,e1,frz_door e0,by simp,hN,hup,fun b hb' _=>hb.block b hb',_,e0⟩
theorem od_box {w:World} {b k:Nat} {cs:Array Value} {u:Value} (h:w.heap[b]? = some (.cells cs 28 (0,0))):∃ cs',(w.setCell ⟨b,k,none⟩ u).heap[b]? = some (.cells cs' 28 (0,0)):=by
 have:(w.setCell ⟨b,k,none⟩ u).heap[b]? = some (.cells (cs.setIfInBounds k u) 28 (0,0)):=by
   unfold World.setCell
   simp only [Array.getElem?_modify,if_true,h,Option.map_some]
   rfl
 exact ⟨_,this⟩
theorem Odw.elsewhere {bk:Nat→Nat} {w:World} {b k:Nat} {cs:Array Value} {u:Value} (h:Odw bk w) (hne:∀ f,f<5→b≠bk f) (hm:w.heap[b]? = some (.cells cs 28 (0,0))):Odw bk (w.setCell ⟨b,k,none⟩ u):=by
 have hb:∀ b',b'≠b→(w.setCell ⟨b,k,none⟩ u).heap[b']? = w.heap[b']? := fun b' hb'=>Below.heap_setCell _ _ _ _ hb'
 have hkp:Kept (txtB bk) w (w.setCell ⟨b,k,none⟩ u):=⟨by rw [World.size_setCell];exact Nat.le_refl _,fun b' _ hQ=>hb b' fun e=>by
   obtain ⟨_,cs',fr',ho⟩:=hQ
   rw [e,hm] at ho
   simp only [Option.some.injEq,Obj.cells.injEq] at ho
   exact absurd ho.2.1 (by decide)⟩
 refine ⟨fun f hf j hj=>?_,fun f hf j=>by rw [World.frozen?_setCell];exact h.free f hf j,h.ne,fun f hf=>by rw [World.size_setCell];exact h.lt f hf⟩
 obtain ⟨v,h1,h2⟩:=h.cell f hf j hj
 exact ⟨v,(World.cell?_of_block (w:=w) (a:=⟨bk f,j,none⟩) (hb _ (hne f hf).symm)).trans h1,h2.kept hkp⟩
theorem OdS.setN {bk:Nat→Nat} {N:Nat} {nm:ByteArray} {rs:Value} {w wx:World} (h:OdS bk N nm rs w wx) (nm':ByteArray):OdS bk N nm' rs w (wx.setCell ⟨w.heap.size,0,none⟩ (.string nm')):=by
 obtain ⟨cs,hm⟩:=h.mb
 have hl:=h.lt
 have hne:∀ f,f<5→w.heap.size≠bk f:=fun f hf=>by have:=(h.up f hf).2;omega
 have hb:∀ b,b≠w.heap.size→(wx.setCell ⟨w.heap.size,0,none⟩ (.string nm')).heap[b]? = wx.heap[b]? := fun b hb=>Below.heap_setCell _ _ _ _ hb
 exact ⟨h.o.elsewhere hne hm,h.bel.setCell (p:=⟨w.heap.size,0,none⟩) h.nz _,World.cell?_setCell_same _ _ _ h.c0,(World.cell?_setCell_other _ _ _ _ (by simp)).trans h.c1,(World.cell?_setCell_other _ _ _ _ (by simp)).trans h.c2,(World.cell?_setCell_other _ _ _ _ (by simp)).trans h.c3,(World.cell?_setCell_other _ _ _ _ (by simp)).trans h.c4,(World.cell?_setCell_other _ _ _ _ (by simp)).trans h.c5,(hb _ (by omega)).trans h.rb,fun j=>by rw [World.frozen?_setCell];exact h.fr j,by rw [World.size_setCell];exact h.lt,h.nz,h.up,fun b hb' hn'=>(hb b (by omega)).trans (h.ks b hb' hn'),od_box hm⟩
theorem OdS.setR {bk:Nat→Nat} {N:Nat} {nm:ByteArray} {rs:Value} {w wx:World} (h:OdS bk N nm rs w wx) (rs':Value):OdS bk N nm rs' w (wx.setCell ⟨w.heap.size,3,none⟩ rs'):=by
 obtain ⟨cs,hm⟩:=h.mb
 have hl:=h.lt
 have hne:∀ f,f<5→w.heap.size≠bk f:=fun f hf=>by have:=(h.up f hf).2;omega
 have hb:∀ b,b≠w.heap.size→(wx.setCell ⟨w.heap.size,3,none⟩ rs').heap[b]? = wx.heap[b]? := fun b hb=>Below.heap_setCell _ _ _ _ hb
 exact ⟨h.o.elsewhere hne hm,h.bel.setCell (p:=⟨w.heap.size,3,none⟩) h.nz _,(World.cell?_setCell_other _ _ _ _ (by simp)).trans h.c0,(World.cell?_setCell_other _ _ _ _ (by simp)).trans h.c1,(World.cell?_setCell_other _ _ _ _ (by simp)).trans h.c2,World.cell?_setCell_same _ _ _ h.c3,(World.cell?_setCell_other _ _ _ _ (by simp)).trans h.c4,(World.cell?_setCell_other _ _ _ _ (by simp)).trans h.c5,(hb _ (by omega)).trans h.rb,fun j=>by rw [World.frozen?_setCell];exact h.fr j,by rw [World.size_setCell];exact h.lt,h.nz,h.up,fun b hb' hn'=>(hb b (by omega)).trans (h.ks b hb' hn'),od_box hm⟩
theorem od_wp {P:Program} {S:World→Prop} {c:Code} {Q:Exit→Act→World→Prop} {a:Act} {W:World} (h:S W) (k:∀ W,S W→c.wp P Q a W):c.wp P Q a W:=k W h
theorem OdS.done {bk:Nat→Nat} {N:Nat} {nm:ByteArray} {rs:Value} {w wx:World} (h:OdS bk N nm rs w wx) (a0 a1 a2 a3 a4 a5:Value):Odw bk ((((((wx.setCell ⟨w.heap.size+1,0,none⟩ a0).setCell ⟨w.heap.size+1,1,none⟩ a1).setCell ⟨w.heap.size+1,2,none⟩ a2).setCell ⟨w.heap.size+1,3,none⟩ a3).setCell ⟨w.heap.size+1,4,none⟩ a4).setCell ⟨w.heap.size+1,5,none⟩ a5)∧Below N w ((((((wx.setCell ⟨w.heap.size+1,0,none⟩ a0).setCell ⟨w.heap.size+1,1,none⟩ a1).setCell ⟨w.heap.size+1,2,none⟩ a2).setCell ⟨w.heap.size+1,3,none⟩ a3).setCell ⟨w.heap.size+1,4,none⟩ a4).setCell ⟨w.heap.size+1,5,none⟩ a5)∧∀ b,b<w.heap.size→(∀ f,f<5→b≠bk f)→((((((wx.setCell ⟨w.heap.size+1,0,none⟩ a0).setCell ⟨w.heap.size+1,1,none⟩ a1).setCell ⟨w.heap.size+1,2,none⟩ a2).setCell ⟨w.heap.size+1,3,none⟩ a3).setCell ⟨w.heap.size+1,4,none⟩ a4).setCell ⟨w.heap.size+1,5,none⟩ a5).heap[b]? = w.heap[b]? := by
 have hz:=h.nz
 have hb:Below w.heap.size wx ((((((wx.setCell ⟨w.heap.size+1,0,none⟩ a0).setCell ⟨w.heap.size+1,1,none⟩ a1).setCell ⟨w.heap.size+1,2,none⟩ a2).setCell ⟨w.heap.size+1,3,none⟩ a3).setCell ⟨w.heap.size+1,4,none⟩ a4).setCell ⟨w.heap.size+1,5,none⟩ a5):=((((((Below.refl _ wx).setCell (p:=⟨w.heap.size+1,0,none⟩) (by simp) _).setCell (p:=⟨w.heap.size+1,1,none⟩) (by simp) _).setCell (p:=⟨w.heap.size+1,2,none⟩) (by simp) _).setCell (p:=⟨w.heap.size+1,3,none⟩) (by simp) _).setCell (p:=⟨w.heap.size+1,4,none⟩) (by simp) _).setCell (p:=⟨w.heap.size+1,5,none⟩) (by simp) _
 refine ⟨⟨fun f hf k hk=>?_,fun f hf k=>?_,h.o.ne,fun f hf=>Nat.lt_of_lt_of_le (h.o.lt f hf) hb.size⟩,h.bel.trans (hb.mono hz),fun b hb' hn'=>(hb.block b hb').trans (h.ks b hb' hn')⟩
 · obtain ⟨u,h1,h2⟩:=h.o.cell f hf k hk
   refine ⟨u,(hb.cell (p:=⟨bk f,k,none⟩) (h.up f hf).2).trans h1,h2.kept ⟨hb.size,fun b hb2 hQ=>?_⟩⟩
   obtain ⟨_,cs,fr,ho⟩:=hQ
   have hne:b≠w.heap.size+1:=fun e=>by subst e;rw [h.rb] at ho;unfold zeroM at ho;simp at ho
   exact (Below.heap_setCell _ ⟨w.heap.size+1,5,none⟩ _ _ hne).trans ((Below.heap_setCell _ ⟨w.heap.size+1,4,none⟩ _ _ hne).trans ((Below.heap_setCell _ ⟨w.heap.size+1,3,none⟩ _ _ hne).trans ((Below.heap_setCell _ ⟨w.heap.size+1,2,none⟩ _ _ hne).trans ((Below.heap_setCell _ ⟨w.heap.size+1,1,none⟩ _ _ hne).trans (Below.heap_setCell _ ⟨w.heap.size+1,0,none⟩ _ _ hne)))))
 · exact (hb.frozen (p:=⟨bk f,k,none⟩) (h.up f hf).2).trans (h.o.free f hf k)
end Go.Proofs
