/- Walks: 'small' of law 16; the index behind what is written over. -/
import Derived.Test.YtiimoclbmaggjaaGreatDoorZIxVX
import Derived.Test.YtiimoclbmaggjaaGreatDoorZMdPl
namespace Go.Proofs
open Go.RowKit Go.Lx Go.Md Go.Shelf Go.BigFrame
set_option linter.unusedVariables false
theorem few_sml {m:MdlD} (h:FewP m):Sml m :=
 ⟨by have:=h.vars;omega,by have:=h.za;omega,by have:=h.zb;omega,by have:=h.zc;omega,by have:=h.ze;omega,fun x hx=>by have:=h.df x hx;omega,fun x hx=>by have:=h.tr x hx;omega⟩
theorem IxSt.keepC {W W':World} {np nk N1 PB KB MO MP IB XB:Nat} {pl:Nat->PlD} {F:RI->List Int} {V:RI->Value} {co cp:Nat} {wx wy:World} (h:IxSt W np nk N1 PB KB MO MP IB XB pl F V co cp wx) (D:Dst W.heap.size N1 PB KB MO MP IB XB) (hb:Bl W' wy)
   (k1:∀ b,W.heap.size<=b->b<wx.heap.size->wy.heap[b]? = wx.heap[b]?) (hN:W.heap.size<=N1) (hz:wx.heap.size<=wy.heap.size):IxSt W' np nk N1 PB KB MO MP IB XB pl F V co cp wy:=by
 obtain ⟨h1,h2,h3,h4,h5,h6⟩:=D.hi;obtain ⟨l1,l2,l3,l4,l5,l6⟩:=D.lo;have z:=h.z;have kc:∀ b k,W.heap.size<=b->b<wx.heap.size->wy.cell? ⟨b,k,none⟩=wx.cell? ⟨b,k,none⟩:=fun b k h1 h2=>World.cell?_of_block (w:=wx) (k1 b h1 h2);have kf:∀ b k,W.heap.size<=b->b<wx.heap.size->wy.frozen? ⟨b,k,none⟩=wx.frozen? ⟨b,k,none⟩:=fun b k h1 h2=>World.frozen?_of_block (w:=wx) (k1 b h1 h2);exact ⟨hb,(kc _ _ l6 (by omega)).trans h.x,(k1 _ l5 (by omega)).trans h.i,fun i hi=>(h.pl i hi).keep fun j _=>kc _ _ l1 (by omega),fun k=>(kf _ _ l1 (by omega)).trans (h.pf k),fun r hr=>(kc _ _ l2 (by omega)).trans (h.kd r hr),fun k=>(kf _ _ l2 (by omega)).trans (h.kf k),h.mo.keep (k1 _ l3 (by omega)),h.mp.keep (k1 _ l4 (by omega)),h.rw.keep (fun i g hg=>k1 g (by have:=(h.rw.lt hg).1;omega) (h.rw.lt hg).2),by omega⟩
theorem IdxAt.keep {B:Nat} {m:MdlD} {IB:Nat} {wx wy:World} (h:IdxAt B m IB wx) (hz:wx.heap.size<=wy.heap.size) (k1:∀ b,B<=b->b<wx.heap.size->wy.heap[b]? = wx.heap[b]?):IdxAt B m IB wy:=by
 obtain ⟨W,N1,PB,KB,MO,MP,XB,cp,V,h1,h2,D,h⟩:=h;have hW:W.heap.size<=wy.heap.size:=Nat.le_trans h.bel.size hz;have hs:({ wy with heap:=wy.heap.extract 0 W.heap.size }:World).heap.size=W.heap.size:=by simp;omega
 refine ⟨{ wy with heap:=wy.heap.extract 0 W.heap.size },N1,PB,KB,MO,MP,XB,cp,V,by rw [hs];exact h1,by rw [hs];exact h2,by rw [hs];exact D,h.keepC D ⟨rfl,rfl,rfl,by rw [hs];exact hW,fun b hb=>?_⟩ (fun b hb hl=>k1 b (Nat.le_trans h1 hb) hl) h2 hz⟩;rw [hs] at hb
 show wy.heap[b]? = (wy.heap.extract 0 W.heap.size)[b]?
 rw [Array.getElem?_extract]
 simp;omega
theorem IdxAt.pl {B:Nat} {m:MdlD} {IB lo hi:Nat} {wx wy:World} (h:IdxAt B m IB wx) (g:Pl lo hi wx wy) (hB:hi<=B):IdxAt B m IB wy :=
 h.keep g.size fun b hb hl=>g.block b hl (.inr (by omega))
end Go.Proofs
