/- Rows that a call builds; what 'Ref' keeps while it goes. No program is in sight. -/
import Derived.Test.YtfladiadgkfebaaDoorCMdIJ
namespace Go.Proofs
open Go.RowKit Go.Lx Go.Md
set_option linter.unusedVariables false

def Rows {α:Type} (X:World→List Value→α→Prop) (T sz base:Nat) (v:Value) (l:List α) (w:World):Prop :=
 ∃ css:List (List Value),css.length=l.length∧w.ownsRow base T sz v l.length css.flatten∧∀ i (h1:i<css.length) (h2:i<l.length),css[i].length=sz∧X w css[i] l[i]
theorem Rows.start {α:Type} {X:World→List Value→α→Prop} {T sz base:Nat} {w:World}:Rows X T sz base (.slice none 0 0) ([]:List α) w :=
 ⟨[],rfl,⟨by simp,.inl ⟨rfl,rfl⟩⟩,fun i h1=>by simp at h1⟩
theorem Rows.len {α:Type} {X:World→List Value→α→Prop} {T sz base:Nat} {v:Value} {l:List α} {w:World} (h:Rows X T sz base v l w):∃ a c,v=.slice a l.length c:=by
 obtain ⟨css,h0,⟨_,⟨rfl,h1⟩ | ⟨g,cap,cur,rfl,_⟩⟩,_⟩:=h
 · exact ⟨none,0,by rw [h1]⟩
 · exact ⟨_,_,rfl⟩
theorem Rows.kept {α:Type} {X:World→List Value→α→Prop} {T sz base:Nat} {v:Value} {l:List α} {w w':World} (h:Rows X T sz base v l w) (hb:∀ g,v.ownBlock=some g→w'.heap[g]? = w.heap[g]?) (hX:∀ cs x,x ∈ l→X w cs x→X w' cs x):Rows X T sz base v l w':=by
 obtain ⟨css,h0,⟨h1,h2⟩,h3⟩:=h
 refine ⟨css,h0,⟨h1,?_⟩,fun i i1 i2=>⟨(h3 i i1 i2).1,hX _ _ (List.getElem_mem i2) (h3 i i1 i2).2⟩⟩
 rcases h2 with h2 | ⟨g,cap,cur,rfl,hg,hcur,hr⟩
 · exact .inl h2
 · exact .inr ⟨g,cap,cur,rfl,hg,by rw [hb g rfl];exact hcur,hr⟩
theorem flatten_get {sz:Nat}:∀ {css:List (List Value)},(∀ cs ∈ css,cs.length=sz)→∀ i (hi:i<css.length) j,j<sz→css.flatten[i * sz+j]? = css[i][j]?
 | [],_,i,hi,_,_=>by simp at hi
 | c :: t,h,i,hi,j,hj=>by
   have hc:=h c List.mem_cons_self
   cases i with
   | zero=>rw [List.flatten_cons,Nat.zero_mul,Nat.zero_add,List.getElem?_append_left (by omega)];rfl
   | succ i =>
    rw [List.flatten_cons,List.getElem?_append_right (by rw [hc,Nat.add_mul];omega),show (i+1) * sz+j - c.length=i * sz+j by rw [hc,Nat.add_mul];omega]
    exact flatten_get (fun cs hx=>h cs (List.mem_cons_of_mem _ hx)) i (by simpa using hi) j hj
theorem Rows.push {α:Type} {X:World→List Value→α→Prop} {T sz base:Nat} {v':Value} {l:List α} {x:α} {w':World} {cs:List Value} (css:List (List Value)) (hl:css.length=l.length) (hX:∀ i (h1:i<css.length) (h2:i<l.length),css[i].length=sz∧X w' css[i] l[i])
   (ho:w'.ownsRow base T sz v' (l.length+1) (css.flatten ++ cs)) (hc:cs.length=sz) (hx:X w' cs x):Rows X T sz base v' (l ++ [x]) w':=by
 refine ⟨css ++ [cs],by simp [hl],by simpa using ho,fun i h1 h2=>?_⟩
 by_cases hi:i<l.length
 · have e1:(css ++ [cs])[i]=css[i]'(by omega):=List.getElem_append_left (by omega)
   have e2:(l ++ [x])[i]=l[i]:=List.getElem_append_left hi
   rw [e1,e2];exact hX i (by omega) hi
 · have hi':i=l.length:=by simp at h2;omega
   subst hi'
   have e1:(css ++ [cs])[l.length]=cs:=by rw [List.getElem_append_right (by omega)];simp [hl]
   have e2:(l ++ [x])[l.length]=x:=by simp
   rw [e1,e2];exact ⟨hc,hx⟩
theorem Rows.done {α:Type} {X:World→List Value→α→Prop} {E:World→Nat→Nat→α→Prop} {T sz base:Nat} {v:Value} {l:List α} {w:World} (h:Rows X T sz base v l w) (hz:0<sz)
   (hE:∀ cs x b o,cs.length=sz→X w cs x→(∀ j,j<sz→w.cell? ⟨b,o+j,none⟩=cs[j]?)→E w b o x):∃ a c,v=.slice a l.length c∧Sl (NewB base w.heap.size) sz E w (.slice a l.length c) l:=by
 obtain ⟨css,h0,ho,h3⟩:=h
 have hcs:∀ cs ∈ css,cs.length=sz:=fun cs hc=>by
   obtain ⟨i,hi,rfl⟩:=List.getElem_of_mem hc
   exact (h3 i hi (by omega)).1
 cases hl:l with
 | nil =>
  rw [hl] at ho
  obtain ⟨_,⟨rfl,_⟩ | ⟨g,cap,cur,rfl,_⟩⟩:=ho
  · exact ⟨_,_,rfl,.inl ⟨_,_,rfl,rfl⟩⟩
  · exact ⟨_,_,rfl,.inl ⟨_,_,rfl,rfl⟩⟩
 | cons x t =>
  have hp:0<l.length:=by rw [hl];simp
  obtain ⟨g,cap,rfl,hcap,hb,hg,⟨cur,hcur⟩,hc⟩:=owns_cells ho (Nat.mul_pos hp hz)
  rw [← hl]
  refine ⟨_,_,rfl,.inr ⟨g,0,cap,rfl,hcap,hg,⟨hb,hg,cur,T,hcur⟩,fun i hi=>?_⟩⟩
  obtain ⟨hlen,hx⟩:=h3 i (by omega) hi
  refine hE _ _ _ _ hlen hx fun j hj=>?_
  have hlt:i * sz+j<l.length * sz:=by
    have:(i+1) * sz≤l.length * sz:=Nat.mul_le_mul_right _ hi
    rw [Nat.add_mul] at this;omega
  rw [show 0+i * sz+j=i * sz+j by omega,hc _ hlt,flatten_get hcs i (by omega) j hj]
theorem alloc1_at (w:World) (o:Obj):(w.alloc o).heap[w.heap.size]? = some o:=by
 unfold World.alloc
 exact Array.getElem?_push_size
theorem Kept.new {lo hi B:Nat} {w w':World} (h:Below B w w') (hh:hi≤B):Kept (NewB lo hi) w w':=⟨h.size,fun b _ hQ=>h.block b (Nat.lt_of_lt_of_le hQ.2.1 hh)⟩
theorem Box.any {w wx:World} {H:Nat} {v0 v1 v2 v3 v4 v5:Value} (h:Box w H v0 v1 v2 v3 v4 v5) (hb:wx.heap[H]? = w.heap[H]?):Box wx H v0 v1 v2 v3 v4 v5:=by
 have hc:∀ k,wx.cell? ⟨H,k,none⟩=w.cell? ⟨H,k,none⟩:=fun k=>World.cell?_of_block (w:=w) hb
 have hf:∀ k,wx.frozen? ⟨H,k,none⟩=w.frozen? ⟨H,k,none⟩:=fun k=>World.frozen?_of_block (w:=w) hb
 exact ⟨(hc 0).trans h.c0,(hc 1).trans h.c1,(hc 2).trans h.c2,(hc 3).trans h.c3,(hc 4).trans h.c4,(hc 5).trans h.c5,(hf 0).trans h.f0,(hf 1).trans h.f1,(hf 2).trans h.f2,(hf 3).trans h.f3,(hf 4).trans h.f4,(hf 5).trans h.f5⟩
end Go.Proofs
