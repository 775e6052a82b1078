/- Rows that a call builds; what 'Ref' keeps while it goes. -/
import Derived.Test.YtfladiadgkfebaaGreatDoorKMdIJ
namespace Go.Proofs
open Go.RowKit Go.Lx Go.Md
set_option linter.unusedVariables false

def Rows {α:Type} (X:World->List Value->α->Prop) (T sz base:Nat) (v:Value) (l:List α) (w:World):Prop :=
 ∃ css:List (List Value),css.length=l.length/\w.ownsRow base T sz v l.length css.flatten/\∀ i (h1:i<css.length) (h2:i<l.length),css[i].length=sz/\X w css[i] l[i]
theorem Rows.start {α:Type} {X:World->List Value->α->Prop} {T sz base:Nat} {w:World}:Rows X T sz base (.slice none 0 0) ([]:List α) w :=
 ⟨[],rfl,⟨by simp,.inl ⟨rfl,rfl⟩⟩,fun i h1=>by simp at h1⟩
theorem Rows.len {α:Type} {X:World->List Value->α->Prop} {T sz base:Nat} {v:Value} {l:List α} {w:World} (h:Rows X T sz base v l w):∃ a c,v=.slice a l.length c:=by
 obtain ⟨css,h0,⟨_,⟨rfl,h1⟩ | ⟨g,cap,cur,rfl,_⟩⟩,_⟩:=h
 . exact ⟨none,0,by rw [h1]⟩
 . exact ⟨_,_,rfl⟩
theorem Rows.kept {α:Type} {X:World->List Value->α->Prop} {T sz base:Nat} {v:Value} {l:List α} {w w':World} (h:Rows X T sz base v l w) (hb:∀ g,v.ownBlock=some g->w'.heap[g]? = w.heap[g]?) (hX:∀ cs x,x ∈ l->X w cs x->X w' cs x):Rows X T sz base v l w':=by
 obtain ⟨css,h0,⟨h1,h2⟩,h3⟩:=h
 refine ⟨css,h0,⟨h1,?_⟩,fun i i1 i2=>⟨(h3 i i1 i2).1,hX _ _ (List.getElem_mem i2) (h3 i i1 i2).2⟩⟩
 rcases h2 with h2 | ⟨g,cap,cur,rfl,hg,hcur,hr⟩
 . exact .inl h2
 . exact .inr ⟨g,cap,cur,rfl,hg,by rw [hb g rfl];exact hcur,hr⟩
theorem flatten_get {sz:Nat}:∀ {css:List (List Value)},(∀ cs ∈ css,cs.length=sz)->∀ i (hi:i<css.length) j,j<sz->css.flatten[i * sz+j]? = css[i][j]?
 | [],_,i,hi,_,_=>by simp at hi
 | c :: t,h,i,hi,j,hj=>by
   have hc:=h c List.mem_cons_self
   cases i with
   | zero=>rw [List.flatten_cons,Nat.zero_mul,Nat.zero_add,List.getElem?_append_left (by omega)];rfl
   | succ i =>
    rw [List.flatten_cons,List.getElem?_append_right (by rw [hc,Nat.add_mul];omega),show (i+1) * sz+j - c.length=i * sz+j by rw [hc,Nat.add_mul];omega]
    exact flatten_get (fun cs hx=>h cs (List.mem_cons_of_mem _ hx)) i (by simpa using hi) j hj
theorem Rows.push {α:Type} {X:World->List Value->α->Prop} {T sz base:Nat} {v':Value} {l:List α} {x:α} {w':World} {cs:List Value} (css:List (List Value)) (hl:css.length=l.length) (hX:∀ i (h1:i<css.length) (h2:i<l.length),css[i].length=sz/\X w' css[i] l[i])
   (ho:w'.ownsRow base T sz v' (l.length+1) (css.flatten ++ cs)) (hc:cs.length=sz) (hx:X w' cs x):Rows X T sz base v' (l ++ [x]) w':=by
 refine ⟨css ++ [cs],by simp [hl],by simpa using ho,fun i h1 h2=>?_⟩
 by_cases hi:i<l.length
 . have e1:(css ++ [cs])[i]=css[i]'(by omega):=List.getElem_append_left (by omega)
   have e2:(l ++ [x])[i]=l[i]:=List.getElem_append_left hi
   rw [e1,e2];exact hX i (by omega) hi
 . have hi':i=l.length:=by simp at h2;omega
   subst hi'
   have e1:(css ++ [cs])[l.length]=cs:=by rw [List.getElem_append_right (by omega)];simp [hl]
   have e2:(l ++ [x])[l.length]=x:=by simp
   rw [e1,e2];exact ⟨hc,hx⟩
theorem Rows.done {α:Type} {X:World->List Value->α->Prop} {E:World->Nat->Nat->α->Prop} {T sz base:Nat} {v:Value} {l:List α} {w:World} (h:Rows X T sz base v l w) (hz:0<sz)
   (hE:∀ cs x b o,cs.length=sz->X w cs x->(∀ j,j<sz->w.cell? ⟨b,o+j,none⟩=cs[j]?)->E w b o x):∃ a c,v=.slice a l.length c/\Sl (NewB base w.heap.size) sz E w (.slice a l.length c) l:=by
 obtain ⟨css,h0,ho,h3⟩:=h
 have hcs:∀ cs ∈ css,cs.length=sz:=fun cs hc=>by
   obtain ⟨i,hi,rfl⟩:=List.getElem_of_mem hc
   exact (h3 i hi (by omega)).1
 cases hl:l with
 | nil =>
  rw [hl] at ho
  obtain ⟨_,⟨rfl,_⟩ | ⟨g,cap,cur,rfl,_⟩⟩:=ho
  . exact ⟨_,_,rfl,.inl ⟨_,_,rfl,rfl⟩⟩
  . exact ⟨_,_,rfl,.inl ⟨_,_,rfl,rfl⟩⟩
 | cons x t =>
  have hp:0<l.length:=by rw [hl];simp
  obtain ⟨g,cap,rfl,hcap,hb,hg,⟨cur,hcur⟩,hc⟩:=owns_cells ho (Nat.mul_pos hp hz)
  rw [<- hl]
  refine ⟨_,_,rfl,.inr ⟨g,0,cap,rfl,hcap,hg,⟨hb,hg,cur,T,hcur⟩,fun i hi=>?_⟩⟩
  obtain ⟨hlen,hx⟩:=h3 i (by omega) hi
  refine hE _ _ _ _ hlen hx fun j hj=>?_
  have hlt:i * sz+j<l.length * sz:=by
    have:(i+1) * sz<=l.length * sz:=Nat.mul_le_mul_right _ hi
    rw [Nat.add_mul] at this;omega
  rw [show 0+i * sz+j=i * sz+j by omega,hc _ hlt,flatten_get hcs i (by omega) j hj]
theorem alloc1_at (w:World) (o:Obj):(w.alloc o).heap[w.heap.size]? = some o:=by
 unfold World.alloc
 exact Array.getElem?_push_size
def VarX (_:World) (cs:List Value) (x:VarD):Prop:=cs=[.string x.nm,.int .i64 x.ini]
def RegX (_:World) (cs:List Value) (x:RegD):Prop:=cs=[.string x.nm,.int .i64 x.own]
def VerX (R:BP) (w:World) (cs:List Value) (x:VerD):Prop:=∃ dv,SlS R w dv x.df/\cs=[.string x.nm,.int .u8 x.kd,.int .i64 x.rg,.int .i64 x.ofv,.string x.en,.string x.ex,dv,.string x.sb]
def TrnX (R:BP) (w:World) (cs:List Value) (x:TrnD):Prop:=∃ dv,SlS R w dv x.tr/\cs=[.string x.nm,.int .i64 x.src,.int .i64 x.tgt,dv,.int .i64 x.af,.string x.gd,.string x.ef,.int .u8 x.kd]
theorem VarX.elem {w:World} {cs:List Value} {x:VarD} {b o:Nat} (h:VarX w cs x) (hc:∀ j,j<2->w.cell? ⟨b,o+j,none⟩=cs[j]?):VarE w b o x:=by
 unfold VarX at h;subst h
 exact ⟨hc 0 (by omega),hc 1 (by omega)⟩
theorem RegX.elem {w:World} {cs:List Value} {x:RegD} {b o:Nat} (h:RegX w cs x) (hc:∀ j,j<2->w.cell? ⟨b,o+j,none⟩=cs[j]?):RegE w b o x:=by
 unfold RegX at h;subst h
 exact ⟨hc 0 (by omega),hc 1 (by omega)⟩
theorem VerX.elem {R:BP} {w:World} {cs:List Value} {x:VerD} {b o:Nat} (h:VerX R w cs x) (hc:∀ j,j<8->w.cell? ⟨b,o+j,none⟩=cs[j]?):VerE R w b o x:=by
 obtain ⟨dv,hs,rfl⟩:=h
 exact ⟨dv,hs,hc 0 (by omega),hc 1 (by omega),hc 2 (by omega),hc 3 (by omega),hc 4 (by omega),hc 5 (by omega),hc 6 (by omega),hc 7 (by omega)⟩
theorem TrnX.elem {R:BP} {w:World} {cs:List Value} {x:TrnD} {b o:Nat} (h:TrnX R w cs x) (hc:∀ j,j<8->w.cell? ⟨b,o+j,none⟩=cs[j]?):TrnE R w b o x:=by
 obtain ⟨dv,hs,rfl⟩:=h
 exact ⟨dv,hs,hc 0 (by omega),hc 1 (by omega),hc 2 (by omega),hc 3 (by omega),hc 4 (by omega),hc 5 (by omega),hc 6 (by omega),hc 7 (by omega)⟩
theorem Kept.new {lo hi B:Nat} {w w':World} (h:Below B w w') (hh:hi<=B):Kept (NewB lo hi) w w':=⟨h.size,fun b _ hQ=>h.block b (Nat.lt_of_lt_of_le hQ.2.1 hh)⟩
theorem Box.any {w wx:World} {H:Nat} {v0 v1 v2 v3 v4 v5:Value} (h:Box w H v0 v1 v2 v3 v4 v5) (hb:wx.heap[H]? = w.heap[H]?):Box wx H v0 v1 v2 v3 v4 v5:=by
 have hc:∀ k,wx.cell? ⟨H,k,none⟩=w.cell? ⟨H,k,none⟩:=fun k=>World.cell?_of_block (w:=w) hb
 have hf:∀ k,wx.frozen? ⟨H,k,none⟩=w.frozen? ⟨H,k,none⟩:=fun k=>World.frozen?_of_block (w:=w) hb
 exact ⟨(hc 0).trans h.c0,(hc 1).trans h.c1,(hc 2).trans h.c2,(hc 3).trans h.c3,(hc 4).trans h.c4,(hc 5).trans h.c5,(hf 0).trans h.f0,(hf 1).trans h.f1,(hf 2).trans h.f2,(hf 3).trans h.f3,(hf 4).trans h.f4,(hf 5).trans h.f5⟩
def zeroR:Obj:=.cells #[.string ⟨#[]⟩,.slice none 0 0,.slice none 0 0,.slice none 0 0,.slice none 0 0,.slice none 0 0] 33 (0,0)
structure RfS (m:MdlD) (p:Ph) (w:World) (v1 v2 v3 v4 v5:Value) (wx:World):Prop where
 src:Box wx w.heap.size (.string m.nm) (.slice p.a1 m.vars.length p.c1) (.slice p.a2 m.evs.length p.c2) (.slice p.a3 m.regs.length p.c3) (.slice p.a4 m.vers.length p.c4) (.slice p.a5 m.trns.length p.c5)
 o:Box wx (w.heap.size+2) (.string m.nm) v1 v2 v3 v4 v5
 res:wx.heap[w.heap.size+1]? = some zeroR
 bel:Bl w wx
 z:w.heap.size+3<=wx.heap.size
theorem RfS.step {m:MdlD} {p:Ph} {w:World} {v1 v2 v3 v4 v5 u1 u2 u3 u4 u5:Value} {wo w4:World} {B k:Nat} {u:Value} (h:RfS m p w v1 v2 v3 v4 v5 wo) (g:Below B wo w4) (hB:w.heap.size+3<=B)
   (hb:Box (w4.setCell ⟨w.heap.size+2,k,none⟩ u) (w.heap.size+2) (.string m.nm) u1 u2 u3 u4 u5):RfS m p w u1 u2 u3 u4 u5 (w4.setCell ⟨w.heap.size+2,k,none⟩ u):=by
 have hz:=h.z
 refine ⟨h.src.any ?_,hb,?_,(h.bel.trans (g.mono (by omega))).setCell (by simp only;omega) _,by have:=g.size;simp only [World.size_setCell];omega⟩
 . rw [Below.heap_setCell _ _ _ _ (by simp only;omega),g.block _ (by omega)]
 . rw [Below.heap_setCell _ _ _ _ (by simp only;omega),g.block _ (by omega)];exact h.res
theorem kept_step {lo hi B b k:Nat} {u:Value} {wo w4:World} (g:Below B wo w4) (hB:hi<=B) (hb:b<lo):Kept (NewB lo hi) wo (w4.setCell ⟨b,k,none⟩ u) :=
 (Kept.new g hB).trans (Kept.setCell fun _ hQ=>by have:=hQ.1;simp only at this;omega)
theorem plain_round {α:Type} {X:World->List Value->α->Prop} {T sz s:Nat} {l:List α} {k gg cap2:Nat} {wo w4:World} {b f:Nat} {cs:List Value} {css:List (List Value)} (hcl:css.length=(l.take k).length) (hlt:k<l.length) (hX:∀ i (h1:i<css.length) (h2:i<(l.take k).length),css[i].length=sz/\X wo css[i] (l.take k)[i])
   (hXX:∀ w w' cs x,X w cs x->X w' cs x) (hb:b<s) (ho:w4.ownsRow s T sz (.slice (some ⟨gg,0,none⟩) (k+1) cap2) (k+1) (css.flatten ++ cs)) (hc:cs.length=sz) (hx:X wo cs l[k]) :
   Rows X T sz s (.slice (some ⟨gg,0,none⟩) (k+1) cap2) (l.take (k+1)) (w4.setCell ⟨b,f,none⟩ (.slice (some ⟨gg,0,none⟩) (k+1) cap2)):=by
 have hl:(l.take k).length=k:=List.length_take_of_le (by omega)
 rw [List.take_succ_eq_append_getElem hlt]
 have hr:Rows X T sz s (.slice (some ⟨gg,0,none⟩) (k+1) cap2) (l.take k ++ [l[k]]) w4 :=
   Rows.push css hcl (fun i h1 h2=>⟨(hX i h1 h2).1,hXX _ _ _ _ (hX i h1 h2).2⟩) (by rw [hl];exact ho) hc (hXX _ _ _ _ hx)
 refine hr.kept (fun g hg=>?_) fun cs x _ h=>hXX _ _ _ _ h
 have:s<=g:=(ho.lt g hg).1
 exact Below.heap_setCell _ _ _ _ (by simp only;omega)
def InB (s:Nat) (ob:Option Nat):BP:=fun b _=>s<=b/\some b≠ob
theorem src_cells {Q:BP} {w:World} {da:Option Addr} {dc:Nat} {l:List ByteArray} (h:SlS Q w (.slice da l.length dc) l):(da=none/\l=[])\/∃ ad,da=some ad/\∀ j u,(l.map Value.string)[j]? = some u->w.cell? (ad.add j)=some u:=by
 rcases h.two with ⟨_,rfl⟩ | ⟨_,b,off,rfl,hb,hq,hx⟩
 . cases da with
   | none=>exact .inl ⟨rfl,rfl⟩
   | some ad=>exact .inr ⟨ad,rfl,fun j u h=>by simp at h⟩
 . refine .inr ⟨_,rfl,fun j u hj=>?_⟩
   rw [Addr.add_lit]
   rw [List.getElem?_map] at hj
   cases hl:l[j]? with
   | none=>rw [hl] at hj;simp at hj
   | some s =>
    rw [hl] at hj
    obtain ⟨hlt,rfl⟩:=List.getElem?_eq_some_iff.1 hl
    simp only [Option.map_some,Option.some.injEq] at hj
    rw [<- hj];exact hx j hlt
theorem oneS (l:List ByteArray):∀ u ∈ l.map Value.string,u.oneCell'=true:=fun u hu=>by
 obtain ⟨s,_,rfl⟩:=List.mem_map.1 hu
 rfl
theorem slS_own {w:World} {base T:Nat} {v:Value} {l:List ByteArray} (ho:w.ownsRow base T 1 v l.length (l.map Value.string)):∃ a c,v=.slice a l.length c/\SlS (NewB base w.heap.size) w (.slice a l.length c) l:=by
 cases hl:l with
 | nil =>
  rw [hl] at ho
  obtain ⟨_,⟨rfl,_⟩ | ⟨g,cap,cur,rfl,_⟩⟩:=ho
  . exact ⟨_,_,rfl,.inl ⟨_,_,rfl,rfl⟩⟩
  . exact ⟨_,_,rfl,.inl ⟨_,_,rfl,rfl⟩⟩
 | cons x t =>
  have hp:0<l.length:=by rw [hl];simp
  obtain ⟨g,cap,rfl,hcap,hb,hg,⟨cur,hcur⟩,hc⟩:=owns_cells ho (by omega)
  rw [<- hl]
  refine ⟨_,_,rfl,.inr ⟨g,0,cap,rfl,hcap,hg,⟨hb,hg,cur,T,hcur⟩,fun i hi=>?_⟩⟩
  rw [Nat.zero_add,hc i (by omega),List.getElem?_map,List.getElem?_eq_getElem hi];rfl
def Hung {α:Type} (X:BP->World->List Value->α->Prop):Prop:=∀ (R R':BP) (w w':World) (cs:List Value) (x:α),X R w cs x->Kept R w w'->(∀ b,b<w'.heap.size->R b w'.heap[b]? -> b<w.heap.size->R' b w'.heap[b]?)->X R' w' cs x
theorem SlS.hung {R R':BP} {w w':World} {v:Value} {l:List ByteArray} (h:SlS R w v l) (hk:Kept R w w') (hr:∀ b,b<w'.heap.size->R b w'.heap[b]? -> b<w.heap.size->R' b w'.heap[b]?):SlS R' w' v l:=by
 rcases h with h | ⟨b,off,cap,rfl,h0,h1,h2,h3⟩
 . exact .inl h
 . have e:=hk.2 b h1 h2
   have hlt:b<w'.heap.size:=Nat.lt_of_lt_of_le h1 hk.1
   exact .inr ⟨b,off,cap,rfl,h0,hlt,hr b hlt (by rw [e];exact h2) h1,fun i hi=>(hk.cell h1 h2).trans (h3 i hi)⟩
theorem VerX.hung:Hung VerX:=fun R R' w w' cs x ⟨dv,hs,hc⟩ hk hr=>⟨dv,hs.hung hk hr,hc⟩
theorem TrnX.hung:Hung TrnX:=fun R R' w w' cs x ⟨dv,hs,hc⟩ hk hr=>⟨dv,hs.hung hk hr,hc⟩
theorem hung_round {α:Type} {X:BP->World->List Value->α->Prop} (hX:Hung X) {T s:Nat} {l:List α} {k gg cap2 f b:Nat} {wo W' w6:World} {Z:Obj} {ob:Option Nat} {u:Value} {cs:List Value} {css:List (List Value)} (hlt:k<l.length) (hcl:css.length=(l.take k).length)
   (old:∀ i (h1:i<css.length) (h2:i<(l.take k).length),css[i].length=8/\X (InB s ob) wo css[i] (l.take k)[i]) (hb:b<s) (hs:s<=wo.heap.size) (g:Bl wo W') (hgrow:(W'.alloc Z).grownBy w6 ob) (hob:∀ j,ob=some j->s<=j/\j<wo.heap.size)
   (hat:ob=some gg\/gg=W'.heap.size+1) (hnew:X (NewB wo.heap.size W'.heap.size) W' cs l[k]) (hc:cs.length=8) (ho:w6.ownsRow s T 8 (.slice (some ⟨gg,0,none⟩) (k+1) cap2) (k+1) (css.flatten ++ cs)) :
   Rows (X (InB s (some gg))) T 8 s (.slice (some ⟨gg,0,none⟩) (k+1) cap2) (l.take (k+1)) (w6.setCell ⟨b,f,none⟩ u):=by
 have hl:(l.take k).length=k:=List.length_take_of_le (by omega)
 have g1:=g.size
 have g2:=hgrow.size
 rw [World.size_alloc] at g2
 have hgg:s<=gg:=(ho.lt gg rfl).1
 have hblk:∀ j,s<=j->j<wo.heap.size->some j≠ob->(w6.setCell ⟨b,f,none⟩ u).heap[j]? = wo.heap[j]? := fun j h1 h2 h3=>by
   rw [Below.heap_setCell _ _ _ _ (by simp only;omega),hgrow.block j (by simp;omega) h3,Below.heap_alloc _ _ _ (by omega),g.block j h2]
 have hblk2:∀ j,wo.heap.size<=j->j<W'.heap.size->(w6.setCell ⟨b,f,none⟩ u).heap[j]? = W'.heap[j]? := fun j h1 h2=>by
   rw [Below.heap_setCell _ _ _ _ (by simp only;omega),hgrow.block j (by simp;omega) (fun e=>by have:=(hob j e.symm).2;omega),Below.heap_alloc _ _ _ (by omega)]
 rw [List.take_succ_eq_append_getElem hlt]
 refine Rows.push css hcl (fun i h1 h2=>⟨(old i h1 h2).1,hX _ _ _ _ _ _ (old i h1 h2).2 ⟨by simp;omega,fun j hj hQ=>hblk j hQ.1 hj hQ.2⟩ fun j hj hQ hj2=>⟨hQ.1,fun e=>?_⟩⟩) ?_ hc (hX _ _ _ _ _ _ hnew ⟨by simp;omega,fun j hj hQ=>hblk2 j hQ.1 hQ.2.1⟩ fun j hj hQ hj2=>⟨by have:=hQ.1;omega,fun e=>?_⟩)
 . injection e with e
   rcases hat with h | h
   . exact hQ.2 (by rw [h,e])
   . omega
 . rw [hl]
   obtain ⟨q1,q2⟩:=ho
   refine ⟨q1,?_⟩
   rcases q2 with ⟨h,_⟩ | ⟨g',cap',cur,hv,hg',hcur,hr⟩
   . cases h
   . refine .inr ⟨g',cap',cur,hv,hg',?_,hr⟩
     rw [Below.heap_setCell _ _ _ _ (by simp only;omega)];exact hcur
 . injection e with e
   have h1:=hQ.1
   have h2:=hQ.2.1
   rcases hat with h | h
   . have:=(hob gg h).2;omega
   . omega
theorem alloc3_at (w:World) (a b c:Obj):(((w.alloc a).alloc b).alloc c).heap[w.heap.size+1]? = some b:=by
 rw [Below.heap_alloc _ _ _ (by simp)];exact alloc2_at w a b
theorem box_new3 (w:World) (a b:Obj) {v0 v1 v2 v3 v4 v5:Value} (T:TypeId):Box (((w.alloc a).alloc b).alloc (.cells #[v0,v1,v2,v3,v4,v5] T)) (w.heap.size+2) v0 v1 v2 v3 v4 v5:=by
 have h:(((w.alloc a).alloc b).alloc (.cells #[v0,v1,v2,v3,v4,v5] T)).heap[w.heap.size+2]? = some (.cells #[v0,v1,v2,v3,v4,v5] T):=by
   have:=alloc1_at ((w.alloc a).alloc b) (.cells #[v0,v1,v2,v3,v4,v5] T)
   simpa using this
 generalize ((w.alloc a).alloc b).alloc (.cells #[v0,v1,v2,v3,v4,v5] T)=W at h |-
 constructor <;> first | (unfold World.cell?;simp only [h];rfl) | (unfold World.frozen?;simp [h])
end Go.Proofs
