/- Walks: 'slices.Clone': the same elements, in memory of its own. -/
import Derived.Test.YtiimoclbmaggjaaGreatDoorZLexAB
import Derived.Test.YtiimoclbmaggjaaGreatDoorZMdM
import Derived.Laws.StructEq
import Derived.Shelf.SlicesE.Equal
import Derived.Deep.AppendLies
import Derived.OwnWalk
namespace Go.Proofs
open Go.RowKit Go.Lx Go.Md Go.Shelf
open Go.Proofs.Tryz
set_option linter.unusedVariables false
def NewB (lo hi:Nat):BP:=fun b o=>lo<=b/\b<hi/\∃ cur T,o=some (.cells cur T (0,0))
theorem kZ {w:World} {base T sz n:Nat} {v:Value} {xs:List Value} (h:w.ownsRow base T sz v n xs) (hn:0<n * sz) :
   ∃ g cap,v=.slice (some ⟨g,0,none⟩) n cap/\n<=cap/\base<=g/\g<w.heap.size/\(∃ cur,w.heap[g]? = some (.cells cur T (0,0)))/\∀ j,j<n * sz->w.cell? ⟨g,j,none⟩=xs[j]? := by
 obtain ⟨hl,⟨rfl,rfl⟩ | ⟨g,cap,cur,rfl,hb,hg,hc,_,hs,hx⟩⟩:=h
 . simp at hn
 . refine ⟨g,cap,rfl,hc,hb,(Array.getElem?_eq_some_iff.1 hg).1,⟨cur,hg⟩,fun j hj=>?_⟩
   unfold World.cell?;simp only [hg];rw [<- hx,List.getElem?_take_of_lt hj]
   simp
def TxtE (w:World) (b o:Nat) (x:ByteArray):Prop:=w.cell? ⟨b,o,none⟩=some (.string x)
def NumE (w:World) (b o:Nat) (x:Int):Prop:=w.cell? ⟨b,o,none⟩=some (.int .i64 x)
theorem SlS.sl {Q:BP} {w:World} {v:Value} {l:List ByteArray}:SlS Q w v l↔Sl Q 1 TxtE w v l:=by
 unfold SlS Sl TxtE;simp only [Nat.mul_one]
theorem SlI.sl {Q:BP} {w:World} {v:Value} {l:List Int}:SlI Q w v l↔Sl Q 1 NumE w v l:=by
 unfold SlI Sl NumE;simp only [Nat.mul_one]
theorem info_Reg:(prog.info? 37).map (fun i=>(i.zero,i.size,i.bytes))=some (some (.agg #[.string ⟨#[]⟩,.int .i64 0]),2,24):=by kernel_rfl
theorem info_Ver:(prog.info? 35).map (fun i=>(i.zero,i.size,i.bytes))=some (some (.agg #[.string ⟨#[]⟩,.int .u8 0,.int .i64 0,.int .i64 0,.string ⟨#[]⟩,.string ⟨#[]⟩,.slice none 0 0,.string ⟨#[]⟩]),8,112):=by kernel_rfl
theorem info_Txt:(prog.info? 9).map (fun i=>(i.zero,i.size,i.bytes))=some (some (.string ⟨#[]⟩),1,16):=by kernel_rfl
theorem zS:(prog.info? 3).map (fun i=>(i.zero,i.size,i.bytes))=some (some (.int .i64 0),1,8):=by kernel_rfl
theorem jA (ad:Addr) (n c:Nat) (news:List Value) (w:World) (hl:news.length=n * 1) (hn:n<=100000) (hc:∀ j u,news[j]? = some u->w.cell? (ad.add j)=some u) (h1:∀ u ∈ news,u.oneCell'=true) :
   Calls prog 73 #[.slice (some ad) n c] w fun e w'=>∃ v',e=.returned v'/\w'.ownsRow w.heap.size 3 1 v' n news/\Bl w w':=by
 obtain ⟨i0,hi,hz0,hz1,hz2⟩:=info_parts zS;have A:Aside (∀ j u,news[j]? = some u->w.cell? (ad.add j)=some u):=hc;clear hc;have q22:∀ (w:World) (a:Option Addr) (n c n' c':Nat),(binOp .eql 31 (.slice a n c) (.slice none n' c')).run prog w=.ok (.bool a.isNone) w:=fun w a n c n' c'=>Lib.run_eql_slice_nil w _ _ a n c n' c' underlying31;go_enter func73,ntmps73;go_wp2_with (at_builtin;refine wpList_append_own _ rfl _ _ 31 rfl w.heap.size 3 i0 _ 1 8 underlying31 hi hz0 hz1 hz2 rfl (by decide) _ _ _ rfl (World.ownsRow_made w #[] 0 (Nat.le_refl _) (Nat.zero_le _) (by simp)) ad n c news rfl ?qc1 ?qc2 ?qc3 ?qc4 ?qc5 ?qc6 ?_)
 case qc1=>exact hl
 case qc2 =>
  intro j u hj;exact Lib.cell?_alloc_some _ (A.out j u hj)
 case qc3=>exact h1
 case qc4=>unfold maxLen;omega
 case qc5=>omega
 case qc6=>simp
 intro v' w1 hown hgrow hnil;go_wp2_with fail;go_ret;refine ⟨v',rfl,by simpa using hown,?_⟩;exact ((Below.refl _ w).alloc (Nat.le_refl _) _).grown hgrow (by simp) (by intro k hk;simp [Value.ownBlock] at hk;omega)
theorem jP (n c:Nat) (w:World):Calls prog 73 #[.slice none n c] w fun e w'=>e=.returned (.slice none 0 0)/\w=w':=by
 have q22:∀ (w:World) (a:Option Addr) (n c n' c':Nat),(binOp .eql 31 (.slice a n c) (.slice none n' c')).run prog w=.ok (.bool a.isNone) w:=fun w a n c n' c'=>Lib.run_eql_slice_nil w _ _ a n c n' c' underlying31;go_enter func73,ntmps73;go_wp2_with fail;go_ret;exact ⟨rfl,rfl⟩
end Go.Proofs

namespace Go.Proofs
open Go.RowKit Go.Lx Go.Md
open Go.Proofs.Tryz
theorem jo (w:World) (a b:Obj):((w.alloc a).alloc b).heap[w.heap.size+1]? = some b:=by
 unfold World.alloc;simp only;rw [show w.heap.size+1=(w.heap.push a).size by simp,Array.getElem?_push_size]
structure Sml (m:MdlD):Prop where
 vars:m.vars.length<=100000
 za:m.za.length<=100000
 zb:m.zb.length<=100000
 zc:m.zc.length<=100000
 ze:m.ze.length<=100000
 df:∀ x ∈ m.zc,x.df.length<=100000
 tr:∀ x ∈ m.ze,x.tr.length<=100000
theorem Kept.refl (Q:BP) (w:World):Kept Q w w:=⟨Nat.le_refl _,fun _ _ _=>rfl⟩
theorem Kept.trans {Q:BP} {a b c:World} (h:Kept Q a b) (k:Kept Q b c):Kept Q a c :=
 ⟨Nat.le_trans h.1 k.1,fun x hx hQ=>by
   have e:=h.2 x hx hQ;rw [k.2 x (Nat.lt_of_lt_of_le hx h.1) (by rw [e];exact hQ),e]⟩
structure Box (wx:World) (H:Nat) (v0 v1 v2 v3 v4 v5:Value):Prop where
 c0:wx.cell? ⟨H,0,none⟩=some v0
 c1:wx.cell? ⟨H,1,none⟩=some v1
 c2:wx.cell? ⟨H,2,none⟩=some v2
 c3:wx.cell? ⟨H,3,none⟩=some v3
 c4:wx.cell? ⟨H,4,none⟩=some v4
 c5:wx.cell? ⟨H,5,none⟩=some v5
 f0:wx.frozen? ⟨H,0,none⟩=false
 f1:wx.frozen? ⟨H,1,none⟩=false
 f2:wx.frozen? ⟨H,2,none⟩=false
 f3:wx.frozen? ⟨H,3,none⟩=false
 f4:wx.frozen? ⟨H,4,none⟩=false
 f5:wx.frozen? ⟨H,5,none⟩=false
theorem Box.zf {B:Nat} {w wx:World} {H:Nat} {v0 v1 v2 v3 v4 v5:Value} (h:Box w H v0 v1 v2 v3 v4 v5) (hb:Below B w wx) (hB:H<B):Box wx H v0 v1 v2 v3 v4 v5 :=
 ⟨(hb.cell (p:=⟨H,0,none⟩) hB).trans h.c0,(hb.cell (p:=⟨H,1,none⟩) hB).trans h.c1,(hb.cell (p:=⟨H,2,none⟩) hB).trans h.c2,(hb.cell (p:=⟨H,3,none⟩) hB).trans h.c3,(hb.cell (p:=⟨H,4,none⟩) hB).trans h.c4,(hb.cell (p:=⟨H,5,none⟩) hB).trans h.c5,
  (hb.frozen (p:=⟨H,0,none⟩) hB).trans h.f0,(hb.frozen (p:=⟨H,1,none⟩) hB).trans h.f1,(hb.frozen (p:=⟨H,2,none⟩) hB).trans h.f2,(hb.frozen (p:=⟨H,3,none⟩) hB).trans h.f3,(hb.frozen (p:=⟨H,4,none⟩) hB).trans h.f4,(hb.frozen (p:=⟨H,5,none⟩) hB).trans h.f5⟩
theorem Box.far {w:World} {H:Nat} {v0 v1 v2 v3 v4 v5:Value} (h:Box w H v0 v1 v2 v3 v4 v5) {a:Addr} (u:Value) (ha:a.block≠H):Box (w.setCell a u) H v0 v1 v2 v3 v4 v5:=by
 have hc:∀ k x,w.cell? ⟨H,k,none⟩=some x->(w.setCell a u).cell? ⟨H,k,none⟩=some x:=fun k x hx=>by
   rw [World.cell?_setCell_other w a _ u (by intro e;exact ha (by rw [e]))];exact hx
 exact ⟨hc _ _ h.c0,hc _ _ h.c1,hc _ _ h.c2,hc _ _ h.c3,hc _ _ h.c4,hc _ _ h.c5,by simpa using h.f0,by simpa using h.f1,by simpa using h.f2,by simpa using h.f3,by simpa using h.f4,by simpa using h.f5⟩
theorem zt {w:World} {H k j:Nat} {u x:Value} (h:w.cell? ⟨H,k,none⟩=some x) (hj:j≠k):(w.setCell ⟨H,j,none⟩ u).cell? ⟨H,k,none⟩=some x:=by
 rw [World.cell?_setCell_other w _ _ u (by intro e;injection e with _ e2;exact hj e2)];exact h
theorem Box.set1 {w:World} {H:Nat} {v0 v1 v2 v3 v4 v5:Value} (h:Box w H v0 v1 v2 v3 v4 v5) (u:Value):Box (w.setCell ⟨H,1,none⟩ u) H v0 u v2 v3 v4 v5 :=
 ⟨zt h.c0 (by decide),World.cell?_setCell_same _ _ _ h.c1,zt h.c2 (by decide),zt h.c3 (by decide),zt h.c4 (by decide),zt h.c5 (by decide),by simpa using h.f0,by simpa using h.f1,by simpa using h.f2,by simpa using h.f3,by simpa using h.f4,by simpa using h.f5⟩
theorem Box.set2 {w:World} {H:Nat} {v0 v1 v2 v3 v4 v5:Value} (h:Box w H v0 v1 v2 v3 v4 v5) (u:Value):Box (w.setCell ⟨H,2,none⟩ u) H v0 v1 u v3 v4 v5 :=
 ⟨zt h.c0 (by decide),zt h.c1 (by decide),World.cell?_setCell_same _ _ _ h.c2,zt h.c3 (by decide),zt h.c4 (by decide),zt h.c5 (by decide),by simpa using h.f0,by simpa using h.f1,by simpa using h.f2,by simpa using h.f3,by simpa using h.f4,by simpa using h.f5⟩
theorem Box.set3 {w:World} {H:Nat} {v0 v1 v2 v3 v4 v5:Value} (h:Box w H v0 v1 v2 v3 v4 v5) (u:Value):Box (w.setCell ⟨H,3,none⟩ u) H v0 v1 v2 u v4 v5 :=
 ⟨zt h.c0 (by decide),zt h.c1 (by decide),zt h.c2 (by decide),World.cell?_setCell_same _ _ _ h.c3,zt h.c4 (by decide),zt h.c5 (by decide),by simpa using h.f0,by simpa using h.f1,by simpa using h.f2,by simpa using h.f3,by simpa using h.f4,by simpa using h.f5⟩
theorem Box.set4 {w:World} {H:Nat} {v0 v1 v2 v3 v4 v5:Value} (h:Box w H v0 v1 v2 v3 v4 v5) (u:Value):Box (w.setCell ⟨H,4,none⟩ u) H v0 v1 v2 v3 u v5 :=
 ⟨zt h.c0 (by decide),zt h.c1 (by decide),zt h.c2 (by decide),zt h.c3 (by decide),World.cell?_setCell_same _ _ _ h.c4,zt h.c5 (by decide),by simpa using h.f0,by simpa using h.f1,by simpa using h.f2,by simpa using h.f3,by simpa using h.f4,by simpa using h.f5⟩
theorem Box.set5 {w:World} {H:Nat} {v0 v1 v2 v3 v4 v5:Value} (h:Box w H v0 v1 v2 v3 v4 v5) (u:Value):Box (w.setCell ⟨H,5,none⟩ u) H v0 v1 v2 v3 v4 u :=
 ⟨zt h.c0 (by decide),zt h.c1 (by decide),zt h.c2 (by decide),zt h.c3 (by decide),zt h.c4 (by decide),World.cell?_setCell_same _ _ _ h.c5,by simpa using h.f0,by simpa using h.f1,by simpa using h.f2,by simpa using h.f3,by simpa using h.f4,by simpa using h.f5⟩
def OldB (H:Nat):BP:=fun b _=>b<H
theorem NewB.kept_set {lo hi:Nat} {w:World} {H:Nat} {k:Nat} {u:Value} (h:H<lo):Kept (NewB lo hi) w (w.setCell ⟨H,k,none⟩ u):=by
 refine ⟨by simp,fun b _ hQ=>Below.heap_setCell w ⟨H,k,none⟩ u b ?_⟩;intro e;have h1:lo<=b:=hQ.1;have h2:b=H:=e;omega
theorem NewB.wide {lo hi lo' hi':Nat} {b:Nat} {o:Option Obj} (h:NewB lo hi b o) (h1:lo'<=lo) (h2:hi<=hi'):NewB lo' hi' b o:=⟨Nat.le_trans h1 h.1,Nat.lt_of_lt_of_le h.2.1 h2,h.2.2⟩
theorem NewB.free {lo hi:Nat} {w:World} {b k:Nat} (h:NewB lo hi b w.heap[b]?):w.frozen? ⟨b,k,none⟩=false:=by
 obtain ⟨_,_,cur,T,h⟩:=h;unfold World.frozen?
 simp [h]
theorem NewB.set {lo hi:Nat} {w:World} {b:Nat} (h:NewB lo hi b w.heap[b]?) (a:Addr) (u:Value):NewB lo hi b (w.setCell a u).heap[b]? := by
 obtain ⟨h1,h2,cur,T,h⟩:=h;refine ⟨h1,h2,?_⟩
 by_cases hab:b=a.block
 . subst hab
   unfold World.setCell;simp only [Array.getElem?_modify,if_true,h,Option.map_some]
   cases a.spot with
   | none=>exact ⟨_,_,rfl⟩
   | some s=>exact ⟨_,_,rfl⟩
 . rw [Below.heap_setCell w a u b hab];exact ⟨cur,T,h⟩
structure Inn {α:Type} (d:Nat) (tx:α->List ByteArray) (E:BP->World->Nat->Nat->α->Prop):Prop where
 lt:d<8
 get:∀ (R:BP) (w:World) (b o:Nat) (x:α),E R w b o x->∃ dv,SlS R w dv (tx x)/\w.cell? ⟨b,o+d,none⟩=some dv
 put:∀ (R R':BP) (w w':World) (b o b' o':Nat) (x:α) (dv:Value),E R w b o x->(∀ j,j<8->j≠d->w'.cell? ⟨b',o'+j,none⟩=w.cell? ⟨b,o+j,none⟩)->w'.cell? ⟨b',o'+d,none⟩=some dv->SlS R' w' dv (tx x)->E R' w' b' o' x
theorem Inn.keep {α:Type} {d:Nat} {tx:α->List ByteArray} {E:BP->World->Nat->Nat->α->Prop} (hE:Inn d tx E) {R R':BP} {w w':World} {b o:Nat} {x:α} (h:E R w b o x) (hc:∀ j,j<8->w'.cell? ⟨b,o+j,none⟩=w.cell? ⟨b,o+j,none⟩) (hk:Kept R w w')
   (hr:∀ b,b<w'.heap.size->R b w'.heap[b]? -> R' b w'.heap[b]?):E R' w' b o x:=by
 obtain ⟨dv,hs,hd⟩:=hE.get _ _ _ _ _ h;exact hE.put _ _ _ _ _ _ _ _ _ dv h (fun j hj _=>hc j hj) ((hc d hE.lt).trans hd) ((hs.kept hk).weaken hr)
structure Half {α:Type} (E:BP->World->Nat->Nat->α->Prop) (H q b off k:Nat) (l:List α) (w:World):Prop where
 done:∀ i (h:i<l.length),i<k->E (NewB q w.heap.size) w b (off+i * 8) l[i]
 wait:∀ i (h:i<l.length),k<=i->E (OldB H) w b (off+i * 8) l[i]
theorem Half.step {α:Type} {d:Nat} {tx:α->List ByteArray} {E:BP->World->Nat->Nat->α->Prop} (hE:Inn d tx E) {H q b off k:Nat} {l:List α} {w w1:World} {dv:Value} (h:Half E H q b off k l w) (hk:k<l.length) (hHb:H<=b) (hbq:b<q) (hqw:q<=w.heap.size)
   (g:Bl w w1) (hs:SlS (NewB w.heap.size w1.heap.size) w1 dv (tx l[k])):Half E H q b off (k+1) l (w1.setCell ⟨b,off+k * 8+d,none⟩ dv):=by
 have hbw:b<w.heap.size:=by omega
 have hd:=hE.lt
 have hcell:∀ o,o≠off+k * 8+d->(w1.setCell ⟨b,off+k * 8+d,none⟩ dv).cell? ⟨b,o,none⟩=w.cell? ⟨b,o,none⟩:=fun o ho=>by
   rw [World.cell?_setCell_other w1 _ _ dv (by intro e;injection e with _ e2;exact ho e2.symm)];exact g.cell (p:=⟨b,o,none⟩) hbw
 have hkept:∀ Q:BP,(∀ o,¬ Q b o)->Kept Q w (w1.setCell ⟨b,off+k * 8+d,none⟩ dv):=fun Q hQ=>(Kept.of_below g).trans (Kept.setCell hQ);have hne:∀ i j,i≠k->j<8->off+i * 8+j≠off+k * 8+d:=fun i j hi hj=>by omega
 constructor
 . intro i hi hik
   by_cases hik':i=k
   . subst hik'
     have h0:=h.wait i hi (Nat.le_refl _);obtain ⟨dv0,hs0,hd0⟩:=hE.get _ _ _ _ _ h0;refine hE.put _ _ _ _ _ _ _ _ _ dv h0 (fun j hj hjd=>hcell _ (by omega)) (World.cell?_setCell_same _ _ _ ((g.cell (p:=⟨b,off+i * 8+d,none⟩) hbw).trans hd0)) ?_;refine (hs.kept (Kept.setCell fun o hQ=>?_)).weaken fun b' _ hb'=>?_
     . have h1:=hQ.1;simp only at h1;omega
     . exact hb'.wide hqw (by simp)
   . refine hE.keep (h.done i hi (by omega)) (fun j hj=>hcell _ (hne i j hik' hj)) (hkept _ fun o hQ=>?_) fun b' _ hb'=>hb'.wide (Nat.le_refl _) (by have:=g.size;simpa using this)
     have h1:=hQ.1;omega
 . intro i hi hik
   refine hE.keep (h.wait i hi (by omega)) (fun j hj=>hcell _ (hne i j (by omega) hj)) (hkept _ fun o hQ=>?_) fun b' _ hb'=>hb'
   have:b<H:=hQ;omega
def zeroM:Obj:=.cells #[.string ⟨#[]⟩,.slice none 0 0,.slice none 0 0,.slice none 0 0,.slice none 0 0,.slice none 0 0] 28 (0,0)
structure CSt (m:MdlD) (w:World) (q:Nat->Nat) (r:Ph) (V T:World->Prop) (wx:World):Prop where
 box:Box wx w.heap.size (.string m.nm) (.slice r.a1 m.vars.length r.c1) (.slice r.a2 m.za.length r.c2) (.slice r.a3 m.zb.length r.c3) (.slice r.a4 m.zc.length r.c4) (.slice r.a5 m.ze.length r.c5)
 res:wx.heap[w.heap.size+1]? = some zeroM
 bel:Bl w wx
 q0:w.heap.size+2<=q 0
 qm:∀ j,q j<=q (j+1)
 qz:q 5<=wx.heap.size
 vars:Sl (NewB (q 0) (q 1)) 2 VarE wx (.slice r.a1 m.vars.length r.c1) m.vars
 za:Sl (NewB (q 1) (q 2)) 1 TxtE wx (.slice r.a2 m.za.length r.c2) m.za
 zb:Sl (NewB (q 2) (q 3)) 2 RegE wx (.slice r.a3 m.zb.length r.c3) m.zb
 zc:V wx
 ze:T wx
theorem TxtE.mono {Q R:BP}:Mono Q R TxtE:=fun _ _ _ _ _ h hb hq hw _=>(hw.cell hb hq).trans h
theorem CSt.q3 {m:MdlD} {w:World} {q:Nat->Nat} {r:Ph} {V T:World->Prop} {wx:World} (h:CSt m w q r V T wx):w.heap.size+2<=q 3:=by
 have:=h.q0;have:q 0<=q 1:=h.qm 0;have:q 1<=q 2:=h.qm 1;have:q 2<=q 3:=h.qm 2;omega
theorem CSt.step {m:MdlD} {w:World} {q:Nat->Nat} {r:Ph} {V T V' T':World->Prop} {wx w1:World} (h:CSt m w q r V T wx) (g:Bl wx w1) {b o:Nat} (hb:q 3<=b) (u:Value) (hv:V' (w1.setCell ⟨b,o,none⟩ u)) (ht:T' (w1.setCell ⟨b,o,none⟩ u)) :
   CSt m w q r V' T' (w1.setCell ⟨b,o,none⟩ u):=by
 have h3:=h.q3;have hz:=h.qz;have h01:q 0<=q 1:=h.qm 0;have h12:q 1<=q 2:=h.qm 1;have h23:q 2<=q 3:=h.qm 2;have h34:q 3<=q 4:=h.qm 3;have h45:q 4<=q 5:=h.qm 4;have hk:∀ lo hi,hi<=q 3->Kept (NewB lo hi) wx (w1.setCell ⟨b,o,none⟩ u):=fun lo hi hh=>(Kept.of_below g).trans (Kept.setCell fun _ hQ=>by have:=hQ.2.1;simp only at this;omega)
 refine ⟨(h.box.zf g (by omega)).far u (by simp only;omega),?_,?_,h.q0,h.qm,by have:=g.size;simp only [World.size_setCell];omega,h.vars.kept (VarE.mono (R:=NewB (q 0) (q 1))) (hk _ _ (by omega)) (hk _ _ (by omega)),h.za.kept (TxtE.mono (R:=NewB (q 1) (q 2))) (hk _ _ (by omega)) (hk _ _ (by omega)),h.zb.kept (RegE.mono (R:=NewB (q 2) (q 3))) (hk _ _ (by omega)) (hk _ _ (by omega)),hv,ht⟩
 . rw [Below.heap_setCell _ _ _ _ (by simp only;omega),g.block _ (by omega)];exact h.res
 . exact (h.bel.trans (g.mono (by omega))).setCell (by simp only;omega) _
def Part {α:Type} (E:BP->World->Nat->Nat->α->Prop) (H q3 q4 q5 k:Nat) (a:Option Addr) (c:Nat) (l:List α) (w:World):Prop :=
 l=[]\/∃ b off,a=some ⟨b,off,none⟩/\l.length<=c/\NewB q3 q4 b w.heap[b]? /\ Half E H q5 b off k l w
theorem Part.start {α:Type} {E:BP->World->Nat->Nat->α->Prop} {H q3 q4 q5:Nat} {a:Option Addr} {c:Nat} {l:List α} {w:World} (h:Sl (NewB q3 q4) 8 (E (OldB H)) w (.slice a l.length c) l):Part E H q3 q4 q5 0 a c l w:=by
 rcases h.two with ⟨_,h⟩ | ⟨_,b,off,ha,hb,hq,hx⟩
 . exact .inl h
 . exact .inr ⟨b,off,ha,by
     rcases Nat.eq_zero_or_pos l.length with h0 | h0
     . omega
     . exact h.cap h0,hq,fun i _ hi=>by omega,fun i hi _=>hx i hi⟩
theorem Part.done {α:Type} {E:BP->World->Nat->Nat->α->Prop} {H q3 q4 q5:Nat} {a:Option Addr} {c:Nat} {l:List α} {w:World} (h:Part E H q3 q4 q5 l.length a c l w) (hz:q4<=w.heap.size):Sl (NewB q3 q4) 8 (E (NewB q5 w.heap.size)) w (.slice a l.length c) l:=by
 rcases h with h | ⟨b,off,rfl,hcap,hq,hh⟩
 . exact .inl ⟨a,c,by rw [h];rfl,h⟩
 . exact .inr ⟨b,off,c,rfl,hcap,Nat.lt_of_lt_of_le hq.2.1 hz,hq,fun i hi=>hh.done i hi hi⟩
def qs (a0 a1 a2 a3 a4 a5 a6 a7:Nat):Nat->Nat
 | 0=>a0 | 1=>a1 | 2=>a2 | 3=>a3 | 4=>a4 | 5=>a5 | 6=>a6 | _=>a7
theorem Box.sl {w:World} {H:Nat} {v0 v1 v2 v3 v4 v5:Value} (h:Box w H v0 v1 v2 v3 v4 v5):H<w.heap.size:=World.block_lt_of_cell? w _ h.c0
theorem OldB.kept_set {w:World} {H k:Nat} {u:Value}:Kept (OldB H) w (w.setCell ⟨H,k,none⟩ u):=Kept.setCell fun _ h=>Nat.lt_irrefl _ h
theorem Part.get {α:Type} {E:BP->World->Nat->Nat->α->Prop} {H q3 q4 q5 k:Nat} {a:Option Addr} {c:Nat} {l:List α} {w:World} (h:Part E H q3 q4 q5 k a c l w) (hk:k<l.length):∃ b off,a=some ⟨b,off,none⟩/\NewB q3 q4 b w.heap[b]? /\ Half E H q5 b off k l w:=by
 rcases h with h | ⟨b,off,ha,_,hq,hh⟩
 . rw [h] at hk;simp at hk
 . exact ⟨b,off,ha,hq,hh⟩
theorem Part.cap {α:Type} {E:BP->World->Nat->Nat->α->Prop} {H q3 q4 q5 k:Nat} {a:Option Addr} {c:Nat} {l:List α} {w:World} (h:Part E H q3 q4 q5 k a c l w) (hk:k<l.length):l.length<=c:=by
 rcases h with h | ⟨b,off,ha,hc,hq,hh⟩
 . rw [h] at hk;simp at hk
 . exact hc
theorem Sl.take {α:Type} {Q:BP} {sz:Nat} {E:World->Nat->Nat->α->Prop} {w:World} {a:Option Addr} {c:Nat} {l:List α} (h:Sl Q sz E w (.slice a l.length c) l) {k:Nat} (hk:k<=l.length):Sl Q sz E w (.slice a (l.take k).length c) (l.take k):=by
 rcases h.two with ⟨_,rfl⟩ | ⟨_,b,off,rfl,hb,hq,hx⟩
 . exact .inl ⟨a,c,by simp,by simp⟩
 . exact .inr ⟨b,off,c,rfl,by
     rcases Nat.eq_zero_or_pos l.length with h0 | h0
     . simp;omega
     . have:=h.cap h0;simp;omega,hb,hq,fun i hi=>by
     have:i<l.length:=by simp at hi;omega
     have e:(l.take k)[i]=l[i]:=by simp
     rw [e];exact hx i this⟩
theorem SlS.take {Q:BP} {w:World} {a:Option Addr} {c:Nat} {l:List ByteArray} (h:SlS Q w (.slice a l.length c) l) {k:Nat} (hk:k<=l.length):SlS Q w (.slice a (l.take k).length c) (l.take k):=SlS.sl.2 ((SlS.sl.1 h).take hk)
theorem box6 (w:World) (m:MdlD) (p:Ph):Box (w.alloc (.cells #[.string m.nm,.slice p.a1 m.vars.length p.c1,.slice p.a2 m.za.length p.c2,.slice p.a3 m.zb.length p.c3,.slice p.a4 m.zc.length p.c4,.slice p.a5 m.ze.length p.c5] 28)) w.heap.size (.string m.nm) (.slice p.a1 m.vars.length p.c1) (.slice p.a2 m.za.length p.c2) (.slice p.a3 m.zb.length p.c3) (.slice p.a4 m.zc.length p.c4) (.slice p.a5 m.ze.length p.c5):=by
 constructor <;> simp
theorem zq (w:World) (o1 o2:Obj):Bl w ((w.alloc o1).alloc o2):=((Below.refl _ w).alloc (Nat.le_refl _) _).alloc (by simp) _
theorem zg (w:World) (o1:Obj):Bl w (w.alloc o1):=(Below.refl _ w).alloc (Nat.le_refl _) _
theorem bx1 {w w3:World} {o1:Obj} {k:Nat} {u:Value} (g:Below (w.alloc o1).heap.size (w.alloc o1) w3) (h:(w.alloc o1).cell? ⟨w.heap.size,k,none⟩=some u):w3.cell? ⟨w.heap.size,k,none⟩=some u :=
 (g.cell (p:=⟨w.heap.size,k,none⟩) (by simp)).trans h
theorem zl {w w3:World} {o1:Obj} (g:Below (w.alloc o1).heap.size (w.alloc o1) w3):Bl w w3 :=
 ((Below.refl _ w).alloc (Nat.le_refl _) _).trans (g.mono (by simp))
end Go.Proofs
