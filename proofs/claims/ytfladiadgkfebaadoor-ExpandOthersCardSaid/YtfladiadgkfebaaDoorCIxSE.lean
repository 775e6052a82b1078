/- 'index.New' on its way: the places, the rows, the maps. No walk yet. -/
import Derived.Test.YtfladiadgkfebaaDoorCIxA
import Derived.Maps.OwnOps
import Derived.Maps.OwnSet
import Derived.Maps.Views
import Derived.Deep.RegionHeld
import Derived.Shelf.Abstract
import Derived.Shelf.RegionOpen
import Derived.OwnWalkIn
import Derived.TacticsInMore
import Derived.LoopNIn
import Derived.LoopIn
import Derived.Sort.LoopGhostIn
namespace Go.Proofs
open Go.RowKit Go.Lx Go.Md Go.Maps
set_option linter.unusedVariables false

inductive RK where
 | kid | own | pnt | out | into
 deriving DecidableEq
abbrev RI:=RK × Int
def upd {β:Type} (f:RI→β) (i:RI) (x:β):RI→β:=fun j=>if j=i then x else f j
theorem upd_same {β:Type} (f:RI→β) (i:RI) (x:β):upd f i x i=x:=by simp [upd]
theorem upd_ne {β:Type} {f:RI→β} {i j:RI} {x:β} (h:j≠i):upd f i x j=f j:=by simp [upd,h]
abbrev nums (l:List Int):List Value:=l.map (Value.int .i64)
structure Rws (N:Nat) (F:RI→List Int) (V:RI→Value) (w:World):Prop where
 own:∀ i,w.ownsRow N 3 1 (V i) (F i).length (nums (F i))
 ap:∀ i j,i≠j→(V i).ownBlock=none∨(V i).ownBlock≠(V j).ownBlock
theorem Rws.keep {N:Nat} {F:RI→List Int} {V:RI→Value} {w w':World} (h:Rws N F V w) (hk:∀ i g,(V i).ownBlock=some g→w'.heap[g]? = w.heap[g]?):Rws N F V w':=by
 refine ⟨fun i=>?_,h.ap⟩
 obtain ⟨h1,h2⟩:=h.own i
 refine ⟨h1,?_⟩
 rcases h2 with h2 | ⟨g,cap,cur,e,hb,hg,r⟩
 · exact .inl h2
 · exact .inr ⟨g,cap,cur,e,hb,by rw [hk i g (by rw [e];rfl)];exact hg,r⟩
theorem Rws.lt {N:Nat} {F:RI→List Int} {V:RI→Value} {w:World} (h:Rws N F V w) {i:RI} {g:Nat} (hg:(V i).ownBlock=some g):N≤g∧g<w.heap.size:=by
 have:=(h.own i).lt g hg
 exact ⟨this.1,this.2⟩
theorem Rws.start (N:Nat) (w:World):Rws N (fun _=>[]) (fun _=>.slice none 0 0) w:=⟨fun _=>⟨by simp,.inl ⟨rfl,rfl⟩⟩,fun _ _ _=>.inl rfl⟩
theorem Rws.push {N:Nat} {F:RI→List Int} {V:RI→Value} {w w1:World} {o:Obj} {i:RI} {x:Int} {gg cap:Nat} (h:Rws N F V w) (hg:(w.drew.alloc o).grownBy w1 (V i).ownBlock) (hat:(V i).ownBlock=some gg∨gg=w.heap.size+1)
   (ho:w1.ownsRow N 3 1 (.slice (some ⟨gg,0,none⟩) ((F i).length+1) cap) ((F i).length+1) (nums (F i) ++ [.int .i64 x])):Rws N (upd F i (F i ++ [x])) (upd V i (.slice (some ⟨gg,0,none⟩) ((F i).length+1) cap)) w1:=by
 have hsz:(w.drew.alloc o).heap.size=w.heap.size+1:=by simp
 have hgk:∀ j g,j≠i→(V j).ownBlock=some g→w1.heap[g]? = w.heap[g]? := fun j g hj hb=>by
   have hl:=(h.lt hb).2
   rw [hg.block g (by omega) (fun e=>?_)]
   · exact Below.heap_alloc w.drew o g (by simpa using hl)
   · rcases h.ap j i hj with h1 | h1
     · rw [h1] at hb;cases hb
     · exact h1 (by rw [hb];exact e)
 refine ⟨fun j=>?_,fun j k hjk=>?_⟩
 · by_cases hj:j=i
   · subst hj
     rw [upd_same,upd_same]
     simpa [nums] using ho
   · rw [upd_ne hj,upd_ne hj]
     obtain ⟨h1,h2⟩:=h.own j
     refine ⟨h1,?_⟩
     rcases h2 with h2 | ⟨g,cp,cur,e,hb,hgc,r⟩
     · exact .inl h2
     · exact .inr ⟨g,cp,cur,e,hb,by rw [hgk j g hj (by rw [e];rfl)];exact hgc,r⟩
 · have key:∀ a,a≠i→(V a).ownBlock=none∨(V a).ownBlock≠some gg:=fun a ha=>by
     cases hb:(V a).ownBlock with
     | none=>exact .inl rfl
     | some g =>
      refine .inr fun e=>?_
      injection e with e
      subst e
      rcases hat with h1 | h1
      · rcases h.ap a i ha with h2 | h2
        · rw [h2] at hb;cases hb
        · exact h2 (by rw [hb,h1])
      · have:=(h.lt hb).2;omega
   by_cases hj:j=i
   · subst hj
     have hk:k≠j:=fun e=>hjk e.symm
     rw [upd_same,upd_ne hk]
     rcases key k hk with h1 | h1
     · exact .inr (by rw [h1];simp [Value.ownBlock])
     · exact .inr (by simp only [Value.ownBlock];exact fun e=>h1 e.symm)
   · rw [upd_ne hj]
     by_cases hk:k=i
     · subst hk
       rw [upd_same]
       rcases key j hj with h1 | h1
       · exact .inl h1
       · exact .inr h1
     · rw [upd_ne hk];exact h.ap j k hjk
def holdR (v:Value):Option (DataW Value × List MemPlace):=some (.held v,[])
def MapAt (b cnt:Nat) (f:Int→Value) (w:World):Prop:=∃ D,w.ownsMap Tryd.prog 3 holdR b cnt D∧∀ s:Int,D.atKey (.int .i64 s) (.held (.slice none 0 0))=.held (f s)
theorem MapAt.made (w:World) {b:Nat} (h:w.heap[b]? = some (.map #[] 0)):MapAt b 0 (fun _=>.slice none 0 0) w :=
 ⟨.map [],⟨#[],0,h,⟨by simp,MapKept.stamped_empty 0,by simp⟩,Nat.le_refl _,rfl⟩,fun _=>rfl⟩
theorem MapAt.keep {b cnt:Nat} {f:Int→Value} {w w':World} (h:MapAt b cnt f w) (hk:w'.heap[b]? = w.heap[b]?):MapAt b cnt f w':=by
 obtain ⟨D,⟨es,ck,hb,r⟩,hD⟩:=h
 exact ⟨D,⟨es,ck,hk.trans hb,r⟩,hD⟩
structure PlD where
 par:Int
 reg:Int
 dep:Int
 st:Bool
 pt:Bool
structure PlAt (w:World) (PB i:Nat) (x:PlD) (vo vi:Value):Prop where
 c0:w.cell? ⟨PB,i * 7,none⟩=some (.int .i64 x.par)
 c1:w.cell? ⟨PB,i * 7+1,none⟩=some (.int .i64 x.reg)
 c2:w.cell? ⟨PB,i * 7+2,none⟩=some (.int .i64 x.dep)
 c3:w.cell? ⟨PB,i * 7+3,none⟩=some (.bool x.st)
 c4:w.cell? ⟨PB,i * 7+4,none⟩=some (.bool x.pt)
 c5:w.cell? ⟨PB,i * 7+5,none⟩=some vo
 c6:w.cell? ⟨PB,i * 7+6,none⟩=some vi
theorem PlAt.keep {w w':World} {PB i:Nat} {x:PlD} {vo vi:Value} (h:PlAt w PB i x vo vi) (hc:∀ j,j<7→w'.cell? ⟨PB,i * 7+j,none⟩=w.cell? ⟨PB,i * 7+j,none⟩):PlAt w' PB i x vo vi :=
 ⟨(hc 0 (by omega)).trans h.c0,(hc 1 (by omega)).trans h.c1,(hc 2 (by omega)).trans h.c2,(hc 3 (by omega)).trans h.c3,(hc 4 (by omega)).trans h.c4,(hc 5 (by omega)).trans h.c5,(hc 6 (by omega)).trans h.c6⟩
def pl0:PlD:=⟨0,0,0,false,false⟩
end Go.Proofs


namespace Go.Proofs
open Go.RowKit Go.Lx Go.Md Go.Maps
set_option linter.unusedVariables false
theorem ne_off {PB i a b:Nat} (h:a≠b):(⟨PB,i * 7+a,none⟩:Addr)≠⟨PB,i * 7+b,none⟩:=fun e=>by simp only [Addr.mk.injEq,true_and,and_true] at e;omega
theorem PlAt.set1 {w:World} {PB i:Nat} {x:PlD} {vo vi:Value} (h:PlAt w PB i x vo vi) (a:Int):PlAt (w.setCell ⟨PB,i * 7+1,none⟩ (.int .i64 a)) PB i { x with reg:=a } vo vi:=by
 have o:∀ j,1≠j→(w.setCell ⟨PB,i * 7+1,none⟩ (.int .i64 a)).cell? ⟨PB,i * 7+j,none⟩=w.cell? ⟨PB,i * 7+j,none⟩:=fun j hj=>World.cell?_setCell_other _ _ _ _ (ne_off hj)
 exact ⟨(o 0 (by omega)).trans h.c0,World.cell?_setCell_same _ _ _ h.c1,(o 2 (by omega)).trans h.c2,(o 3 (by omega)).trans h.c3,(o 4 (by omega)).trans h.c4,(o 5 (by omega)).trans h.c5,(o 6 (by omega)).trans h.c6⟩
theorem PlAt.set2 {w:World} {PB i:Nat} {x:PlD} {vo vi:Value} (h:PlAt w PB i x vo vi) (a:Int):PlAt (w.setCell ⟨PB,i * 7+2,none⟩ (.int .i64 a)) PB i { x with dep:=a } vo vi:=by
 have o:∀ j,2≠j→(w.setCell ⟨PB,i * 7+2,none⟩ (.int .i64 a)).cell? ⟨PB,i * 7+j,none⟩=w.cell? ⟨PB,i * 7+j,none⟩:=fun j hj=>World.cell?_setCell_other _ _ _ _ (ne_off hj)
 exact ⟨(o 0 (by omega)).trans h.c0,(o 1 (by omega)).trans h.c1,World.cell?_setCell_same _ _ _ h.c2,(o 3 (by omega)).trans h.c3,(o 4 (by omega)).trans h.c4,(o 5 (by omega)).trans h.c5,(o 6 (by omega)).trans h.c6⟩
theorem PlAt.set3 {w:World} {PB i:Nat} {x:PlD} {vo vi:Value} (h:PlAt w PB i x vo vi) (a:Bool):PlAt (w.setCell ⟨PB,i * 7+3,none⟩ (.bool a)) PB i { x with st:=a } vo vi:=by
 have o:∀ j,3≠j→(w.setCell ⟨PB,i * 7+3,none⟩ (.bool a)).cell? ⟨PB,i * 7+j,none⟩=w.cell? ⟨PB,i * 7+j,none⟩:=fun j hj=>World.cell?_setCell_other _ _ _ _ (ne_off hj)
 exact ⟨(o 0 (by omega)).trans h.c0,(o 1 (by omega)).trans h.c1,(o 2 (by omega)).trans h.c2,World.cell?_setCell_same _ _ _ h.c3,(o 4 (by omega)).trans h.c4,(o 5 (by omega)).trans h.c5,(o 6 (by omega)).trans h.c6⟩
theorem PlAt.set4 {w:World} {PB i:Nat} {x:PlD} {vo vi:Value} (h:PlAt w PB i x vo vi) (a:Bool):PlAt (w.setCell ⟨PB,i * 7+4,none⟩ (.bool a)) PB i { x with pt:=a } vo vi:=by
 have o:∀ j,4≠j→(w.setCell ⟨PB,i * 7+4,none⟩ (.bool a)).cell? ⟨PB,i * 7+j,none⟩=w.cell? ⟨PB,i * 7+j,none⟩:=fun j hj=>World.cell?_setCell_other _ _ _ _ (ne_off hj)
 exact ⟨(o 0 (by omega)).trans h.c0,(o 1 (by omega)).trans h.c1,(o 2 (by omega)).trans h.c2,(o 3 (by omega)).trans h.c3,World.cell?_setCell_same _ _ _ h.c4,(o 5 (by omega)).trans h.c5,(o 6 (by omega)).trans h.c6⟩
def plM (m:MdlD) (i:Nat):PlD:=match m.vers[i]? with
 | some x=>⟨arM m i,rgM m i,0,x.kd == 1,decide (0≤x.ofv)⟩
 | none=>pl0
theorem ver_right {m:MdlD} (h0:riM m=(0,0,0)) {k:Nat} (hk:k<m.vers.length) :
   (0≤m.vers[k].ofv∧∃ s,∃ hs:s<m.vers.length,m.vers[k].ofv=(s:Int)∧m.vers[s].kd=1∧plM m k=⟨s,m.vers[s].rg,0,m.vers[k].kd == 1,true⟩) ∨
   (m.vers[k].ofv<0∧∃ r,∃ hr:r<m.regs.length,m.vers[k].rg=(r:Int)∧plM m k=⟨m.regs[r].own,r,0,m.vers[k].kd == 1,false⟩):=by
 have h5:=(riM_zero.1 h0).2.2.2.2.1
 have hr:=((wrL_zero (by decide)).1 h5 k hk).1
 unfold rVer at hr
 simp only [Bool.and_eq_true] at hr
 have hl:=hr.1.1.1.1.1.2
 unfold liesM at hl
 have hget:m.vers[k]? = some m.vers[k]:=List.getElem?_eq_getElem hk
 split at hl
 · simp only [Bool.and_eq_true] at hl
   have hs:=hl.2
   unfold Md.stM at hs
   simp only [Bool.and_eq_true,decide_eq_true_iff] at hs
   obtain ⟨h1,h2⟩:=hs
   obtain ⟨s,hs⟩:=Int.eq_ofNat_of_zero_le h1
   rw [hs,Int.toNat_natCast] at h2
   cases hv:m.vers[s]? with
   | none=>rw [hv] at h2;cases h2
   | some y =>
    rw [hv] at h2
    obtain ⟨hsl,hy⟩:=List.getElem?_eq_some_iff.1 hv
    refine .inl ⟨h1,s,hsl,hs,by rw [hy];simpa using h2,?_⟩
    unfold plM arM rgM
    simp only [hget,Int.toNat_natCast,hs,hv,hy,if_pos (Int.natCast_nonneg s),decide_eq_true (Int.natCast_nonneg s)]
 · simp only [Bool.and_eq_true,decide_eq_true_iff,beq_iff_eq] at hl
   obtain ⟨⟨h1,h2⟩,h3⟩:=hl
   obtain ⟨r,hr⟩:=Int.eq_ofNat_of_zero_le h2
   have hrl:r<m.regs.length:=by omega
   refine .inr ⟨by omega,r,hrl,hr,?_⟩
   unfold plM arM rgM
   have hneg:¬ ((0:Int)≤-1):=by decide
   simp only [hget,Int.toNat_natCast,h1,if_neg hneg,decide_eq_false hneg,hr,List.getElem?_eq_getElem hrl]
end Go.Proofs


namespace Go.Proofs
open Go.RowKit Go.Lx Go.Md Go.Maps Go.Rfu
set_option linter.unusedVariables false
theorem arM_lt {m:MdlD} (h0:riM m=(0,0,0)) {k:Nat} (hk:k<m.vers.length):arM m k<m.vers.length:=by
 have hp:(plM m k).par=arM m k:=by unfold plM;rw [List.getElem?_eq_getElem hk]
 rw [← hp]
 rcases ver_right h0 hk with ⟨_,s,hs,_,_,e⟩ | ⟨_,r,hr,_,e⟩
 · rw [e];show (s:Int)<_;omega
 · rw [e]
   show m.regs[r].own<_
   have h4:=(riM_zero.1 h0).2.2.2.1
   unfold f4 at h4
   split at h4
   · simp only [Prod.mk.injEq] at h4;omega
   · have:=((wrL_zero (by decide)).1 h4 r hr).1
     rw [Nat.zero_add] at this
     unfold rReg at this
     split at this
     · simp only [Bool.and_eq_true,beq_iff_eq] at this;omega
     · simp only [Bool.and_eq_true] at this
       have hs:=this.1.2
       unfold Md.stM at hs
       simp only [Bool.and_eq_true,decide_eq_true_iff] at hs
       obtain ⟨h1,h2⟩:=hs
       obtain ⟨s,hs⟩:=Int.eq_ofNat_of_zero_le h1
       rw [hs,Int.toNat_natCast] at h2
       rw [hs]
       cases hv:m.vers[s]? with
       | none=>rw [hv] at h2;cases h2
       | some y=>have:=(List.getElem?_eq_some_iff.1 hv).1;omega
structure DepI (w:World) (PB off Bv:Nat) (k:Int) (W:World):Prop where
 os:W.os=w.os
 tape:W.tape=w.tape
 output:W.output=w.output
 size:w.heap.size≤W.heap.size
 blk:∀ b,b<w.heap.size→b≠Bv→b≠PB→W.heap[b]? = w.heap[b]?
 pc:∀ o,o≠off→W.cell? ⟨PB,o,none⟩=w.cell? ⟨PB,o,none⟩
 pk:W.cell? ⟨PB,off,none⟩=some (.int .i64 k)
 pf:∀ o,W.frozen? ⟨PB,o,none⟩=w.frozen? ⟨PB,o,none⟩
 fv:W.frozen? ⟨Bv,0,none⟩=w.frozen? ⟨Bv,0,none⟩
theorem DepI.start {w:World} {PB off Bv:Nat} {k:Int} (h:w.cell? ⟨PB,off,none⟩=some (.int .i64 k)):DepI w PB off Bv k w:=⟨rfl,rfl,rfl,Nat.le_refl _,fun _ _ _ _=>rfl,fun _ _=>rfl,h,fun _=>rfl,rfl⟩
theorem DepI.store {w W:World} {PB off Bv:Nat} {k k':Int} (h:DepI w PB off Bv k W) (hne:PB≠Bv):DepI w PB off Bv k' (W.setCell ⟨PB,off,none⟩ (.int .i64 k')) :=
 ⟨h.os,h.tape,h.output,by simpa using h.size,fun b hb hv hp=>(Below.heap_setCell W ⟨PB,off,none⟩ _ b hp).trans (h.blk b hb hv hp),
   fun o ho=>(World.cell?_setCell_other _ _ _ _ (fun e=>ho (by simp only [Addr.mk.injEq,true_and,and_true] at e;exact e.symm))).trans (h.pc o ho),World.cell?_setCell_same _ _ _ h.pk,
   fun o=>by rw [World.frozen?_setCell];exact h.pf o,by rw [World.frozen?_setCell];exact h.fv⟩
theorem DepI.drew {w W:World} {PB off Bv:Nat} {k:Int} (h:DepI w PB off Bv k W):DepI w PB off Bv k W.drew:=⟨h.os,h.tape,h.output,h.size,h.blk,h.pc,h.pk,h.pf,h.fv⟩
end Go.Proofs
