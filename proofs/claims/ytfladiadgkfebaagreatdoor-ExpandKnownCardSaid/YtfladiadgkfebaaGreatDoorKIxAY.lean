/- 'works' of the model's laws: the statement with three copies, by an invariant. -/
import Derived.Test.YtfladiadgkfebaaGreatDoorKGen
import Derived.Test.YtfladiadgkfebaaGreatDoorKMdRSm
import Derived.Test.YtfladiadgkfebaaGreatDoorKMdRf
import Derived.Test.YtfladiadgkfebaaGreatDoorKEpPR
import Derived.Laws.MakeOwn
import Derived.Maps.OwnOps
import Derived.Maps.OwnSet
import Derived.Maps.Views
import Derived.Deep.RegionHeld
import Derived.Shelf.Abstract
import Derived.Shelf.RegionOpen
import Derived.OwnWalkIn
import Derived.TacticsInMore
import Derived.LoopNIn
import Derived.LoopIn
import Derived.Sort.LoopGhostIn
import Derived.Deep.Onto
import Derived.Laws.OwnMore
import Derived.Maps.AppendAt
import Derived.RangeFuncBox
import Derived.BigRegion
import Derived.Deep.QuietTactic
import Derived.BigQuiet
import Derived.Test.YtfladiadgkfebaaGreatDoorKMdFGH
namespace Go.Proofs
open Go.RowKit Go.Lx Go.Md
set_option linter.unusedVariables false
theorem Mod.kept7 {Q:Nat->BP} {w w':World} {m:MdlD} {p:Ph} (h:Mod Q w m p) (hk:∀ j,j<7->Kept (Q j) w w'):Mod Q w' m p :=
 ⟨h.vars.kept (VarE.mono (R:=Q 0)) (hk 0 (by decide)) (hk 0 (by decide)),h.evs.kept (hk 1 (by decide)),h.regs.kept (RegE.mono (R:=Q 2)) (hk 2 (by decide)) (hk 2 (by decide)),h.vers.kept VerE.mono (hk 3 (by decide)) (hk 5 (by decide)),h.trns.kept TrnE.mono (hk 4 (by decide)) (hk 6 (by decide))⟩
structure CpyW (N:Nat) (w:World) (p:Ph) (q:Nat->Nat):Prop where
 mod:Mod (Lay q) w smallM p
 mono:∀ j,q j<=q (j+1)
 lo:N<=q 0
 hi:q 7<=w.heap.size
def Out (B:Nat) (q:Nat->Nat):Prop:=B<q 0\/q 7<=B
def BoxE (w:World) (B:Nat):Prop:=∃ v0 v1 v2 v3 v4 v5,Box w B v0 v1 v2 v3 v4 v5
structure BoxN (N:Nat) (w:World) (u:Value) (B:Nat):Prop where
 ptr:u=.pointer (some ⟨B,0,none⟩)
 lo:N<=B
 hi:B<w.heap.size
 has:BoxE w B
theorem q_le {q:Nat->Nat} (h:∀ j,q j<=q (j+1)) {i j:Nat} (hij:i<=j):q i<=q j:=by
 induction j with
 | zero =>
  have:i=0:=by omega
  rw [this];exact Nat.le_refl _
 | succ j ih =>
  by_cases e:i=j+1
  . rw [e];exact Nat.le_refl _
  . exact Nat.le_trans (ih (by omega)) (h j)
theorem CpyW.below {N:Nat} {w w':World} {p:Ph} {q:Nat->Nat} (h:CpyW N w p q) (hb:Bl w w'):CpyW N w' p q:=⟨h.mod.below hb,h.mono,h.lo,Nat.le_trans h.hi hb.size⟩
theorem CpyW.far {N:Nat} {w w':World} {p:Ph} {q:Nat->Nat} {B:Nat} (h:CpyW N w p q) (hs:w.heap.size<=w'.heap.size) (hk:∀ b,b≠B->b<w.heap.size->w'.heap[b]? = w.heap[b]?) (hb:Out B q):CpyW N w' p q:=by
 refine ⟨h.mod.kept7 fun j hj=>⟨hs,fun b h1 hQ=>hk b (fun e=>?_) h1⟩,h.mono,h.lo,Nat.le_trans h.hi hs⟩
 have l1:=hQ.1
 have l2:=hQ.2.1
 have l3:=q_le h.mono (Nat.zero_le j)
 have l4:=q_le h.mono (show j+1<=7 by omega)
 rcases hb with hb | hb <;> omega
theorem BoxN.below {N:Nat} {w w':World} {u:Value} {B:Nat} (h:BoxN N w u B) (hb:Bl w w'):BoxN N w' u B:=by
 obtain ⟨v0,v1,v2,v3,v4,v5,hx⟩:=h.has
 exact ⟨h.ptr,h.lo,Nat.lt_of_lt_of_le h.hi hb.size,⟨v0,v1,v2,v3,v4,v5,hx.below hb h.hi⟩⟩
theorem BoxE.any {w w':World} {B:Nat} (h:BoxE w B) (hb:w'.heap[B]? = w.heap[B]?):BoxE w' B:=by
 obtain ⟨v0,v1,v2,v3,v4,v5,hx⟩:=h
 exact ⟨v0,v1,v2,v3,v4,v5,hx.any hb⟩
theorem BoxN.far {N:Nat} {w w':World} {u:Value} {B B':Nat} (h:BoxN N w u B) (hs:w.heap.size<=w'.heap.size) (hk:∀ b,b≠B'->b<w.heap.size->w'.heap[b]? = w.heap[b]?) (hb:B≠B'):BoxN N w' u B :=
 ⟨h.ptr,h.lo,Nat.lt_of_lt_of_le h.hi hs,h.has.any (hk B hb h.hi)⟩
structure Bk (N:Nat) (w:World) (u val:Value) (B:Nat) (ob:Obj):Prop where
 is:u=val
 lo:N<=B
 hi:B<w.heap.size
 ob:w.heap[B]? = some ob
theorem Bk.below {N:Nat} {w w':World} {u val:Value} {B:Nat} {ob:Obj} (h:Bk N w u val B ob) (g:Bl w w'):Bk N w' u val B ob:=⟨h.is,h.lo,Nat.lt_of_lt_of_le h.hi g.size,(g.block B h.hi).trans h.ob⟩
theorem Bk.far {N:Nat} {w w':World} {u val:Value} {B B':Nat} {ob:Obj} (h:Bk N w u val B ob) (hs:w.heap.size<=w'.heap.size) (hk:∀ b,b≠B'->b<w.heap.size->w'.heap[b]? = w.heap[b]?) (hb:B≠B'):Bk N w' u val B ob:=⟨h.is,h.lo,Nat.lt_of_lt_of_le h.hi hs,(hk B hb h.hi).trans h.ob⟩
theorem Bk.new (N:Nat) (w:World) (val:Value) (ob:Obj) (h:N<=w.heap.size):Bk N (w.alloc ob) val val w.heap.size ob:=⟨rfl,h,by simp,alloc1_at w ob⟩
end Go.Proofs

namespace Go.Proofs
open Go.RowKit Go.Lx Go.Md Go.Maps
set_option linter.unusedVariables false
inductive RK where
 | kid | own | pnt | out | into
 deriving DecidableEq
abbrev RI:=RK × Int
def upd {β:Type} (f:RI->β) (i:RI) (x:β):RI->β:=fun j=>if j=i then x else f j
theorem upd_same {β:Type} (f:RI->β) (i:RI) (x:β):upd f i x i=x:=by simp [upd]
theorem upd_ne {β:Type} {f:RI->β} {i j:RI} {x:β} (h:j≠i):upd f i x j=f j:=by simp [upd,h]
abbrev nums (l:List Int):List Value:=l.map (Value.int .i64)
structure Rws (N:Nat) (F:RI->List Int) (V:RI->Value) (w:World):Prop where
 own:∀ i,w.ownsRow N 3 1 (V i) (F i).length (nums (F i))
 ap:∀ i j,i≠j->(V i).ownBlock=none\/(V i).ownBlock≠(V j).ownBlock
theorem Rws.keep {N:Nat} {F:RI->List Int} {V:RI->Value} {w w':World} (h:Rws N F V w) (hk:∀ i g,(V i).ownBlock=some g->w'.heap[g]? = w.heap[g]?):Rws N F V w':=by
 refine ⟨fun i=>?_,h.ap⟩
 obtain ⟨h1,h2⟩:=h.own i
 refine ⟨h1,?_⟩
 rcases h2 with h2 | ⟨g,cap,cur,e,hb,hg,r⟩
 . exact .inl h2
 . exact .inr ⟨g,cap,cur,e,hb,by rw [hk i g (by rw [e];rfl)];exact hg,r⟩
theorem Rws.lt {N:Nat} {F:RI->List Int} {V:RI->Value} {w:World} (h:Rws N F V w) {i:RI} {g:Nat} (hg:(V i).ownBlock=some g):N<=g/\g<w.heap.size:=by
 have:=(h.own i).lt g hg
 exact ⟨this.1,this.2⟩
theorem Rws.start (N:Nat) (w:World):Rws N (fun _=>[]) (fun _=>.slice none 0 0) w:=⟨fun _=>⟨by simp,.inl ⟨rfl,rfl⟩⟩,fun _ _ _=>.inl rfl⟩
theorem Rws.push {N:Nat} {F:RI->List Int} {V:RI->Value} {w w1:World} {o:Obj} {i:RI} {x:Int} {gg cap:Nat} (h:Rws N F V w) (hg:(w.drew.alloc o).grownBy w1 (V i).ownBlock) (hat:(V i).ownBlock=some gg\/gg=w.heap.size+1)
   (ho:w1.ownsRow N 3 1 (.slice (some ⟨gg,0,none⟩) ((F i).length+1) cap) ((F i).length+1) (nums (F i) ++ [.int .i64 x])):Rws N (upd F i (F i ++ [x])) (upd V i (.slice (some ⟨gg,0,none⟩) ((F i).length+1) cap)) w1:=by
 have hsz:(w.drew.alloc o).heap.size=w.heap.size+1:=by simp
 have hgk:∀ j g,j≠i->(V j).ownBlock=some g->w1.heap[g]? = w.heap[g]? := fun j g hj hb=>by
   have hl:=(h.lt hb).2
   rw [hg.block g (by omega) (fun e=>?_)]
   . exact Below.heap_alloc w.drew o g (by simpa using hl)
   . rcases h.ap j i hj with h1 | h1
     . rw [h1] at hb;cases hb
     . exact h1 (by rw [hb];exact e)
 refine ⟨fun j=>?_,fun j k hjk=>?_⟩
 . by_cases hj:j=i
   . subst hj
     rw [upd_same,upd_same]
     simpa [nums] using ho
   . rw [upd_ne hj,upd_ne hj]
     obtain ⟨h1,h2⟩:=h.own j
     refine ⟨h1,?_⟩
     rcases h2 with h2 | ⟨g,cp,cur,e,hb,hgc,r⟩
     . exact .inl h2
     . exact .inr ⟨g,cp,cur,e,hb,by rw [hgk j g hj (by rw [e];rfl)];exact hgc,r⟩
 . have key:∀ a,a≠i->(V a).ownBlock=none\/(V a).ownBlock≠some gg:=fun a ha=>by
     cases hb:(V a).ownBlock with
     | none=>exact .inl rfl
     | some g =>
      refine .inr fun e=>?_
      injection e with e
      subst e
      rcases hat with h1 | h1
      . rcases h.ap a i ha with h2 | h2
        . rw [h2] at hb;cases hb
        . exact h2 (by rw [hb,h1])
      . have:=(h.lt hb).2;omega
   by_cases hj:j=i
   . subst hj
     have hk:k≠j:=fun e=>hjk e.symm
     rw [upd_same,upd_ne hk]
     rcases key k hk with h1 | h1
     . exact .inr (by rw [h1];simp [Value.ownBlock])
     . exact .inr (by simp only [Value.ownBlock];exact fun e=>h1 e.symm)
   . rw [upd_ne hj]
     by_cases hk:k=i
     . subst hk
       rw [upd_same]
       rcases key j hj with h1 | h1
       . exact .inl h1
       . exact .inr h1
     . rw [upd_ne hk];exact h.ap j k hjk
def holdR (v:Value):Option (DataW Value × List MemPlace):=some (.held v,[])
def MapAt (b cnt:Nat) (f:Int->Value) (w:World):Prop:=∃ D,w.ownsMap Tryz.prog 3 holdR b cnt D/\∀ s:Int,D.atKey (.int .i64 s) (.held (.slice none 0 0))=.held (f s)
theorem MapAt.made (w:World) {b:Nat} (h:w.heap[b]? = some (.map #[] 0)):MapAt b 0 (fun _=>.slice none 0 0) w :=
 ⟨.map [],⟨#[],0,h,⟨by simp,MapKept.stamped_empty 0,by simp⟩,Nat.le_refl _,rfl⟩,fun _=>rfl⟩
theorem MapAt.keep {b cnt:Nat} {f:Int->Value} {w w':World} (h:MapAt b cnt f w) (hk:w'.heap[b]? = w.heap[b]?):MapAt b cnt f w':=by
 obtain ⟨D,⟨es,ck,hb,r⟩,hD⟩:=h
 exact ⟨D,⟨es,ck,hk.trans hb,r⟩,hD⟩
structure PlD where
 par:Int
 reg:Int
 dep:Int
 st:Bool
 pt:Bool
structure PlAt (w:World) (PB i:Nat) (x:PlD) (vo vi:Value):Prop where
 c0:w.cell? ⟨PB,i * 7,none⟩=some (.int .i64 x.par)
 c1:w.cell? ⟨PB,i * 7+1,none⟩=some (.int .i64 x.reg)
 c2:w.cell? ⟨PB,i * 7+2,none⟩=some (.int .i64 x.dep)
 c3:w.cell? ⟨PB,i * 7+3,none⟩=some (.bool x.st)
 c4:w.cell? ⟨PB,i * 7+4,none⟩=some (.bool x.pt)
 c5:w.cell? ⟨PB,i * 7+5,none⟩=some vo
 c6:w.cell? ⟨PB,i * 7+6,none⟩=some vi
theorem PlAt.keep {w w':World} {PB i:Nat} {x:PlD} {vo vi:Value} (h:PlAt w PB i x vo vi) (hc:∀ j,j<7->w'.cell? ⟨PB,i * 7+j,none⟩=w.cell? ⟨PB,i * 7+j,none⟩):PlAt w' PB i x vo vi :=
 ⟨(hc 0 (by omega)).trans h.c0,(hc 1 (by omega)).trans h.c1,(hc 2 (by omega)).trans h.c2,(hc 3 (by omega)).trans h.c3,(hc 4 (by omega)).trans h.c4,(hc 5 (by omega)).trans h.c5,(hc 6 (by omega)).trans h.c6⟩
def pl0:PlD:=⟨0,0,0,false,false⟩
theorem ne_off {PB i a b:Nat} (h:a≠b):(⟨PB,i * 7+a,none⟩:Addr)≠⟨PB,i * 7+b,none⟩:=fun e=>by simp only [Addr.mk.injEq,true_and,and_true] at e;omega
theorem PlAt.set1 {w:World} {PB i:Nat} {x:PlD} {vo vi:Value} (h:PlAt w PB i x vo vi) (a:Int):PlAt (w.setCell ⟨PB,i * 7+1,none⟩ (.int .i64 a)) PB i { x with reg:=a } vo vi:=by
 have o:∀ j,1≠j->(w.setCell ⟨PB,i * 7+1,none⟩ (.int .i64 a)).cell? ⟨PB,i * 7+j,none⟩=w.cell? ⟨PB,i * 7+j,none⟩:=fun j hj=>World.cell?_setCell_other _ _ _ _ (ne_off hj)
 exact ⟨(o 0 (by omega)).trans h.c0,World.cell?_setCell_same _ _ _ h.c1,(o 2 (by omega)).trans h.c2,(o 3 (by omega)).trans h.c3,(o 4 (by omega)).trans h.c4,(o 5 (by omega)).trans h.c5,(o 6 (by omega)).trans h.c6⟩
theorem PlAt.set2 {w:World} {PB i:Nat} {x:PlD} {vo vi:Value} (h:PlAt w PB i x vo vi) (a:Int):PlAt (w.setCell ⟨PB,i * 7+2,none⟩ (.int .i64 a)) PB i { x with dep:=a } vo vi:=by
 have o:∀ j,2≠j->(w.setCell ⟨PB,i * 7+2,none⟩ (.int .i64 a)).cell? ⟨PB,i * 7+j,none⟩=w.cell? ⟨PB,i * 7+j,none⟩:=fun j hj=>World.cell?_setCell_other _ _ _ _ (ne_off hj)
 exact ⟨(o 0 (by omega)).trans h.c0,(o 1 (by omega)).trans h.c1,World.cell?_setCell_same _ _ _ h.c2,(o 3 (by omega)).trans h.c3,(o 4 (by omega)).trans h.c4,(o 5 (by omega)).trans h.c5,(o 6 (by omega)).trans h.c6⟩
theorem PlAt.set3 {w:World} {PB i:Nat} {x:PlD} {vo vi:Value} (h:PlAt w PB i x vo vi) (a:Bool):PlAt (w.setCell ⟨PB,i * 7+3,none⟩ (.bool a)) PB i { x with st:=a } vo vi:=by
 have o:∀ j,3≠j->(w.setCell ⟨PB,i * 7+3,none⟩ (.bool a)).cell? ⟨PB,i * 7+j,none⟩=w.cell? ⟨PB,i * 7+j,none⟩:=fun j hj=>World.cell?_setCell_other _ _ _ _ (ne_off hj)
 exact ⟨(o 0 (by omega)).trans h.c0,(o 1 (by omega)).trans h.c1,(o 2 (by omega)).trans h.c2,World.cell?_setCell_same _ _ _ h.c3,(o 4 (by omega)).trans h.c4,(o 5 (by omega)).trans h.c5,(o 6 (by omega)).trans h.c6⟩
theorem PlAt.set4 {w:World} {PB i:Nat} {x:PlD} {vo vi:Value} (h:PlAt w PB i x vo vi) (a:Bool):PlAt (w.setCell ⟨PB,i * 7+4,none⟩ (.bool a)) PB i { x with pt:=a } vo vi:=by
 have o:∀ j,4≠j->(w.setCell ⟨PB,i * 7+4,none⟩ (.bool a)).cell? ⟨PB,i * 7+j,none⟩=w.cell? ⟨PB,i * 7+j,none⟩:=fun j hj=>World.cell?_setCell_other _ _ _ _ (ne_off hj)
 exact ⟨(o 0 (by omega)).trans h.c0,(o 1 (by omega)).trans h.c1,(o 2 (by omega)).trans h.c2,(o 3 (by omega)).trans h.c3,World.cell?_setCell_same _ _ _ h.c4,(o 5 (by omega)).trans h.c5,(o 6 (by omega)).trans h.c6⟩
def plM (m:MdlD) (i:Nat):PlD:=match m.vers[i]? with
 | some x=>⟨arM m i,rgM m i,0,x.kd == 1,decide (0<=x.ofv)⟩
 | none=>pl0
theorem ver_right {m:MdlD} (h0:riM m=(0,0,0)) {k:Nat} (hk:k<m.vers.length) :
   (0<=m.vers[k].ofv/\∃ s,∃ hs:s<m.vers.length,m.vers[k].ofv=(s:Int)/\m.vers[s].kd=1/\plM m k=⟨s,m.vers[s].rg,0,m.vers[k].kd == 1,true⟩) \/
   (m.vers[k].ofv<0/\∃ r,∃ hr:r<m.regs.length,m.vers[k].rg=(r:Int)/\plM m k=⟨m.regs[r].own,r,0,m.vers[k].kd == 1,false⟩):=by
 have h5:=(riM_zero.1 h0).2.2.2.2.1
 have hr:=((wrL_zero (by decide)).1 h5 k hk).1
 unfold rVer at hr
 simp only [Bool.and_eq_true] at hr
 have hl:=hr.1.1.1.1.1.2
 unfold liesM at hl
 have hget:m.vers[k]? = some m.vers[k]:=List.getElem?_eq_getElem hk
 split at hl
 . simp only [Bool.and_eq_true] at hl
   have hs:=hl.2
   unfold Md.stM at hs
   simp only [Bool.and_eq_true,decide_eq_true_iff] at hs
   obtain ⟨h1,h2⟩:=hs
   obtain ⟨s,hs⟩:=Int.eq_ofNat_of_zero_le h1
   rw [hs,Int.toNat_natCast] at h2
   cases hv:m.vers[s]? with
   | none=>rw [hv] at h2;cases h2
   | some y =>
    rw [hv] at h2
    obtain ⟨hsl,hy⟩:=List.getElem?_eq_some_iff.1 hv
    refine .inl ⟨h1,s,hsl,hs,by rw [hy];simpa using h2,?_⟩
    unfold plM arM rgM
    simp only [hget,Int.toNat_natCast,hs,hv,hy,if_pos (Int.natCast_nonneg s),decide_eq_true (Int.natCast_nonneg s)]
 . simp only [Bool.and_eq_true,decide_eq_true_iff,beq_iff_eq] at hl
   obtain ⟨⟨h1,h2⟩,h3⟩:=hl
   obtain ⟨r,hr⟩:=Int.eq_ofNat_of_zero_le h2
   have hrl:r<m.regs.length:=by omega
   refine .inr ⟨by omega,r,hrl,hr,?_⟩
   unfold plM arM rgM
   have hneg:¬ ((0:Int)<=-1):=by decide
   simp only [hget,Int.toNat_natCast,h1,if_neg hneg,decide_eq_false hneg,hr,List.getElem?_eq_getElem hrl]
end Go.Proofs

namespace Go.Proofs
open Go.RowKit Go.Lx Go.Md Go.Maps Go.Rfu
set_option linter.unusedVariables false
theorem arM_lt {m:MdlD} (h0:riM m=(0,0,0)) {k:Nat} (hk:k<m.vers.length):arM m k<m.vers.length:=by
 have hp:(plM m k).par=arM m k:=by unfold plM;rw [List.getElem?_eq_getElem hk]
 rw [<- hp]
 rcases ver_right h0 hk with ⟨_,s,hs,_,_,e⟩ | ⟨_,r,hr,_,e⟩
 . rw [e];show (s:Int)<_;omega
 . rw [e]
   show m.regs[r].own<_
   have h4:=(riM_zero.1 h0).2.2.2.1
   unfold f4 at h4
   split at h4
   . simp only [Prod.mk.injEq] at h4;omega
   . have:=((wrL_zero (by decide)).1 h4 r hr).1
     rw [Nat.zero_add] at this
     unfold rReg at this
     split at this
     . simp only [Bool.and_eq_true,beq_iff_eq] at this;omega
     . simp only [Bool.and_eq_true] at this
       have hs:=this.1.2
       unfold Md.stM at hs
       simp only [Bool.and_eq_true,decide_eq_true_iff] at hs
       obtain ⟨h1,h2⟩:=hs
       obtain ⟨s,hs⟩:=Int.eq_ofNat_of_zero_le h1
       rw [hs,Int.toNat_natCast] at h2
       rw [hs]
       cases hv:m.vers[s]? with
       | none=>rw [hv] at h2;cases h2
       | some y=>have:=(List.getElem?_eq_some_iff.1 hv).1;omega
structure DepI (w:World) (PB off Bv:Nat) (k:Int) (W:World):Prop where
 os:W.os=w.os
 tape:W.tape=w.tape
 output:W.output=w.output
 size:w.heap.size<=W.heap.size
 blk:∀ b,b<w.heap.size->b≠Bv->b≠PB->W.heap[b]? = w.heap[b]?
 pc:∀ o,o≠off->W.cell? ⟨PB,o,none⟩=w.cell? ⟨PB,o,none⟩
 pk:W.cell? ⟨PB,off,none⟩=some (.int .i64 k)
 pf:∀ o,W.frozen? ⟨PB,o,none⟩=w.frozen? ⟨PB,o,none⟩
 fv:W.frozen? ⟨Bv,0,none⟩=w.frozen? ⟨Bv,0,none⟩
theorem DepI.start {w:World} {PB off Bv:Nat} {k:Int} (h:w.cell? ⟨PB,off,none⟩=some (.int .i64 k)):DepI w PB off Bv k w:=⟨rfl,rfl,rfl,Nat.le_refl _,fun _ _ _ _=>rfl,fun _ _=>rfl,h,fun _=>rfl,rfl⟩
theorem DepI.store {w W:World} {PB off Bv:Nat} {k k':Int} (h:DepI w PB off Bv k W) (hne:PB≠Bv):DepI w PB off Bv k' (W.setCell ⟨PB,off,none⟩ (.int .i64 k')) :=
 ⟨h.os,h.tape,h.output,by simpa using h.size,fun b hb hv hp=>(Below.heap_setCell W ⟨PB,off,none⟩ _ b hp).trans (h.blk b hb hv hp),
   fun o ho=>(World.cell?_setCell_other _ _ _ _ (fun e=>ho (by simp only [Addr.mk.injEq,true_and,and_true] at e;exact e.symm))).trans (h.pc o ho),World.cell?_setCell_same _ _ _ h.pk,
   fun o=>by rw [World.frozen?_setCell];exact h.pf o,by rw [World.frozen?_setCell];exact h.fv⟩
theorem DepI.drew {w W:World} {PB off Bv:Nat} {k:Int} (h:DepI w PB off Bv k W):DepI w PB off Bv k W.drew:=⟨h.os,h.tape,h.output,h.size,h.blk,h.pc,h.pk,h.pf,h.fv⟩
end Go.Proofs

namespace Go.Md
open Go.RowKit Go.Lx Go.Proofs
set_option linter.unusedVariables false
def upsM (m:MdlD) (v:Int):List Int:=upL m 66 v
end Go.Md

namespace Go.Proofs
open Go.RowKit Go.Lx Go.Md Go.Shelf Go.Rfu
set_option linter.unusedVariables false
def RowP (l:List Int) (w:World) (e:Ending) (w':World):Prop:=∃ v',e=.returned v'/\w'.ownsRow w.heap.size 3 1 v' l.length (nums l)/\Bl w w'
section
variable {B:Nat} {m:MdlD} {IB:Nat} {w:World}
end
attribute [local go_sem] Oper.semAt_some
structure Rd (X:Nat->Prop) (w W:World):Prop where
 os:W.os=w.os
 tape:W.tape=w.tape
 output:W.output=w.output
 size:w.heap.size<=W.heap.size
 blk:∀ b,b<w.heap.size->¬ X b->W.heap[b]? = w.heap[b]?
 frz:∀ b,b<w.heap.size->X b->W.frozen? ⟨b,0,none⟩=w.frozen? ⟨b,0,none⟩
theorem Rd.refl (X:Nat->Prop) (w:World):Rd X w w:=⟨rfl,rfl,rfl,Nat.le_refl _,fun _ _ _=>rfl,fun _ _ _=>rfl⟩
theorem Rd.of_below {X:Nat->Prop} {w W:World} (h:Bl w W):Rd X w W:=⟨h.os,h.tape,h.output,h.size,fun b hb _=>h.block b hb,fun b hb _=>h.frozen (p:=⟨b,0,none⟩) hb⟩
theorem Rd.trans {X:Nat->Prop} {a b c:World} (h:Rd X a b) (k:Rd X b c):Rd X a c :=
 ⟨k.os.trans h.os,k.tape.trans h.tape,k.output.trans h.output,Nat.le_trans h.size k.size,fun i hi hx=>(k.blk i (Nat.lt_of_lt_of_le hi h.size) hx).trans (h.blk i hi hx),fun i hi hx=>(k.frz i (Nat.lt_of_lt_of_le hi h.size) hx).trans (h.frz i hi hx)⟩
theorem Rd.weaken {X Y:Nat->Prop} {a b:World} (h:Rd X a b) (hxy:∀ i,X i->Y i):Rd Y a b :=
 ⟨h.os,h.tape,h.output,h.size,fun i hi hx=>h.blk i hi fun hx'=>hx (hxy i hx'),fun i hi _=>by
   by_cases hx:X i
   . exact h.frz i hi hx
   . exact World.frozen?_of_block (w:=a) (h.blk i hi hx)⟩
theorem Rd.below {X:Nat->Prop} {w W:World} (h:Rd X w W) {B:Nat} (hB:B<=w.heap.size) (hx:∀ b,X b->B<=b):Below B w W :=
 ⟨h.os,h.tape,h.output,h.size,fun b hb=>h.blk b (Nat.lt_of_lt_of_le hb hB) fun h'=>by have:=hx b h';omega⟩
theorem Rd.set {X:Nat->Prop} {w W:World} (h:Rd X w W) {b k:Nat} (hX:X b\/w.heap.size<=b) (u:Value):Rd X w (W.setCell ⟨b,k,none⟩ u) :=
 ⟨h.os,h.tape,h.output,by simpa using h.size,fun i hi hx=>(Below.heap_setCell W ⟨b,k,none⟩ u i (fun e=>by
     rcases hX with hX | hX
     . exact hx (by simp only at e;rw [e];exact hX)
     . simp only at e;omega)).trans (h.blk i hi hx),fun i hi hx=>by rw [World.frozen?_setCell];exact h.frz i hi hx⟩
theorem Rd.grown {X:Nat->Prop} {w W W':World} {row:Option Nat} (h:Rd X w W) (g:W.grownBy W' row) (hr:∀ k,row=some k->w.heap.size<=k):Rd X w W':=by
 have hb:Below w.heap.size W W':=(Below.refl _ W).grown g h.size hr
 exact ⟨hb.os.trans h.os,hb.tape.trans h.tape,hb.output.trans h.output,Nat.le_trans h.size hb.size,fun i hi hx=>(hb.block i hi).trans (h.blk i hi hx),fun i hi hx=>(hb.frozen (p:=⟨i,0,none⟩) hi).trans (h.frz i hi hx)⟩
theorem Rd.bel {X:Nat->Prop} {w W W':World} (h:Rd X w W) (g:Below w.heap.size W W'):Rd X w W' :=
 ⟨g.os.trans h.os,g.tape.trans h.tape,g.output.trans h.output,Nat.le_trans h.size g.size,fun b hb hx=>(g.block b hb).trans (h.blk b hb hx),fun b hb hx=>(g.frozen (p:=⟨b,0,none⟩) hb).trans (h.frz b hb hx)⟩
theorem Rd.back {w w1 W:World} {Bv H:Nat} (h:Rd (fun b=>b=Bv\/b=H) w1 W) (g:Bl w w1) (hH:w.heap.size<=H):Rd (fun b=>b=Bv) w W :=
 ⟨h.os.trans g.os,h.tape.trans g.tape,h.output.trans g.output,Nat.le_trans g.size h.size,fun b hb hx=>(h.blk b (Nat.lt_of_lt_of_le hb g.size) (by omega)).trans (g.block b hb),fun b hb hx=>(h.frz b (Nat.lt_of_lt_of_le hb g.size) (.inl hx)).trans (g.frozen (p:=⟨b,0,none⟩) hb)⟩
theorem Rd.cell {X:Nat->Prop} {w W:World} (h:Rd X w W) {b k:Nat} (hb:b<w.heap.size) (hx:¬ X b):W.cell? ⟨b,k,none⟩=w.cell? ⟨b,k,none⟩:=World.cell?_of_block (w:=w) (h.blk b hb hx)
structure ApSt (m:MdlD) (v:Int) (Bv:Nat) (w1:World) (H:Nat) (k:Nat) (W:World):Prop where
 rd:Rd (fun b=>b=Bv\/b=H) w1 W
 row:∃ v',W.cell? ⟨H,0,none⟩=some v'/\W.ownsRow (H+1) 3 1 v' k (nums ((upsM m v).take k))
theorem ApSt.push {m:MdlD} {v:Int} {Bv:Nat} {w1:World} {H k:Nat} {W w2:World} {v':Value} {o:Obj} {g2 cap2:Nat} (h:ApSt m v Bv w1 H k W) (hB:Bv<H) (hH1:w1.heap.size=H+1)
   (hc:W.cell? ⟨H,0,none⟩=some v') (hrow:W.ownsRow (H+1) 3 1 v' k (nums ((upsM m v).take k))) (hg:(W.alloc o).grownBy w2 v'.ownBlock) (ho:w2.ownsRow (H+1) 3 1 (.slice (some ⟨g2,0,none⟩) (k+1) cap2) (k+1) (nums ((upsM m v).take (k+1)))) :
   w2.cell? ⟨H,0,none⟩=some v'/\w2.frozen? ⟨H,0,none⟩=w1.frozen? ⟨H,0,none⟩/\KeepsB w1.heap.size W (w2.setCell ⟨H,0,none⟩ (.slice (some ⟨g2,0,none⟩) (k+1) cap2))/\(w2.setCell ⟨H,0,none⟩ (.slice (some ⟨g2,0,none⟩) (k+1) cap2)).cell? ⟨Bv,0,none⟩=W.cell? ⟨Bv,0,none⟩/\ApSt m v Bv w1 H (k+1) (w2.setCell ⟨H,0,none⟩ (.slice (some ⟨g2,0,none⟩) (k+1) cap2)):=by
 have hz:=h.rd.size
 have hH:H<w1.heap.size:=by omega
 have hlt:=fun q hq=>hrow.lt q hq
 have hbk:∀ b,b<W.heap.size->v'.ownBlock≠some b->w2.heap[b]? = W.heap[b]? := fun b hb hn=>(hg.block b (by simp;omega) (fun e=>hn e.symm)).trans (Below.heap_alloc W o b hb)
 have hnH:∀ b,b<=H->v'.ownBlock≠some b:=fun b hb e=>by have:=(hlt b e).1;omega
 have hcH:w2.cell? ⟨H,0,none⟩=some v':=(World.cell?_of_block (w:=W) (hbk H (by omega) (hnH H (Nat.le_refl _)))).trans hc
 refine ⟨hcH,(World.frozen?_of_block (w:=W) (hbk H (by omega) (hnH H (Nat.le_refl _)))).trans (h.rd.frz H hH (.inr rfl)),?_,?_,?_,?_⟩
 . intro b ob hb hob hk
   refine KeepsB.set (n0:=w1.heap.size) hcH b ob hb ?_ hk
   refine (hbk b (Array.getElem?_eq_some_iff.1 hob).1 fun e=>?_).trans hob
   obtain ⟨_,⟨rfl,_⟩ | ⟨g,cap,cur,rfl,_,hgc,_⟩⟩:=hrow
   . cases e
   . simp only [Value.ownBlock,Option.some.injEq] at e
     subst e
     rw [hgc] at hob;cases hob;cases hk
 . rw [World.cell?_setCell_far _ _ _ _ (by simp only;omega)]
   exact World.cell?_of_block (w:=W) (hbk Bv (by omega) (hnH Bv (by omega)))
 . refine Rd.set ?_ (.inl (.inr rfl)) _
   have g1:Rd (fun b=>b=Bv\/b=H) w1 (W.alloc o):=h.rd.trans (Rd.of_below (below_al1 W o))
   refine ⟨hg.os.trans g1.os,hg.tape.trans g1.tape,hg.output.trans g1.output,Nat.le_trans g1.size hg.size,fun b hb hx=>(hg.block b (by simp;omega) (fun e=>?_)).trans (g1.blk b hb hx),fun b hb hx=>(World.frozen?_of_block (w:=W.alloc o) (hg.block b (by simp;omega) (fun e=>?_))).trans (g1.frz b hb hx)⟩
   . exact hnH b (by omega) e.symm
   . exact hnH b (by omega) e.symm
 . exact ⟨_,World.cell?_setCell_same _ _ _ hcH,ownsRow_setCell_below (a:=⟨H,0,none⟩) ho (by simp only;omega) _⟩
end Go.Proofs

namespace Go.Proofs
open Go.RowKit Go.Lx Go.Md Go.Shelf Go.Rfu Go.BigFrame
set_option linter.unusedVariables false
attribute [local go_sem] Oper.semAt_some
end Go.Proofs

namespace Go.Proofs
open Go.RowKit Go.Lx Go.Md Go.Shelf Go.Rfu Go.Rgi Go.BigFrame
set_option linter.unusedVariables false
attribute [local go_sem] Oper.semAt_some
attribute [local go_sem] Oper.semAt_some
def RowIn (w:World) (v:Value) (l:List Int):Prop:=(∃ a c,v=.slice a 0 c/\l=[])\/∃ b off c,v=.slice (some ⟨b,off,none⟩) l.length c/\l.length<=c/\b<w.heap.size/\∀ j u,(nums l)[j]? = some u->w.cell? ((⟨b,off,none⟩:Addr).add j)=some u
structure CmSt (IB:Nat) (b:Int) (l:List Int) (w W:World) (B9:Nat):Prop where
 bel:Bl w W
 c4:W.cell? ⟨w.heap.size,0,none⟩=some (.pointer (some ⟨IB,0,none⟩))
 c8:W.cell? ⟨w.heap.size+1,0,none⟩=some (.int .i64 0)
 f8:W.frozen? ⟨w.heap.size+1,0,none⟩=false
 lo:w.heap.size+1+1<=B9
 row:∃ v9,W.cell? ⟨B9,0,none⟩=some v9/\W.ownsRow (w.heap.size+1+1) 3 1 v9 (b :: l).length (nums (b :: l))
theorem ownsRow_keep {N T n:Nat} {w w':World} {v:Value} {xs:List Value} (h:w.ownsRow N T 1 v n xs) (g:Bl w w'):w'.ownsRow N T 1 v n xs:=by
 refine ⟨h.1,?_⟩
 rcases h.2 with h2 | ⟨b,cap,cur,e,hb,hg,r⟩
 . exact .inl h2
 . exact .inr ⟨b,cap,cur,e,hb,(g.block b (Array.getElem?_eq_some_iff.1 hg).1).trans hg,r⟩
theorem CmSt.made {IB:Nat} {b:Int} {l:List Int} {w w3 w1:World} {o:Obj} {v9:Value} (hB:Bl w w3) (c4:w3.cell? ⟨w.heap.size,0,none⟩=some (.pointer (some ⟨IB,0,none⟩))) (c8:w3.cell? ⟨w.heap.size+1,0,none⟩=some (.int .i64 0)) (f8:w3.frozen? ⟨w.heap.size+1,0,none⟩=false) (hz:w3.heap.size=w.heap.size+1+1)
   (hg:(w3.alloc o).grownBy w1 (some w3.heap.size)) (ho:w1.ownsRow (w.heap.size+1+1) 3 1 v9 (b :: l).length (nums (b :: l))):CmSt IB b l w (w1.alloc (.cells #[v9] 95)) w1.heap.size:=by
 have h1:Bl w3 w1:=((Below.refl _ w3).alloc (Nat.le_refl _) o).grown hg (by simp) (fun k e=>by injection e with e;omega)
 have h2:Bl w3 (w1.alloc (.cells #[v9] 95)):=h1.alloc h1.size _
 exact ⟨hB.trans (h2.mono hB.size),(h2.cell (p:=⟨w.heap.size,0,none⟩) (by simp only;omega)).trans c4,(h2.cell (p:=⟨w.heap.size+1,0,none⟩) (by simp only;omega)).trans c8,(h2.frozen (p:=⟨w.heap.size+1,0,none⟩) (by simp only;omega)).trans f8,by have:=h1.size;omega,v9,by simp,ho.alloc _⟩
end Go.Proofs

namespace Go.Proofs
open Go.RowKit Go.Lx Go.Md Go.Shelf Go.BigFrame
set_option linter.unusedVariables false
theorem addr_add (b off j:Nat):(⟨b,off,none⟩:Addr).add j=⟨b,off+j,none⟩:=by
 unfold Addr.add;split <;> simp_all
theorem RowIn.below {w w':World} {v:Value} {l:List Int} (h:RowIn w v l) (g:Bl w w'):RowIn w' v l:=by
 rcases h with h | ⟨b,off,c,e,hc,hb,hcs⟩
 . exact .inl h
 . refine .inr ⟨b,off,c,e,hc,Nat.lt_of_lt_of_le hb g.size,fun j u hj=>?_⟩
   rw [addr_add]
   have:=hcs j u hj
   rw [addr_add] at this
   exact (g.cell (p:=⟨b,off+j,none⟩) hb).trans this
theorem RowIn.own {N:Nat} {w:World} {v:Value} {l:List Int} (h:w.ownsRow N 3 1 v l.length (nums l)):RowIn w v l:=by
 have hc:=fun g hg=>World.ownsRow.cells h (g:=g) hg
 rcases h.2 with ⟨e,h0⟩ | ⟨g,cap,cur,e,hN,hg,hcap,_⟩
 . exact .inl ⟨none,0,by rw [e],List.eq_nil_of_length_eq_zero h0⟩
 . exact .inr ⟨g,0,cap,e,hcap,(Array.getElem?_eq_some_iff.1 hg).1,hc g (by rw [e];rfl)⟩
theorem RowIn.len {w:World} {v:Value} {l:List Int} (h:RowIn w v l):∃ a c,v=.slice a l.length c/\l.length<=c/\∀ k (hk:k<l.length),∃ b off,a=some ⟨b,off,none⟩/\b<w.heap.size/\w.cell? ⟨b,off+k,none⟩=some (.int .i64 l[k]):=by
 rcases h with ⟨a,c,rfl,rfl⟩ | ⟨b,off,c,rfl,hc,hb,hcs⟩
 . exact ⟨a,c,rfl,Nat.zero_le _,fun k hk=>absurd hk (by simp)⟩
 . refine ⟨_,c,rfl,hc,fun k hk=>⟨b,off,rfl,hb,?_⟩⟩
   have:=hcs k (.int .i64 l[k]) (by simp [nums,hk])
   rwa [addr_add] at this
end Go.Proofs
