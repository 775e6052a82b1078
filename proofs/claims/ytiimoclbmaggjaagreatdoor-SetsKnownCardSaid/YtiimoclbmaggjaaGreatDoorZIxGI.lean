/- What the index tells: plain. -/
import Derived.Test.YtiimoclbmaggjaaGreatDoorZIxSE
import Derived.Deep.Onto
import Derived.Laws.OwnMore
import Derived.Maps.AppendAt
import Derived.RangeFuncBox
import Derived.BigRegion
import Derived.Deep.QuietTactic
import Derived.BigQuiet
namespace Go.Md
open Go.RowKit Go.Lx Go.Proofs
open Lib(hid)
open Go.Proofs.Tryz
set_option maxRecDepth 100000
set_option maxHeartbeats 0
set_option linter.unusedVariables false
theorem zbX (m:MdlD):∀ (f:Nat) (v:Int),upL m f v=(List.range (dpM m f v)).map (fun k=>upN m k v)
 | 0,_=>rfl
 | f+1,v=>by
   unfold upL dpM
   by_cases h:v<0
   . rw [if_pos h,if_pos h];rfl
   . rw [if_neg h,if_neg h,zbX m f (arM m v),List.range_succ_eq_map,List.map_cons,List.map_map]
     rfl
def upsM (m:MdlD) (v:Int):List Int:=upL m 66 v
def lenM (m:MdlD) (v:Int):Nat:=dpM m 66 v
theorem yJ (m:MdlD) (v:Int):upsM m v=(List.range (lenM m v)).map (fun k=>upN m k v):=zbX m 66 v
theorem yV (m:MdlD) (v:Int):(upsM m v).length=lenM m v:=by rw [yJ];simp
theorem jS (m:MdlD) (v:Int) {k:Nat} (h:k<lenM m v):(upsM m v)[k]'(by rw [yV];exact h)=upN m k v:=by
 simp [yJ]
theorem zcE {m:MdlD} {v:Int} {f:Int->Bool} {k:Nat} (hk:k<lenM m v) (hno:∀ j,j<k->f (upN m j v)=false) (h:f (upN m k v)=true):(upsM m v).find? f=some (upN m k v):=by
 rw [List.find?_eq_some_iff_getElem];refine ⟨h,k,by rw [yV];exact hk,jS m v hk,fun j hj=>?_⟩;rw [jS m v (by omega),hno j hj];rfl
theorem zbl {m:MdlD} {v:Int} {f:Int->Bool} (hno:∀ j,j<lenM m v->f (upN m j v)=false):(upsM m v).find? f=none:=by
 rw [List.find?_eq_none];intro x hx;rw [yJ,List.mem_map] at hx;obtain ⟨j,hj,rfl⟩:=hx;rw [List.mem_range] at hj;rw [hno j hj];simp
def hasV (m:MdlD) (v:Int):Bool:=decide (0<=v) && decide (v<m.zc.length)
def hasR (m:MdlD) (r:Int):Bool:=decide (0<=r) && decide (r<m.zb.length)
def parM (m:MdlD) (v:Int):Int:=if hasV m v then arM m v else -1
def homeM (m:MdlD) (v:Int):Int:=if hasV m v then rgM m v else -1
def depM' (m:MdlD) (v:Int):Int:=if hasV m v then deM m v else -1
def chainM (m:MdlD) (v:Int):List Int:=if hasV m v then (upsM m (arM m v)).reverse else []
def underM (m:MdlD) (v s:Int):Bool:=hasV m v && hasV m s && stM m s && ((upsM m (arM m v)).find? (fun p=>p == s)).isSome
def inM (m:MdlD) (v r:Int):Bool:=hasV m v && ((upsM m v).find? (fun p=>rgM m p == r)).isSome
def commonM (m:MdlD) (a:Int) (all:List Int):Int:=if hasV m a then (match (upsM m a).find? (fun p=>all.all fun v=>inM m v (rgM m p)) with | some p=>rgM m p | none=>-1) else -1
def ptM (m:MdlD) (p:Int):Bool:=match m.zc[p.toNat]? with | some x=>decide (0<=x.ofv) | none=>false
theorem yw {m:MdlD} (h0:riM m=(0,0,0)) {v:Int} (hv:v<m.zc.length) (hd:lenM m v<66) :
   upN m (lenM m v) v<0/\∀ k,k<lenM m v->∃ j:Nat,upN m k v=j/\j<m.zc.length/\arM m j=upN m (k+1) v:=by
 obtain ⟨h1,h2⟩:=dp_up m 66 v hd;refine ⟨h1,fun k hk=>?_⟩
 have hlt:∀ k,k<lenM m v->upN m k v<m.zc.length:=fun k=>by
   induction k with
   | zero=>intro _;exact hv
   | succ k ih =>
    intro hk;rw [ye];obtain ⟨j,hj⟩:=Int.eq_ofNat_of_zero_le (h2 k (by unfold lenM at hk;omega));have:=ih (by omega);rw [hj] at this |-;exact Go.Proofs.arM_lt h0 (by omega)
 obtain ⟨j,hj⟩:=Int.eq_ofNat_of_zero_le (h2 k hk);have hjl:=hlt k hk;rw [hj] at hjl;exact ⟨j,hj,by omega,by rw [ye,hj]⟩
theorem zai (m:MdlD):∀ (f:Nat) (v:Int) (g:Nat),dpM m f v<f->f<=g->dpM m g v=dpM m f v
 | 0,_,_,h,_=>by omega
 | f+1,v,g,h,hg=>by
   obtain ⟨g,rfl⟩:∃ g',g=g'+1:=⟨g - 1,by omega⟩;unfold dpM at h |-
   by_cases hv:v<0
   . rw [if_pos hv,if_pos hv]
   . rw [if_neg hv] at h
     rw [if_neg hv,if_neg hv,zai m f (arM m v) g (by omega) (by omega)]
theorem yp {m:MdlD} (h0:riM m=(0,0,0)) {k:Nat} (hk:k<m.zc.length):lenM m (arM m k)=deM m k/\lenM m (arM m k)<=64/\arM m k<m.zc.length:=by
 have hd:=zO h0 hk;have e:lenM m (arM m k)=deM m k:=zai m 65 (arM m k) 66 (by unfold deM at hd;omega) (by omega);exact ⟨e,by omega,Go.Proofs.arM_lt h0 hk⟩
theorem zR {m:MdlD} (h0:riM m=(0,0,0)) {k:Nat} (hk:k<m.zc.length):lenM m (k:Int)=deM m k+1/\lenM m (k:Int)<66:=by
 have hd:=zO h0 hk
 have e:lenM m (k:Int)=deM m k+1:=by
   unfold lenM deM
   show (if (k:Int)<0 then 0 else dpM m 65 (arM m k)+1)=_
   rw [if_neg (by omega)]
 exact ⟨e,by omega⟩
theorem jH {m:MdlD} (h0:riM m=(0,0,0)) {k:Nat} (hk:k<m.zc.length):(chainM m k).length=deM m k:=by
 have hin:hasV m (k:Int)=true:=by simp [hasV];omega
 unfold chainM;rw [if_pos hin,List.length_reverse,yV,(yp h0 hk).1]
end Go.Md

namespace Go.Proofs
open Go.RowKit Go.Lx Go.Md Go.Shelf Go.Rfu
open Lib(hid)
open Go.Proofs.Tryz
set_option maxRecDepth 100000
set_option maxHeartbeats 0
set_option linter.unusedVariables false
theorem FM_out (m:MdlD) (k:Int):FM m (.out,k)=outM m k:=by
 show sel _ (m.ze.take m.ze.length)=_;rw [List.take_length];rfl
theorem FM_into (m:MdlD) (k:Int):FM m (.into,k)=intoM m k:=by
 show sel _ (m.ze.take m.ze.length)=_;rw [List.take_length];rfl
theorem IdxAt.i0 {B:Nat} {m:MdlD} {IB:Nat} {w:World} (h:IdxAt B m IB w):∃ PB,w.cell? ⟨IB,0,none⟩=some (.slice (some ⟨PB,0,none⟩) m.zc.length m.zc.length)/\∀ k,k<m.zc.length->w.cell? ⟨PB,k * 7,none⟩=some (.int .i64 (arM m k))/\w.cell? ⟨PB,k * 7+1,none⟩=some (.int .i64 (rgM m k))/\w.cell? ⟨PB,k * 7+2,none⟩=some (.int .i64 (deM m k))/\w.cell? ⟨PB,k * 7+3,none⟩=some (.bool (Md.stM m k))/\w.cell? ⟨PB,k * 7+4,none⟩=some (.bool (ptM m k)) /\
   ∃ vo vi,w.cell? ⟨PB,k * 7+5,none⟩=some vo/\w.cell? ⟨PB,k * 7+6,none⟩=some vi/\w.ownsRow B 3 1 vo (outM m k).length (nums (outM m k))/\w.ownsRow B 3 1 vi (intoM m k).length (nums (intoM m k)):=by
 obtain ⟨W,N1,PB,KB,MO,MP,XB,cp,V,hB,hN,D,hs⟩:=h;refine ⟨PB,hs.idx.1,fun k hk=>?_⟩;have q:=hs.pl k hk
 have e:plF m k=⟨arM m k,rgM m k,deM m k,m.zc[k].kd == 1,decide (0<=m.zc[k].ofv)⟩:=by
   unfold plF plM;rw [List.getElem?_eq_getElem hk]
 have est:Md.stM m (k:Int)=(m.zc[k].kd == 1):=by
   unfold Md.stM;rw [Int.toNat_natCast,List.getElem?_eq_getElem hk];simp
 have ept:ptM m (k:Int)=decide (0<=m.zc[k].ofv):=by
   unfold ptM;rw [Int.toNat_natCast,List.getElem?_eq_getElem hk]
 rw [e] at q;refine ⟨q.c0,q.c1,q.c2,by rw [est];exact q.c3,by rw [ept];exact q.c4,_,_,q.c5,q.c6,?_,?_⟩
 . rw [<- FM_out];exact (hs.rw.own (.out,(k:Int))).mono (Nat.le_trans hB hN)
 . rw [<- FM_into];exact (hs.rw.own (.into,(k:Int))).mono (Nat.le_trans hB hN)
theorem IdxAt.i1 {B:Nat} {m:MdlD} {IB:Nat} {w:World} (h:IdxAt B m IB w):∃ KB,w.cell? ⟨IB,1,none⟩=some (.slice (some ⟨KB,0,none⟩) m.zb.length m.zb.length)/\∀ r:Nat,r<m.zb.length->∃ v,w.cell? ⟨KB,r,none⟩=some v/\w.ownsRow B 3 1 v (kidsM m r).length (nums (kidsM m r)):=by
 obtain ⟨W,N1,PB,KB,MO,MP,XB,cp,V,hB,hN,D,hs⟩:=h;exact ⟨KB,hs.idx.2.1,fun r hr=>⟨_,hs.kd r hr,(hs.rw.own (.kid,(r:Int))).mono (Nat.le_trans hB hN)⟩⟩
theorem IdxAt.i2 {B:Nat} {m:MdlD} {IB:Nat} {w:World} (h:IdxAt B m IB w) {s:Int} (hs:(Lit.int .i64 s).wf=true):∃ M v,w.cell? ⟨IB,2,none⟩=some (.map (some M))/\(Instr.lookup 111 (.map (some M)) (.int .i64 s) false).run prog w=.ok v w/\w.ownsRow B 3 1 v (ownM m s).length (nums (ownM m s)):=by
 obtain ⟨W,N1,PB,KB,MO,MP,XB,cp,V,hB,hN,D,hst⟩:=h;exact ⟨MO,_,hst.idx.2.2.1,hst.mo.look hs,(hst.rw.own (.own,s)).mono (Nat.le_trans hB hN)⟩
theorem IdxAt.i3 {B:Nat} {m:MdlD} {IB:Nat} {w:World} (h:IdxAt B m IB w) {s:Int} (hs:(Lit.int .i64 s).wf=true):∃ M v,w.cell? ⟨IB,3,none⟩=some (.map (some M))/\(Instr.lookup 111 (.map (some M)) (.int .i64 s) false).run prog w=.ok v w/\w.ownsRow B 3 1 v (pntM m s).length (nums (pntM m s)):=by
 obtain ⟨W,N1,PB,KB,MO,MP,XB,cp,V,hB,hN,D,hst⟩:=h;exact ⟨MP,_,hst.idx.2.2.2,hst.mp.look hs,(hst.rw.own (.pnt,s)).mono (Nat.le_trans hB hN)⟩
def RowP (l:List Int) (w:World) (e:Ending) (w':World):Prop:=∃ v',e=.returned v'/\w'.ownsRow w.heap.size 3 1 v' l.length (nums l)/\Bl w w'
theorem cloneRow {N:Nat} {l:List Int} {v:Value} {w:World} (h:w.ownsRow N 3 1 v l.length (nums l)) (hl:l.length<=100000):Calls prog 73 #[v] w (RowP l w):=by
 obtain ⟨hx,h2⟩:=h
 rcases h2 with ⟨rfl,h0⟩ | ⟨g,cap,cur,rfl,hN,hg,hc,hm,hs,ht⟩
 . refine (jP _ _ w).mono ?_
   rintro e w' ⟨rfl,rfl⟩;refine ⟨_,rfl,?_,Below.refl _ _⟩;rw [h0];obtain rfl:l=[]:=List.eq_nil_of_length_eq_zero h0;exact World.ownsRow_nil _ _ _ _
 . refine (jA ⟨g,0,none⟩ l.length cap (nums l) w (by simp) (by omega) (fun j u hj=>?_) (fun u hu=>?_)).mono ?_
   . have hlt:=(List.getElem?_eq_some_iff.1 hj).1
     have:=World.ownsRow.cells (w:=w) (base:=N) (e:=3) (size:=1) (v:=.slice (some ⟨g,0,none⟩) l.length cap) (n:=l.length) (xs:=nums l) ⟨hx,.inr ⟨g,cap,cur,rfl,hN,hg,hc,hm,hs,ht⟩⟩ rfl j u hj;exact this
   . simp only [nums,List.mem_map] at hu
     obtain ⟨x,_,rfl⟩:=hu
     rfl
   . rintro e w' ⟨v',rfl,ho,hb⟩
     exact ⟨v',rfl,ho,hb⟩
section
variable {B:Nat} {m:MdlD} {IB:Nat} {w:World}
theorem qe (h:IdxAt B m IB w) (v:Int):Calls prog 92 #[.pointer (some ⟨IB,0,none⟩),.int .i64 v] w fun e w'=>e=.returned (.bool (hasV m v))/\w=w':=by
 obtain ⟨PB,e1,_⟩:=h.i0;clear h;unfold hasV
 by_cases h1:0<=v
 . have d1:decide (0<=v)=true:=by simpa using h1
   by_cases h2:v<m.zc.length
   . have d2:decide (v<(m.zc.length:Int))=true:=by simpa using h2
     rw [d1,d2];go_enter func92,ntmps92
     go_wp2
     go_ret;exact ⟨rfl,rfl⟩
   . have d2:decide (v<(m.zc.length:Int))=false:=by simpa using h2
     rw [d1,d2];go_enter func92,ntmps92
     go_wp2
     go_ret;exact ⟨rfl,rfl⟩
 . have d1:decide (0<=v)=false:=by simpa using h1
   rw [d1];go_enter func92,ntmps92
   go_wp2
   go_ret;exact ⟨rfl,rfl⟩
theorem zZ {v:Int} (h:hasV m v=true):∃ k:Nat,v=k/\k<m.zc.length:=by
 unfold hasV at h;simp only [Bool.and_eq_true,decide_eq_true_eq] at h;exact ⟨v.toNat,by omega,by omega⟩
theorem jf {v:Int} (h:hasR m v=true):∃ k:Nat,v=k/\k<m.zb.length:=by
 unfold hasR at h;simp only [Bool.and_eq_true,decide_eq_true_eq] at h;exact ⟨v.toNat,by omega,by omega⟩
theorem zaj (h:IdxAt B m IB w) (v:Int) (hw:(Lit.int .i64 v).wf=true):Calls prog 22 #[.pointer (some ⟨IB,0,none⟩),.int .i64 v] w fun e w'=>e=.returned (.int .i64 (parM m v))/\w=w':=by
 obtain ⟨PB,e1,q⟩:=h.i0;have HT:=hid (qe h v);clear h
 cases hv:hasV m v with
 | false =>
  have hp:parM m v=-1:=by unfold parM;rw [hv];rfl
  rw [hp];rw [hv] at HT;clear q e1 hv hp;go_enter func22,ntmps22;go_wp2_with ((with_reducible refine (HT.o).mono ?_);rintro e w' ⟨rfl,rfl⟩);go_ret;exact ⟨rfl,rfl⟩
 | true =>
  obtain ⟨k,rfl,hk⟩:=zZ hv;obtain ⟨c0,c1,c2,c3,c4,vo,vi,c5,c6,_,_⟩:=q k hk;have hp:parM m k=arM m k:=by unfold parM;rw [hv];rfl
  rw [hp];rw [hv] at HT;have h1:(0:Int)<=(k:Int):=by omega
  have h2:(k:Int)<(m.zc.length:Int):=by omega
  clear q hv hp hk c3 c4 c5 c6;go_enter func22,ntmps22;go_wp2_with ((with_reducible refine (HT.o).mono ?_);rintro e w' ⟨rfl,rfl⟩);go_ret;exact ⟨rfl,rfl⟩
theorem jT (h:IdxAt B m IB w) (v:Int) (hw:(Lit.int .i64 v).wf=true):Calls prog 23 #[.pointer (some ⟨IB,0,none⟩),.int .i64 v] w fun e w'=>e=.returned (.int .i64 (homeM m v))/\w=w':=by
 obtain ⟨PB,e1,q⟩:=h.i0;have HT:=hid (qe h v);clear h
 cases hv:hasV m v with
 | false =>
  have hp:homeM m v=-1:=by unfold homeM;rw [hv];rfl
  rw [hp];rw [hv] at HT;clear q e1 hv hp;go_enter func23,ntmps23;go_wp2_with ((with_reducible refine (HT.o).mono ?_);rintro e w' ⟨rfl,rfl⟩);go_ret;exact ⟨rfl,rfl⟩
 | true =>
  obtain ⟨k,rfl,hk⟩:=zZ hv;obtain ⟨c0,c1,c2,c3,c4,vo,vi,c5,c6,_,_⟩:=q k hk;have hp:homeM m k=rgM m k:=by unfold homeM;rw [hv];rfl
  rw [hp];rw [hv] at HT;have h1:(0:Int)<=(k:Int):=by omega
  have h2:(k:Int)<(m.zc.length:Int):=by omega
  clear q hv hp hk c3 c4 c5 c6;go_enter func23,ntmps23;go_wp2_with ((with_reducible refine (HT.o).mono ?_);rintro e w' ⟨rfl,rfl⟩);go_ret;exact ⟨rfl,rfl⟩
theorem jg (h:IdxAt B m IB w) (v:Int) (hw:(Lit.int .i64 v).wf=true) (hl:(m.zb).length<=100000):Calls prog 31 #[.pointer (some ⟨IB,0,none⟩),.int .i64 v] w (RowP (ownM m v) w):=by
 obtain ⟨M,vo,e1,e2,r0⟩:=h.i2 hw;have HC:Hid (Calls prog 73 #[vo] w (RowP (ownM m v) w)):=cloneRow r0 (by have:=zV (isOwn v) (m.zb);have e:(ownM m v).length<=(m.zb).length:=this;omega);clear h r0 hw;go_enter func31,ntmps31;go_wp2_with ((with_reducible refine (HC.o).mono ?_);rintro e w' ⟨v',rfl,ho,hb⟩);go_ret;exact ⟨v',rfl,ho,hb⟩
end
attribute [local go_sem] Oper.semAt_some
structure Rd (X:Nat->Prop) (w W:World):Prop where
 os:W.os=w.os
 tape:W.tape=w.tape
 output:W.output=w.output
 size:w.heap.size<=W.heap.size
 blk:∀ b,b<w.heap.size->¬ X b->W.heap[b]? = w.heap[b]?
 frz:∀ b,b<w.heap.size->X b->W.frozen? ⟨b,0,none⟩=w.frozen? ⟨b,0,none⟩
theorem Rd.refl (X:Nat->Prop) (w:World):Rd X w w:=⟨rfl,rfl,rfl,Nat.le_refl _,fun _ _ _=>rfl,fun _ _ _=>rfl⟩
theorem Rd.of_below {X:Nat->Prop} {w W:World} (h:Bl w W):Rd X w W:=⟨h.os,h.tape,h.output,h.size,fun b hb _=>h.block b hb,fun b hb _=>h.frozen (p:=⟨b,0,none⟩) hb⟩
theorem Rd.trans {X:Nat->Prop} {a b c:World} (h:Rd X a b) (k:Rd X b c):Rd X a c :=
 ⟨k.os.trans h.os,k.tape.trans h.tape,k.output.trans h.output,Nat.le_trans h.size k.size,fun i hi hx=>(k.blk i (Nat.lt_of_lt_of_le hi h.size) hx).trans (h.blk i hi hx),fun i hi hx=>(k.frz i (Nat.lt_of_lt_of_le hi h.size) hx).trans (h.frz i hi hx)⟩
theorem Rd.weaken {X Y:Nat->Prop} {a b:World} (h:Rd X a b) (hxy:∀ i,X i->Y i):Rd Y a b :=
 ⟨h.os,h.tape,h.output,h.size,fun i hi hx=>h.blk i hi fun hx'=>hx (hxy i hx'),fun i hi _=>by
   by_cases hx:X i
   . exact h.frz i hi hx
   . exact World.frozen?_of_block (w:=a) (h.blk i hi hx)⟩
theorem Rd.turn {X:Nat->Prop} {w W W':World} {Bv:Nat} (h:Rd X w W) (hB:X Bv) (t:Turn w.heap.size Bv W W'):Rd X w W' :=
 ⟨t.os.trans h.os,t.tape.trans h.tape,t.output.trans h.output,Nat.le_trans h.size t.size,fun b hb hx=>(t.old b hb (fun e=>hx (e ▸ hB))).trans (h.blk b hb hx),fun b hb hx=>by
   by_cases e:b=Bv
   . subst e;exact (t.fv hb).trans (h.frz b hb hx)
   . exact (World.frozen?_of_block (w:=W) (t.old b hb e)).trans (h.frz b hb hx)⟩
theorem Rd.zf {X:Nat->Prop} {w W:World} (h:Rd X w W) {B:Nat} (hB:B<=w.heap.size) (hx:∀ b,X b->B<=b):Below B w W :=
 ⟨h.os,h.tape,h.output,h.size,fun b hb=>h.blk b (Nat.lt_of_lt_of_le hb hB) fun h'=>by have:=hx b h';omega⟩
theorem Rd.set {X:Nat->Prop} {w W:World} (h:Rd X w W) {b k:Nat} (hX:X b\/w.heap.size<=b) (u:Value):Rd X w (W.setCell ⟨b,k,none⟩ u) :=
 ⟨h.os,h.tape,h.output,by simpa using h.size,fun i hi hx=>(Below.heap_setCell W ⟨b,k,none⟩ u i (fun e=>by
     rcases hX with hX | hX
     . exact hx (by simp only at e;rw [e];exact hX)
     . simp only at e;omega)).trans (h.blk i hi hx),fun i hi hx=>by rw [World.frozen?_setCell];exact h.frz i hi hx⟩
theorem Rd.grown {X:Nat->Prop} {w W W':World} {row:Option Nat} (h:Rd X w W) (g:W.grownBy W' row) (hr:∀ k,row=some k->w.heap.size<=k):Rd X w W':=by
 have hb:Below w.heap.size W W':=(Below.refl _ W).grown g h.size hr;exact ⟨hb.os.trans h.os,hb.tape.trans h.tape,hb.output.trans h.output,Nat.le_trans h.size hb.size,fun i hi hx=>(hb.block i hi).trans (h.blk i hi hx),fun i hi hx=>(hb.frozen (p:=⟨i,0,none⟩) hi).trans (h.frz i hi hx)⟩
theorem Rd.bel {X:Nat->Prop} {w W W':World} (h:Rd X w W) (g:Below w.heap.size W W'):Rd X w W' :=
 ⟨g.os.trans h.os,g.tape.trans h.tape,g.output.trans h.output,Nat.le_trans h.size g.size,fun b hb hx=>(g.block b hb).trans (h.blk b hb hx),fun b hb hx=>(g.frozen (p:=⟨b,0,none⟩) hb).trans (h.frz b hb hx)⟩
theorem Rd.back {w w1 W:World} {Bv H:Nat} (h:Rd (fun b=>b=Bv\/b=H) w1 W) (g:Bl w w1) (hH:w.heap.size<=H):Rd (fun b=>b=Bv) w W :=
 ⟨h.os.trans g.os,h.tape.trans g.tape,h.output.trans g.output,Nat.le_trans g.size h.size,fun b hb hx=>(h.blk b (Nat.lt_of_lt_of_le hb g.size) (by omega)).trans (g.block b hb),fun b hb hx=>(h.frz b (Nat.lt_of_lt_of_le hb g.size) (.inl hx)).trans (g.frozen (p:=⟨b,0,none⟩) hb)⟩
theorem yM {n0 D:Nat} {W:World} (h:W.heap[D]? = some (.deferred (some []))) (hl:n0<=D):Marked n0 [D] W:=⟨by simp,fun x hx=>by simp only [List.mem_singleton] at hx;omega,fun x hx=>by simp only [List.mem_singleton] at hx;rw [hx];exact h⟩
theorem jU {n0 N T n:Nat} {W:World} {ds:List Nat} {v:Value} {xs:List Value} (h:W.ownsRow N T 1 v n xs) (hM:Marked n0 ds W):(Rfu.shut ds W).ownsRow N T 1 v n xs:=by
 refine ⟨h.1,?_⟩
 rcases h.2 with h2 | ⟨g,cap,cur,e,hb,hg,r⟩
 . exact .inl h2
 . exact .inr ⟨g,cap,cur,e,hb,zbo hM hg rfl,r⟩
theorem Rd.cell {X:Nat->Prop} {w W:World} (h:Rd X w W) {b k:Nat} (hb:b<w.heap.size) (hx:¬ X b):W.cell? ⟨b,k,none⟩=w.cell? ⟨b,k,none⟩:=World.cell?_of_block (w:=w) (h.blk b hb hx)
structure UpW (m:MdlD) (IB:Nat) (v:Int) (Bv Bx:Nat) (w0 w:World):Prop where
 idx:∃ B,IdxAt B m IB w0
 bel:Bl w0 w
 lv:w0.heap.size<=Bv/\Bv<w.heap.size
 lx:w0.heap.size<=Bx/\Bx<w.heap.size
 ne:Bx≠Bv
 hx:w.cell? ⟨Bx,0,none⟩=some (.pointer (some ⟨IB,0,none⟩))
 hv:w.cell? ⟨Bv,0,none⟩=some (.int .i64 v)
 fv:w.frozen? ⟨Bv,0,none⟩=false
 h0:riM m=(0,0,0)
 vl:v<m.zc.length
 vd:lenM m v<66
theorem UpW.at {m:MdlD} {IB:Nat} {v:Int} {Bv Bx:Nat} {w0 w:World} (h:UpW m IB v Bv Bx w0 w):∃ PB,∀ (X:Nat->Prop) W,Rd X w W->(∀ b,X b->w0.heap.size<=b)->X Bv->¬ X Bx->UpAt (fun k=>upN m k v) (lenM m v) Bv Bx IB PB 0 m.zc.length m.zc.length W:=by
 obtain ⟨B,hi⟩:=h.idx;obtain ⟨PB,e1,q⟩:=hi.i0;refine ⟨PB,fun X W hr hlo hv hx=>?_⟩;have hb:Bl w0 W:=h.bel.trans (hr.zf h.bel.size hlo);have hIB:IB<w0.heap.size:=World.block_lt_of_cell? w0 _ e1;refine ⟨(hr.cell h.lx.2 hx).trans h.hx,(hb.cell (p:=⟨IB,0,none⟩) hIB).trans e1,fun k hk=>?_,(hr.frz Bv h.lv.2 hv).trans h.fv⟩;obtain ⟨j,h1,h2,h3⟩:=(yw h.h0 h.vl h.vd).2 k hk;have c0:=(q j h2).1;have hPB:PB<w0.heap.size:=World.block_lt_of_cell? w0 _ c0;refine ⟨j,h1,h2,?_⟩;rw [Nat.zero_add,(hb.cell (p:=⟨PB,j * 7,none⟩) hPB),c0,h3]
theorem UpW.end_ {m:MdlD} {IB:Nat} {v:Int} {Bv Bx:Nat} {w0 w:World} (h:UpW m IB v Bv Bx w0 w):upN m (lenM m v) v<0:=(yw h.h0 h.vl h.vd).1
theorem UpW.rd {m:MdlD} {IB:Nat} {v:Int} {Bv Bx:Nat} {w0 w w':World} (h:UpW m IB v Bv Bx w0 w) (g:Bl w w'):UpW m IB v Bv Bx w0 w' :=
 ⟨h.idx,h.bel.trans (g.mono h.bel.size),⟨h.lv.1,Nat.lt_of_lt_of_le h.lv.2 g.size⟩,⟨h.lx.1,Nat.lt_of_lt_of_le h.lx.2 g.size⟩,h.ne,(g.cell (p:=⟨Bx,0,none⟩) h.lx.2).trans h.hx,(g.cell (p:=⟨Bv,0,none⟩) h.lv.2).trans h.hv,(g.frozen (p:=⟨Bv,0,none⟩) h.lv.2).trans h.fv,h.h0,h.vl,h.vd⟩
structure ApSt (m:MdlD) (v:Int) (Bv:Nat) (w1:World) (H:Nat) (k:Nat) (W:World):Prop where
 rd:Rd (fun b=>b=Bv\/b=H) w1 W
 row:∃ v',W.cell? ⟨H,0,none⟩=some v'/\W.ownsRow (H+1) 3 1 v' k (nums ((upsM m v).take k))
theorem ApSt.turn {m:MdlD} {v:Int} {Bv:Nat} {w1:World} {H k:Nat} {W W':World} (h:ApSt m v Bv w1 H k W) (hB:Bv<H) (hH:H<w1.heap.size) (t:Turn w1.heap.size Bv W W'):ApSt m v Bv w1 H k W':=by
 refine ⟨h.rd.turn (.inl rfl) t,?_⟩;obtain ⟨v',hc,ho⟩:=h.row;refine ⟨v',(World.cell?_of_block (w:=W) (t.old H hH (by omega))).trans hc,ho.1,?_⟩
 rcases ho.2 with h2 | ⟨g,cap,cur,e,hb,hg,r⟩
 . exact .inl h2
 . exact .inr ⟨g,cap,cur,e,hb,t.data g _ hg rfl (by omega),r⟩
theorem ApSt.push {m:MdlD} {v:Int} {Bv:Nat} {w1:World} {H k:Nat} {W w2:World} {v':Value} {o:Obj} {g2 cap2:Nat} (h:ApSt m v Bv w1 H k W) (hB:Bv<H) (hH1:w1.heap.size=H+1)
   (hc:W.cell? ⟨H,0,none⟩=some v') (hrow:W.ownsRow (H+1) 3 1 v' k (nums ((upsM m v).take k))) (hg:(W.alloc o).grownBy w2 v'.ownBlock) (ho:w2.ownsRow (H+1) 3 1 (.slice (some ⟨g2,0,none⟩) (k+1) cap2) (k+1) (nums ((upsM m v).take (k+1)))) :
   w2.cell? ⟨H,0,none⟩=some v'/\w2.frozen? ⟨H,0,none⟩=w1.frozen? ⟨H,0,none⟩/\KeepsB w1.heap.size W (w2.setCell ⟨H,0,none⟩ (.slice (some ⟨g2,0,none⟩) (k+1) cap2))/\(w2.setCell ⟨H,0,none⟩ (.slice (some ⟨g2,0,none⟩) (k+1) cap2)).cell? ⟨Bv,0,none⟩=W.cell? ⟨Bv,0,none⟩/\ApSt m v Bv w1 H (k+1) (w2.setCell ⟨H,0,none⟩ (.slice (some ⟨g2,0,none⟩) (k+1) cap2)):=by
 have hz:=h.rd.size;have hH:H<w1.heap.size:=by omega
 have hlt:=fun q hq=>hrow.lt q hq;have hbk:∀ b,b<W.heap.size->v'.ownBlock≠some b->w2.heap[b]? = W.heap[b]? := fun b hb hn=>(hg.block b (by simp;omega) (fun e=>hn e.symm)).trans (Below.heap_alloc W o b hb)
 have hnH:∀ b,b<=H->v'.ownBlock≠some b:=fun b hb e=>by have:=(hlt b e).1;omega
 have hcH:w2.cell? ⟨H,0,none⟩=some v':=(World.cell?_of_block (w:=W) (hbk H (by omega) (hnH H (Nat.le_refl _)))).trans hc;refine ⟨hcH,(World.frozen?_of_block (w:=W) (hbk H (by omega) (hnH H (Nat.le_refl _)))).trans (h.rd.frz H hH (.inr rfl)),?_,?_,?_,?_⟩
 . intro b ob hb hob hk
   refine KeepsB.set (n0:=w1.heap.size) hcH b ob hb ?_ hk;refine (hbk b (Array.getElem?_eq_some_iff.1 hob).1 fun e=>?_).trans hob;obtain ⟨_,⟨rfl,_⟩ | ⟨g,cap,cur,rfl,_,hgc,_⟩⟩:=hrow
   . cases e
   . simp only [Value.ownBlock,Option.some.injEq] at e
     subst e;rw [hgc] at hob;cases hob;cases hk
 . rw [World.cell?_setCell_far _ _ _ _ (by simp only;omega)]
   exact World.cell?_of_block (w:=W) (hbk Bv (by omega) (hnH Bv (by omega)))
 . refine Rd.set ?_ (.inl (.inr rfl)) _
   have g1:Rd (fun b=>b=Bv\/b=H) w1 (W.alloc o):=h.rd.trans (Rd.of_below (zg W o));refine ⟨hg.os.trans g1.os,hg.tape.trans g1.tape,hg.output.trans g1.output,Nat.le_trans g1.size hg.size,fun b hb hx=>(hg.block b (by simp;omega) (fun e=>?_)).trans (g1.blk b hb hx),fun b hb hx=>(World.frozen?_of_block (w:=W.alloc o) (hg.block b (by simp;omega) (fun e=>?_))).trans (g1.frz b hb hx)⟩
   . exact hnH b (by omega) e.symm
   . exact hnH b (by omega) e.symm
 . exact ⟨_,World.cell?_setCell_same _ _ _ hcH,ownsRow_setCell_below (a:=⟨H,0,none⟩) ho (by simp only;omega) _⟩
theorem jh {P:Program} {g:Operand} {p q:Tmp} {assign body:Code} {Q:Exit->Act->World->Prop} {a:Act} {w:World} {gf:Nat} {lb:Array Value} (hg:a.eval g=.func (.func gf) #[] lb) (eg:∀ args w,(callFunc gf args).run P w=.ok (.enter gf args) w)
   (U:World->Prop) (cur:Nat->Int) (n Bv:Nat) (hBv:Bv<w.heap.size)
   (hit:∀ (l:Nat) (J:Nat->World->Prop) (Jx:World->Prop) (W:World),(∀ k W,J k W->U W)->(∀ k W u,J k W->J k (W.setCell ⟨Bv,0,none⟩ u))->(∀ k W,J k W->J k W.drew) ->
     (∀ k W1,k<n->J k W1->W1.cell? ⟨Bv,0,none⟩=some (.int .i64 (cur k))->YieldAt Fence.wide 7 P l #[.int .i64 (cur k)] W1 fun e W'=>(e=.returned (.bool true)/\J (k+1) W'/\W'.cell? ⟨Bv,0,none⟩=some (.int .i64 (cur k)))\/(e=.returned (.bool false)/\Jx W')) ->
     J 0 W->W.cell? ⟨Bv,0,none⟩=some (.int .i64 (cur 0))->CallsIn Fence.wide 8 P gf (#[.func (.yield l) #[] #[]] ++ lb) W fun e W'=>(∃ v,e=.returned v)/\(J n W'\/Jx W'))
   (I:Nat->World->Prop) (Ix:World->Prop) (hU:∀ k W,I k W->U W) (hI:∀ k W W',I k W->Turn w.heap.size Bv W W'->I k W') (hIx:∀ W W',Ix W->Turn w.heap.size Bv W W'->Ix W') (h0:I 0 w) (hv0:w.cell? ⟨Bv,0,none⟩=some (.int .i64 (cur 0)))
   (hassign:∀ (l:Nat) (x:Int) (W:World) (K:Act->World->Prop),K { tmps:=(a.tmps.setIfInBounds p (.int .i64 x)).setIfInBounds q (.int .i64 x),defers:=[] } W->assign.wpIn (Fence.wide.inRound l) 7 P (Exit.then K (fun _ _ _=>False)) { tmps:=a.tmps.setIfInBounds p (.int .i64 x),defers:=[] } W)
   (hbody:∀ (l k:Nat) (W:World),k<n->I k W->W.cell? ⟨Bv,0,none⟩=some (.int .i64 (cur k))->body.wpIn (Fence.wide.inRound l) 7 P (roundQ w.heap.size Bv (cur k) (I (k+1)) Ix W) { tmps:=(a.tmps.setIfInBounds p (.int .i64 (cur k))).setIfInBounds q (.int .i64 (cur k)),defers:=[] } W)
   (hdone:∀ (D:Nat) (W:World),w.heap.size<=D->I n W->W.heap[D]? = some (.deferred (some []))->Q .normal { a with defers:={ target:=.collected D,args:=#[] } :: a.defers } W)
   (hstop:∀ (D:Nat) (W:World),w.heap.size<=D->Ix W->W.heap[D]? = some (.deferred (some []))->Q .ret { a with defers:={ target:=.collected D,args:=#[] } :: a.defers } W) :
   (Code.rangeFunc g #[p] assign body).wp P Q a w :=
 zcK hg eg rfl U cur n Bv hBv hit I Ix hU hI hIx h0 hv0 (fun x=>{ tmps:=(a.tmps.setIfInBounds p (.int .i64 x)).setIfInBounds q (.int .i64 x),defers:=[] }) (fun l x W K h=>by simpa using hassign l x W K h) hbody hdone hstop
theorem zeZ {m:MdlD} {IB:Nat} {v:Int} {Bv Bx:Nat} {w0 w:World} (U:UpW m IB v Bv Bx w0 w) :
   Calls prog 169 #[.slice none 0 0,.func (.func 170) #[] #[.pointer (some ⟨Bv,0,none⟩),.pointer (some ⟨Bx,0,none⟩)]] w fun e w'=>∃ v',e=.returned v'/\w'.ownsRow w.heap.size 3 1 v' (lenM m v) (nums (upsM m v))/\Rd (fun b=>b=Bv) w w':=by
 obtain ⟨PB,hat⟩:=U.at;have HAt:=hid hat;have HU:=hid U;have hend:=U.end_;have hlv:=U.lv;have hlx:=U.lx;have hne:=U.ne;have hvd:=U.vd;have hz0:=U.bel.size;obtain ⟨iI,hiI,zI0,zI1,zI2⟩:=info_parts zS;clear U hat;refine zG func169 rfl ?_;simp only [ntmps169,List.size_toArray,List.length_cons,List.length_nil,Nat.reduceAdd,Nat.reduceSub,Array.replicate_succ,Array.replicate_zero,List.push_toArray,List.append_toArray,List.nil_append,List.cons_append];go_wp2_with fail;have hB1:Hid (Bl w (w.alloc (.cells #[.slice none 0 0] 31))):=zg w _;have hc1:(w.alloc (.cells #[.slice none 0 0] 31)).cell? ⟨w.heap.size,0,none⟩=some (.slice none 0 0):=by simp
 have hf1:(w.alloc (.cells #[.slice none 0 0] 31)).frozen? ⟨w.heap.size,0,none⟩=false:=by simp
 have hz1:(w.alloc (.cells #[.slice none 0 0] 31)).heap.size=w.heap.size+1:=by simp
 generalize w.alloc (.cells #[.slice none 0 0] 31)=w1 at *;have HU1:=hid (HU.o.rd hB1.o);have hv1:=HU1.o.hv
 have HAt1:Hid (∀ W,Rd (fun b=>b=Bv\/b=w.heap.size) w1 W->UpAt (fun k=>upN m k v) (lenM m v) Bv Bx IB PB 0 m.zc.length m.zc.length W):=fun W hr =>
   HAt.o _ W ((Rd.of_below hB1.o).trans ⟨hr.os,hr.tape,hr.output,hr.size,hr.blk,hr.frz⟩) (by intro b hb;omega) (.inl rfl) (by omega)
 have HSt:Hid (ApSt m v Bv w1 w.heap.size 0 w1):=⟨Rd.refl _ _,_,hc1,World.ownsRow_nil _ _ _ _⟩
 refine jh (q:=5) (gf:=170) (lb:=#[.pointer (some ⟨Bv,0,none⟩),.pointer (some ⟨Bx,0,none⟩)]) rfl (fun _ _=>?eg) (UpAt (fun k=>upN m k v) (lenM m v) Bv Bx IB PB 0 m.zc.length m.zc.length) (fun k=>upN m k v) (lenM m v) Bv (by omega) ?hit (ApSt m v Bv w1 w.heap.size) (fun _=>False)
   (fun k W h=>HAt1.o W h.rd) (fun k W W' h t=>h.turn (by omega) (by omega) t) (fun _ _ h _=>h) HSt.o hv1 ?hassign ?hbody ?hdone (fun _ _ _ h _=>h.elim)
 case eg=>first | rfl | simp [go_sem]
 case hit=>exact fun l J Jx W hU hset hdrew hY hj hv=>zb8 (fun k=>upN m k v) (lenM m v) Bv Bx IB PB 0 m.zc.length m.zc.length hend l J Jx W hU hset hdrew hY hj hv
 case hassign =>
  intro l x W K hK;simp only [List.setIfInBounds_toArray,List.set_cons_succ,List.set_cons_zero] at hK |-
  gi_wp2
  exact hK
 case hbody =>
  intro l k W hk hst hv
  try dsimp only at hst hv
  obtain ⟨v',hc,hrow⟩:=hst.row;have hrd:=hst.rd;have hf:W.frozen? ⟨w.heap.size,0,none⟩=false:=(hrd.frz w.heap.size (by omega) (.inr rfl)).trans hf1;have hW:w1.heap.size<=W.heap.size:=hrd.size
  have HT:Hid (nums ((upsM m v).take (k+1))=nums ((upsM m v).take k) ++ [.int .i64 (upN m k v)]):=by
    unfold nums;rw [List.take_succ_eq_append_getElem (by rw [yV];exact hk),List.map_append,jS m v hk];rfl
  have HR:=hid hrd;have HP:Hid (∀ (o:Obj) (w2:World) (g2 cap2:Nat),(W.alloc o).grownBy w2 v'.ownBlock->w2.ownsRow (w.heap.size+1) 3 1 (.slice (some ⟨g2,0,none⟩) (k+1) cap2) (k+1) (nums ((upsM m v).take k) ++ [.int .i64 (upN m k v)])->_):=fun o w2 g2 cap2 hg ho=>hst.push (by omega) hz1 hc hrow hg (by rw [HT.o];exact ho)
  clear hst hrd hc1 hv1 hend;simp only [List.setIfInBounds_toArray,List.set_cons_succ,List.set_cons_zero]
  gi_wp2_with (gi_at_builtin;refine wpListIn_append_own _ rfl _ _ 31 rfl (w.heap.size+1) 3 iI (.int .i64 0) 1 8 underlying31 hiI zI0 zI1 zI2 rfl (by decide) _ _ _ rfl (hrow.alloc _) ⟨W.heap.size,0,none⟩ 1 1 [.int .i64 (upN m k v)] rfl rfl (cell_one_new _ _ _) (by simp [Value.oneCell']) (by unfold maxLen;omega) (by omega) (by simp;omega) ?_;intro v2 w2 hown2 hgrow2 _;obtain ⟨g2,cap2,rfl⟩:=ownsRow_succ hown2;obtain ⟨hc2,hf2,hk2,hv2,hs2⟩:=HP.o _ _ _ _ hgrow2 hown2;rw [hf1] at hf2)
  exact ⟨hk2,hv2.trans hv,hs2⟩
 case hdone =>
  intro D W hDl hst hK
  try dsimp only at hst
  obtain ⟨v',hc,hrow⟩:=hst.row;have hrd:=hst.rd;have HM:Hid (Marked w1.heap.size [D] W):=yM hK hDl;have HR:=hid hrd;have HO:=hid hrow;clear hst hrd hrow hK;go_wp2_with fail;refine yl (ds:=[D]) HM.o (v:=v') (by simp [results,results169,go_sem]) ⟨v',rfl,?_,?_⟩
  . have:=jU HO.o HM.o
    rw [List.take_of_length_le (by rw [yV];omega)] at this;exact this.mono (by omega)
  . exact (HR.o.bel (zU (HM.o.lo))).back hB1.o (by omega)
theorem zdw {m:MdlD} {IB:Nat} {v:Int} {Bv Bx:Nat} {w0 w:World} (U:UpW m IB v Bv Bx w0 w) :
   Calls prog 93 #[.func (.func 170) #[] #[.pointer (some ⟨Bv,0,none⟩),.pointer (some ⟨Bx,0,none⟩)]] w fun e w'=>∃ v',e=.returned v'/\w'.ownsRow w.heap.size 3 1 v' (lenM m v) (nums (upsM m v))/\Rd (fun b=>b=Bv) w w':=by
 have HC:=hid (zeZ U);clear U;go_enter func93,ntmps93;go_wp2_with ((with_reducible refine (HC.o).mono ?_);rintro e w' ⟨v',rfl,ho,hb⟩);go_ret;exact ⟨v',rfl,ho,hb⟩
def revK (k:Nat) (l:List Int):List Int:=(List.range l.length).map fun i=>if i<k\/l.length<=i+k then l.getD (l.length - 1 - i) 0 else l.getD i 0
theorem ji (k:Nat) (l:List Int):(revK k l).length=l.length:=by simp [revK]
theorem jq (k:Nat) (l:List Int) {i:Nat} (h:i<l.length):(revK k l)[i]? = some (if i<k\/l.length<=i+k then l.getD (l.length - 1 - i) 0 else l.getD i 0):=by
 simp [revK,h]
theorem ze0 (l:List Int):revK 0 l=l:=by
 apply List.ext_getElem?;intro i
 by_cases h:i<l.length
 . rw [jq 0 l h,if_neg (by omega),List.getD_eq_getElem?_getD,List.getElem?_eq_getElem h];rfl
 . rw [List.getElem?_eq_none (by rw [ji];omega),List.getElem?_eq_none (by omega)]
theorem ze1 {k:Nat} {l:List Int} (hk:l.length<=2 * k+1):revK k l=l.reverse:=by
 apply List.ext_getElem?;intro i
 by_cases h:i<l.length
 . rw [jq k l h,List.getElem?_reverse h]
   have hd:∀ j,j<l.length->some (l.getD j 0)=l[j]? := fun j hj=>by rw [List.getD_eq_getElem?_getD,List.getElem?_eq_getElem hj];rfl
   by_cases h2:i<k\/l.length<=i+k
   . rw [if_pos h2];exact hd _ (by omega)
   . rw [if_neg h2,show l.length - 1 - i=i by omega];exact hd _ (by omega)
 . rw [List.getElem?_eq_none (by rw [ji];omega),List.getElem?_eq_none (by simp;omega)]
theorem ze2 {k:Nat} {l:List Int} (hk:2 * k+1<l.length):revK (k+1) l=((revK k l).set k (l.getD (l.length - 1 - k) 0)).set (l.length - 1 - k) (l.getD k 0):=by
 apply List.ext_getElem?;intro i
 by_cases h:i<l.length
 . rw [jq (k+1) l h,List.getElem?_set,List.getElem?_set,jq k l h]
   simp only [List.length_set,ji]
   by_cases h1:l.length - 1 - k=i
   . rw [if_pos h1,if_pos (by omega),if_pos (by omega),show l.length - 1 - i=k by omega]
   . rw [if_neg h1]
     by_cases h2:k=i
     . rw [if_pos h2,if_pos (by omega),if_pos (by omega),h2]
     . rw [if_neg h2]
       congr 1
       by_cases h3:i<k\/l.length<=i+k
       . rw [if_pos h3,if_pos (by omega)]
       . rw [if_neg h3,if_neg (by omega)]
 . rw [List.getElem?_eq_none (by rw [ji];omega),List.getElem?_eq_none (by simp [ji];omega)]
theorem rev_swap {N:Nat} {l:List Int} {g c k q:Nat} {W:World} (h:W.ownsRow N 3 1 (.slice (some ⟨g,0,none⟩) l.length c) l.length (nums (revK k l))) (hq:k+q+1=l.length) (hk:k<q) :
   W.cell? ⟨g,k,none⟩=some (.int .i64 (l.getD k 0))/\W.cell? ⟨g,q,none⟩=some (.int .i64 (l.getD q 0))/\W.frozen? ⟨g,k,none⟩=false/\W.frozen? ⟨g,q,none⟩=false /\
   ((W.setCell ⟨g,k,none⟩ (.int .i64 (l.getD q 0))).setCell ⟨g,q,none⟩ (.int .i64 (l.getD k 0))).ownsRow N 3 1 (.slice (some ⟨g,0,none⟩) l.length c) l.length (nums (revK (k+1) l)) /\
   (N<=W.heap.size->Below N W ((W.setCell ⟨g,k,none⟩ (.int .i64 (l.getD q 0))).setCell ⟨g,q,none⟩ (.int .i64 (l.getD k 0)))):=by
 have e1:(nums (revK k l))[k]? = some (.int .i64 (l.getD k 0)):=by
   rw [List.getElem?_map,jq k l (by omega),if_neg (by omega)];rfl
 have e2:(nums (revK k l))[q]? = some (.int .i64 (l.getD q 0)):=by
   rw [List.getElem?_map,jq k l (by omega),if_neg (by omega)];rfl
 have s1:=(h.stored k (.int .i64 (l.getD q 0))).1;have s2:=(s1.stored q (.int .i64 (l.getD k 0))).1;have hg:N<=g:=(h.lt g rfl).1;refine ⟨(h.cellAt k (by omega)).trans e1,(h.cellAt q (by omega)).trans e2,h.frozenAt k,h.frozenAt q,?_,fun hN=>?_⟩
 . rw [ze2 (by omega:2 * k+1<l.length),show l.length - 1 - k=q by omega]
   simpa [nums,List.map_set] using s2
 . exact ((Below.refl N W).setCell (p:=⟨g,k,none⟩) (by simp only;omega) _).setCell (p:=⟨g,q,none⟩) (by simp only;omega) _
theorem num_eq {a b:Int} (h:a=b):Value.int .i64 a=.int .i64 b:=by rw [h]
theorem zcF {N:Nat} {l:List Int} {v:Value} {w:World} (h:w.ownsRow N 3 1 v l.length (nums l)) (hl:l.length<=100000) (hN:N<=w.heap.size) :
   Calls prog 95 #[v] w fun e w'=>e=.returned (.tuple #[])/\w'.ownsRow N 3 1 v l.length (nums l.reverse)/\Below N w w':=by
 by_cases h0:l.length=0
 . obtain rfl:l=[]:=List.eq_nil_of_length_eq_zero h0
   have hv:∃ a c,v=.slice a 0 c:=by
     rcases h.2 with ⟨e,_⟩ | ⟨g,c,_,e,_⟩
     . exact ⟨_,_,e⟩
     . exact ⟨_,_,e⟩
   obtain ⟨a,c,rfl⟩:=hv;have H:=hid h;clear h h0 hl hN;go_enter func95,ntmps95
   go_wp2
   refine wp_loop_rounds 1 ?_;rw [rounds_succ]
   go_wp2
   go_end0
   exact ⟨rfl,H.o,Below.refl _ _⟩
 . have hv:∃ g c,v=.slice (some ⟨g,0,none⟩) l.length c:=by
     rcases h.2 with ⟨e,e2⟩ | ⟨g,c,_,e,_⟩
     . omega
     . exact ⟨_,_,e⟩
   obtain ⟨g,c,rfl⟩:=hv;have H:Hid (w.ownsRow N 3 1 (.slice (some ⟨g,0,none⟩) l.length c) l.length (nums (revK 0 l))):=by rw [ze0];exact h
   have hcap:l.length<=c:=by
     rcases h.2 with ⟨e,_⟩ | ⟨g',c',_,e,_,_,hc,_⟩
     . cases e
     . simp only [Value.slice.injEq] at e;omega
   have hdone:Hid (∀ k,l.length<=2 * k+1->revK k l=l.reverse):=fun k hk=>ze1 hk;obtain ⟨n,hn⟩:=ex2 l.length;have HS:Hid (∀ (k q:Nat) (W:World),W.ownsRow N 3 1 (.slice (some ⟨g,0,none⟩) n c) n (nums (revK k l))->k+q+1=n->k<q->_):=fun k q W h1 h2 h3=>rev_swap (by rw [hn];exact h1) (by omega) h3
   rw [hn] at H hdone hcap h0 hl HS |-;have hn1:1<=n:=by omega
   clear h h0 hn;go_enter func95,ntmps95
   go_wp2
   go_loopw [2,3] (fun i j wr=>∃ k q:Nat,k+q+1=n/\i=.int .i64 k/\j=.int .i64 q/\wr.ownsRow N 3 1 (.slice (some ⟨g,0,none⟩) n c) n (nums (revK k l))/\Below N w wr/\k<=q+1) (fun i _ _=>n - (intOf i).toNat)
   case atStart=>exact ⟨0,n - 1,by omega,by go_num,num_eq (by omega),H.o,Below.refl _ _,by omega⟩
   case round =>
    obtain ⟨wo,rfl⟩:=ex1 wr;obtain ⟨k,q,hkq,rfl,rfl,ho,hb,hle⟩:=hrel;have HO:=hid ho;have HB:=hid hb;clear ho hb H
    by_cases hlt:k<q
    . obtain ⟨c1,c2,f1,f2,ho2,hb2⟩:=HS.o k q wo HO.o hkq hlt
      have hI1:(k:Int)<(q:Int):=by omega
      have hI2:(k:Int)<(n:Int):=by omega
      have hI3:(q:Int)<(n:Int):=by omega
      have hI4:(0:Int)<=(k:Int):=by omega
      have hI5:(0:Int)<=(q:Int):=by omega
      have HO2:=hid ho2;have HB2:=hid hb2;have hne:¬ (k=q):=by omega
      have hne2:¬ (q=k):=by omega
      clear ho2 hb2 HS HO
      go_wp2
      go_region
      all_goals
        go_wp2
        go_roundw
        case rel=>exact ⟨k+1,q - 1,by omega,by go_num,num_eq (by omega),HO2.o.drew,(HB.o.trans (HB2.o (Nat.le_trans hN HB.o.size))).drew,by omega⟩
        case measure=>simp [intOf] <;> omega
    . go_wp2
      go_end0
      have e:=hdone.o k (by omega);refine ⟨rfl,?_,HB.o⟩;rw [<- e];exact HO.o
theorem zak (w:World) (xp:Option Addr) (v:Int) :
   ((w.alloc (.cells #[.pointer xp] 45)).alloc (.cells #[.int .i64 v] 3)).cell? ⟨w.heap.size,0,none⟩=some (.pointer xp)/\((w.alloc (.cells #[.pointer xp] 45)).alloc (.cells #[.int .i64 v] 3)).cell? ⟨w.heap.size+1,0,none⟩=some (.int .i64 v)/\((w.alloc (.cells #[.pointer xp] 45)).alloc (.cells #[.int .i64 v] 3)).frozen? ⟨w.heap.size+1,0,none⟩=false /\
   ((w.alloc (.cells #[.pointer xp] 45)).alloc (.cells #[.int .i64 v] 3)).heap.size=w.heap.size+2:=by
 have h:=World.alloc_heap_new (w.alloc (.cells #[.pointer xp] 45)) (.cells #[.int .i64 v] 3);rw [World.size_alloc] at h;refine ⟨by simp,?_,?_,by simp⟩
 . unfold World.cell?;simp only [h];rfl
 . unfold World.frozen?;simp only [h];rfl
theorem zal {B IB:Nat} {m:MdlD} {w:World} {v:Int} (h:IdxAt B m IB w) (h0:riM m=(0,0,0)) (hv:v<m.zc.length) (hd:lenM m v<66) :
   UpW m IB v (w.heap.size+1) w.heap.size w ((w.alloc (.cells #[.pointer (some ⟨IB,0,none⟩)] 45)).alloc (.cells #[.int .i64 v] 3)):=by
 obtain ⟨h1,h2,h3,h4⟩:=zak w (some ⟨IB,0,none⟩) v;exact ⟨⟨B,h⟩,zq w _ _,⟨by omega,by omega⟩,⟨by omega,by omega⟩,by omega,h1,h2,h3,h0,hv,hd⟩
theorem ze3 {B IB:Nat} {m:MdlD} {w:World} (h:IdxAt B m IB w) (v:Int) (h0:riM m=(0,0,0)) :
   Calls prog 25 #[.pointer (some ⟨IB,0,none⟩),.int .i64 v] w (RowP (chainM m v) w):=by
 obtain ⟨PB,e1,q⟩:=h.i0;have HT:=hid (qe h v)
 cases hv:hasV m v with
 | false =>
  have hp:chainM m v=[]:=by unfold chainM;rw [hv];rfl
  rw [hp];rw [hv] at HT;clear q e1 hv hp h h0;go_enter func25,ntmps25;go_wp2_with ((with_reducible refine (HT.o).mono ?_);rintro e w' ⟨rfl,rfl⟩);go_ret;exact ⟨_,rfl,World.ownsRow_nil _ _ _ _,Below.refl _ _⟩
 | true =>
  obtain ⟨k,rfl,hk⟩:=zZ hv;obtain ⟨c0,_⟩:=q k hk;have hp:chainM m k=(upsM m (arM m k)).reverse:=by unfold chainM;rw [hv];rfl
  rw [hp];rw [hv] at HT;obtain ⟨_,hl64,hpl⟩:=yp h0 hk;have HU:=hid (zal h h0 hpl (by omega));have HC:=hid (zdw HU.o);have hlen:=yV m (arM m k)
  have HR:Hid (∀ (w':World) (v':Value),Rd (fun b=>b=w.heap.size+1) ((w.alloc (.cells #[.pointer (some ⟨IB,0,none⟩)] 45)).alloc (.cells #[.int .i64 (arM m k)] 3)) w'->w'.ownsRow ((w.alloc (.cells #[.pointer (some ⟨IB,0,none⟩)] 45)).alloc (.cells #[.int .i64 (arM m k)] 3)).heap.size 3 1 v' (lenM m (arM m k)) (nums (upsM m (arM m k))) ->
      Calls prog 95 #[v'] w' fun e w2=>e=.returned (.tuple #[])/\RowP (upsM m (arM m k)).reverse w (.returned v') w2):=by
    intro w' v' hr ho;have hbw:Bl w w':=HU.o.bel.trans (hr.zf HU.o.bel.size (fun b hb=>by omega));rw [<- hlen] at ho;refine (zcF (ho.mono (by simp;omega:w.heap.size<=_)) (by omega) hbw.size).mono ?_;rintro e w2 ⟨rfl,ho2,hb2⟩;exact ⟨rfl,v',rfl,by simpa using ho2,hbw.trans hb2⟩
  have h1:(0:Int)<=(k:Int):=by omega
  have h2:(k:Int)<(m.zc.length:Int):=by omega
  clear q hv hp hk hl64 hpl h h0 HU;go_enter func25,ntmps25;go_wp2_with (first | ((with_reducible refine (HT.o).mono ?_);rintro e w' ⟨rfl,rfl⟩) | ((with_reducible refine (zb7 _ _ _).mono ?_);rintro e w' ⟨rfl,rfl⟩) | ((with_reducible refine (HC.o).mono ?_);rintro e w3 ⟨v3,rfl,ho3,hr3⟩) | ((with_reducible refine (HR.o _ _ hr3 ho3).mono ?_);rintro e w4 ⟨rfl,h4⟩));go_ret;exact h4
end Go.Proofs

namespace Go.Proofs
open Go.RowKit Go.Lx Go.Md Go.Shelf Go.Rfu Go.BigFrame
open Lib(hid)
open Go.Proofs.Tryz
set_option maxRecDepth 100000
set_option maxHeartbeats 0
set_option linter.unusedVariables false
attribute [local go_sem] Oper.semAt_some
theorem jV {n0:Nat} (W:World) (n:Nat):KeepsB n0 W (W.drewN n):=KeepsB.of_below (below_drewN (Below.refl _ _) n)
theorem UpW.reads {m:MdlD} {IB:Nat} {v:Int} {Bv Bx:Nat} {w0 w:World} (h:UpW m IB v Bv Bx w0 w):∃ PB,∀ (X:Nat->Prop) W,Rd X w W->(∀ b,X b->w0.heap.size<=b)->W.cell? ⟨IB,0,none⟩=some (.slice (some ⟨PB,0,none⟩) m.zc.length m.zc.length)/\∀ k,k<lenM m v->∃ j:Nat,upN m k v=j/\j<m.zc.length/\W.cell? ⟨PB,j * 7,none⟩=some (.int .i64 (arM m j))/\W.cell? ⟨PB,j * 7+1,none⟩=some (.int .i64 (rgM m j))/\W.cell? ⟨PB,j * 7+4,none⟩=some (.bool (ptM m j)):=by
 obtain ⟨B,hi⟩:=h.idx;obtain ⟨PB,e1,q⟩:=hi.i0;refine ⟨PB,fun X W hr hlo=>?_⟩;have hb:Bl w0 W:=h.bel.trans (hr.zf h.bel.size hlo);have hIB:IB<w0.heap.size:=World.block_lt_of_cell? w0 _ e1;refine ⟨(hb.cell (p:=⟨IB,0,none⟩) hIB).trans e1,fun k hk=>?_⟩;obtain ⟨j,h1,h2,h3⟩:=(yw h.h0 h.vl h.vd).2 k hk;obtain ⟨c0,c1,_,_,c4,_⟩:=q j h2;have hPB:PB<w0.heap.size:=World.block_lt_of_cell? w0 _ c0;exact ⟨j,h1,h2,(hb.cell (p:=⟨PB,j * 7,none⟩) hPB).trans c0,(hb.cell (p:=⟨PB,j * 7+1,none⟩) hPB).trans c1,(hb.cell (p:=⟨PB,j * 7+4,none⟩) hPB).trans c4⟩
theorem zbY (w:World) (v0 v1 v2:Value) (T0 T1 T2:TypeId) :
   (((w.alloc (.cells #[v0] T0)).alloc (.cells #[v1] T1)).alloc (.cells #[v2] T2)).cell? ⟨w.heap.size,0,none⟩=some v0/\(((w.alloc (.cells #[v0] T0)).alloc (.cells #[v1] T1)).alloc (.cells #[v2] T2)).cell? ⟨w.heap.size+1,0,none⟩=some v1 /\
   (((w.alloc (.cells #[v0] T0)).alloc (.cells #[v1] T1)).alloc (.cells #[v2] T2)).cell? ⟨w.heap.size+1+1,0,none⟩=some v2/\(((w.alloc (.cells #[v0] T0)).alloc (.cells #[v1] T1)).alloc (.cells #[v2] T2)).frozen? ⟨w.heap.size+1+1,0,none⟩=false /\
   (((w.alloc (.cells #[v0] T0)).alloc (.cells #[v1] T1)).alloc (.cells #[v2] T2)).heap.size=w.heap.size+1+1+1:=by
 have h0:=World.alloc_heap_new w (.cells #[v0] T0);have h1:=World.alloc_heap_new (w.alloc (.cells #[v0] T0)) (.cells #[v1] T1);have h2:=World.alloc_heap_new ((w.alloc (.cells #[v0] T0)).alloc (.cells #[v1] T1)) (.cells #[v2] T2);rw [World.size_alloc] at h1;rw [World.size_alloc,World.size_alloc] at h2;have k0:(((w.alloc (.cells #[v0] T0)).alloc (.cells #[v1] T1)).alloc (.cells #[v2] T2)).heap[w.heap.size]? = some (.cells #[v0] T0):=(Below.heap_alloc _ _ _ (by simp;omega)).trans ((Below.heap_alloc _ _ _ (by simp)).trans h0);have k1:(((w.alloc (.cells #[v0] T0)).alloc (.cells #[v1] T1)).alloc (.cells #[v2] T2)).heap[w.heap.size+1]? = some (.cells #[v1] T1):=(Below.heap_alloc _ _ _ (by simp)).trans h1;refine ⟨?_,?_,?_,?_,by simp⟩
 . unfold World.cell?;simp only [k0];rfl
 . unfold World.cell?;simp only [k1];rfl
 . unfold World.cell?;simp only [h2];rfl
 . unfold World.frozen?;simp only [h2];rfl
theorem zdx {B IB:Nat} {m:MdlD} {w:World} (h:IdxAt B m IB w) (v r:Int) (h0:riM m=(0,0,0)) :
   Calls prog 27 #[.pointer (some ⟨IB,0,none⟩),.int .i64 v,.int .i64 r] w fun e w'=>e=.returned (.bool (inM m v r))/\Bl w w':=by
 have HT:=hid (fun (wx:World) (g:Bl w wx)=>qe (h.grown g) v);have HB3:Hid (Bl w (((w.alloc (.cells #[.pointer (some ⟨IB,0,none⟩)] 45)).alloc (.cells #[.int .i64 r] 3)).alloc (.cells #[.bool false] 4))):=(((Below.refl _ w).alloc (Nat.le_refl _) _).alloc (by simp) _).alloc (by simp;omega) _;obtain ⟨c3,c5,c6,f6,z3e⟩:=zbY w (.pointer (some ⟨IB,0,none⟩)) (.int .i64 r) (.bool false) 45 3 4;have Z3:=hid z3e;clear z3e
 cases hv:hasV m v with
 | false =>
  have hp:inM m v r=false:=by unfold inM;rw [hv];rfl
  rw [hp];rw [hv] at HT;clear hv hp h h0;refine zG func27 rfl ?_;simp only [ntmps27,List.size_toArray,List.length_cons,List.length_nil,Nat.reduceAdd,Nat.reduceSub,Array.replicate_succ,Array.replicate_zero,List.push_toArray,List.append_toArray,List.nil_append,List.cons_append];go_wp2_with ((with_reducible refine (HT.o _ HB3.o).mono ?_);rintro e w' ⟨rfl,rfl⟩);refine yl (ds:=[]) (n0:=0) (Marked.nil _ _) (v:=.bool false) ?_ ⟨rfl,HB3.o⟩
  simp [results,results27,go_sem,Rfu.shut]
 | true =>
  obtain ⟨k0,rfl,hk0⟩:=zZ hv;have HD:Hid (∀ b,inM m (k0:Int) r=b↔((upsM m (k0:Int)).find? (fun p=>rgM m p == r)).isSome=b):=fun b=>by unfold inM;rw [hv];simp
  rw [hv] at HT;have hl:=zR h0 hk0;have HU:=hid (fun (wx:World) (g:Bl w wx)=>zal (h.grown g) h0 (v:=(k0:Int)) (by omega) hl.2);clear hv h hl;refine zG func27 rfl ?_;simp only [ntmps27,List.size_toArray,List.length_cons,List.length_nil,Nat.reduceAdd,Nat.reduceSub,Array.replicate_succ,Array.replicate_zero,List.push_toArray,List.append_toArray,List.nil_append,List.cons_append];go_wp2_with (first | ((with_reducible refine (HT.o _ HB3.o).mono ?_);rintro e w' ⟨rfl,rfl⟩) | ((with_reducible refine (zb7 _ _ _).mono ?_);rintro e w' ⟨rfl,rfl⟩));have hU:=HU.o _ HB3.o;rw [Z3.o] at hU;generalize ((w.alloc (.cells #[.pointer (some ⟨IB,0,none⟩)] 45)).alloc (.cells #[.int .i64 r] 3)).alloc (.cells #[.bool false] 4)=w3 at *;obtain ⟨_,_,_,z5e⟩:=zak w3 (some ⟨IB,0,none⟩) (k0:Int);rw [Z3.o] at z5e;have z5:=Nat.le_of_eq z5e.symm;have z3:=Nat.le_of_eq Z3.o.symm;have z3':=Nat.le_of_eq Z3.o;clear z5e;generalize (w3.alloc (.cells #[.pointer (some ⟨IB,0,none⟩)] 45)).alloc (.cells #[.int .i64 (k0:Int)] 3)=w5 at *;have c3:=(hU.bel.cell (p:=⟨w.heap.size,0,none⟩) (by simp only;omega)).trans c3;have c5:=(hU.bel.cell (p:=⟨w.heap.size+1,0,none⟩) (by simp only;omega)).trans c5;have c6:=(hU.bel.cell (p:=⟨w.heap.size+1+1,0,none⟩) (by simp only;omega)).trans c6;have f6:=(hU.bel.frozen (p:=⟨w.heap.size+1+1,0,none⟩) (by simp only;omega)).trans f6;have hv1:=hU.hv;have hend:=hU.end_;obtain ⟨PB,hat⟩:=hU.at;obtain ⟨PB2,hrd⟩:=hU.reads;have HAt:=hid hat;have HRd:=hid hrd;have HU1:=hid hU;have hBW:Hid (Bl w w5):=HB3.o.trans (hU.bel.mono HB3.o.size);clear hat hrd hU HU HT
  refine jh (q:=7) (gf:=170) (lb:=#[.pointer (some ⟨w.heap.size+1+1+1+1,0,none⟩),.pointer (some ⟨w.heap.size+1+1+1,0,none⟩)]) rfl (fun _ _=>?eg) (UpAt (fun k=>upN m k k0) (lenM m k0) (w.heap.size+1+1+1+1) (w.heap.size+1+1+1) IB PB 0 m.zc.length m.zc.length) (fun k=>upN m k k0) (lenM m k0) (w.heap.size+1+1+1+1) (by omega) ?hit
    (fun k W=>Rd (fun b=>b=w.heap.size+1+1+1+1) w5 W/\∀ j,j<k->(rgM m (upN m j k0) == r)=false) (fun W=>Rd (fun b=>b=w.heap.size+1+1+1+1\/b=w.heap.size+1+1) w5 W/\W.cell? ⟨w.heap.size+1+1,0,none⟩=some (.bool true)/\inM m k0 r=true)
    (fun k W h=>HAt.o _ W h.1 (by intro b hb;omega) rfl (by omega)) (fun k W W' h t=>⟨h.1.turn rfl t,h.2⟩) (fun W W' h t=>⟨h.1.turn (.inl rfl) t,(World.cell?_of_block (w:=W) (t.old (w.heap.size+1+1) (by omega) (by omega))).trans h.2.1,h.2.2⟩) ⟨Rd.refl _ _,fun j hj=>by omega⟩ hv1 ?hassign ?hbody ?hdone ?hstop
  case eg=>first | rfl | simp [go_sem]
  case hit=>exact fun l J Jx W hU hset hdrew hY hj hv=>zb8 (fun k=>upN m k k0) (lenM m k0) (w.heap.size+1+1+1+1) (w.heap.size+1+1+1) IB PB 0 m.zc.length m.zc.length hend l J Jx W hU hset hdrew hY hj hv
  case hassign =>
   intro l x W K hK;simp only [List.setIfInBounds_toArray,List.set_cons_succ,List.set_cons_zero] at hK |-
   gi_wp2
   exact hK
  case hbody =>
   rintro l k W hk ⟨hr,hno⟩ hv
   try dsimp only at hr hno hv
   simp only [List.setIfInBounds_toArray,List.set_cons_succ,List.set_cons_zero];obtain ⟨e1,q⟩:=HRd.o _ W hr (by intro b hb;omega);obtain ⟨j,hj,hjl,_,q1,_⟩:=q k hk;have e0:=(hr.cell (b:=w.heap.size) (k:=0) (by omega) (by omega)).trans c3;have e5:=(hr.cell (b:=w.heap.size+1) (k:=0) (by omega) (by omega)).trans c5;have e6:=(hr.cell (b:=w.heap.size+1+1) (k:=0) (by omega) (by omega)).trans c6;have g6:=(World.frozen?_of_block (w:=w5) (a:=⟨w.heap.size+1+1,0,none⟩) (hr.blk (w.heap.size+1+1) (by omega) (by omega))).trans f6;have hFound:Hid ((rgM m (upN m k k0) == r)=true->inM m k0 r=true):=fun h=>(HD.o true).2 (by rw [zcE hk hno h];rfl)
   have HR:=hid hr
   have HNo:Hid (∀ b,(rgM m (upN m k k0) == r)=b->b=false->∀ j,j<k+1->(rgM m (upN m j k0) == r)=false):=fun b hb hf j hj=>by
     by_cases e:j=k
     . rw [e,hb,hf]
     . exact hno j (by omega)
   rw [hj] at hFound HNo;have hj0:(0:Int)<=(j:Int):=by omega
   have hj1:(j:Int)<(m.zc.length:Int):=by omega
   rw [hj]
   cases hd:(rgM m (j:Int) == r) with
   | true =>
    have hF:=hFound.o hd;clear hr hno q c3 c5 c6 f6 hFound HNo
    gi_wp2
    refine kI (by kernel_rfl) (by kernel_rfl) (by kernel_rfl) (by rintro ⟨_,_,h⟩;exact h) ?_
    repeat (go_big_quiet_step (fail))
    refine wpQuiet_nil ?_;rintro _ ⟨nq,rfl⟩
    gi_wp2
    refine ⟨?_,?_,?_,hF⟩
    . exact (jV W nq).trans (KeepsB.set (show (W.drewN nq).cell? ⟨w.heap.size+1+1,0,none⟩=_ by simpa using e6))
    . exact ((HR.o.bel (below_drewN (Below.refl _ _) nq)).weaken (fun _ h=>.inl h)).set (.inl (.inr rfl)) _
    . exact World.cell?_setCell_same _ _ _ (show (W.drewN nq).cell? ⟨w.heap.size+1+1,0,none⟩=_ by simpa using e6)
   | false =>
    have hN:=hid (HNo.o false hd rfl);clear hr hno q c3 c5 c6 f6 hFound HNo
    gi_wp2
    refine kI (by kernel_rfl) (by kernel_rfl) (by kernel_rfl) (by rintro ⟨_,_,h⟩;exact h) ?_
    repeat (go_big_quiet_step (fail))
    refine wpQuiet_nil ?_;rintro _ ⟨nq,rfl⟩
    gi_wp2
    exact ⟨jV W nq,(by rw [hj] at hv;simpa using hv),HR.o.bel (below_drewN (Below.refl _ _) nq),hN.o⟩
  case hdone =>
   rintro D W hDl ⟨hr,hno⟩ hK
   try dsimp only at hr hno
   have hp:inM m k0 r=false:=(HD.o false).2 (by rw [zbl hno];rfl);have HP:=hid hp;have e6:=(hr.cell (b:=w.heap.size+1+1) (k:=0) (by omega) (by omega)).trans c6;have g6:=(World.frozen?_of_block (w:=w5) (a:=⟨w.heap.size+1+1,0,none⟩) (hr.blk (w.heap.size+1+1) (by omega) (by omega))).trans f6;have HM:Hid (Marked w5.heap.size [D] W):=yM hK hDl;have HR:=hid hr;clear hr hno hK c3 c5 c6 f6 hp hv1 hend;go_wp2_with fail;have hM2:Marked w5.heap.size [D] (W.setCell ⟨w.heap.size+1+1,0,none⟩ (.bool false)):=HM.o.keep fun D' hD'=>Below.heap_setCell _ _ _ _ (by have:=HM.o.lo D' hD';simp only;omega)
   have e7:(Rfu.shut [D] (W.setCell ⟨w.heap.size+1+1,0,none⟩ (.bool false))).cell? ⟨w.heap.size+1+1,0,none⟩=some (.bool false) :=
     ((zU hM2.lo).cell (p:=⟨w.heap.size+1+1,0,none⟩) (by simp only;omega)).trans (World.cell?_setCell_same _ _ _ e6)
   refine yl (ds:=[D]) hM2 (v:=.bool false) (by simp [results,results27,go_sem,e7]) ⟨by rw [HP.o],?_⟩;exact hBW.o.trans ((((HR.o.zf (B:=w.heap.size) (by have:=hBW.o.size;omega) (fun b hb=>by omega)).setCell (p:=⟨w.heap.size+1+1,0,none⟩) (by simp only;omega) _)).trans (zU fun D' hD'=>by have:=hM2.lo D' hD';omega))
  case hstop =>
   rintro D W hDl ⟨hr,hc,hp⟩ hK
   try dsimp only at hr hc hp
   have HP:=hid hp;have HM:Hid (Marked w5.heap.size [D] W):=yM hK hDl;have HR:=hid hr;clear hr hK c3 c5 c6 f6 hp hv1 hend;go_wp2_with fail
   have e7:(Rfu.shut [D] W).cell? ⟨w.heap.size+1+1,0,none⟩=some (.bool true) :=
     ((zU HM.o.lo).cell (p:=⟨w.heap.size+1+1,0,none⟩) (by simp only;omega)).trans hc
   refine yl (ds:=[D]) HM.o (v:=.bool true) (by simp [results,results27,go_sem,e7]) ⟨by rw [HP.o],?_⟩;exact hBW.o.trans ((HR.o.zf (B:=w.heap.size) (by have:=hBW.o.size;omega) (fun b hb=>by omega)).trans (zU fun D' hD'=>by have:=HM.o.lo D' hD';have:=hBW.o.size;omega))
end Go.Proofs
