/- What the index tells: plain. No program is in sight. -/
import Derived.Test.YtiimoclbmaggjaaGreatDoorLIxSE
import Derived.Deep.Onto
import Derived.Laws.OwnMore
import Derived.Maps.AppendAt
import Derived.RangeFuncBox
import Derived.BigRegion
import Derived.Deep.QuietTactic
import Derived.BigQuiet
namespace Go.Md
open Go.RowKit Go.Lx Go.Proofs
set_option linter.unusedVariables false
theorem upL_eq (m:MdlD):∀ (f:Nat) (v:Int),upL m f v=(List.range (dpM m f v)).map (fun k=>upN m k v)
 | 0,_=>rfl
 | f+1,v=>by
   unfold upL dpM
   by_cases h:v<0
   · rw [if_pos h,if_pos h];rfl
   · rw [if_neg h,if_neg h,upL_eq m f (arM m v),List.range_succ_eq_map,List.map_cons,List.map_map]
     rfl
def upsM (m:MdlD) (v:Int):List Int:=upL m 66 v
def lenM (m:MdlD) (v:Int):Nat:=dpM m 66 v
theorem upsM_eq (m:MdlD) (v:Int):upsM m v=(List.range (lenM m v)).map (fun k=>upN m k v):=upL_eq m 66 v
theorem upsM_len (m:MdlD) (v:Int):(upsM m v).length=lenM m v:=by rw [upsM_eq];simp
def hasV (m:MdlD) (v:Int):Bool:=decide (0≤v) && decide (v<m.vers.length)
def hasR (m:MdlD) (r:Int):Bool:=decide (0≤r) && decide (r<m.regs.length)
def parM (m:MdlD) (v:Int):Int:=if hasV m v then arM m v else -1
def homeM (m:MdlD) (v:Int):Int:=if hasV m v then rgM m v else -1
def chainM (m:MdlD) (v:Int):List Int:=if hasV m v then (upsM m (arM m v)).reverse else []
def underM (m:MdlD) (v s:Int):Bool:=hasV m v && hasV m s && stM m s && ((upsM m (arM m v)).find? (fun p=>p == s)).isSome
def ptM (m:MdlD) (p:Int):Bool:=match m.vers[p.toNat]? with | some x=>decide (0≤x.ofv) | none=>false
def kidsR (m:MdlD) (r:Int):List Int:=if hasR m r then kidsM m r else []
theorem ups_steps {m:MdlD} (h0:riM m=(0,0,0)) {v:Int} (hv:v<m.vers.length) (hd:lenM m v<66) :
   upN m (lenM m v) v<0∧∀ k,k<lenM m v→∃ j:Nat,upN m k v=j∧j<m.vers.length∧arM m j=upN m (k+1) v:=by
 obtain ⟨h1,h2⟩:=dp_up m 66 v hd
 refine ⟨h1,fun k hk=>?_⟩
 have hlt:∀ k,k<lenM m v→upN m k v<m.vers.length:=fun k=>by
   induction k with
   | zero=>intro _;exact hv
   | succ k ih =>
    intro hk
    rw [upN_succ]
    obtain ⟨j,hj⟩:=Int.eq_ofNat_of_zero_le (h2 k (by unfold lenM at hk;omega))
    have:=ih (by omega)
    rw [hj] at this ⊢
    exact Go.Proofs.arM_lt h0 (by omega)
 obtain ⟨j,hj⟩:=Int.eq_ofNat_of_zero_le (h2 k hk)
 have hjl:=hlt k hk
 rw [hj] at hjl
 exact ⟨j,hj,by omega,by rw [upN_succ,hj]⟩
theorem dpM_more (m:MdlD):∀ (f:Nat) (v:Int) (g:Nat),dpM m f v<f→f≤g→dpM m g v=dpM m f v
 | 0,_,_,h,_=>by omega
 | f+1,v,g,h,hg=>by
   obtain ⟨g,rfl⟩:∃ g',g=g'+1:=⟨g - 1,by omega⟩
   unfold dpM at h ⊢
   by_cases hv:v<0
   · rw [if_pos hv,if_pos hv]
   · rw [if_neg hv] at h
     rw [if_neg hv,if_neg hv,dpM_more m f (arM m v) g (by omega) (by omega)]
theorem len_par {m:MdlD} (h0:riM m=(0,0,0)) {k:Nat} (hk:k<m.vers.length):lenM m (arM m k)=deM m k∧lenM m (arM m k)≤64∧arM m k<m.vers.length:=by
 have hd:=deep_right h0 hk
 have e:lenM m (arM m k)=deM m k:=dpM_more m 65 (arM m k) 66 (by unfold deM at hd;omega) (by omega)
 exact ⟨e,by omega,Go.Proofs.arM_lt h0 hk⟩
theorem len_self {m:MdlD} (h0:riM m=(0,0,0)) {k:Nat} (hk:k<m.vers.length):lenM m (k:Int)=deM m k+1∧lenM m (k:Int)<66:=by
 have hd:=deep_right h0 hk
 have e:lenM m (k:Int)=deM m k+1:=by
   unfold lenM deM
   show (if (k:Int)<0 then 0 else dpM m 65 (arM m k)+1)=_
   rw [if_neg (by omega)]
 exact ⟨e,by omega⟩
theorem chainM_len {m:MdlD} (h0:riM m=(0,0,0)) {k:Nat} (hk:k<m.vers.length):(chainM m k).length=deM m k:=by
 have hin:hasV m (k:Int)=true:=by simp [hasV];omega
 unfold chainM
 rw [if_pos hin,List.length_reverse,upsM_len,(len_par h0 hk).1]
end Go.Md

namespace Go.Proofs
open Go.RowKit Go.Lx Go.Md Go.Shelf Go.Rfu
set_option linter.unusedVariables false
theorem FM_out (m:MdlD) (k:Int):FM m (.out,k)=outM m k:=by
 show sel _ (m.trns.take m.trns.length)=_;rw [List.take_length];rfl
theorem FM_into (m:MdlD) (k:Int):FM m (.into,k)=intoM m k:=by
 show sel _ (m.trns.take m.trns.length)=_;rw [List.take_length];rfl
theorem IdxAt.i0 {B:Nat} {m:MdlD} {IB:Nat} {w:World} (h:IdxAt B m IB w):∃ PB,w.cell? ⟨IB,0,none⟩=some (.slice (some ⟨PB,0,none⟩) m.vers.length m.vers.length)∧∀ k,k<m.vers.length→w.cell? ⟨PB,k * 7,none⟩=some (.int .i64 (arM m k))∧w.cell? ⟨PB,k * 7+1,none⟩=some (.int .i64 (rgM m k))∧w.cell? ⟨PB,k * 7+2,none⟩=some (.int .i64 (deM m k))∧w.cell? ⟨PB,k * 7+3,none⟩=some (.bool (Md.stM m k))∧w.cell? ⟨PB,k * 7+4,none⟩=some (.bool (ptM m k)) ∧
   ∃ vo vi,w.cell? ⟨PB,k * 7+5,none⟩=some vo∧w.cell? ⟨PB,k * 7+6,none⟩=some vi∧w.ownsRow B 3 1 vo (outM m k).length (nums (outM m k))∧w.ownsRow B 3 1 vi (intoM m k).length (nums (intoM m k)):=by
 obtain ⟨W,N1,PB,KB,MO,MP,XB,cp,V,hB,hN,D,hs⟩:=h
 refine ⟨PB,hs.idx.1,fun k hk=>?_⟩
 have q:=hs.pl k hk
 have e:plF m k=⟨arM m k,rgM m k,deM m k,m.vers[k].kd == 1,decide (0≤m.vers[k].ofv)⟩:=by
   unfold plF plM;rw [List.getElem?_eq_getElem hk]
 have est:Md.stM m (k:Int)=(m.vers[k].kd == 1):=by
   unfold Md.stM;rw [Int.toNat_natCast,List.getElem?_eq_getElem hk];simp
 have ept:ptM m (k:Int)=decide (0≤m.vers[k].ofv):=by
   unfold ptM;rw [Int.toNat_natCast,List.getElem?_eq_getElem hk]
 rw [e] at q
 refine ⟨q.c0,q.c1,q.c2,by rw [est];exact q.c3,by rw [ept];exact q.c4,_,_,q.c5,q.c6,?_,?_⟩
 · rw [← FM_out];exact (hs.rw.own (.out,(k:Int))).mono (Nat.le_trans hB hN)
 · rw [← FM_into];exact (hs.rw.own (.into,(k:Int))).mono (Nat.le_trans hB hN)
theorem IdxAt.i1 {B:Nat} {m:MdlD} {IB:Nat} {w:World} (h:IdxAt B m IB w):∃ KB,w.cell? ⟨IB,1,none⟩=some (.slice (some ⟨KB,0,none⟩) m.regs.length m.regs.length)∧∀ r:Nat,r<m.regs.length→∃ v,w.cell? ⟨KB,r,none⟩=some v∧w.ownsRow B 3 1 v (kidsM m r).length (nums (kidsM m r)):=by
 obtain ⟨W,N1,PB,KB,MO,MP,XB,cp,V,hB,hN,D,hs⟩:=h
 exact ⟨KB,hs.idx.2.1,fun r hr=>⟨_,hs.kd r hr,(hs.rw.own (.kid,(r:Int))).mono (Nat.le_trans hB hN)⟩⟩
theorem IdxAt.i2 {B:Nat} {m:MdlD} {IB:Nat} {w:World} (h:IdxAt B m IB w) {s:Int} (hs:(Lit.int .i64 s).wf=true):∃ M v,w.cell? ⟨IB,2,none⟩=some (.map (some M))∧(Instr.lookup 111 (.map (some M)) (.int .i64 s) false).run Tryz.prog w=.ok v w∧w.ownsRow B 3 1 v (ownM m s).length (nums (ownM m s)):=by
 obtain ⟨W,N1,PB,KB,MO,MP,XB,cp,V,hB,hN,D,hst⟩:=h
 exact ⟨MO,_,hst.idx.2.2.1,hst.mo.look hs,(hst.rw.own (.own,s)).mono (Nat.le_trans hB hN)⟩
theorem IdxAt.i3 {B:Nat} {m:MdlD} {IB:Nat} {w:World} (h:IdxAt B m IB w) {s:Int} (hs:(Lit.int .i64 s).wf=true):∃ M v,w.cell? ⟨IB,3,none⟩=some (.map (some M))∧(Instr.lookup 111 (.map (some M)) (.int .i64 s) false).run Tryz.prog w=.ok v w∧w.ownsRow B 3 1 v (pntM m s).length (nums (pntM m s)):=by
 obtain ⟨W,N1,PB,KB,MO,MP,XB,cp,V,hB,hN,D,hst⟩:=h
 exact ⟨MP,_,hst.idx.2.2.2,hst.mp.look hs,(hst.rw.own (.pnt,s)).mono (Nat.le_trans hB hN)⟩
def RowP (l:List Int) (w:World) (e:Ending) (w':World):Prop:=∃ v',e=.returned v'∧w'.ownsRow w.heap.size 3 1 v' l.length (nums l)∧Below w.heap.size w w'
theorem cloneRow {N:Nat} {l:List Int} {v:Value} {w:World} (h:w.ownsRow N 3 1 v l.length (nums l)) (hl:l.length≤100000):Calls Tryz.prog 73 #[v] w (RowP l w):=by
 obtain ⟨hx,h2⟩:=h
 rcases h2 with ⟨rfl,h0⟩ | ⟨g,cap,cur,rfl,hN,hg,hc,hm,hs,ht⟩
 · refine (cloneNum_nil _ _ w).mono ?_
   rintro e w' ⟨rfl,rfl⟩
   refine ⟨_,rfl,?_,Below.refl _ _⟩
   rw [h0]
   obtain rfl:l=[]:=List.eq_nil_of_length_eq_zero h0
   exact World.ownsRow_nil _ _ _ _
 · refine (cloneNum_some ⟨g,0,none⟩ l.length cap (nums l) w (by simp) (by omega) (fun j u hj=>?_) (fun u hu=>?_)).mono ?_
   · have hlt:=(List.getElem?_eq_some_iff.1 hj).1
     have:=World.ownsRow.cells (w:=w) (base:=N) (e:=3) (size:=1) (v:=.slice (some ⟨g,0,none⟩) l.length cap) (n:=l.length) (xs:=nums l) ⟨hx,.inr ⟨g,cap,cur,rfl,hN,hg,hc,hm,hs,ht⟩⟩ rfl j u hj
     exact this
   · simp only [nums,List.mem_map] at hu
     obtain ⟨x,_,rfl⟩:=hu
     rfl
   · rintro e w' ⟨v',rfl,ho,hb⟩
     exact ⟨v',rfl,ho,hb⟩
section
variable {B:Nat} {m:MdlD} {IB:Nat} {w:World}
theorem there_any (h:IdxAt B m IB w) (v:Int):Calls Tryz.prog 92 #[.pointer (some ⟨IB,0,none⟩),.int .i64 v] w fun e w'=>e=.returned (.bool (hasV m v))∧w=w':=by
 obtain ⟨PB,e1,_⟩:=h.i0
 clear h
 unfold hasV
 by_cases h1:0≤v
 · have d1:decide (0≤v)=true:=by simpa using h1
   by_cases h2:v<m.vers.length
   · have d2:decide (v<(m.vers.length:Int))=true:=by simpa using h2
     rw [d1,d2]
     go_enter Tryz.func92,Tryz.ntmps92
     go_wp2
     go_ret
     exact ⟨rfl,rfl⟩
   · have d2:decide (v<(m.vers.length:Int))=false:=by simpa using h2
     rw [d1,d2]
     go_enter Tryz.func92,Tryz.ntmps92
     go_wp2
     go_ret
     exact ⟨rfl,rfl⟩
 · have d1:decide (0≤v)=false:=by simpa using h1
   rw [d1]
   go_enter Tryz.func92,Tryz.ntmps92
   go_wp2
   go_ret
   exact ⟨rfl,rfl⟩
theorem hasV_yes {v:Int} (h:hasV m v=true):∃ k:Nat,v=k∧k<m.vers.length:=by
 unfold hasV at h
 simp only [Bool.and_eq_true,decide_eq_true_eq] at h
 exact ⟨v.toNat,by omega,by omega⟩
theorem hasR_yes {v:Int} (h:hasR m v=true):∃ k:Nat,v=k∧k<m.regs.length:=by
 unfold hasR at h
 simp only [Bool.and_eq_true,decide_eq_true_eq] at h
 exact ⟨v.toNat,by omega,by omega⟩
theorem home_any (h:IdxAt B m IB w) (v:Int) (hw:(Lit.int .i64 v).wf=true):Calls Tryz.prog 23 #[.pointer (some ⟨IB,0,none⟩),.int .i64 v] w fun e w'=>e=.returned (.int .i64 (homeM m v))∧w=w':=by
 obtain ⟨PB,e1,q⟩:=h.i0
 have HT:=Lib.hid (there_any h v)
 clear h
 cases hv:hasV m v with
 | false =>
  have hp:homeM m v=-1:=by unfold homeM;rw [hv];rfl
  rw [hp]
  rw [hv] at HT
  clear q e1 hv hp
  go_enter Tryz.func23,Tryz.ntmps23
  go_wp2_with ((with_reducible refine (HT.out).mono ?_);rintro e w' ⟨rfl,rfl⟩)
  go_ret
  exact ⟨rfl,rfl⟩
 | true =>
  obtain ⟨k,rfl,hk⟩:=hasV_yes hv
  obtain ⟨c0,c1,c2,c3,c4,vo,vi,c5,c6,_,_⟩:=q k hk
  have hp:homeM m k=rgM m k:=by unfold homeM;rw [hv];rfl
  rw [hp]
  rw [hv] at HT
  have h1:(0:Int)≤(k:Int):=by omega
  have h2:(k:Int)<(m.vers.length:Int):=by omega
  clear q hv hp hk c3 c4 c5 c6
  go_enter Tryz.func23,Tryz.ntmps23
  go_wp2_with ((with_reducible refine (HT.out).mono ?_);rintro e w' ⟨rfl,rfl⟩)
  go_ret
  exact ⟨rfl,rfl⟩
theorem kids_any (h:IdxAt B m IB w) (r:Int) (hl:m.vers.length≤100000):Calls Tryz.prog 30 #[.pointer (some ⟨IB,0,none⟩),.int .i64 r] w (RowP (kidsR m r) w):=by
 obtain ⟨KB,e1,q⟩:=h.i1
 clear h
 by_cases h1:0≤r
 · by_cases h2:r<m.regs.length
   · have hr:hasR m r=true:=by simp [hasR];omega
     obtain ⟨k,rfl,hk⟩:=hasR_yes hr
     obtain ⟨vo,c0,r0⟩:=q k hk
     have hp:kidsR m k=kidsM m k:=by unfold kidsR;rw [hr];rfl
     rw [hp]
     have HC:Hid (Calls Tryz.prog 73 #[vo] w (RowP (kidsM m k) w)):=cloneRow r0 (by have:=sel_len (isKid (k:Int)) m.vers;have e:(kidsM m k).length≤m.vers.length:=this;omega)
     clear q hr hp r0 hk
     go_enter Tryz.func30,Tryz.ntmps30
     go_wp2_with ((with_reducible refine (HC.out).mono ?_);rintro e w' ⟨v',rfl,ho,hb⟩)
     go_ret
     exact ⟨v',rfl,ho,hb⟩
   · have hp:kidsR m r=[]:=by unfold kidsR hasR;simp [h2]
     rw [hp]
     clear q hp
     go_enter Tryz.func30,Tryz.ntmps30
     go_wp2_with fail
     go_ret
     exact ⟨_,rfl,World.ownsRow_nil _ _ _ _,Below.refl _ _⟩
 · have hp:kidsR m r=[]:=by unfold kidsR hasR;simp [h1]
   rw [hp]
   clear q hp
   go_enter Tryz.func30,Tryz.ntmps30
   go_wp2_with fail
   go_ret
   exact ⟨_,rfl,World.ownsRow_nil _ _ _ _,Below.refl _ _⟩
theorem regions_any (h:IdxAt B m IB w) (v:Int) (hw:(Lit.int .i64 v).wf=true) (hl:(m.regs).length≤100000):Calls Tryz.prog 31 #[.pointer (some ⟨IB,0,none⟩),.int .i64 v] w (RowP (ownM m v) w):=by
 obtain ⟨M,vo,e1,e2,r0⟩:=h.i2 hw
 have HC:Hid (Calls Tryz.prog 73 #[vo] w (RowP (ownM m v) w)):=cloneRow r0 (by have:=sel_len (isOwn v) (m.regs);have e:(ownM m v).length≤(m.regs).length:=this;omega)
 clear h r0 hw
 go_enter Tryz.func31,Tryz.ntmps31
 go_wp2_with ((with_reducible refine (HC.out).mono ?_);rintro e w' ⟨v',rfl,ho,hb⟩)
 go_ret
 exact ⟨v',rfl,ho,hb⟩
end
attribute [local go_sem] Oper.semAt_some
structure Rd (X:Nat→Prop) (w W:World):Prop where
 os:W.os=w.os
 tape:W.tape=w.tape
 output:W.output=w.output
 size:w.heap.size≤W.heap.size
 blk:∀ b,b<w.heap.size→¬ X b→W.heap[b]? = w.heap[b]?
 frz:∀ b,b<w.heap.size→X b→W.frozen? ⟨b,0,none⟩=w.frozen? ⟨b,0,none⟩
theorem Rd.refl (X:Nat→Prop) (w:World):Rd X w w:=⟨rfl,rfl,rfl,Nat.le_refl _,fun _ _ _=>rfl,fun _ _ _=>rfl⟩
theorem Rd.of_below {X:Nat→Prop} {w W:World} (h:Below w.heap.size w W):Rd X w W:=⟨h.os,h.tape,h.output,h.size,fun b hb _=>h.block b hb,fun b hb _=>h.frozen (p:=⟨b,0,none⟩) hb⟩
theorem Rd.trans {X:Nat→Prop} {a b c:World} (h:Rd X a b) (k:Rd X b c):Rd X a c :=
 ⟨k.os.trans h.os,k.tape.trans h.tape,k.output.trans h.output,Nat.le_trans h.size k.size,fun i hi hx=>(k.blk i (Nat.lt_of_lt_of_le hi h.size) hx).trans (h.blk i hi hx),fun i hi hx=>(k.frz i (Nat.lt_of_lt_of_le hi h.size) hx).trans (h.frz i hi hx)⟩
theorem Rd.weaken {X Y:Nat→Prop} {a b:World} (h:Rd X a b) (hxy:∀ i,X i→Y i):Rd Y a b :=
 ⟨h.os,h.tape,h.output,h.size,fun i hi hx=>h.blk i hi fun hx'=>hx (hxy i hx'),fun i hi _=>by
   by_cases hx:X i
   · exact h.frz i hi hx
   · exact World.frozen?_of_block (w:=a) (h.blk i hi hx)⟩
theorem Rd.turn {X:Nat→Prop} {w W W':World} {Bv:Nat} (h:Rd X w W) (hB:X Bv) (t:Turn w.heap.size Bv W W'):Rd X w W' :=
 ⟨t.os.trans h.os,t.tape.trans h.tape,t.output.trans h.output,Nat.le_trans h.size t.size,fun b hb hx=>(t.old b hb (fun e=>hx (e ▸ hB))).trans (h.blk b hb hx),fun b hb hx=>by
   by_cases e:b=Bv
   · subst e;exact (t.fv hb).trans (h.frz b hb hx)
   · exact (World.frozen?_of_block (w:=W) (t.old b hb e)).trans (h.frz b hb hx)⟩
theorem Rd.below {X:Nat→Prop} {w W:World} (h:Rd X w W) {B:Nat} (hB:B≤w.heap.size) (hx:∀ b,X b→B≤b):Below B w W :=
 ⟨h.os,h.tape,h.output,h.size,fun b hb=>h.blk b (Nat.lt_of_lt_of_le hb hB) fun h'=>by have:=hx b h';omega⟩
theorem Rd.set {X:Nat→Prop} {w W:World} (h:Rd X w W) {b k:Nat} (hX:X b∨w.heap.size≤b) (u:Value):Rd X w (W.setCell ⟨b,k,none⟩ u) :=
 ⟨h.os,h.tape,h.output,by simpa using h.size,fun i hi hx=>(Below.heap_setCell W ⟨b,k,none⟩ u i (fun e=>by
     rcases hX with hX | hX
     · exact hx (by simp only at e;rw [e];exact hX)
     · simp only at e;omega)).trans (h.blk i hi hx),fun i hi hx=>by rw [World.frozen?_setCell];exact h.frz i hi hx⟩
theorem Rd.grown {X:Nat→Prop} {w W W':World} {row:Option Nat} (h:Rd X w W) (g:W.grownBy W' row) (hr:∀ k,row=some k→w.heap.size≤k):Rd X w W':=by
 have hb:Below w.heap.size W W':=(Below.refl _ W).grown g h.size hr
 exact ⟨hb.os.trans h.os,hb.tape.trans h.tape,hb.output.trans h.output,Nat.le_trans h.size hb.size,fun i hi hx=>(hb.block i hi).trans (h.blk i hi hx),fun i hi hx=>(hb.frozen (p:=⟨i,0,none⟩) hi).trans (h.frz i hi hx)⟩
theorem Rd.bel {X:Nat→Prop} {w W W':World} (h:Rd X w W) (g:Below w.heap.size W W'):Rd X w W' :=
 ⟨g.os.trans h.os,g.tape.trans h.tape,g.output.trans h.output,Nat.le_trans h.size g.size,fun b hb hx=>(g.block b hb).trans (h.blk b hb hx),fun b hb hx=>(g.frozen (p:=⟨b,0,none⟩) hb).trans (h.frz b hb hx)⟩
theorem Rd.back {w w1 W:World} {Bv H:Nat} (h:Rd (fun b=>b=Bv∨b=H) w1 W) (g:Below w.heap.size w w1) (hH:w.heap.size≤H):Rd (fun b=>b=Bv) w W :=
 ⟨h.os.trans g.os,h.tape.trans g.tape,h.output.trans g.output,Nat.le_trans g.size h.size,fun b hb hx=>(h.blk b (Nat.lt_of_lt_of_le hb g.size) (by omega)).trans (g.block b hb),fun b hb hx=>(h.frz b (Nat.lt_of_lt_of_le hb g.size) (.inl hx)).trans (g.frozen (p:=⟨b,0,none⟩) hb)⟩
theorem marked_one {n0 D:Nat} {W:World} (h:W.heap[D]? = some (.deferred (some []))) (hl:n0≤D):Marked n0 [D] W:=⟨by simp,fun x hx=>by simp only [List.mem_singleton] at hx;omega,fun x hx=>by simp only [List.mem_singleton] at hx;rw [hx];exact h⟩
theorem ownsRow_shut {n0 N T n:Nat} {W:World} {ds:List Nat} {v:Value} {xs:List Value} (h:W.ownsRow N T 1 v n xs) (hM:Marked n0 ds W):(Rfu.shut ds W).ownsRow N T 1 v n xs:=by
 refine ⟨h.1,?_⟩
 rcases h.2 with h2 | ⟨g,cap,cur,e,hb,hg,r⟩
 · exact .inl h2
 · exact .inr ⟨g,cap,cur,e,hb,shut_keep hM hg rfl,r⟩
theorem Rd.cell {X:Nat→Prop} {w W:World} (h:Rd X w W) {b k:Nat} (hb:b<w.heap.size) (hx:¬ X b):W.cell? ⟨b,k,none⟩=w.cell? ⟨b,k,none⟩:=World.cell?_of_block (w:=w) (h.blk b hb hx)
structure UpW (m:MdlD) (IB:Nat) (v:Int) (Bv Bx:Nat) (w0 w:World):Prop where
 idx:∃ B,IdxAt B m IB w0
 bel:Below w0.heap.size w0 w
 lv:w0.heap.size≤Bv∧Bv<w.heap.size
 lx:w0.heap.size≤Bx∧Bx<w.heap.size
 ne:Bx≠Bv
 hx:w.cell? ⟨Bx,0,none⟩=some (.pointer (some ⟨IB,0,none⟩))
 hv:w.cell? ⟨Bv,0,none⟩=some (.int .i64 v)
 fv:w.frozen? ⟨Bv,0,none⟩=false
 h0:riM m=(0,0,0)
 vl:v<m.vers.length
 vd:lenM m v<66
theorem UpW.at {m:MdlD} {IB:Nat} {v:Int} {Bv Bx:Nat} {w0 w:World} (h:UpW m IB v Bv Bx w0 w):∃ PB,∀ (X:Nat→Prop) W,Rd X w W→(∀ b,X b→w0.heap.size≤b)→X Bv→¬ X Bx→UpAt (fun k=>upN m k v) (lenM m v) Bv Bx IB PB 0 m.vers.length m.vers.length W:=by
 obtain ⟨B,hi⟩:=h.idx
 obtain ⟨PB,e1,q⟩:=hi.i0
 refine ⟨PB,fun X W hr hlo hv hx=>?_⟩
 have hb:Below w0.heap.size w0 W:=h.bel.trans (hr.below h.bel.size hlo)
 have hIB:IB<w0.heap.size:=World.block_lt_of_cell? w0 _ e1
 refine ⟨(hr.cell h.lx.2 hx).trans h.hx,(hb.cell (p:=⟨IB,0,none⟩) hIB).trans e1,fun k hk=>?_,(hr.frz Bv h.lv.2 hv).trans h.fv⟩
 obtain ⟨j,h1,h2,h3⟩:=(ups_steps h.h0 h.vl h.vd).2 k hk
 have c0:=(q j h2).1
 have hPB:PB<w0.heap.size:=World.block_lt_of_cell? w0 _ c0
 refine ⟨j,h1,h2,?_⟩
 rw [Nat.zero_add,(hb.cell (p:=⟨PB,j * 7,none⟩) hPB),c0,h3]
theorem UpW.rd {m:MdlD} {IB:Nat} {v:Int} {Bv Bx:Nat} {w0 w w':World} (h:UpW m IB v Bv Bx w0 w) (g:Below w.heap.size w w'):UpW m IB v Bv Bx w0 w' :=
 ⟨h.idx,h.bel.trans (g.mono h.bel.size),⟨h.lv.1,Nat.lt_of_lt_of_le h.lv.2 g.size⟩,⟨h.lx.1,Nat.lt_of_lt_of_le h.lx.2 g.size⟩,h.ne,(g.cell (p:=⟨Bx,0,none⟩) h.lx.2).trans h.hx,(g.cell (p:=⟨Bv,0,none⟩) h.lv.2).trans h.hv,(g.frozen (p:=⟨Bv,0,none⟩) h.lv.2).trans h.fv,h.h0,h.vl,h.vd⟩
structure ApSt (m:MdlD) (v:Int) (Bv:Nat) (w1:World) (H:Nat) (k:Nat) (W:World):Prop where
 rd:Rd (fun b=>b=Bv∨b=H) w1 W
 row:∃ v',W.cell? ⟨H,0,none⟩=some v'∧W.ownsRow (H+1) 3 1 v' k (nums ((upsM m v).take k))
theorem ApSt.turn {m:MdlD} {v:Int} {Bv:Nat} {w1:World} {H k:Nat} {W W':World} (h:ApSt m v Bv w1 H k W) (hB:Bv<H) (hH:H<w1.heap.size) (t:Turn w1.heap.size Bv W W'):ApSt m v Bv w1 H k W':=by
 refine ⟨h.rd.turn (.inl rfl) t,?_⟩
 obtain ⟨v',hc,ho⟩:=h.row
 refine ⟨v',(World.cell?_of_block (w:=W) (t.old H hH (by omega))).trans hc,ho.1,?_⟩
 rcases ho.2 with h2 | ⟨g,cap,cur,e,hb,hg,r⟩
 · exact .inl h2
 · exact .inr ⟨g,cap,cur,e,hb,t.data g _ hg rfl (by omega),r⟩
theorem ApSt.push {m:MdlD} {v:Int} {Bv:Nat} {w1:World} {H k:Nat} {W w2:World} {v':Value} {o:Obj} {g2 cap2:Nat} (h:ApSt m v Bv w1 H k W) (hB:Bv<H) (hH1:w1.heap.size=H+1)
   (hc:W.cell? ⟨H,0,none⟩=some v') (hrow:W.ownsRow (H+1) 3 1 v' k (nums ((upsM m v).take k))) (hg:(W.alloc o).grownBy w2 v'.ownBlock) (ho:w2.ownsRow (H+1) 3 1 (.slice (some ⟨g2,0,none⟩) (k+1) cap2) (k+1) (nums ((upsM m v).take (k+1)))) :
   w2.cell? ⟨H,0,none⟩=some v'∧w2.frozen? ⟨H,0,none⟩=w1.frozen? ⟨H,0,none⟩∧KeepsB w1.heap.size W (w2.setCell ⟨H,0,none⟩ (.slice (some ⟨g2,0,none⟩) (k+1) cap2))∧(w2.setCell ⟨H,0,none⟩ (.slice (some ⟨g2,0,none⟩) (k+1) cap2)).cell? ⟨Bv,0,none⟩=W.cell? ⟨Bv,0,none⟩∧ApSt m v Bv w1 H (k+1) (w2.setCell ⟨H,0,none⟩ (.slice (some ⟨g2,0,none⟩) (k+1) cap2)):=by
 have hz:=h.rd.size
 have hH:H<w1.heap.size:=by omega
 have hlt:=fun q hq=>hrow.lt q hq
 have hbk:∀ b,b<W.heap.size→v'.ownBlock≠some b→w2.heap[b]? = W.heap[b]? := fun b hb hn=>(hg.block b (by simp;omega) (fun e=>hn e.symm)).trans (Below.heap_alloc W o b hb)
 have hnH:∀ b,b≤H→v'.ownBlock≠some b:=fun b hb e=>by have:=(hlt b e).1;omega
 have hcH:w2.cell? ⟨H,0,none⟩=some v':=(World.cell?_of_block (w:=W) (hbk H (by omega) (hnH H (Nat.le_refl _)))).trans hc
 refine ⟨hcH,(World.frozen?_of_block (w:=W) (hbk H (by omega) (hnH H (Nat.le_refl _)))).trans (h.rd.frz H hH (.inr rfl)),?_,?_,?_,?_⟩
 · intro b ob hb hob hk
   refine KeepsB.set (n0:=w1.heap.size) hcH b ob hb ?_ hk
   refine (hbk b (Array.getElem?_eq_some_iff.1 hob).1 fun e=>?_).trans hob
   obtain ⟨_,⟨rfl,_⟩ | ⟨g,cap,cur,rfl,_,hgc,_⟩⟩:=hrow
   · cases e
   · simp only [Value.ownBlock,Option.some.injEq] at e
     subst e
     rw [hgc] at hob;cases hob;cases hk
 · rw [World.cell?_setCell_far _ _ _ _ (by simp only;omega)]
   exact World.cell?_of_block (w:=W) (hbk Bv (by omega) (hnH Bv (by omega)))
 · refine Rd.set ?_ (.inl (.inr rfl)) _
   have g1:Rd (fun b=>b=Bv∨b=H) w1 (W.alloc o):=h.rd.trans (Rd.of_below (below_al1 W o))
   refine ⟨hg.os.trans g1.os,hg.tape.trans g1.tape,hg.output.trans g1.output,Nat.le_trans g1.size hg.size,fun b hb hx=>(hg.block b (by simp;omega) (fun e=>?_)).trans (g1.blk b hb hx),fun b hb hx=>(World.frozen?_of_block (w:=W.alloc o) (hg.block b (by simp;omega) (fun e=>?_))).trans (g1.frz b hb hx)⟩
   · exact hnH b (by omega) e.symm
   · exact hnH b (by omega) e.symm
 · exact ⟨_,World.cell?_setCell_same _ _ _ hcH,ownsRow_setCell_below (a:=⟨H,0,none⟩) ho (by simp only;omega) _⟩
end Go.Proofs

namespace Go.Proofs
open Go.RowKit Go.Lx Go.Md Go.Shelf Go.Rfu Go.BigFrame
set_option linter.unusedVariables false
attribute [local go_sem] Oper.semAt_some
end Go.Proofs
