/- States in one another: the model that 'Deep' makes, and where it lies. -/
import Derived.Test.YtiimoclbmaggjaaGreatDoorZMdRSm
import Derived.RangeFuncRecord
namespace Go.Proofs
open Go.RowKit Go.Lx Go.Md Go.Shelf
open Lib(hid)
open Go.Proofs.Tryz
set_option maxRecDepth 100000
set_option maxHeartbeats 0
set_option linter.unusedVariables false
def regN (i:Nat):RegD:=⟨⟨#[]⟩,((i+1:Nat):Int)⟩
def verN (i:Nat):VerD:=⟨⟨#[]⟩,1,((i+1:Nat):Int),-1,⟨#[]⟩,⟨#[]⟩,[],⟨#[]⟩⟩
def deepR (k:Nat):List RegD:=smallM.zb ++ (List.range k).map regN
def deepV (k:Nat):List VerD:=smallM.zc ++ (List.range k).map verN
def deepM (k:Nat):MdlD:={ smallM with zb:=deepR k,zc:=deepV k }
theorem kq (k:Nat):(deepR k).length=k+1:=by simp [deepR,smallM]
theorem kr (k:Nat):(deepV k).length=k+2:=by simp [deepV,smallM]
theorem zdG (k:Nat):deepR (k+1)=deepR k ++ [regN k]:=by unfold deepR;rw [List.range_succ,List.map_append,List.append_assoc];rfl
theorem zdH (k:Nat):deepV (k+1)=deepV k ++ [verN k]:=by unfold deepV;rw [List.range_succ,List.map_append,List.append_assoc];rfl
def regC (x:RegD):List Value:=[.string x.nm,.int .i64 x.own]
def verC (x:VerD):List Value:=[.string x.nm,.int .u8 x.kd,.int .i64 x.rg,.int .i64 x.ofv,.string x.en,.string x.ex,.slice none 0 0,.string x.sb]
theorem zb9 {α β:Type} (f:α->List β) (n:Nat) (hf:∀ x,(f x).length=n):∀ (l:List α) (i:Nat) (hi:i<l.length) (t:Nat) (ht:t<n),(l.flatMap f)[i * n+t]? = (f l[i])[t]?
 | [],i,hi,t,ht=>absurd hi (by simp)
 | x :: l,0,hi,t,ht=>by
   rw [List.flatMap_cons,List.getElem?_append_left (by rw [hf];omega)]
   simp
 | x :: l,i+1,hi,t,ht=>by
   rw [List.flatMap_cons,List.getElem?_append_right (by rw [hf,Nat.succ_mul];omega),hf,show (i+1) * n+t - n=i * n+t by rw [Nat.succ_mul];omega];rw [zb9 f n hf l i (by simpa using hi) t ht]
   simp
theorem ver_ok {k:Nat} {x:VerD} (h:x ∈ deepV k) (hk:k<=1000):VerOk x:=by
 unfold deepV at h
 rcases List.mem_append.1 h with h | h
 . simp only [smallM,List.mem_cons,List.not_mem_nil,or_false] at h
   rcases h with rfl | rfl <;> exact ⟨by decide,by decide,by decide,by decide,by decide,fun s hs=>(by cases hs),by decide,by decide,by decide⟩
 . obtain ⟨i,hi,rfl⟩:=List.mem_map.1 h
   have:=List.mem_range.1 hi;exact ⟨show (ByteArray.size ⟨#[]⟩)<=_ by decide,show 1<256 by decide,show (ByteArray.size ⟨#[]⟩)<=_ by decide,show (ByteArray.size ⟨#[]⟩)<=_ by decide,Nat.zero_le _,fun s hs=>(by cases hs),show (ByteArray.size ⟨#[]⟩)<=_ by decide,(by simp only [verN];omega),(by simp only [verN];omega)⟩
theorem deep_ok {k:Nat} (hk:k<=1000):MdlOk (deepM k):=by
 refine ⟨show (ByteArray.size ⟨#[77]⟩)<=_ by decide,Nat.zero_le _,fun x hx=>(by cases hx),Nat.zero_le _,fun x hx=>(by cases hx),by show (deepR k).length<=_;rw [kq];omega,fun x hx=>?_,fun x hx=>?_,by show (deepV k).length<=_;rw [kr];omega,fun x hx=>ver_ok hx hk,show 1<=_ by decide,fun x hx=>?_⟩
 . have hx':x ∈ deepR k:=hx
   unfold deepR at hx'
   rcases List.mem_append.1 hx' with h | h
   . simp only [smallM,List.mem_cons,List.not_mem_nil,or_false] at h;subst h;decide
   . obtain ⟨i,hi,rfl⟩:=List.mem_map.1 h;exact (show (ByteArray.size ⟨#[]⟩)<=_ by decide)
 . have hx':x ∈ deepR k:=hx
   unfold deepR at hx'
   rcases List.mem_append.1 hx' with h | h
   . simp only [smallM,List.mem_cons,List.not_mem_nil,or_false] at h;subst h;simp
   . obtain ⟨i,hi,rfl⟩:=List.mem_map.1 h
     have:=List.mem_range.1 hi;simp only [regN];omega
 . have hx':x ∈ smallM.ze:=hx
   simp only [smallM,List.mem_cons,List.not_mem_nil,or_false] at hx';subst hx';exact ⟨by decide,by decide,by decide,by decide,by decide,fun s hs=>(by cases hs),by decide,by decide,by decide⟩
structure Dg (rl:List RegD) (nr:Nat) (vl:List VerD) (nv H N Bt:Nat) (a3:Option Addr) (c3:Nat) (a4:Option Addr) (c4:Nat) (w wr:World):Prop where
 bel:Bl w wr
 d0:wr.cell? ⟨H,0,none⟩=some (.string ⟨#[77]⟩)
 d1:wr.cell? ⟨H,1,none⟩=some (.slice none 0 0)
 d2:wr.cell? ⟨H,2,none⟩=some (.slice none 0 0)
 d3:wr.cell? ⟨H,3,none⟩=some (.slice a3 nr c3)
 d4:wr.cell? ⟨H,4,none⟩=some (.slice a4 nv c4)
 d5:wr.cell? ⟨H,5,none⟩=some (.slice (some ⟨Bt,0,none⟩) 1 1)
 fr:∀ k,wr.frozen? ⟨H,k,none⟩=false
 og:wr.ownsRow N 37 2 (.slice a3 nr c3) nr (rl.flatMap regC)
 ov:wr.ownsRow N 35 8 (.slice a4 nv c4) nv (vl.flatMap verC)
 ap:∀ g,(Value.slice a3 nr c3).ownBlock=some g->(Value.slice a4 nv c4).ownBlock≠some g
 h3:∀ g,(Value.slice a3 nr c3).ownBlock=some g->g≠H/\g≠Bt
 h4:∀ g,(Value.slice a4 nv c4).ownBlock=some g->g≠H/\g≠Bt
 tb:wr.heap[Bt]? = some (.cells #[.string ⟨#[]⟩,.int .i64 0,.int .i64 1,.slice none 0 0,.int .i64 0,.string ⟨#[]⟩,.string ⟨#[]⟩,.int .u8 1] 97 (0,0))
 lt:H<wr.heap.size
 hb:Bt≠H
 hn:N<=wr.heap.size
 hw:w.heap.size<=N/\w.heap.size<=H/\N<=Bt
abbrev Dp (i j:Nat):=Dg (deepR i) (i+1) (deepV j) (j+2)
theorem qD {N s n b k:Nat} {T:TypeId} {v:Value} {xs:List Value} {w:World} (h:w.ownsRow N T s v n xs) (hne:∀ g,v.ownBlock=some g->g≠b) (u:Value):(w.setCell ⟨b,k,none⟩ u).ownsRow N T s v n xs:=by
 obtain ⟨h1,h2⟩:=h;refine ⟨h1,?_⟩
 rcases h2 with h2 | ⟨g,cap,cur,e,hb,hgc,r'⟩
 . exact .inl h2
 . exact .inr ⟨g,cap,cur,e,hb,by rw [Below.heap_setCell _ _ _ _ (hne g (by rw [e];rfl))];exact hgc,r'⟩
theorem zar {N s n:Nat} {T:TypeId} {v:Value} {xs:List Value} {w w4:World} {o:Obj} {r:Option Nat} (h:w.ownsRow N T s v n xs) (hg:(w.alloc o).grownBy w4 r) (hne:∀ g,v.ownBlock=some g->r≠some g):w4.ownsRow N T s v n xs:=by
 obtain ⟨h1,h2⟩:=h;refine ⟨h1,?_⟩
 rcases h2 with h2 | ⟨g,cap,cur,e,hb,hgc,r'⟩
 . exact .inl h2
 . have hl:=(Array.getElem?_eq_some_iff.1 hgc).1
   refine .inr ⟨g,cap,cur,e,hb,?_,r'⟩;rw [hg.block g (by simp;omega) (fun e'=>hne g (by rw [e];rfl) e'.symm),Below.heap_alloc _ _ _ hl];exact hgc
section
variable {rl:List RegD} {vl:List VerD} {nr nv H N Bt:Nat} {a3:Option Addr} {c3:Nat} {a4:Option Addr} {c4:Nat} {w wr w4:World} {o:Obj} {gg cap:Nat}
theorem qE {b:Nat} {r:Option Nat} (hg:(wr.alloc o).grownBy w4 r) (hb:b<wr.heap.size) (hr:r≠some b):w4.heap[b]? = wr.heap[b]? := by
 rw [hg.block b (by simp;omega) (fun e=>hr e.symm),Below.heap_alloc _ _ _ hb]
theorem Dg.push3 {x:RegD} (h:Dg rl nr vl nv H N Bt a3 c3 a4 c4 w wr) (hg:(wr.alloc o).grownBy w4 (Value.slice a3 nr c3).ownBlock) (ho:w4.ownsRow N 37 2 (.slice (some ⟨gg,0,none⟩) (nr+1) cap) (nr+1) (rl.flatMap regC ++ regC x))
   (hat:(Value.slice a3 nr c3).ownBlock=some gg\/gg=wr.heap.size+1):Dg (rl ++ [x]) (nr+1) vl nv H N Bt (some ⟨gg,0,none⟩) cap a4 c4 w (w4.setCell ⟨H,3,none⟩ (.slice (some ⟨gg,0,none⟩) (nr+1) cap)):=by
 have hlt:=h.lt;have hbt:=(Array.getElem?_eq_some_iff.1 h.tb).1;have hsz:=hg.size;simp only [World.size_alloc] at hsz;have kH:w4.heap[H]? = wr.heap[H]? := qE hg hlt fun e=>(h.h3 H e).1 rfl;have kc:∀ k,w4.cell? ⟨H,k,none⟩=wr.cell? ⟨H,k,none⟩:=fun k=>World.cell?_of_block kH;have kf:∀ k,w4.frozen? ⟨H,k,none⟩=false:=fun k=>(World.frozen?_of_block kH).trans (h.fr k)
 have hgH:gg≠H/\gg≠Bt:=by
   rcases hat with e | e
   . exact h.h3 gg e
   . omega
 have hN:=h.hw;have ov:=zar h.ov hg fun g h1 h2=>h.ap g h2 h1;refine ⟨?_,?_,?_,?_,?_,?_,?_,fun k=>by rw [World.frozen?_setCell];exact kf k,?_,qD ov (fun g e=>(h.h4 g e).1) _,fun g e1 e2=>?_,fun g e=>?_,h.h4,?_,by rw [World.size_setCell];omega,h.hb,by rw [World.size_setCell];have:=h.hn;omega,h.hw⟩
 . exact (((h.bel.alloc h.bel.size o).grown hg (by have:=h.bel.size;simp;omega) (fun q hq=>by have:=(h.og.lt q hq).1;omega))).setCell (p:=⟨H,3,none⟩) hN.2.1 _
 . exact (World.cell?_setCell_other _ _ _ _ (by simp)).trans ((kc 0).trans h.d0)
 . exact (World.cell?_setCell_other _ _ _ _ (by simp)).trans ((kc 1).trans h.d1)
 . exact (World.cell?_setCell_other _ _ _ _ (by simp)).trans ((kc 2).trans h.d2)
 . exact World.cell?_setCell_same _ _ _ ((kc 3).trans h.d3)
 . exact (World.cell?_setCell_other _ _ _ _ (by simp)).trans ((kc 4).trans h.d4)
 . exact (World.cell?_setCell_other _ _ _ _ (by simp)).trans ((kc 5).trans h.d5)
 . rw [List.flatMap_append,show [x].flatMap regC=regC x by simp]
   exact qD ho (fun g e=>by simp only [Value.ownBlock,Option.some.injEq] at e;omega) _
 . simp only [Value.ownBlock,Option.some.injEq] at e1
   subst e1
   rcases hat with e | e
   . exact h.ap _ e e2
   . have:=(h.ov.lt _ e2).2;omega
 . simp only [Value.ownBlock,Option.some.injEq] at e
   subst e;exact hgH
 . rw [Below.heap_setCell _ _ _ _ h.hb,qE hg hbt fun e=>(h.h3 Bt e).2 rfl];exact h.tb
theorem Dg.push4 {x:VerD} (h:Dg rl nr vl nv H N Bt a3 c3 a4 c4 w wr) (hg:(wr.alloc o).grownBy w4 (Value.slice a4 nv c4).ownBlock) (ho:w4.ownsRow N 35 8 (.slice (some ⟨gg,0,none⟩) (nv+1) cap) (nv+1) (vl.flatMap verC ++ verC x))
   (hat:(Value.slice a4 nv c4).ownBlock=some gg\/gg=wr.heap.size+1):Dg rl nr (vl ++ [x]) (nv+1) H N Bt a3 c3 (some ⟨gg,0,none⟩) cap w (w4.setCell ⟨H,4,none⟩ (.slice (some ⟨gg,0,none⟩) (nv+1) cap)):=by
 have hlt:=h.lt;have hbt:=(Array.getElem?_eq_some_iff.1 h.tb).1;have hsz:=hg.size;simp only [World.size_alloc] at hsz;have kH:w4.heap[H]? = wr.heap[H]? := qE hg hlt fun e=>(h.h4 H e).1 rfl;have kc:∀ k,w4.cell? ⟨H,k,none⟩=wr.cell? ⟨H,k,none⟩:=fun k=>World.cell?_of_block kH;have kf:∀ k,w4.frozen? ⟨H,k,none⟩=false:=fun k=>(World.frozen?_of_block kH).trans (h.fr k)
 have hgH:gg≠H/\gg≠Bt:=by
   rcases hat with e | e
   . exact h.h4 gg e
   . omega
 have hN:=h.hw;have og:=zar h.og hg fun g h1 h2=>h.ap g h1 h2;refine ⟨?_,?_,?_,?_,?_,?_,?_,fun k=>by rw [World.frozen?_setCell];exact kf k,qD og (fun g e=>(h.h3 g e).1) _,?_,fun g e1 e2=>?_,h.h3,fun g e=>?_,?_,by rw [World.size_setCell];omega,h.hb,by rw [World.size_setCell];have:=h.hn;omega,h.hw⟩
 . exact (((h.bel.alloc h.bel.size o).grown hg (by have:=h.bel.size;simp;omega) (fun q hq=>by have:=(h.ov.lt q hq).1;omega))).setCell (p:=⟨H,4,none⟩) hN.2.1 _
 . exact (World.cell?_setCell_other _ _ _ _ (by simp)).trans ((kc 0).trans h.d0)
 . exact (World.cell?_setCell_other _ _ _ _ (by simp)).trans ((kc 1).trans h.d1)
 . exact (World.cell?_setCell_other _ _ _ _ (by simp)).trans ((kc 2).trans h.d2)
 . exact (World.cell?_setCell_other _ _ _ _ (by simp)).trans ((kc 3).trans h.d3)
 . exact World.cell?_setCell_same _ _ _ ((kc 4).trans h.d4)
 . exact (World.cell?_setCell_other _ _ _ _ (by simp)).trans ((kc 5).trans h.d5)
 . rw [List.flatMap_append,show [x].flatMap verC=verC x by simp]
   exact qD ho (fun g e=>by simp only [Value.ownBlock,Option.some.injEq] at e;omega) _
 . simp only [Value.ownBlock,Option.some.injEq] at e2
   subst e2
   rcases hat with e | e
   . exact h.ap _ e1 e
   . have:=(h.og.lt _ e1).2;omega
 . simp only [Value.ownBlock,Option.some.injEq] at e
   subst e;exact hgH
 . rw [Below.heap_setCell _ _ _ _ h.hb,qE hg hbt fun e=>(h.h4 Bt e).2 rfl];exact h.tb
theorem Dp.push3 {i j:Nat} (h:Dp i j H N Bt a3 c3 a4 c4 w wr) (hg:(wr.alloc o).grownBy w4 (Value.slice a3 (i+1) c3).ownBlock) (ho:w4.ownsRow N 37 2 (.slice (some ⟨gg,0,none⟩) (i+1+1) cap) (i+1+1) ((deepR i).flatMap regC ++ regC (regN i)))
   (hat:(Value.slice a3 (i+1) c3).ownBlock=some gg\/gg=wr.heap.size+1):Dp (i+1) j H N Bt (some ⟨gg,0,none⟩) cap a4 c4 w (w4.setCell ⟨H,3,none⟩ (.slice (some ⟨gg,0,none⟩) (i+1+1) cap)):=by
 have:=Dg.push3 h hg ho hat;rwa [<- zdG] at this
theorem Dp.push4 {i j:Nat} (h:Dp i j H N Bt a3 c3 a4 c4 w wr) (hg:(wr.alloc o).grownBy w4 (Value.slice a4 (j+2) c4).ownBlock) (ho:w4.ownsRow N 35 8 (.slice (some ⟨gg,0,none⟩) (j+2+1) cap) (j+2+1) ((deepV j).flatMap verC ++ verC (verN j)))
   (hat:(Value.slice a4 (j+2) c4).ownBlock=some gg\/gg=wr.heap.size+1):Dp i (j+1) H N Bt a3 c3 (some ⟨gg,0,none⟩) cap w (w4.setCell ⟨H,4,none⟩ (.slice (some ⟨gg,0,none⟩) (j+2+1) cap)):=by
 have:=Dg.push4 h hg ho hat;rwa [<- zdH] at this
end
theorem zcR {N s n c:Nat} {T:TypeId} {a:Option Addr} {w:World} {xs:List Value} (h:w.ownsRow N T s (.slice a n c) n xs) (hn:0<n):∃ g,a=some ⟨g,0,none⟩/\n<=c:=by
 rcases h.2 with ⟨_,h0⟩ | ⟨g,cap,cur,e,_,_,hc,_⟩
 . omega
 . simp only [Value.slice.injEq,true_and] at e
   obtain ⟨rfl,rfl⟩:=e;exact ⟨g,rfl,hc⟩
theorem Dg.mod {rl:List RegD} {vl:List VerD} {nr nv H N Bt:Nat} {a3:Option Addr} {c3:Nat} {a4:Option Addr} {c4:Nat} {w wr:World} (h:Dg rl nr vl nv H N Bt a3 c3 a4 c4 w wr) (hnr:rl.length=nr) (hnv:vl.length=nv) (pr:0<nr) (pv:0<nv) (hdf:∀ x ∈ vl,x.df=[]):Mod (fun _ b _=>N<=b) wr { smallM with zb:=rl,zc:=vl } ⟨none,0,none,0,a3,c3,a4,c4,some ⟨Bt,0,none⟩,1⟩:=by
 obtain ⟨g3,rfl,k3⟩:=zcR h.og (pr);obtain ⟨g4,rfl,k4⟩:=zcR h.ov pv
 have hc3:∀ (i:Nat) (hi:i<rl.length) (t:Nat) (ht:t<2),wr.cell? ⟨g3,0+i * 2+t,none⟩=(regC (rl[i]))[t]? := fun i hi t ht=>by
   rw [Nat.zero_add,h.og.cellAt (i * 2+t) (by omega),zb9 regC 2 (fun _=>rfl) _ i hi t ht]
 have hc4:∀ (i:Nat) (hi:i<vl.length) (t:Nat) (ht:t<8),wr.cell? ⟨g4,0+i * 8+t,none⟩=(verC vl[i])[t]? := fun i hi t ht=>by
   rw [Nat.zero_add,h.ov.cellAt (i * 8+t) (by omega),zb9 verC 8 (fun _=>rfl) _ i hi t ht]
 have hbt:=(Array.getElem?_eq_some_iff.1 h.tb).1;refine ⟨.inl ⟨_,_,rfl,rfl⟩,.inl ⟨_,_,rfl,rfl⟩,?_,?_,?_⟩
 . refine .inr ⟨g3,0,c3,rfl,by show rl.length<=_;rw [hnr];exact k3,(h.og.lt g3 rfl).2,(h.og.lt g3 rfl).1,fun i hi=>?_⟩
   exact ⟨hc3 i hi 0 (by omega),hc3 i hi 1 (by omega)⟩
 . refine .inr ⟨g4,0,c4,rfl,by show vl.length<=_;rw [hnv];exact k4,(h.ov.lt g4 rfl).2,(h.ov.lt g4 rfl).1,fun i hi=>?_⟩
   exact ⟨.slice none 0 0,.inl ⟨_,_,rfl,hdf _ (List.getElem_mem hi)⟩,hc4 i hi 0 (by omega),hc4 i hi 1 (by omega),hc4 i hi 2 (by omega),hc4 i hi 3 (by omega),hc4 i hi 4 (by omega),hc4 i hi 5 (by omega),hc4 i hi 6 (by omega),hc4 i hi 7 (by omega)⟩
 . refine .inr ⟨Bt,0,1,rfl,Nat.le_refl _,hbt,h.hw.2.2,fun i hi=>?_⟩
   obtain rfl:i=0:=by have:i<1:=hi;omega
   exact ⟨.slice none 0 0,.inl ⟨_,_,rfl,rfl⟩,zh h.tb 0,zh h.tb 1,zh h.tb 2,zh h.tb 3,zh h.tb 4,zh h.tb 5,zh h.tb 6,zh h.tb 7⟩
theorem deepV_df (k:Nat):∀ x ∈ deepV k,x.df=[]:=fun x hx=>by
 unfold deepV at hx
 rcases List.mem_append.1 hx with h | h
 . simp only [smallM,List.mem_cons,List.not_mem_nil,or_false] at h
   rcases h with rfl | rfl <;> rfl
 . obtain ⟨i,_,rfl⟩:=List.mem_map.1 h;rfl
theorem Dp.mod {k H N Bt:Nat} {a3:Option Addr} {c3:Nat} {a4:Option Addr} {c4:Nat} {w wr:World} (h:Dp k k H N Bt a3 c3 a4 c4 w wr):Mod (fun _ b _=>N<=b) wr (deepM k) ⟨none,0,none,0,a3,c3,a4,c4,some ⟨Bt,0,none⟩,1⟩:=Dg.mod h (kq k) (kr k) (by omega) (by omega) (deepV_df k)
theorem jJ {w:World} {b:Nat} {cs:Array Value} {T:TypeId} (h:w.heap[b]? = some (.cells cs T (0,0))) (k:Nat):w.frozen? ⟨b,k,none⟩=false:=by
 unfold World.frozen?;simp [h]
structure Dr (rl:List RegD) (nr:Nat) (vl:List VerD) (nv N Bt:Nat) (a3:Option Addr) (c3:Nat) (a4:Option Addr) (c4:Nat) (w:World):Prop where
 og:w.ownsRow N 37 2 (.slice a3 nr c3) nr (rl.flatMap regC)
 ov:w.ownsRow N 35 8 (.slice a4 nv c4) nv (vl.flatMap verC)
 ap:∀ g,(Value.slice a3 nr c3).ownBlock=some g->(Value.slice a4 nv c4).ownBlock≠some g
 h3:∀ g,(Value.slice a3 nr c3).ownBlock=some g->g≠Bt
 h4:∀ g,(Value.slice a4 nv c4).ownBlock=some g->g≠Bt
 tb:w.heap[Bt]? = some (.cells #[.string ⟨#[]⟩,.int .i64 0,.int .i64 1,.slice none 0 0,.int .i64 0,.string ⟨#[]⟩,.string ⟨#[]⟩,.int .u8 1] 97 (0,0))
 hn:N<=w.heap.size
 hw:N<=Bt
section
variable {rl:List RegD} {vl:List VerD} {nr nv H N Bt:Nat} {a3:Option Addr} {c3:Nat} {a4:Option Addr} {c4:Nat} {w wr:World}
theorem Dg.dr (h:Dg rl nr vl nv H N Bt a3 c3 a4 c4 w wr):Dr rl nr vl nv N Bt a3 c3 a4 c4 wr:=⟨h.og,h.ov,h.ap,fun g e=>(h.h3 g e).2,fun g e=>(h.h4 g e).2,h.tb,h.hn,h.hw.2.2⟩
theorem Dr.low (h:Dr rl nr vl nv N Bt a3 c3 a4 c4 wr) {b k:Nat} (hb:b<N) (u:Value):Dr rl nr vl nv N Bt a3 c3 a4 c4 (wr.setCell ⟨b,k,none⟩ u) :=
 ⟨qD h.og (fun g e=>by have:=(h.og.lt g e).1;omega) u,qD h.ov (fun g e=>by have:=(h.ov.lt g e).1;omega) u,h.ap,h.h3,h.h4,(Below.heap_setCell _ _ _ _ (by have:=h.hw;simp only;omega)).trans h.tb,by rw [World.size_setCell];exact h.hn,h.hw⟩
end
theorem dp_start {W1 w2:World} (g2:Bl W1 w2) (b1:w2.heap[W1.heap.size+1]? = some (.cells #[.string ⟨#[]⟩,.int .i64 (-1)] 37 (0,0)))
   (b2:w2.heap[W1.heap.size+2]? = some (.cells #[.string ⟨#[]⟩,.int .u8 3,.int .i64 0,.int .i64 (-1),.string ⟨#[]⟩,.string ⟨#[]⟩,.slice none 0 0,.string ⟨#[]⟩,.string ⟨#[115]⟩,.int .u8 1,.int .i64 0,.int .i64 (-1),.string ⟨#[]⟩,.string ⟨#[]⟩,.slice none 0 0,.string ⟨#[]⟩] 35 (0,0)))
   (b3:w2.heap[W1.heap.size+3]? = some (.cells #[.string ⟨#[]⟩,.int .i64 0,.int .i64 1,.slice none 0 0,.int .i64 0,.string ⟨#[]⟩,.string ⟨#[]⟩,.int .u8 1] 97 (0,0))) :
   Dp 0 0 w2.heap.size (W1.heap.size+1) (W1.heap.size+3) (some ⟨W1.heap.size+1,0,none⟩) 1 (some ⟨W1.heap.size+2,0,none⟩) 2 W1 (w2.alloc (.cells #[.string ⟨#[77]⟩,.slice none 0 0,.slice none 0 0,.slice (some ⟨W1.heap.size+1,0,none⟩) 1 1,.slice (some ⟨W1.heap.size+2,0,none⟩) 2 2,.slice (some ⟨W1.heap.size+3,0,none⟩) 1 1] 28)):=by
 have l1:=(Array.getElem?_eq_some_iff.1 b1).1;have l2:=(Array.getElem?_eq_some_iff.1 b2).1;have l3:=(Array.getElem?_eq_some_iff.1 b3).1;have e:=World.alloc_heap_new w2 (.cells #[.string ⟨#[77]⟩,.slice none 0 0,.slice none 0 0,.slice (some ⟨W1.heap.size+1,0,none⟩) 1 1,.slice (some ⟨W1.heap.size+2,0,none⟩) 2 2,.slice (some ⟨W1.heap.size+3,0,none⟩) 1 1] 28);have k:∀ b,b<w2.heap.size->(w2.alloc (.cells #[.string ⟨#[77]⟩,.slice none 0 0,.slice none 0 0,.slice (some ⟨W1.heap.size+1,0,none⟩) 1 1,.slice (some ⟨W1.heap.size+2,0,none⟩) 2 2,.slice (some ⟨W1.heap.size+3,0,none⟩) 1 1] 28)).heap[b]? = w2.heap[b]? := fun b hb=>Below.heap_alloc _ _ _ hb;refine ⟨g2.alloc g2.size _,zh e 0,zh e 1,zh e 2,zh e 3,zh e 4,zh e 5,jJ e,⟨rfl,.inr ⟨_,1,_,rfl,Nat.le_refl _,(k _ l1).trans b1,Nat.le_refl _,by unfold maxLen;omega,rfl,rfl⟩⟩,⟨rfl,.inr ⟨_,2,_,rfl,by omega,(k _ l2).trans b2,Nat.le_refl _,by unfold maxLen;omega,rfl,rfl⟩⟩,fun g h1 h2=>?_,fun g h1=>?_,fun g h1=>?_,(k _ l3).trans b3,by simp,by omega,by simp;omega,by omega,g2.size,by omega⟩
 . simp only [Value.ownBlock,Option.some.injEq] at h1 h2;omega
 . simp only [Value.ownBlock,Option.some.injEq] at h1;omega
 . simp only [Value.ownBlock,Option.some.injEq] at h1;omega
theorem zbw (w:World) (o:Obj):(w.alloc o).heap[w.heap.size]? = some o:=World.alloc_heap_new w o
def SmL (w:World) (e:Ending) (w':World):Prop:=e=.returned (mdV smallM ⟨none,0,none,0,some ⟨w.heap.size+1,0,none⟩,1,some ⟨w.heap.size+2,0,none⟩,2,some ⟨w.heap.size+3,0,none⟩,1⟩)/\Bl w w' /\
 w'.heap[w.heap.size+1]? = some (.cells #[.string ⟨#[]⟩,.int .i64 (-1)] 37 (0,0)) /\
 w'.heap[w.heap.size+2]? = some (.cells #[.string ⟨#[]⟩,.int .u8 3,.int .i64 0,.int .i64 (-1),.string ⟨#[]⟩,.string ⟨#[]⟩,.slice none 0 0,.string ⟨#[]⟩,.string ⟨#[115]⟩,.int .u8 1,.int .i64 0,.int .i64 (-1),.string ⟨#[]⟩,.string ⟨#[]⟩,.slice none 0 0,.string ⟨#[]⟩] 35 (0,0)) /\
 w'.heap[w.heap.size+3]? = some (.cells #[.string ⟨#[]⟩,.int .i64 0,.int .i64 1,.slice none 0 0,.int .i64 0,.string ⟨#[]⟩,.string ⟨#[]⟩,.int .u8 1] 97 (0,0))
theorem zfo (w:World):Calls prog 48 #[] w (SmL w):=by
 go_enter func48,ntmps48;go_wp2_with fail;refine bodyPost_ret (v:=mdV smallM ⟨none,0,none,0,some ⟨w.heap.size+1,0,none⟩,1,some ⟨w.heap.size+2,0,none⟩,2,some ⟨w.heap.size+3,0,none⟩,1⟩) (by simp [results,results48,go_sem,mdV,smallM]) rfl ⟨rfl,(((zg w _).alloc (by simp) _).alloc (by simp;omega) _).alloc (by simp;omega) _,at4_1 _ _ _ _ _,at4_2 _ _ _ _ _,at4_3 _ _ _ _ _⟩
def DeepO (n:Nat) (w:World) (e:Ending) (w':World):Prop:=∃ N Bt a3 c3 a4 c4,e=.returned (mdV (deepM n) ⟨none,0,none,0,a3,c3,a4,c4,some ⟨Bt,0,none⟩,1⟩)/\Mod anyM w' (deepM n) ⟨none,0,none,0,a3,c3,a4,c4,some ⟨Bt,0,none⟩,1⟩/\Dr (deepR n) (n+1) (deepV n) (n+2) N Bt a3 c3 a4 c4 w'/\w.heap.size<=N/\Bl w w'
theorem deep_own (n:Nat) (hn:n<=1000) (w:World):Calls prog 14 #[.int .i64 (n:Int)] w (DeepO n w):=by
 obtain ⟨iR,hiR,zR0,zR1,zR2⟩:=info_parts info_Reg;obtain ⟨iV,hiV,zV0,zV1,zV2⟩:=info_parts info_Ver;unfold DeepO;go_enter func14,ntmps14;go_upto_region 1 with fail;have HZ:Hid ((w.alloc (.cells #[.string ⟨#[]⟩,.slice none 0 0,.slice none 0 0,.slice none 0 0,.slice none 0 0,.slice none 0 0] 28)).heap[w.heap.size]? = some (.cells #[.string ⟨#[]⟩,.slice none 0 0,.slice none 0 0,.slice none 0 0,.slice none 0 0,.slice none 0 0] 28 (0,0))):=hid (World.alloc_heap_new w _);have HB1:Hid (Bl w (w.alloc (.cells #[.string ⟨#[]⟩,.slice none 0 0,.slice none 0 0,.slice none 0 0,.slice none 0 0,.slice none 0 0] 28))):=hid (zg w _);have hz1:Hid ((w.alloc (.cells #[.string ⟨#[]⟩,.slice none 0 0,.slice none 0 0,.slice none 0 0,.slice none 0 0,.slice none 0 0] 28)).heap.size=w.heap.size+1):=hid (by simp);generalize w.alloc (.cells #[.string ⟨#[]⟩,.slice none 0 0,.slice none 0 0,.slice none 0 0,.slice none 0 0,.slice none 0 0] 28)=W1 at *;have SL:=hid (zfo W1);unfold SmL at SL;unfold mdV smallM at SL;go_wp2_with fail;(with_reducible refine (SL.o).mono ?_);rintro e w2 ⟨rfl,g2,b1,b2,b3⟩;have HD:=hid (dp_start g2 b1 b2 b3);have hz2:W1.heap.size<=w2.heap.size:=g2.size;obtain ⟨H,hH⟩:=ex2 w2.heap.size;rw [hH] at HD hz2;clear g2 b1 b2 b3 SL;go_upto_region 2 with fail;clear hH;generalize w2.alloc (.cells #[.string ⟨#[77]⟩,.slice none 0 0,.slice none 0 0,.slice (some ⟨W1.heap.size+1,0,none⟩) 1 1,.slice (some ⟨W1.heap.size+2,0,none⟩) 2 2,.slice (some ⟨W1.heap.size+3,0,none⟩) 1 1] 28)=W3 at *;generalize W1.heap.size+1=N at *;go_wp2_with fail
 go_loopw [4] (fun i wr=>∃ k:Nat,k<=n/\i=.int .i64 k/\∃ a3 c3 a4 c4,Dp k k H N (W1.heap.size+3) a3 c3 a4 c4 W1 wr) (fun i _=>n - (intOf i).toNat)
 case atStart=>exact ⟨0,by omega,rfl,_,_,_,_,HD.o⟩
 case round =>
  obtain ⟨wo,rfl⟩:=ex1 wr;obtain ⟨k,hk,rfl,a3,c3,a4,c4,hd⟩:=hrel;have HDo:=hid hd;obtain ⟨_,d0,d1,d2,d3,d4,d5,fr,_⟩:=hd;have f0:=fr 0;have f1:=fr 1;have f2:=fr 2;have f3:=fr 3;have f4:=fr 4;have f5:=fr 5;clear fr HD
  by_cases hlt:k<n
  . have hI:(k:Int)<(n:Int):=by omega
    have hlen:k+2<=1002:=by omega
    go_upto_region 6 with (at_builtin;go_loud (refine wpList_append_lies _ rfl _ _ 24 rfl N 37 iR _ 2 24 underlying24 hiR zR0 zR1 zR2 rfl (by omega) _ (k+1) ((deepR k).flatMap regC) rfl (HDo.o.og.alloc _) ⟨wo.heap.size,0,none⟩ 1 1 [.string ⟨#[]⟩,.int .i64 (((k+2:Nat):Int) - 1)] rfl rfl (World.news_of_block (cs:=#[.string ⟨#[]⟩,.int .i64 (((k+2:Nat):Int) - 1)]) (t:=37) (fr:=(0,0)) (zbw wo _)) (by simp [Value.oneCell']) (by omega) (by unfold maxLen;omega) (by omega) (by have:=HDo.o.hn;simp;omega) (wo.heap.size+1) (by simp) ?_;intro gg cap w4 hown4 hgrow4 hat4 hlt4;have HD4:=hid (HDo.o.push3 hgrow4 (by rw [show regC (regN k)=[.string ⟨#[]⟩,.int .i64 (((k+2:Nat):Int) - 1)] by simp only [regC,regN];congr 3;omega];exact hown4) hat4);have kH:=qE hgrow4 HDo.o.lt (fun e=>(HDo.o.h3 H e).1 rfl);have s3:=(World.cell?_of_block (w:=wo) (a:=⟨H,3,none⟩) kH).trans d3;have t3:=(World.frozen?_of_block (w:=wo) (a:=⟨H,3,none⟩) kH).trans f3;clear hown4 hgrow4 hat4 hlt4 kH));generalize w4.setCell ⟨H,3,none⟩ (.slice (some ⟨gg,0,none⟩) (k+1+1) cap)=W5 at *;clear d0 d1 d2 d3 d4 d5 f0 f1 f2 f3 f4 f5 s3 t3 HDo;obtain ⟨_,d0,d1,d2,d3,d4,d5,fr,_⟩:=HD4.o;have f4:=fr 4;clear fr;go_wp2_with (at_builtin;go_loud (refine wpList_append_lies _ rfl _ _ 25 rfl N 35 iV _ 8 112 underlying25 hiV zV0 zV1 zV2 rfl (by omega) _ (k+2) ((deepV k).flatMap verC) rfl (HD4.o.ov.alloc _) ⟨W5.heap.size,0,none⟩ 1 1 [.string ⟨#[]⟩,.int .u8 1,.int .i64 ((k:Int)+1),.int .i64 (-1),.string ⟨#[]⟩,.string ⟨#[]⟩,.slice none 0 0,.string ⟨#[]⟩] rfl rfl (World.news_of_block (cs:=#[.string ⟨#[]⟩,.int .u8 1,.int .i64 ((k:Int)+1),.int .i64 (-1),.string ⟨#[]⟩,.string ⟨#[]⟩,.slice none 0 0,.string ⟨#[]⟩]) (t:=35) (fr:=(0,0)) (zbw W5 _)) (by simp [Value.oneCell']) (by omega) (by unfold maxLen;omega) (by omega) (by have:=HD4.o.hn;simp;omega) (W5.heap.size+1) (by simp) ?_;intro g6 cap6 w6 hown6 hgrow6 hat6 hlt6;have HD6:=hid (HD4.o.push4 hgrow6 (by rw [show verC (verN k)=[.string ⟨#[]⟩,.int .u8 1,.int .i64 ((k:Int)+1),.int .i64 (-1),.string ⟨#[]⟩,.string ⟨#[]⟩,.slice none 0 0,.string ⟨#[]⟩] by simp [verC,verN]];exact hown6) hat6);have kH:=qE hgrow6 HD4.o.lt (fun e=>(HD4.o.h4 H e).1 rfl);have s4:=(World.cell?_of_block (w:=W5) (a:=⟨H,4,none⟩) kH).trans d4;have t4:=(World.frozen?_of_block (w:=W5) (a:=⟨H,4,none⟩) kH).trans f4;clear hown6 hgrow6 hat6 hlt6 kH));go_roundw
    case rel=>exact ⟨k+1,by omega,by go_num,_,_,_,_,HD6.o⟩
    case measure=>simp [intOf] <;> omega
  . obtain rfl:n=k:=by omega
    have hbo:=HDo.o.bel;have hN:=HDo.o.hw;have hz1:=hz1.o;have hR:=(hbo.block w.heap.size (by omega)).trans HZ.o;have hz1':w.heap.size<N:=by have:=hN.1;omega
    clear hz1;have r0:=zh hR 0;have r1:=zh hR 1;have r2:=zh hR 2;have r3:=zh hR 3;have r4:=zh hR 4;have r5:=zh hR 5;have e0:=jJ hR 0;have e1:=jJ hR 1;have e2:=jJ hR 2;have e3:=jJ hR 3;have e4:=jJ hR 4;have e5:=jJ hR 5;simp only [List.getElem?_toArray,List.getElem?_cons_zero,List.getElem?_cons_succ] at r0 r1 r2 r3 r4 r5;have HM:=hid HDo.o.mod
    have hlt:∀ (u0 u1 u2 u3 u4 u5:Value),Kept (fun b _=>N<=b) wo ((((((wo.setCell ⟨w.heap.size,0,none⟩ u0).setCell ⟨w.heap.size,1,none⟩ u1).setCell ⟨w.heap.size,2,none⟩ u2).setCell ⟨w.heap.size,3,none⟩ u3).setCell ⟨w.heap.size,4,none⟩ u4).setCell ⟨w.heap.size,5,none⟩ u5):=fun u0 u1 u2 u3 u4 u5 =>
      have hw:w.heap.size<N:=by have:=hz1';omega
      (((((Kept.setCell (a:=⟨w.heap.size,0,none⟩) fun _ hQ=>by have:N<=w.heap.size:=hQ;omega).trans (Kept.setCell (a:=⟨w.heap.size,1,none⟩) fun _ hQ=>by have:N<=w.heap.size:=hQ;omega)).trans (Kept.setCell (a:=⟨w.heap.size,2,none⟩) fun _ hQ=>by have:N<=w.heap.size:=hQ;omega)).trans (Kept.setCell (a:=⟨w.heap.size,3,none⟩) fun _ hQ=>by have:N<=w.heap.size:=hQ;omega)).trans (Kept.setCell (a:=⟨w.heap.size,4,none⟩) fun _ hQ=>by have:N<=w.heap.size:=hQ;omega)).trans (Kept.setCell (a:=⟨w.heap.size,5,none⟩) fun _ hQ=>by have:N<=w.heap.size:=hQ;omega)
    have HK:=hid hlt;clear hlt;go_wp2_with fail;refine bodyPost_ret (v:=mdV (deepM n) ⟨none,0,none,0,a3,c3,a4,c4,some ⟨W1.heap.size+3,0,none⟩,1⟩) (by simp [results,results14,go_sem,r0,r1,r2,r3,r4,r5,mdV,deepM,smallM,kq,kr]) rfl ⟨N,W1.heap.size+3,a3,c3,a4,c4,rfl,((HM.o.kept fun _=>HK.o _ _ _ _ _ _)).any,(((((HDo.o.dr.low hz1' _).low hz1' _).low hz1' _).low hz1' _).low hz1' _).low hz1' _,by omega,?_⟩;exact ((((((HB1.o.trans (hbo.mono HB1.o.size)).setCell (p:=⟨w.heap.size,0,none⟩) (Nat.le_refl _) _).setCell (p:=⟨w.heap.size,1,none⟩) (Nat.le_refl _) _).setCell (p:=⟨w.heap.size,2,none⟩) (Nat.le_refl _) _).setCell (p:=⟨w.heap.size,3,none⟩) (Nat.le_refl _) _).setCell (p:=⟨w.heap.size,4,none⟩) (Nat.le_refl _) _).setCell (p:=⟨w.heap.size,5,none⟩) (Nat.le_refl _) _
theorem deep_any (n:Nat) (hn:n<=1000) (w:World):Calls prog 14 #[.int .i64 (n:Int)] w (MadeP (deepM n) w):=(deep_own n hn w).mono fun e w' ⟨_,_,_,_,_,_,he,hm,_,_,hb⟩=>⟨_,he,hm,hb⟩
end Go.Proofs
