/- States in one another: the model that 'Deep' makes, and where it lies. -/
import Derived.Test.YtfladiadgkfebaaGreatDoorKMdRSm
import Derived.RangeFuncRecord
namespace Go.Proofs
open Go.RowKit Go.Lx Go.Md Go.Shelf
set_option maxRecDepth 100000
set_option maxHeartbeats 0
set_option linter.unusedVariables false
def regN (i:Nat):RegD:=⟨⟨#[]⟩,((i+1:Nat):Int)⟩
def verN (i:Nat):VerD:=⟨⟨#[]⟩,1,((i+1:Nat):Int),-1,⟨#[]⟩,⟨#[]⟩,[],⟨#[]⟩⟩
def deepR (k:Nat):List RegD:=smallM.regs ++ (List.range k).map regN
def deepV (k:Nat):List VerD:=smallM.vers ++ (List.range k).map verN
def deepM (k:Nat):MdlD:={ smallM with regs:=deepR k,vers:=deepV k }
theorem deepR_len (k:Nat):(deepR k).length=k+1:=by simp [deepR,smallM]
theorem deepV_len (k:Nat):(deepV k).length=k+2:=by simp [deepV,smallM]
def regC (x:RegD):List Value:=[.string x.nm,.int .i64 x.own]
def verC (x:VerD):List Value:=[.string x.nm,.int .u8 x.kd,.int .i64 x.rg,.int .i64 x.ofv,.string x.en,.string x.ex,.slice none 0 0,.string x.sb]
theorem flat_ix {α β:Type} (f:α->List β) (n:Nat) (hf:∀ x,(f x).length=n):∀ (l:List α) (i:Nat) (hi:i<l.length) (t:Nat) (ht:t<n),(l.flatMap f)[i * n+t]? = (f l[i])[t]?
 | [],i,hi,t,ht=>absurd hi (by simp)
 | x :: l,0,hi,t,ht=>by
   rw [List.flatMap_cons,List.getElem?_append_left (by rw [hf];omega)]
   simp
 | x :: l,i+1,hi,t,ht=>by
   rw [List.flatMap_cons,List.getElem?_append_right (by rw [hf,Nat.succ_mul];omega),hf,show (i+1) * n+t - n=i * n+t by rw [Nat.succ_mul];omega]
   rw [flat_ix f n hf l i (by simpa using hi) t ht]
   simp
structure Dg (rl:List RegD) (nr:Nat) (vl:List VerD) (nv H N Bt:Nat) (a3:Option Addr) (c3:Nat) (a4:Option Addr) (c4:Nat) (w wr:World):Prop where
 bel:Bl w wr
 d0:wr.cell? ⟨H,0,none⟩=some (.string ⟨#[77]⟩)
 d1:wr.cell? ⟨H,1,none⟩=some (.slice none 0 0)
 d2:wr.cell? ⟨H,2,none⟩=some (.slice none 0 0)
 d3:wr.cell? ⟨H,3,none⟩=some (.slice a3 nr c3)
 d4:wr.cell? ⟨H,4,none⟩=some (.slice a4 nv c4)
 d5:wr.cell? ⟨H,5,none⟩=some (.slice (some ⟨Bt,0,none⟩) 1 1)
 fr:∀ k,wr.frozen? ⟨H,k,none⟩=false
 og:wr.ownsRow N 57 2 (.slice a3 nr c3) nr (rl.flatMap regC)
 ov:wr.ownsRow N 49 8 (.slice a4 nv c4) nv (vl.flatMap verC)
 ap:∀ g,(Value.slice a3 nr c3).ownBlock=some g->(Value.slice a4 nv c4).ownBlock≠some g
 h3:∀ g,(Value.slice a3 nr c3).ownBlock=some g->g≠H/\g≠Bt
 h4:∀ g,(Value.slice a4 nv c4).ownBlock=some g->g≠H/\g≠Bt
 tb:wr.heap[Bt]? = some (.cells #[.string ⟨#[]⟩,.int .i64 0,.int .i64 1,.slice none 0 0,.int .i64 0,.string ⟨#[]⟩,.string ⟨#[]⟩,.int .u8 1] 59 (0,0))
 lt:H<wr.heap.size
 hb:Bt≠H
 hn:N<=wr.heap.size
 hw:w.heap.size<=N/\w.heap.size<=H/\N<=Bt
abbrev Dp (i j:Nat):=Dg (deepR i) (i+1) (deepV j) (j+2)
theorem own_else {N s n b k:Nat} {T:TypeId} {v:Value} {xs:List Value} {w:World} (h:w.ownsRow N T s v n xs) (hne:∀ g,v.ownBlock=some g->g≠b) (u:Value):(w.setCell ⟨b,k,none⟩ u).ownsRow N T s v n xs:=by
 obtain ⟨h1,h2⟩:=h
 refine ⟨h1,?_⟩
 rcases h2 with h2 | ⟨g,cap,cur,e,hb,hgc,r'⟩
 . exact .inl h2
 . exact .inr ⟨g,cap,cur,e,hb,by rw [Below.heap_setCell _ _ _ _ (hne g (by rw [e];rfl))];exact hgc,r'⟩
section
variable {rl:List RegD} {vl:List VerD} {nr nv H N Bt:Nat} {a3:Option Addr} {c3:Nat} {a4:Option Addr} {c4:Nat} {w wr w4:World} {o:Obj} {gg cap:Nat}
end
theorem own_posS {N s n c:Nat} {T:TypeId} {a:Option Addr} {w:World} {xs:List Value} (h:w.ownsRow N T s (.slice a n c) n xs) (hn:0<n):∃ g,a=some ⟨g,0,none⟩/\n<=c:=by
 rcases h.2 with ⟨_,h0⟩ | ⟨g,cap,cur,e,_,_,hc,_⟩
 . omega
 . simp only [Value.slice.injEq,true_and] at e
   obtain ⟨rfl,rfl⟩:=e
   exact ⟨g,rfl,hc⟩
theorem Dg.mod {rl:List RegD} {vl:List VerD} {nr nv H N Bt:Nat} {a3:Option Addr} {c3:Nat} {a4:Option Addr} {c4:Nat} {w wr:World} (h:Dg rl nr vl nv H N Bt a3 c3 a4 c4 w wr) (hnr:rl.length=nr) (hnv:vl.length=nv) (pr:0<nr) (pv:0<nv) (hdf:∀ x ∈ vl,x.df=[]):Mod (fun _ b _=>N<=b) wr { smallM with regs:=rl,vers:=vl } ⟨none,0,none,0,a3,c3,a4,c4,some ⟨Bt,0,none⟩,1⟩:=by
 obtain ⟨g3,rfl,k3⟩:=own_posS h.og (pr)
 obtain ⟨g4,rfl,k4⟩:=own_posS h.ov pv
 have hc3:∀ (i:Nat) (hi:i<rl.length) (t:Nat) (ht:t<2),wr.cell? ⟨g3,0+i * 2+t,none⟩=(regC (rl[i]))[t]? := fun i hi t ht=>by
   rw [Nat.zero_add,h.og.cellAt (i * 2+t) (by omega),flat_ix regC 2 (fun _=>rfl) _ i hi t ht]
 have hc4:∀ (i:Nat) (hi:i<vl.length) (t:Nat) (ht:t<8),wr.cell? ⟨g4,0+i * 8+t,none⟩=(verC vl[i])[t]? := fun i hi t ht=>by
   rw [Nat.zero_add,h.ov.cellAt (i * 8+t) (by omega),flat_ix verC 8 (fun _=>rfl) _ i hi t ht]
 have hbt:=(Array.getElem?_eq_some_iff.1 h.tb).1
 refine ⟨.inl ⟨_,_,rfl,rfl⟩,.inl ⟨_,_,rfl,rfl⟩,?_,?_,?_⟩
 . refine .inr ⟨g3,0,c3,rfl,by show rl.length<=_;rw [hnr];exact k3,(h.og.lt g3 rfl).2,(h.og.lt g3 rfl).1,fun i hi=>?_⟩
   exact ⟨hc3 i hi 0 (by omega),hc3 i hi 1 (by omega)⟩
 . refine .inr ⟨g4,0,c4,rfl,by show vl.length<=_;rw [hnv];exact k4,(h.ov.lt g4 rfl).2,(h.ov.lt g4 rfl).1,fun i hi=>?_⟩
   exact ⟨.slice none 0 0,.inl ⟨_,_,rfl,hdf _ (List.getElem_mem hi)⟩,hc4 i hi 0 (by omega),hc4 i hi 1 (by omega),hc4 i hi 2 (by omega),hc4 i hi 3 (by omega),hc4 i hi 4 (by omega),hc4 i hi 5 (by omega),hc4 i hi 6 (by omega),hc4 i hi 7 (by omega)⟩
 . refine .inr ⟨Bt,0,1,rfl,Nat.le_refl _,hbt,h.hw.2.2,fun i hi=>?_⟩
   obtain rfl:i=0:=by have:i<1:=hi;omega
   exact ⟨.slice none 0 0,.inl ⟨_,_,rfl,rfl⟩,cell_blk h.tb 0,cell_blk h.tb 1,cell_blk h.tb 2,cell_blk h.tb 3,cell_blk h.tb 4,cell_blk h.tb 5,cell_blk h.tb 6,cell_blk h.tb 7⟩
theorem deepV_df (k:Nat):∀ x ∈ deepV k,x.df=[]:=fun x hx=>by
 unfold deepV at hx
 rcases List.mem_append.1 hx with h | h
 . simp only [smallM,List.mem_cons,List.not_mem_nil,or_false] at h
   rcases h with rfl | rfl <;> rfl
 . obtain ⟨i,_,rfl⟩:=List.mem_map.1 h;rfl
theorem Dp.mod {k H N Bt:Nat} {a3:Option Addr} {c3:Nat} {a4:Option Addr} {c4:Nat} {w wr:World} (h:Dp k k H N Bt a3 c3 a4 c4 w wr):Mod (fun _ b _=>N<=b) wr (deepM k) ⟨none,0,none,0,a3,c3,a4,c4,some ⟨Bt,0,none⟩,1⟩:=Dg.mod h (deepR_len k) (deepV_len k) (by omega) (by omega) (deepV_df k)
structure Dr (rl:List RegD) (nr:Nat) (vl:List VerD) (nv N Bt:Nat) (a3:Option Addr) (c3:Nat) (a4:Option Addr) (c4:Nat) (w:World):Prop where
 og:w.ownsRow N 57 2 (.slice a3 nr c3) nr (rl.flatMap regC)
 ov:w.ownsRow N 49 8 (.slice a4 nv c4) nv (vl.flatMap verC)
 ap:∀ g,(Value.slice a3 nr c3).ownBlock=some g->(Value.slice a4 nv c4).ownBlock≠some g
 h3:∀ g,(Value.slice a3 nr c3).ownBlock=some g->g≠Bt
 h4:∀ g,(Value.slice a4 nv c4).ownBlock=some g->g≠Bt
 tb:w.heap[Bt]? = some (.cells #[.string ⟨#[]⟩,.int .i64 0,.int .i64 1,.slice none 0 0,.int .i64 0,.string ⟨#[]⟩,.string ⟨#[]⟩,.int .u8 1] 59 (0,0))
 hn:N<=w.heap.size
 hw:N<=Bt
section
variable {rl:List RegD} {vl:List VerD} {nr nv H N Bt:Nat} {a3:Option Addr} {c3:Nat} {a4:Option Addr} {c4:Nat} {w wr:World}
theorem Dr.low (h:Dr rl nr vl nv N Bt a3 c3 a4 c4 wr) {b k:Nat} (hb:b<N) (u:Value):Dr rl nr vl nv N Bt a3 c3 a4 c4 (wr.setCell ⟨b,k,none⟩ u) :=
 ⟨own_else h.og (fun g e=>by have:=(h.og.lt g e).1;omega) u,own_else h.ov (fun g e=>by have:=(h.ov.lt g e).1;omega) u,h.ap,h.h3,h.h4,(Below.heap_setCell _ _ _ _ (by have:=h.hw;simp only;omega)).trans h.tb,by rw [World.size_setCell];exact h.hn,h.hw⟩
end
def SmL (w:World) (e:Ending) (w':World):Prop:=e=.returned (mdV smallM ⟨none,0,none,0,some ⟨w.heap.size+1,0,none⟩,1,some ⟨w.heap.size+2,0,none⟩,2,some ⟨w.heap.size+3,0,none⟩,1⟩)/\Bl w w' /\
 w'.heap[w.heap.size+1]? = some (.cells #[.string ⟨#[]⟩,.int .i64 (-1)] 57 (0,0)) /\
 w'.heap[w.heap.size+2]? = some (.cells #[.string ⟨#[]⟩,.int .u8 3,.int .i64 0,.int .i64 (-1),.string ⟨#[]⟩,.string ⟨#[]⟩,.slice none 0 0,.string ⟨#[]⟩,.string ⟨#[115]⟩,.int .u8 1,.int .i64 0,.int .i64 (-1),.string ⟨#[]⟩,.string ⟨#[]⟩,.slice none 0 0,.string ⟨#[]⟩] 49 (0,0)) /\
 w'.heap[w.heap.size+3]? = some (.cells #[.string ⟨#[]⟩,.int .i64 0,.int .i64 1,.slice none 0 0,.int .i64 0,.string ⟨#[]⟩,.string ⟨#[]⟩,.int .u8 1] 59 (0,0))
theorem small_lay (w:World):Calls Tryz.prog 17 #[] w (SmL w):=by
 go_enter Tryz.func17,Tryz.ntmps17
 go_wp2_with fail
 refine bodyPost_ret (v:=mdV smallM ⟨none,0,none,0,some ⟨w.heap.size+1,0,none⟩,1,some ⟨w.heap.size+2,0,none⟩,2,some ⟨w.heap.size+3,0,none⟩,1⟩) (by simp [results,Tryz.results17,go_sem,mdV,smallM]) rfl ⟨rfl,(((below_al1 w _).alloc (by simp) _).alloc (by simp;omega) _).alloc (by simp;omega) _,at4_1 _ _ _ _ _,at4_2 _ _ _ _ _,at4_3 _ _ _ _ _⟩
end Go.Proofs
