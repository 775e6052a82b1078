/- 'index.New' on its way: the places, the rows, the maps. -/
import Derived.Test.YtiimoclbmaggjaaGreatDoorZIxA
import Derived.Maps.OwnOps
import Derived.Maps.OwnSet
import Derived.Maps.Views
import Derived.Deep.RegionHeld
import Derived.Test.YtiimoclbmaggjaaGreatDoorZIxU
namespace Go.Proofs
open Go.RowKit Go.Lx Go.Md Go.Maps
open Go.Proofs.Tryz hiding f4 f5
set_option linter.unusedVariables false
inductive RK where
 | kid | own | pnt | out | into
 deriving DecidableEq
abbrev RI:=RK × Int
def upd {β:Type} (f:RI->β) (i:RI) (x:β):RI->β:=fun j=>if j=i then x else f j
theorem zM {β:Type} (f:RI->β) (i:RI) (x:β):upd f i x i=x:=by simp [upd]
theorem zw {β:Type} {f:RI->β} {i j:RI} {x:β} (h:j≠i):upd f i x j=f j:=by simp [upd,h]
abbrev nums (l:List Int):List Value:=l.map (Value.int .i64)
structure Rws (N:Nat) (F:RI->List Int) (V:RI->Value) (w:World):Prop where
 own:∀ i,w.ownsRow N 3 1 (V i) (F i).length (nums (F i))
 ap:∀ i j,i≠j->(V i).ownBlock=none\/(V i).ownBlock≠(V j).ownBlock
theorem Rws.keep {N:Nat} {F:RI->List Int} {V:RI->Value} {w w':World} (h:Rws N F V w) (hk:∀ i g,(V i).ownBlock=some g->w'.heap[g]? = w.heap[g]?):Rws N F V w':=by
 refine ⟨fun i=>?_,h.ap⟩;obtain ⟨h1,h2⟩:=h.own i;refine ⟨h1,?_⟩
 rcases h2 with h2 | ⟨g,cap,cur,e,hb,hg,r⟩
 . exact .inl h2
 . exact .inr ⟨g,cap,cur,e,hb,by rw [hk i g (by rw [e];rfl)];exact hg,r⟩
theorem Rws.lt {N:Nat} {F:RI->List Int} {V:RI->Value} {w:World} (h:Rws N F V w) {i:RI} {g:Nat} (hg:(V i).ownBlock=some g):N<=g/\g<w.heap.size:=by
 have:=(h.own i).lt g hg;exact ⟨this.1,this.2⟩
theorem Rws.start (N:Nat) (w:World):Rws N (fun _=>[]) (fun _=>.slice none 0 0) w:=⟨fun _=>⟨by simp,.inl ⟨rfl,rfl⟩⟩,fun _ _ _=>.inl rfl⟩
theorem Rws.push {N:Nat} {F:RI->List Int} {V:RI->Value} {w w1:World} {o:Obj} {i:RI} {x:Int} {gg cap:Nat} (h:Rws N F V w) (hg:(w.drew.alloc o).grownBy w1 (V i).ownBlock) (hat:(V i).ownBlock=some gg\/gg=w.heap.size+1)
   (ho:w1.ownsRow N 3 1 (.slice (some ⟨gg,0,none⟩) ((F i).length+1) cap) ((F i).length+1) (nums (F i) ++ [.int .i64 x])):Rws N (upd F i (F i ++ [x])) (upd V i (.slice (some ⟨gg,0,none⟩) ((F i).length+1) cap)) w1:=by
 have hsz:(w.drew.alloc o).heap.size=w.heap.size+1:=by simp
 have hgk:∀ j g,j≠i->(V j).ownBlock=some g->w1.heap[g]? = w.heap[g]? := fun j g hj hb=>by
   have hl:=(h.lt hb).2;rw [hg.block g (by omega) (fun e=>?_)]
   . exact Below.heap_alloc w.drew o g (by simpa using hl)
   . rcases h.ap j i hj with h1 | h1
     . rw [h1] at hb;cases hb
     . exact h1 (by rw [hb];exact e)
 refine ⟨fun j=>?_,fun j k hjk=>?_⟩
 . by_cases hj:j=i
   . subst hj
     rw [zM,zM];simpa [nums] using ho
   . rw [zw hj,zw hj]
     obtain ⟨h1,h2⟩:=h.own j;refine ⟨h1,?_⟩
     rcases h2 with h2 | ⟨g,cp,cur,e,hb,hgc,r⟩
     . exact .inl h2
     . exact .inr ⟨g,cp,cur,e,hb,by rw [hgk j g hj (by rw [e];rfl)];exact hgc,r⟩
 . have key:∀ a,a≠i->(V a).ownBlock=none\/(V a).ownBlock≠some gg:=fun a ha=>by
     cases hb:(V a).ownBlock with
     | none=>exact .inl rfl
     | some g =>
      refine .inr fun e=>?_
      injection e with e
      subst e
      rcases hat with h1 | h1
      . rcases h.ap a i ha with h2 | h2
        . rw [h2] at hb;cases hb
        . exact h2 (by rw [hb,h1])
      . have:=(h.lt hb).2;omega
   by_cases hj:j=i
   . subst hj
     have hk:k≠j:=fun e=>hjk e.symm;rw [zM,zw hk]
     rcases key k hk with h1 | h1
     . exact .inr (by rw [h1];simp [Value.ownBlock])
     . exact .inr (by simp only [Value.ownBlock];exact fun e=>h1 e.symm)
   . rw [zw hj]
     by_cases hk:k=i
     . subst hk
       rw [zM]
       rcases key j hj with h1 | h1
       . exact .inl h1
       . exact .inr h1
     . rw [zw hk];exact h.ap j k hjk
def holdR (v:Value):Option (DataW Value × List MemPlace):=some (.held v,[])
theorem zer:Keyed prog 3:=int_keyed underlying3
theorem ze4 (w:World):(zeroValue 31).run prog w=.ok (.slice none 0 0) w:=by kernel_rfl
def MapAt (b cnt:Nat) (f:Int->Value) (w:World):Prop:=∃ D,w.ownsMap prog 3 holdR b cnt D/\∀ s:Int,D.atKey (.int .i64 s) (.held (.slice none 0 0))=.held (f s)
theorem MapAt.made (w:World) {b:Nat} (h:w.heap[b]? = some (.map #[] 0)):MapAt b 0 (fun _=>.slice none 0 0) w :=
 ⟨.map [],⟨#[],0,h,⟨by simp,MapKept.stamped_empty 0,by simp⟩,Nat.le_refl _,rfl⟩,fun _=>rfl⟩
theorem MapAt.keep {b cnt:Nat} {f:Int->Value} {w w':World} (h:MapAt b cnt f w) (hk:w'.heap[b]? = w.heap[b]?):MapAt b cnt f w':=by
 obtain ⟨D,⟨es,ck,hb,r⟩,hD⟩:=h;exact ⟨D,⟨es,ck,hk.trans hb,r⟩,hD⟩
theorem MapAt.look {b cnt:Nat} {f:Int->Value} {w:World} (h:MapAt b cnt f w) {s:Int} (hs:(Lit.int .i64 s).wf=true):(Instr.lookup 111 (.map (some b)) (.int .i64 s) false).run prog w=.ok (f s) w:=by
 obtain ⟨D,ho,hD⟩:=h;obtain ⟨v,ps,hrun,hv⟩:=ho.lookup (t:=111) (e:=31) zer underlying111 (ze4 w) (zd:=.held (.slice none 0 0)) (zp:=[]) rfl (keyOf_int_mk underlying3 hs);rw [hD s] at hv;simp only [holdR,Option.some.injEq,Prod.mk.injEq,DataW.held.injEq] at hv;rw [hrun,hv.1]
theorem MapAt.put {b cnt:Nat} {f:Int->Value} {w:World} (h:MapAt b cnt f w) (hc:cnt<100000) {s:Int} (hs:(Lit.int .i64 s).wf=true) (v:Value) :
   ∃ w',(Instr.mapUpdate 111 (.map (some b)) (.int .i64 s) v).run prog w=.ok () w'/\MapAt b (cnt+1) (fun t=>if t=s then v else f t) w'/\w.grownBy w' (some b):=by
 obtain ⟨D,ho,hD⟩:=h;obtain ⟨w',hrun,ho',hg⟩:=ho.update (t:=111) (e:=31) zer underlying111 (by unfold maxLen;omega) (keyOf_int_mk underlying3 hs) (val:=v) (d:=.held v) (ps:=[]) rfl;refine ⟨w',hrun,⟨_,ho',fun t=>?_⟩,hg⟩
 by_cases ht:t=s
 . subst ht
   show _=DataW.held (if t=t then v else f t)
   rw [if_pos rfl];obtain ⟨es,ck,_,_,_,hDD⟩:=ho;exact atKey_put_same ⟨_,hDD⟩ (by simp [WideAt.IsKeyLit]) _ _
 . show _=DataW.held (if t=s then v else f t)
   rw [if_neg ht,<- hD t];exact atKey_put_other (by intro e;injection e with _ e;exact ht e) _ _
structure PlD where
 par:Int
 reg:Int
 dep:Int
 st:Bool
 pt:Bool
structure Dst (N0 N1 PB KB MO MP IB XB:Nat):Prop where
 lo:N0<=PB/\N0<=KB/\N0<=MO/\N0<=MP/\N0<=IB/\N0<=XB
 hi:PB<N1/\KB<N1/\MO<N1/\MP<N1/\IB<N1/\XB<N1
 ne1:PB≠KB/\PB≠MO/\PB≠MP/\PB≠IB/\PB≠XB
 ne2:KB≠MO/\KB≠MP/\KB≠IB/\KB≠XB
 ne3:MO≠MP/\MO≠IB/\MO≠XB
 ne4:MP≠IB/\MP≠XB
 ne5:IB≠XB
structure PlAt (w:World) (PB i:Nat) (x:PlD) (vo vi:Value):Prop where
 c0:w.cell? ⟨PB,i * 7,none⟩=some (.int .i64 x.par)
 c1:w.cell? ⟨PB,i * 7+1,none⟩=some (.int .i64 x.reg)
 c2:w.cell? ⟨PB,i * 7+2,none⟩=some (.int .i64 x.dep)
 c3:w.cell? ⟨PB,i * 7+3,none⟩=some (.bool x.st)
 c4:w.cell? ⟨PB,i * 7+4,none⟩=some (.bool x.pt)
 c5:w.cell? ⟨PB,i * 7+5,none⟩=some vo
 c6:w.cell? ⟨PB,i * 7+6,none⟩=some vi
theorem PlAt.keep {w w':World} {PB i:Nat} {x:PlD} {vo vi:Value} (h:PlAt w PB i x vo vi) (hc:∀ j,j<7->w'.cell? ⟨PB,i * 7+j,none⟩=w.cell? ⟨PB,i * 7+j,none⟩):PlAt w' PB i x vo vi :=
 ⟨(hc 0 (by omega)).trans h.c0,(hc 1 (by omega)).trans h.c1,(hc 2 (by omega)).trans h.c2,(hc 3 (by omega)).trans h.c3,(hc 4 (by omega)).trans h.c4,(hc 5 (by omega)).trans h.c5,(hc 6 (by omega)).trans h.c6⟩
structure IxSt (W:World) (np nk N1 PB KB MO MP IB XB:Nat) (pl:Nat->PlD) (F:RI->List Int) (V:RI->Value) (co cp:Nat) (wx:World):Prop where
 bel:Bl W wx
 x:wx.cell? ⟨XB,0,none⟩=some (.pointer (some ⟨IB,0,none⟩))
 i:wx.heap[IB]? = some (idxO PB KB MO MP np nk)
 pl:∀ i,i<np->PlAt wx PB i (pl i) (V (.out,i)) (V (.into,i))
 pf:∀ k,wx.frozen? ⟨PB,k,none⟩=false
 kd:∀ r:Nat,r<nk->wx.cell? ⟨KB,r,none⟩=some (V (.kid,r))
 kf:∀ k,wx.frozen? ⟨KB,k,none⟩=false
 mo:MapAt MO co (fun s=>V (.own,s)) wx
 mp:MapAt MP cp (fun s=>V (.pnt,s)) wx
 rw:Rws N1 F V wx
 z:N1<=wx.heap.size
theorem IxSt.idx {W:World} {np nk N1 PB KB MO MP IB XB:Nat} {pl:Nat->PlD} {F:RI->List Int} {V:RI->Value} {co cp:Nat} {wx:World} (h:IxSt W np nk N1 PB KB MO MP IB XB pl F V co cp wx) :
   wx.cell? ⟨IB,0,none⟩=some (.slice (some ⟨PB,0,none⟩) np np)/\wx.cell? ⟨IB,1,none⟩=some (.slice (some ⟨KB,0,none⟩) nk nk)/\wx.cell? ⟨IB,2,none⟩=some (.map (some MO))/\wx.cell? ⟨IB,3,none⟩=some (.map (some MP)):=by
 have:=h.i;unfold idxO at this;refine ⟨?_,?_,?_,?_⟩ <;> (unfold World.cell?;simp only [this];rfl)
theorem IxSt.grown {W:World} {np nk N1 PB KB MO MP IB XB:Nat} {pl:Nat->PlD} {F:RI->List Int} {V:RI->Value} {co cp:Nat} {wx wy:World} (h:IxSt W np nk N1 PB KB MO MP IB XB pl F V co cp wx) (D:Dst W.heap.size N1 PB KB MO MP IB XB) (g:Bl wx wy):IxSt W np nk N1 PB KB MO MP IB XB pl F V co cp wy:=by
 have hz:=h.z;obtain ⟨h1,h2,h3,h4,h5,h6⟩:=D.hi
 exact ⟨h.bel.trans (g.mono h.bel.size),(g.cell (p:=⟨XB,0,none⟩) (by simp only;omega)).trans h.x,(g.block IB (by omega)).trans h.i,fun i hi=>(h.pl i hi).keep fun j _=>g.cell (p:=⟨PB,i * 7+j,none⟩) (by simp only;omega),fun k=>(g.frozen (p:=⟨PB,k,none⟩) (by simp only;omega)).trans (h.pf k),
   fun r hr=>(g.cell (p:=⟨KB,r,none⟩) (by simp only;omega)).trans (h.kd r hr),fun k=>(g.frozen (p:=⟨KB,k,none⟩) (by simp only;omega)).trans (h.kf k),h.mo.keep (g.block MO (by omega)),h.mp.keep (g.block MP (by omega)),h.rw.keep fun i b hb=>g.block b (h.rw.lt hb).2,Nat.le_trans hz g.size⟩
theorem IxSt.app {W:World} {np nk N1 PB KB MO MP IB XB:Nat} {pl:Nat->PlD} {F:RI->List Int} {V:RI->Value} {co cp:Nat} {wx w1:World} {o:Obj} {i:RI} (h:IxSt W np nk N1 PB KB MO MP IB XB pl F V co cp wx) (hg:(wx.drew.alloc o).grownBy w1 (V i).ownBlock):Below N1 wx w1 :=
 (((Below.refl N1 wx).drew).alloc h.z o).grown hg (by have:=h.z;simp;omega) fun k hk=>(h.rw.lt hk).1
theorem push_own {W:World} {np nk N1 PB KB MO MP IB XB:Nat} {pl:Nat->PlD} {F:RI->List Int} {V:RI->Value} {co cp:Nat} {wx w1:World} {o:Obj} {s x:Int} {gg cap:Nat} (h:IxSt W np nk N1 PB KB MO MP IB XB pl F V co cp wx) (D:Dst W.heap.size N1 PB KB MO MP IB XB) (hN:W.heap.size<=N1) (hc:co<100000) (hs:(Lit.int .i64 s).wf=true)
   (hg:(wx.drew.alloc o).grownBy w1 (V (.own,s)).ownBlock) (hat:(V (.own,s)).ownBlock=some gg\/gg=wx.heap.size+1) (ho:w1.ownsRow N1 3 1 (.slice (some ⟨gg,0,none⟩) ((F (.own,s)).length+1) cap) ((F (.own,s)).length+1) (nums (F (.own,s)) ++ [.int .i64 x])) :
   ∃ w2,(Instr.mapUpdate 111 (.map (some MO)) (.int .i64 s) (.slice (some ⟨gg,0,none⟩) ((F (.own,s)).length+1) cap)).run prog w1=.ok () w2 /\
     IxSt W np nk N1 PB KB MO MP IB XB pl (upd F (.own,s) (F (.own,s) ++ [x])) (upd V (.own,s) (.slice (some ⟨gg,0,none⟩) ((F (.own,s)).length+1) cap)) (co+1) cp w2:=by
 have hb:=h.app hg;obtain ⟨h1,h2,h3,h4,h5,h6⟩:=D.hi;obtain ⟨a1,a2,a3,a4,a5⟩:=D.ne1;obtain ⟨b1,b2,b3,b4⟩:=D.ne2;obtain ⟨c1,c2,c3⟩:=D.ne3;have lo:=D.lo.2.2.1;have hrw:=h.rw.push hg hat ho;obtain ⟨w2,hrun,hm,hg2⟩:=(h.mo.keep (hb.block MO h3)).put hc hs (.slice (some ⟨gg,0,none⟩) ((F (.own,s)).length+1) cap);have hz1:N1<=w1.heap.size:=Nat.le_trans h.z hb.size;have k2:∀ b,b≠MO->b<N1->w2.heap[b]? = wx.heap[b]? := fun b hb2 hbn=>(hg2.block b (by omega) (fun e=>by injection e with e;exact hb2 e)).trans (hb.block b hbn)
 have kc:∀ b k,b≠MO->b<N1->w2.cell? ⟨b,k,none⟩=wx.cell? ⟨b,k,none⟩:=fun b k hb2 hbn=>World.cell?_of_block (w:=wx) (k2 b hb2 hbn);have kf:∀ b k,b≠MO->b<N1->w2.frozen? ⟨b,k,none⟩=wx.frozen? ⟨b,k,none⟩:=fun b k hb2 hbn=>World.frozen?_of_block (w:=wx) (k2 b hb2 hbn);refine ⟨w2,hrun,⟨?_,(kc _ _ c3.symm h6).trans h.x,(k2 _ c2.symm h5).trans h.i,fun i hi=>?_,fun k=>(kf _ _ a2 h1).trans (h.pf k),fun r hr=>?_,fun k=>(kf _ _ b1 h2).trans (h.kf k),?_,?_,?_,Nat.le_trans hz1 hg2.size⟩⟩
 . exact (h.bel.trans (hb.mono hN)).grown hg2 (by have:=h.bel.size;omega) fun k hk=>by injection hk with hk;omega
 . rw [zw (by simp),zw (by simp)]
   exact (h.pl i hi).keep fun j _=>kc _ _ a2 h1
 . rw [zw (by simp)]
   exact (kc _ _ b1 h2).trans (h.kd r hr)
 . have e:(fun t=>if t=s then Value.slice (some ⟨gg,0,none⟩) ((F (.own,s)).length+1) cap else V (.own,t))=fun t=>upd V (.own,s) (.slice (some ⟨gg,0,none⟩) ((F (.own,s)).length+1) cap) (.own,t):=by
     funext t
     by_cases ht:t=s
     . subst ht;rw [if_pos rfl,zM]
     . rw [if_neg ht,zw (by simp [ht])]
   rw [<- e];exact hm
 . have e:(fun t=>upd V (.own,s) (.slice (some ⟨gg,0,none⟩) ((F (.own,s)).length+1) cap) (.pnt,t))=fun t=>V (.pnt,t):=by
     funext t;exact zw (by simp)
   rw [e];exact h.mp.keep (k2 _ c1.symm h4)
 . exact hrw.keep fun i b hbk=>hg2.block b (hrw.lt hbk).2 fun e=>by
     injection e with e
     have:=(hrw.lt hbk).1;omega
theorem push_pnt {W:World} {np nk N1 PB KB MO MP IB XB:Nat} {pl:Nat->PlD} {F:RI->List Int} {V:RI->Value} {co cp:Nat} {wx w1:World} {o:Obj} {s x:Int} {gg cap:Nat} (h:IxSt W np nk N1 PB KB MO MP IB XB pl F V co cp wx) (D:Dst W.heap.size N1 PB KB MO MP IB XB) (hN:W.heap.size<=N1) (hc:cp<100000) (hs:(Lit.int .i64 s).wf=true)
   (hg:(wx.drew.alloc o).grownBy w1 (V (.pnt,s)).ownBlock) (hat:(V (.pnt,s)).ownBlock=some gg\/gg=wx.heap.size+1) (ho:w1.ownsRow N1 3 1 (.slice (some ⟨gg,0,none⟩) ((F (.pnt,s)).length+1) cap) ((F (.pnt,s)).length+1) (nums (F (.pnt,s)) ++ [.int .i64 x])) :
   ∃ w2,(Instr.mapUpdate 111 (.map (some MP)) (.int .i64 s) (.slice (some ⟨gg,0,none⟩) ((F (.pnt,s)).length+1) cap)).run prog w1=.ok () w2 /\
     IxSt W np nk N1 PB KB MO MP IB XB pl (upd F (.pnt,s) (F (.pnt,s) ++ [x])) (upd V (.pnt,s) (.slice (some ⟨gg,0,none⟩) ((F (.pnt,s)).length+1) cap)) co (cp+1) w2:=by
 have hb:=h.app hg;obtain ⟨h1,h2,h3,h4,h5,h6⟩:=D.hi;obtain ⟨a1,a2,a3,a4,a5⟩:=D.ne1;obtain ⟨b1,b2,b3,b4⟩:=D.ne2;obtain ⟨c1,c2,c3⟩:=D.ne3;obtain ⟨e1,e2⟩:=D.ne4;have lo:=D.lo.2.2.2.1;have hrw:=h.rw.push hg hat ho;obtain ⟨w2,hrun,hm,hg2⟩:=(h.mp.keep (hb.block MP h4)).put hc hs (.slice (some ⟨gg,0,none⟩) ((F (.pnt,s)).length+1) cap);have hz1:N1<=w1.heap.size:=Nat.le_trans h.z hb.size;have k2:∀ b,b≠MP->b<N1->w2.heap[b]? = wx.heap[b]? := fun b hb2 hbn=>(hg2.block b (by omega) (fun e=>by injection e with e;exact hb2 e)).trans (hb.block b hbn)
 have kc:∀ b k,b≠MP->b<N1->w2.cell? ⟨b,k,none⟩=wx.cell? ⟨b,k,none⟩:=fun b k hb2 hbn=>World.cell?_of_block (w:=wx) (k2 b hb2 hbn);have kf:∀ b k,b≠MP->b<N1->w2.frozen? ⟨b,k,none⟩=wx.frozen? ⟨b,k,none⟩:=fun b k hb2 hbn=>World.frozen?_of_block (w:=wx) (k2 b hb2 hbn);refine ⟨w2,hrun,⟨?_,(kc _ _ e2.symm h6).trans h.x,(k2 _ e1.symm h5).trans h.i,fun i hi=>?_,fun k=>(kf _ _ a3 h1).trans (h.pf k),fun r hr=>?_,fun k=>(kf _ _ b2 h2).trans (h.kf k),?_,?_,?_,Nat.le_trans hz1 hg2.size⟩⟩
 . exact (h.bel.trans (hb.mono hN)).grown hg2 (by have:=h.bel.size;omega) fun k hk=>by injection hk with hk;omega
 . rw [zw (by simp),zw (by simp)]
   exact (h.pl i hi).keep fun j _=>kc _ _ a3 h1
 . rw [zw (by simp)]
   exact (kc _ _ b2 h2).trans (h.kd r hr)
 . have e:(fun t=>upd V (.pnt,s) (.slice (some ⟨gg,0,none⟩) ((F (.pnt,s)).length+1) cap) (.own,t))=fun t=>V (.own,t):=by
     funext t;exact zw (by simp)
   rw [e];exact h.mo.keep (k2 _ c1 h3)
 . have e:(fun t=>if t=s then Value.slice (some ⟨gg,0,none⟩) ((F (.pnt,s)).length+1) cap else V (.pnt,t))=fun t=>upd V (.pnt,s) (.slice (some ⟨gg,0,none⟩) ((F (.pnt,s)).length+1) cap) (.pnt,t):=by
     funext t
     by_cases ht:t=s
     . subst ht;rw [if_pos rfl,zM]
     . rw [if_neg ht,zw (by simp [ht])]
   rw [<- e];exact hm
 . exact hrw.keep fun i b hbk=>hg2.block b (hrw.lt hbk).2 fun e=>by
     injection e with e
     have:=(hrw.lt hbk).1;omega
theorem jB {z:Array Value} {n j:Nat} (h:j<n):(madeCells z n)[j]? = some (z[j % z.size]!):=by
 simp [madeCells,h]
def pl0:PlD:=⟨0,0,0,false,false⟩
theorem R4.dst {W:World} {m:MdlD} {PB KB MO MP IB XB:Nat} {w:World} (h:R4 W m PB KB MO MP IB XB w):Dst W.heap.size w.heap.size PB KB MO MP IB XB :=
 ⟨h.lo,⟨(Array.getElem?_eq_some_iff.1 h.pb).1,(Array.getElem?_eq_some_iff.1 h.kb).1,(Array.getElem?_eq_some_iff.1 h.mo).1,(Array.getElem?_eq_some_iff.1 h.mp).1,(Array.getElem?_eq_some_iff.1 h.ib).1,(Array.getElem?_eq_some_iff.1 h.xb).1⟩,h.ne1,h.ne2,h.ne3,h.ne4,h.ne5⟩
theorem R4.start {W:World} {m:MdlD} {PB KB MO MP IB XB:Nat} {w:World} (h:R4 W m PB KB MO MP IB XB w):IxSt W m.zc.length m.zb.length w.heap.size PB KB MO MP IB XB (fun _=>pl0) (fun _=>[]) (fun _=>.slice none 0 0) 0 0 w:=by
 have hp:∀ i j,i<m.zc.length->j<7->w.cell? ⟨PB,i * 7+j,none⟩=some (placeZ[j]!):=fun i j hi hj=>by
   have hpb:=h.pb;unfold placesO at hpb;unfold World.cell?;simp only [hpb];have hlt:i * 7+j<m.zc.length * 7:=by omega
   have e:=jB (z:=placeZ) hlt;rw [show (i * 7+j) % placeZ.size=j by show (i * 7+j) % 7=j;omega] at e;simpa using e
 refine ⟨h.bel,?_,h.ib,fun i hi=>⟨hp i 0 hi (by omega),hp i 1 hi (by omega),hp i 2 hi (by omega),hp i 3 hi (by omega),hp i 4 hi (by omega),hp i 5 hi (by omega),hp i 6 hi (by omega)⟩,fun k=>?_,fun r hr=>?_,fun k=>?_,MapAt.made w h.mo,MapAt.made w h.mp,Rws.start _ _,Nat.le_refl _⟩
 . unfold World.cell?;simp only [h.xb];rfl
 . have hpb:=h.pb
   unfold placesO at hpb;unfold World.frozen?;simp [hpb]
 . have hkb:=h.kb
   unfold kidsO at hkb;unfold World.cell?;simp only [hkb];have e:=jB (z:=#[.slice none 0 0]) (n:=m.zb.length * 1) (j:=r) (by omega);rw [show r % (#[Value.slice none 0 0]:Array Value).size=0 by show r % 1=0;omega] at e;simpa using e
 . have hkb:=h.kb
   unfold kidsO at hkb;unfold World.frozen?;simp [hkb]
def F1 (m:MdlD) (k:Nat):RI->List Int:=fun i=>if i.1=.own then sel (isOwn i.2) (m.zb.take k) else []
theorem F1_zero (m:MdlD):F1 m 0=fun _=>[]:=by
 funext i
 unfold F1
 split
 . exact zbt _ _
 . rfl
theorem F1_step (m:MdlD) {k:Nat} (h:k<m.zb.length):F1 m (k+1)=upd (F1 m k) (.own,m.zb[k].own) (F1 m k (.own,m.zb[k].own) ++ [(k:Int)]):=by
 funext i
 obtain ⟨r,s⟩:=i
 by_cases hr:r=.own
 . subst hr
   unfold F1;rw [if_pos rfl,ym _ h]
   by_cases hs:s=m.zb[k].own
   . subst hs
     rw [zM,if_pos rfl,if_pos (by simp [isOwn])]
   . rw [zw (by simp [hs]),if_pos rfl,if_neg (by simp only [isOwn,beq_iff_eq];exact fun e=>hs e.symm),List.append_nil]
 . unfold F1
   rw [if_neg hr,zw (by simp [hr]),if_neg hr]
theorem F1_len (m:MdlD) (k:Nat) (i:RI):(F1 m k i).length<=m.zb.length:=by
 unfold F1
 split
 . have h1:=zV (isOwn i.2) (m.zb.take k)
   have h2:(m.zb.take k).length<=m.zb.length:=by rw [List.length_take];omega
   omega
 . exact Nat.zero_le _
def setP (pl:Nat->PlD) (i:Nat) (x:PlD):Nat->PlD:=fun k=>if k=i then x else pl k
theorem yN (pl:Nat->PlD) (i:Nat) (x:PlD):setP pl i x i=x:=by simp [setP]
theorem jr (pl:Nat->PlD) (i:Nat) (x y:PlD):setP (setP pl i x) i y=setP pl i y:=by
 funext k;unfold setP;by_cases h:k=i <;> simp [h]
theorem IxSt.put {W:World} {np nk N1 PB KB MO MP IB XB:Nat} {pl:Nat->PlD} {F:RI->List Int} {V:RI->Value} {co cp:Nat} {wx:World} {i j:Nat} {v:Value} {x:PlD} (h:IxSt W np nk N1 PB KB MO MP IB XB pl F V co cp wx) (D:Dst W.heap.size N1 PB KB MO MP IB XB) (hj:j<7)
   (hx:PlAt (wx.setCell ⟨PB,i * 7+j,none⟩ v) PB i x (V (.out,i)) (V (.into,i))):IxSt W np nk N1 PB KB MO MP IB XB (setP pl i x) F V co cp (wx.setCell ⟨PB,i * 7+j,none⟩ v):=by
 obtain ⟨h1,h2,h3,h4,h5,h6⟩:=D.hi;obtain ⟨a1,a2,a3,a4,a5⟩:=D.ne1;have lo:=D.lo.1;have kb:∀ b,b≠PB->(wx.setCell ⟨PB,i * 7+j,none⟩ v).heap[b]? = wx.heap[b]? := fun b hb=>Below.heap_setCell wx ⟨PB,i * 7+j,none⟩ v b hb;refine ⟨h.bel.setCell lo v,(World.cell?_setCell_far _ _ _ _ a5).trans h.x,(kb IB a4.symm).trans h.i,fun k hk=>?_,fun k=>?_,fun r hr=>(World.cell?_setCell_far _ _ _ _ a1).trans (h.kd r hr),fun k=>?_,h.mo.keep (kb MO a2.symm),h.mp.keep (kb MP a3.symm),h.rw.keep fun i b hb=>kb b ?_,?_⟩
 . by_cases hki:k=i
   . subst hki;rw [yN];exact hx
   . have:setP pl i x k=pl k:=by simp [setP,hki]
     rw [this];refine (h.pl k hk).keep fun j' hj'=>World.cell?_setCell_other _ _ _ _ fun e=>?_;simp only [Addr.mk.injEq,true_and,and_true] at e;exact hki (by omega)
 . rw [World.frozen?_setCell];exact h.pf k
 . rw [World.frozen?_setCell];exact h.kf k
 . have:=(h.rw.lt hb).1;omega
 . have:=h.z;simpa using this
theorem IxSt.draw {W:World} {np nk N1 PB KB MO MP IB XB:Nat} {pl:Nat->PlD} {F:RI->List Int} {V:RI->Value} {co cp:Nat} {wx:World} (h:IxSt W np nk N1 PB KB MO MP IB XB pl F V co cp wx):IxSt W np nk N1 PB KB MO MP IB XB pl F V co cp wx.drew :=
 ⟨h.bel.drew,h.x,h.i,fun i hi=>(h.pl i hi).keep fun _ _=>rfl,h.pf,h.kd,h.kf,h.mo.keep rfl,h.mp.keep rfl,h.rw.keep fun _ _ _=>rfl,h.z⟩
theorem zam {PB i a b:Nat} (h:a≠b):(⟨PB,i * 7+a,none⟩:Addr)≠⟨PB,i * 7+b,none⟩:=fun e=>by simp only [Addr.mk.injEq,true_and,and_true] at e;omega
theorem PlAt.set0 {w:World} {PB i:Nat} {x:PlD} {vo vi:Value} (h:PlAt w PB i x vo vi) (a:Int):PlAt (w.setCell ⟨PB,i * 7+0,none⟩ (.int .i64 a)) PB i { x with par:=a } vo vi:=by
 have o:∀ j,0≠j->(w.setCell ⟨PB,i * 7+0,none⟩ (.int .i64 a)).cell? ⟨PB,i * 7+j,none⟩=w.cell? ⟨PB,i * 7+j,none⟩:=fun j hj=>World.cell?_setCell_other _ _ _ _ (zam hj);exact ⟨World.cell?_setCell_same _ _ _ h.c0,(o 1 (by omega)).trans h.c1,(o 2 (by omega)).trans h.c2,(o 3 (by omega)).trans h.c3,(o 4 (by omega)).trans h.c4,(o 5 (by omega)).trans h.c5,(o 6 (by omega)).trans h.c6⟩
theorem PlAt.set1 {w:World} {PB i:Nat} {x:PlD} {vo vi:Value} (h:PlAt w PB i x vo vi) (a:Int):PlAt (w.setCell ⟨PB,i * 7+1,none⟩ (.int .i64 a)) PB i { x with reg:=a } vo vi:=by
 have o:∀ j,1≠j->(w.setCell ⟨PB,i * 7+1,none⟩ (.int .i64 a)).cell? ⟨PB,i * 7+j,none⟩=w.cell? ⟨PB,i * 7+j,none⟩:=fun j hj=>World.cell?_setCell_other _ _ _ _ (zam hj);exact ⟨(o 0 (by omega)).trans h.c0,World.cell?_setCell_same _ _ _ h.c1,(o 2 (by omega)).trans h.c2,(o 3 (by omega)).trans h.c3,(o 4 (by omega)).trans h.c4,(o 5 (by omega)).trans h.c5,(o 6 (by omega)).trans h.c6⟩
theorem PlAt.set2 {w:World} {PB i:Nat} {x:PlD} {vo vi:Value} (h:PlAt w PB i x vo vi) (a:Int):PlAt (w.setCell ⟨PB,i * 7+2,none⟩ (.int .i64 a)) PB i { x with dep:=a } vo vi:=by
 have o:∀ j,2≠j->(w.setCell ⟨PB,i * 7+2,none⟩ (.int .i64 a)).cell? ⟨PB,i * 7+j,none⟩=w.cell? ⟨PB,i * 7+j,none⟩:=fun j hj=>World.cell?_setCell_other _ _ _ _ (zam hj);exact ⟨(o 0 (by omega)).trans h.c0,(o 1 (by omega)).trans h.c1,World.cell?_setCell_same _ _ _ h.c2,(o 3 (by omega)).trans h.c3,(o 4 (by omega)).trans h.c4,(o 5 (by omega)).trans h.c5,(o 6 (by omega)).trans h.c6⟩
theorem PlAt.set3 {w:World} {PB i:Nat} {x:PlD} {vo vi:Value} (h:PlAt w PB i x vo vi) (a:Bool):PlAt (w.setCell ⟨PB,i * 7+3,none⟩ (.bool a)) PB i { x with st:=a } vo vi:=by
 have o:∀ j,3≠j->(w.setCell ⟨PB,i * 7+3,none⟩ (.bool a)).cell? ⟨PB,i * 7+j,none⟩=w.cell? ⟨PB,i * 7+j,none⟩:=fun j hj=>World.cell?_setCell_other _ _ _ _ (zam hj);exact ⟨(o 0 (by omega)).trans h.c0,(o 1 (by omega)).trans h.c1,(o 2 (by omega)).trans h.c2,World.cell?_setCell_same _ _ _ h.c3,(o 4 (by omega)).trans h.c4,(o 5 (by omega)).trans h.c5,(o 6 (by omega)).trans h.c6⟩
theorem PlAt.set4 {w:World} {PB i:Nat} {x:PlD} {vo vi:Value} (h:PlAt w PB i x vo vi) (a:Bool):PlAt (w.setCell ⟨PB,i * 7+4,none⟩ (.bool a)) PB i { x with pt:=a } vo vi:=by
 have o:∀ j,4≠j->(w.setCell ⟨PB,i * 7+4,none⟩ (.bool a)).cell? ⟨PB,i * 7+j,none⟩=w.cell? ⟨PB,i * 7+j,none⟩:=fun j hj=>World.cell?_setCell_other _ _ _ _ (zam hj);exact ⟨(o 0 (by omega)).trans h.c0,(o 1 (by omega)).trans h.c1,(o 2 (by omega)).trans h.c2,(o 3 (by omega)).trans h.c3,World.cell?_setCell_same _ _ _ h.c4,(o 5 (by omega)).trans h.c5,(o 6 (by omega)).trans h.c6⟩
theorem IxSt.put34 {W:World} {np nk N1 PB KB MO MP IB XB:Nat} {pl:Nat->PlD} {F:RI->List Int} {V:RI->Value} {co cp:Nat} {wx:World} {i:Nat} (h:IxSt W np nk N1 PB KB MO MP IB XB pl F V co cp wx) (D:Dst W.heap.size N1 PB KB MO MP IB XB) (hi:i<np) (a b:Bool) :
   IxSt W np nk N1 PB KB MO MP IB XB (setP pl i { pl i with st:=a,pt:=b }) F V co cp ((wx.setCell ⟨PB,i * 7+3,none⟩ (.bool a)).setCell ⟨PB,i * 7+4,none⟩ (.bool b)):=by
 have h1:=h.put D (j:=3) (i:=i) (by omega) ((h.pl i hi).set3 a);have h2:=h1.put D (j:=4) (i:=i) (by omega) ((h1.pl i hi).set4 b);rw [jr,yN] at h2;exact h2
theorem IxSt.put01 {W:World} {np nk N1 PB KB MO MP IB XB:Nat} {pl:Nat->PlD} {F:RI->List Int} {V:RI->Value} {co cp:Nat} {wx:World} {i:Nat} (h:IxSt W np nk N1 PB KB MO MP IB XB pl F V co cp wx) (D:Dst W.heap.size N1 PB KB MO MP IB XB) (hi:i<np) (a b:Int) :
   IxSt W np nk N1 PB KB MO MP IB XB (setP pl i { pl i with par:=a,reg:=b }) F V co cp ((wx.setCell ⟨PB,i * 7,none⟩ (.int .i64 a)).setCell ⟨PB,i * 7+1,none⟩ (.int .i64 b)):=by
 have h1:=h.put D (j:=0) (i:=i) (by omega) ((h.pl i hi).set0 a);have h2:=h1.put D (j:=1) (i:=i) (by omega) ((h1.pl i hi).set1 b);rw [jr,yN] at h2;exact h2
theorem push_kid {W:World} {np nk N1 PB KB MO MP IB XB:Nat} {pl:Nat->PlD} {F:RI->List Int} {V:RI->Value} {co cp:Nat} {wx w1:World} {o:Obj} {s:Nat} {x:Int} {gg cap:Nat} (h:IxSt W np nk N1 PB KB MO MP IB XB pl F V co cp wx) (D:Dst W.heap.size N1 PB KB MO MP IB XB) (hN:W.heap.size<=N1) (hs:s<nk)
   (hg:(wx.drew.alloc o).grownBy w1 (V (.kid,s)).ownBlock) (hat:(V (.kid,s)).ownBlock=some gg\/gg=wx.heap.size+1) (ho:w1.ownsRow N1 3 1 (.slice (some ⟨gg,0,none⟩) ((F (.kid,s)).length+1) cap) ((F (.kid,s)).length+1) (nums (F (.kid,s)) ++ [.int .i64 x])) :
     IxSt W np nk N1 PB KB MO MP IB XB pl (upd F (.kid,s) (F (.kid,s) ++ [x])) (upd V (.kid,s) (.slice (some ⟨gg,0,none⟩) ((F (.kid,s)).length+1) cap)) co cp (w1.setCell ⟨KB,s,none⟩ (.slice (some ⟨gg,0,none⟩) ((F (.kid,s)).length+1) cap)):=by
 have hb:=h.app hg;obtain ⟨h1,h2,h3,h4,h5,h6⟩:=D.hi;obtain ⟨a1,a2,a3,a4,a5⟩:=D.ne1;obtain ⟨b1,b2,b3,b4⟩:=D.ne2;have lo:=D.lo.2.1;have hrw:=h.rw.push hg hat ho;have hz1:N1<=w1.heap.size:=Nat.le_trans h.z hb.size;have kb:∀ b,b≠KB->(w1.setCell ⟨KB,s,none⟩ (.slice (some ⟨gg,0,none⟩) ((F (.kid,s)).length+1) cap)).heap[b]? = w1.heap[b]? := fun b hb=>Below.heap_setCell w1 ⟨KB,s,none⟩ _ b hb;have k2:∀ b,b≠KB->b<N1->(w1.setCell ⟨KB,s,none⟩ (.slice (some ⟨gg,0,none⟩) ((F (.kid,s)).length+1) cap)).heap[b]? = wx.heap[b]? := fun b hb2 hbn=>(kb b hb2).trans (hb.block b hbn);have kc:∀ b k,b≠KB->b<N1->(w1.setCell ⟨KB,s,none⟩ (.slice (some ⟨gg,0,none⟩) ((F (.kid,s)).length+1) cap)).cell? ⟨b,k,none⟩=wx.cell? ⟨b,k,none⟩:=fun b k hb2 hbn=>World.cell?_of_block (w:=wx) (k2 b hb2 hbn);have kf:∀ b k,b≠KB->b<N1->(w1.setCell ⟨KB,s,none⟩ (.slice (some ⟨gg,0,none⟩) ((F (.kid,s)).length+1) cap)).frozen? ⟨b,k,none⟩=wx.frozen? ⟨b,k,none⟩:=fun b k hb2 hbn=>World.frozen?_of_block (w:=wx) (k2 b hb2 hbn);have hK:∀ r,w1.cell? ⟨KB,r,none⟩=wx.cell? ⟨KB,r,none⟩:=fun r=>World.cell?_of_block (w:=wx) (hb.block KB h2);refine ⟨(h.bel.trans (hb.mono hN)).setCell lo _,(kc _ _ b4.symm h6).trans h.x,(k2 _ b3.symm h5).trans h.i,fun i hi=>?_,fun k=>(kf _ _ a1 h1).trans (h.pf k),fun r hr=>?_,fun k=>?_,?_,?_,hrw.keep fun i b hbk=>kb b ?_,?_⟩
 . rw [zw (by simp),zw (by simp)]
   exact (h.pl i hi).keep fun j _=>kc _ _ a1 h1
 . by_cases hrs:r=s
   . subst hrs
     rw [zM];exact World.cell?_setCell_same _ _ _ ((hK r).trans (h.kd r hr))
   . rw [zw (by simp;omega)]
     exact (World.cell?_setCell_other _ _ _ _ (fun e=>hrs (by simp only [Addr.mk.injEq,true_and,and_true] at e;omega))).trans ((hK r).trans (h.kd r hr))
 . rw [World.frozen?_setCell];exact (World.frozen?_of_block (w:=wx) (hb.block KB h2)).trans (h.kf k)
 . have e:(fun t=>upd V (.kid,(s:Int)) (.slice (some ⟨gg,0,none⟩) ((F (.kid,s)).length+1) cap) (.own,t))=fun t=>V (.own,t):=by
     funext t;exact zw (by simp)
   rw [e];exact h.mo.keep (k2 _ b1.symm h3)
 . have e:(fun t=>upd V (.kid,(s:Int)) (.slice (some ⟨gg,0,none⟩) ((F (.kid,s)).length+1) cap) (.pnt,t))=fun t=>V (.pnt,t):=by
     funext t;exact zw (by simp)
   rw [e];exact h.mp.keep (k2 _ b2.symm h4)
 . have:=(hrw.lt hbk).1;omega
 . simpa using hz1
def F2 (m:MdlD) (k:Nat):RI->List Int:=fun i=>match i.1 with
 | .own=>ownM m i.2 | .kid=>sel (isKid i.2) (m.zc.take k) | .pnt=>sel (isPnt i.2) (m.zc.take k) | _=>[]
theorem F2_zero (m:MdlD):F2 m 0=F1 m m.zb.length:=by
 funext i
 obtain ⟨r,s⟩:=i
 cases r <;> simp [F2,F1,sel,selF,ownM]
theorem F2_len (m:MdlD) (k:Nat) (i:RI):(F2 m k i).length<=m.zc.length+m.zb.length:=by
 have ht:(m.zc.take k).length<=m.zc.length:=by rw [List.length_take];omega
 obtain ⟨r,s⟩:=i
 cases r
 . have:=zV (isKid s) (m.zc.take k);show (sel (isKid s) (m.zc.take k)).length<=_;omega
 . have:=zV (isOwn s) m.zb;show (sel (isOwn s) m.zb).length<=_;omega
 . have:=zV (isPnt s) (m.zc.take k);show (sel (isPnt s) (m.zc.take k)).length<=_;omega
 . exact Nat.zero_le _
 . exact Nat.zero_le _
theorem F2_pnt (m:MdlD) {k:Nat} (h:k<m.zc.length) (hp:0<=m.zc[k].ofv):F2 m (k+1)=upd (F2 m k) (.pnt,m.zc[k].ofv) (F2 m k (.pnt,m.zc[k].ofv) ++ [(k:Int)]):=by
 funext i
 obtain ⟨r,s⟩:=i
 cases r
 . rw [zw (by simp)]
   show sel (isKid s) _=sel (isKid s) _
   rw [ym _ h,if_neg (by simp [isKid];omega),List.append_nil]
 . rw [zw (by simp)];rfl
 . by_cases hs:s=m.zc[k].ofv
   . subst hs
     rw [zM]
     show sel (isPnt _) _=sel (isPnt _) _ ++ _
     rw [ym _ h,if_pos (by simp [isPnt,hp])]
   . rw [zw (by simp [hs])]
     show sel (isPnt s) _=sel (isPnt s) _
     rw [ym _ h,if_neg (by simp only [isPnt,Bool.and_eq_true,beq_iff_eq];exact fun e=>hs e.2.symm),List.append_nil]
 . rw [zw (by simp)];rfl
 . rw [zw (by simp)];rfl
theorem F2_kid (m:MdlD) {k:Nat} (h:k<m.zc.length) (hp:m.zc[k].ofv<0):F2 m (k+1)=upd (F2 m k) (.kid,m.zc[k].rg) (F2 m k (.kid,m.zc[k].rg) ++ [(k:Int)]):=by
 funext i
 obtain ⟨r,s⟩:=i
 cases r
 . by_cases hs:s=m.zc[k].rg
   . subst hs
     rw [zM]
     show sel (isKid _) _=sel (isKid _) _ ++ _
     rw [ym _ h,if_pos (by simp [isKid,hp])]
   . rw [zw (by simp [hs])]
     show sel (isKid s) _=sel (isKid s) _
     rw [ym _ h,if_neg (by simp only [isKid,Bool.and_eq_true,beq_iff_eq];exact fun e=>hs e.2.symm),List.append_nil]
 . rw [zw (by simp)];rfl
 . rw [zw (by simp)]
   show sel (isPnt s) _=sel (isPnt s) _
   rw [ym _ h,if_neg (by simp [isPnt];omega),List.append_nil]
 . rw [zw (by simp)];rfl
 . rw [zw (by simp)];rfl
def plM (m:MdlD) (i:Nat):PlD:=match m.zc[i]? with
 | some x=>⟨arM m i,rgM m i,0,x.kd == 1,decide (0<=x.ofv)⟩
 | none=>pl0
def pl2 (m:MdlD) (k:Nat):Nat->PlD:=fun i=>if i<k then plM m i else pl0
theorem pl2_zero (m:MdlD):pl2 m 0=fun _=>pl0:=by funext i;simp [pl2]
theorem zbZ (m:MdlD) (k:Nat):pl2 m k k=pl0:=by simp [pl2]
theorem pl2_step (m:MdlD) (k:Nat):setP (pl2 m k) k (plM m k)=pl2 m (k+1):=by
 funext i
 unfold setP pl2
 by_cases h:i=k
 . subst h;rw [if_pos rfl,if_pos (by omega)]
 . rw [if_neg h]
   by_cases h2:i<k
   . rw [if_pos h2,if_pos (by omega)]
   . rw [if_neg h2,if_neg (by omega)]
theorem js {m:MdlD} (h0:riM m=(0,0,0)) {k:Nat} (hk:k<m.zc.length) :
   (0<=m.zc[k].ofv/\∃ s,∃ hs:s<m.zc.length,m.zc[k].ofv=(s:Int)/\m.zc[s].kd=1/\plM m k=⟨s,m.zc[s].rg,0,m.zc[k].kd == 1,true⟩) \/
   (m.zc[k].ofv<0/\∃ r,∃ hr:r<m.zb.length,m.zc[k].rg=(r:Int)/\plM m k=⟨m.zb[r].own,r,0,m.zc[k].kd == 1,false⟩):=by
 have h5:=(yB.1 h0).2.2.2.2.1;have hr:=((yA (by decide)).1 h5 k hk).1;unfold rVer at hr;simp only [Bool.and_eq_true] at hr;have hl:=hr.1.1.1.1.1.2;unfold liesM at hl;have hget:m.zc[k]? = some m.zc[k]:=List.getElem?_eq_getElem hk
 split at hl
 . simp only [Bool.and_eq_true] at hl
   have hs:=hl.2;unfold Md.stM at hs;simp only [Bool.and_eq_true,decide_eq_true_iff] at hs;obtain ⟨h1,h2⟩:=hs;obtain ⟨s,hs⟩:=Int.eq_ofNat_of_zero_le h1;rw [hs,Int.toNat_natCast] at h2
   cases hv:m.zc[s]? with
   | none=>rw [hv] at h2;cases h2
   | some y =>
    rw [hv] at h2;obtain ⟨hsl,hy⟩:=List.getElem?_eq_some_iff.1 hv;refine .inl ⟨h1,s,hsl,hs,by rw [hy];simpa using h2,?_⟩;unfold plM arM rgM;simp only [hget,Int.toNat_natCast,hs,hv,hy,if_pos (Int.natCast_nonneg s),decide_eq_true (Int.natCast_nonneg s)]
 . simp only [Bool.and_eq_true,decide_eq_true_iff,beq_iff_eq] at hl
   obtain ⟨⟨h1,h2⟩,h3⟩:=hl;obtain ⟨r,hr⟩:=Int.eq_ofNat_of_zero_le h2;have hrl:r<m.zb.length:=by omega
   refine .inr ⟨by omega,r,hrl,hr,?_⟩;unfold plM arM rgM;have hneg:¬ ((0:Int)<=-1):=by decide
   simp only [hget,Int.toNat_natCast,h1,if_neg hneg,decide_eq_false hneg,hr,List.getElem?_eq_getElem hrl]
theorem zcG {m:MdlD} (h0:riM m=(0,0,0)):0<m.zb.length:=by
 have h4:=(yB.1 h0).2.2.2.1;unfold f4 at h4
 split at h4
 . simp only [Prod.mk.injEq] at h4;omega
 . omega
theorem ze5 {m:MdlD} (h0:riM m=(0,0,0)) {k:Nat} (hk:k<m.ze.length) :
   (∃ s,∃ hs:s<m.zc.length,m.ze[k].src=(s:Int))/\∃ s,∃ hs:s<m.zc.length,m.ze[k].tgt=(s:Int):=by
 have h7:=(yB.1 h0).2.2.2.2.2.2;have hr:=((yA (by decide)).1 h7 k hk).1;unfold rWay at hr;simp only [Bool.and_eq_true,decide_eq_true_iff] at hr;obtain ⟨h1,h2⟩:=hr.1.1.1.1.1.1.1.1.1.2;obtain ⟨h3,h4⟩:=hr.1.1.1.1.1.1.1.1.2;obtain ⟨a,ha⟩:=Int.eq_ofNat_of_zero_le h1;obtain ⟨b,hb⟩:=Int.eq_ofNat_of_zero_le h3;exact ⟨⟨a,by omega,ha⟩,⟨b,by omega,hb⟩⟩
end Go.Proofs

namespace Go.Proofs
open Go.RowKit Go.Lx Go.Md Go.Maps Go.Rfu
open Go.Proofs.Tryz hiding f4 f5
set_option linter.unusedVariables false
def upN (m:MdlD):Nat->Int->Int
 | 0,v=>v
 | k+1,v=>upN m k (arM m v)
theorem ye (m:MdlD):∀ (k:Nat) (v:Int),upN m (k+1) v=arM m (upN m k v)
 | 0,_=>rfl
 | k+1,v=>ye m k (arM m v)
theorem dp_up (m:MdlD):∀ (f:Nat) (v:Int),dpM m f v<f->upN m (dpM m f v) v<0/\∀ k,k<dpM m f v->0<=upN m k v
 | 0,_,h=>by omega
 | f+1,v,h=>by
   unfold dpM at h |-
   by_cases hv:v<0
   . rw [if_pos hv];exact ⟨hv,fun k hk=>by omega⟩
   . rw [if_neg hv] at h |-
     obtain ⟨h1,h2⟩:=dp_up m f (arM m v) (by omega);refine ⟨h1,fun k hk=>?_⟩
     cases k with
     | zero=>show 0<=v;omega
     | succ k=>exact h2 k (by omega)
theorem zO {m:MdlD} (h0:riM m=(0,0,0)) {k:Nat} (hk:k<m.zc.length):deM m k<=64:=by
 have h6:=(yB.1 h0).2.2.2.2.2.1;have:=((yA (by decide)).1 h6 k hk).1;simpa [rDeep] using this
theorem arM_lt {m:MdlD} (h0:riM m=(0,0,0)) {k:Nat} (hk:k<m.zc.length):arM m k<m.zc.length:=by
 have hp:(plM m k).par=arM m k:=by unfold plM;rw [List.getElem?_eq_getElem hk]
 rw [<- hp]
 rcases js h0 hk with ⟨_,s,hs,_,_,e⟩ | ⟨_,r,hr,_,e⟩
 . rw [e];show (s:Int)<_;omega
 . rw [e]
   show m.zb[r].own<_
   have h4:=(yB.1 h0).2.2.2.1;unfold f4 at h4
   split at h4
   . simp only [Prod.mk.injEq] at h4;omega
   . have:=((yA (by decide)).1 h4 r hr).1
     rw [Nat.zero_add] at this;unfold rReg at this
     split at this
     . simp only [Bool.and_eq_true,beq_iff_eq] at this;omega
     . simp only [Bool.and_eq_true] at this
       have hs:=this.1.2;unfold Md.stM at hs;simp only [Bool.and_eq_true,decide_eq_true_iff] at hs;obtain ⟨h1,h2⟩:=hs;obtain ⟨s,hs⟩:=Int.eq_ofNat_of_zero_le h1;rw [hs,Int.toNat_natCast] at h2;rw [hs]
       cases hv:m.zc[s]? with
       | none=>rw [hv] at h2;cases h2
       | some y=>have:=(List.getElem?_eq_some_iff.1 hv).1;omega
theorem zcH {m:MdlD} (h0:riM m=(0,0,0)) {i:Nat} (hi:i<m.zc.length) :
   upN m (deM m i) (arM m i)<0/\∀ k,k<deM m i->∃ j:Nat,upN m k (arM m i)=j/\j<m.zc.length/\(plM m j).par=upN m (k+1) (arM m i):=by
 have hd:=zO h0 hi;obtain ⟨h1,h2⟩:=dp_up m 65 (arM m i) (by unfold deM at hd;omega);refine ⟨h1,fun k hk=>?_⟩
 have hlt:∀ k,k<deM m i->upN m k (arM m i)<m.zc.length:=fun k=>by
   induction k with
   | zero=>intro _;exact arM_lt h0 hi
   | succ k ih =>
    intro hk;rw [ye];obtain ⟨j,hj⟩:=Int.eq_ofNat_of_zero_le (h2 k (by unfold deM at hk;omega));have:=ih (by omega);rw [hj] at this |-;exact arM_lt h0 (by omega)
 obtain ⟨j,hj⟩:=Int.eq_ofNat_of_zero_le (h2 k hk);have hjl:=hlt k hk;rw [hj] at hjl;have hjl:j<m.zc.length:=by omega
 refine ⟨j,hj,hjl,?_⟩;rw [ye,hj];unfold plM;rw [List.getElem?_eq_getElem hjl]
def plF (m:MdlD) (i:Nat):PlD:={ plM m i with dep:=deM m i }
def pl3 (m:MdlD) (k:Nat):Nat->PlD:=fun i=>if i<k then plF m i else plM m i
theorem pl3_step (m:MdlD) (k:Nat):setP (pl3 m k) k { pl3 m k k with dep:=deM m k }=pl3 m (k+1):=by
 funext i
 unfold setP pl3 plF
 by_cases h:i=k
 . subst h;simp
 . rw [if_neg h]
   by_cases h2:i<k
   . rw [if_pos h2,if_pos (by omega)]
   . rw [if_neg h2,if_neg (by omega)]
theorem zes (m:MdlD) (k i:Nat):(pl3 m k i).par=(plM m i).par:=by unfold pl3 plF;split <;> rfl
theorem pl3_dep (m:MdlD) (k:Nat):(pl3 m k k).dep=0:=by
 unfold pl3;rw [if_neg (by omega)];unfold plM;split <;> rfl
theorem IxSt.pl_eq {W:World} {np nk N1 PB KB MO MP IB XB:Nat} {pl pl':Nat->PlD} {F:RI->List Int} {V:RI->Value} {co cp:Nat} {wx:World} (h:IxSt W np nk N1 PB KB MO MP IB XB pl F V co cp wx) (e:∀ i,i<np->pl i=pl' i):IxSt W np nk N1 PB KB MO MP IB XB pl' F V co cp wx :=
 ⟨h.bel,h.x,h.i,fun i hi=>by rw [<- e i hi];exact h.pl i hi,h.pf,h.kd,h.kf,h.mo,h.mp,h.rw,h.z⟩
structure DepI (w:World) (PB off Bv:Nat) (k:Int) (W:World):Prop where
 os:W.os=w.os
 tape:W.tape=w.tape
 output:W.output=w.output
 size:w.heap.size<=W.heap.size
 blk:∀ b,b<w.heap.size->b≠Bv->b≠PB->W.heap[b]? = w.heap[b]?
 pc:∀ o,o≠off->W.cell? ⟨PB,o,none⟩=w.cell? ⟨PB,o,none⟩
 pk:W.cell? ⟨PB,off,none⟩=some (.int .i64 k)
 pf:∀ o,W.frozen? ⟨PB,o,none⟩=w.frozen? ⟨PB,o,none⟩
 fv:W.frozen? ⟨Bv,0,none⟩=w.frozen? ⟨Bv,0,none⟩
theorem DepI.start {w:World} {PB off Bv:Nat} {k:Int} (h:w.cell? ⟨PB,off,none⟩=some (.int .i64 k)):DepI w PB off Bv k w:=⟨rfl,rfl,rfl,Nat.le_refl _,fun _ _ _ _=>rfl,fun _ _=>rfl,h,fun _=>rfl,rfl⟩
theorem DepI.turn {w W W':World} {PB off Bv:Nat} {k:Int} (h:DepI w PB off Bv k W) (hP:PB<w.heap.size) (hne:PB≠Bv) (hB:Bv<w.heap.size) (t:Turn w.heap.size Bv W W'):DepI w PB off Bv k W' :=
 ⟨t.os.trans h.os,t.tape.trans h.tape,t.output.trans h.output,Nat.le_trans h.size t.size,fun b hb hv hp=>(t.old b hb hv).trans (h.blk b hb hv hp),
   fun o ho=>(World.cell?_of_block (w:=W) (t.old PB hP hne)).trans (h.pc o ho),(World.cell?_of_block (w:=W) (t.old PB hP hne)).trans h.pk,fun o=>(World.frozen?_of_block (w:=W) (t.old PB hP hne)).trans (h.pf o),(t.fv hB).trans h.fv⟩
theorem DepI.store {w W:World} {PB off Bv:Nat} {k k':Int} (h:DepI w PB off Bv k W) (hne:PB≠Bv):DepI w PB off Bv k' (W.setCell ⟨PB,off,none⟩ (.int .i64 k')) :=
 ⟨h.os,h.tape,h.output,by simpa using h.size,fun b hb hv hp=>(Below.heap_setCell W ⟨PB,off,none⟩ _ b hp).trans (h.blk b hb hv hp),
   fun o ho=>(World.cell?_setCell_other _ _ _ _ (fun e=>ho (by simp only [Addr.mk.injEq,true_and,and_true] at e;exact e.symm))).trans (h.pc o ho),World.cell?_setCell_same _ _ _ h.pk,
   fun o=>by rw [World.frozen?_setCell];exact h.pf o,by rw [World.frozen?_setCell];exact h.fv⟩
theorem DepI.drew {w W:World} {PB off Bv:Nat} {k:Int} (h:DepI w PB off Bv k W):DepI w PB off Bv k W.drew:=⟨h.os,h.tape,h.output,h.size,h.blk,h.pc,h.pk,h.pf,h.fv⟩
theorem IxSt.dep {W:World} {np nk N1 PB KB MO MP IB XB:Nat} {pl:Nat->PlD} {F:RI->List Int} {V:RI->Value} {co cp:Nat} {wx w W':World} {i Bv:Nat} {k:Int} (h:IxSt W np nk N1 PB KB MO MP IB XB pl F V co cp wx) (D:Dst W.heap.size N1 PB KB MO MP IB XB) (g:Bl wx w) (hB:wx.heap.size<=Bv) (hi:i<np)
   (hd:DepI w PB (i * 7+2) Bv k W'):IxSt W np nk N1 PB KB MO MP IB XB (setP pl i { pl i with dep:=k }) F V co cp W':=by
 have hw:=h.grown D g;obtain ⟨h1,h2,h3,h4,h5,h6⟩:=D.hi;obtain ⟨a1,a2,a3,a4,a5⟩:=D.ne1;have lo:=D.lo.1;have hz:=h.z;have hzw:=hw.z;have kb:∀ b,b<wx.heap.size->b≠PB->W'.heap[b]? = w.heap[b]? := fun b hb hp=>hd.blk b (by have:=g.size;omega) (by omega) hp
 have bel:Bl W W':=by
   refine ⟨hd.os.trans hw.bel.os,hd.tape.trans hw.bel.tape,hd.output.trans hw.bel.output,Nat.le_trans hw.bel.size hd.size,fun b hb=>(kb b (by have:=h.bel.size;omega) (by omega)).trans (hw.bel.block b hb)⟩
 refine ⟨bel,(World.cell?_of_block (w:=w) (kb XB (by omega) a5.symm)).trans hw.x,(kb IB (by omega) a4.symm).trans hw.i,fun j hj=>?_,fun o=>(hd.pf o).trans (hw.pf o),fun r hr=>(World.cell?_of_block (w:=w) (kb KB (by omega) a1.symm)).trans (hw.kd r hr),fun o=>(World.frozen?_of_block (w:=w) (kb KB (by omega) a1.symm)).trans (hw.kf o),hw.mo.keep (kb MO (by omega) a2.symm),hw.mp.keep (kb MP (by omega) a3.symm),
   hw.rw.keep fun i b hb=>kb b (h.rw.lt hb).2 (by have:=(h.rw.lt hb).1;omega),Nat.le_trans hzw hd.size⟩
 have oc:∀ a b,(a≠i\/b≠2)->b<7->W'.cell? ⟨PB,a * 7+b,none⟩=w.cell? ⟨PB,a * 7+b,none⟩:=fun a b hab hb=>hd.pc _ (by omega)
 by_cases hji:j=i
 . subst hji
   rw [yN];have q:=hw.pl j hj;exact ⟨(oc j 0 (by omega) (by omega)).trans q.c0,(oc j 1 (by omega) (by omega)).trans q.c1,hd.pk,(oc j 3 (by omega) (by omega)).trans q.c3,(oc j 4 (by omega) (by omega)).trans q.c4,(oc j 5 (by omega) (by omega)).trans q.c5,(oc j 6 (by omega) (by omega)).trans q.c6⟩
 . have:setP pl i { pl i with dep:=k } j=pl j:=by simp [setP,hji]
   rw [this];exact (hw.pl j hj).keep fun b hb=>oc j b (.inl hji) hb
theorem IxSt.upAt {W:World} {m:MdlD} {N1 PB KB MO MP IB XB:Nat} {F:RI->List Int} {V:RI->Value} {co cp:Nat} {wx w W':World} {i Bv Bx:Nat} {k:Int} (h0:riM m=(0,0,0)) (h:IxSt W m.zc.length m.zb.length N1 PB KB MO MP IB XB (pl3 m i) F V co cp wx) (D:Dst W.heap.size N1 PB KB MO MP IB XB) (g:Bl wx w) (hB:wx.heap.size<=Bv) (hBx:Bx<w.heap.size) (hne:Bx≠Bv) (hlo:wx.heap.size<=Bx) (hi:i<m.zc.length)
   (hx:w.cell? ⟨Bx,0,none⟩=some (.pointer (some ⟨IB,0,none⟩))) (hf:w.frozen? ⟨Bv,0,none⟩=false) (hd:DepI w PB (i * 7+2) Bv k W'):UpAt (fun k=>upN m k (arM m i)) (deM m i) Bv Bx IB PB 0 m.zc.length m.zc.length W':=by
 have hs:=h.dep D g hB hi hd;have hPB:=D.hi.1;have hz:=h.z;refine ⟨(World.cell?_of_block (w:=w) (hd.blk Bx hBx hne (by omega))).trans hx,hs.idx.1,fun j hj=>?_,hd.fv.trans hf⟩;obtain ⟨s,h1,h2,h3⟩:=(zcH h0 hi).2 j hj;refine ⟨s,h1,h2,?_⟩;rw [Nat.zero_add];have q:=(hs.pl s h2).c0
 have e:(setP (pl3 m i) i { pl3 m i i with dep:=k } s).par=upN m (j+1) (arM m i):=by
   rw [<- h3,<- zes m i s];unfold setP
   by_cases hsi:s=i
   . subst hsi;rw [if_pos rfl]
   . rw [if_neg hsi]
 rw [e] at q;exact q
def F4 (m:MdlD) (k:Nat):RI->List Int:=fun i=>match i.1 with
 | .own=>ownM m i.2 | .kid=>kidsM m i.2 | .pnt=>pntM m i.2 | .out=>sel (isOut i.2) (m.ze.take k) | .into=>sel (isInto i.2) (m.ze.take k)
theorem F4_zero (m:MdlD):F4 m 0=F2 m m.zc.length:=by
 funext i
 obtain ⟨r,s⟩:=i
 cases r <;> simp [F4,F2,sel,selF,kidsM,pntM]
theorem F4_len (m:MdlD) (k:Nat) (i:RI):(F4 m k i).length<=m.zc.length+m.zb.length+m.ze.length:=by
 have ht:(m.ze.take k).length<=m.ze.length:=by rw [List.length_take];omega
 obtain ⟨r,s⟩:=i
 cases r
 . have:=zV (isKid s) m.zc;show (sel (isKid s) m.zc).length<=_;omega
 . have:=zV (isOwn s) m.zb;show (sel (isOwn s) m.zb).length<=_;omega
 . have:=zV (isPnt s) m.zc;show (sel (isPnt s) m.zc).length<=_;omega
 . have:=zV (isOut s) (m.ze.take k);show (sel (isOut s) (m.ze.take k)).length<=_;omega
 . have:=zV (isInto s) (m.ze.take k);show (sel (isInto s) (m.ze.take k)).length<=_;omega
theorem F4_step (m:MdlD) {k:Nat} (h:k<m.ze.length):F4 m (k+1)=upd (upd (F4 m k) (.out,m.ze[k].src) (F4 m k (.out,m.ze[k].src) ++ [(k:Int)])) (.into,m.ze[k].tgt) (F4 m k (.into,m.ze[k].tgt) ++ [(k:Int)]):=by
 funext i
 obtain ⟨r,s⟩:=i
 cases r
 . rw [zw (by simp),zw (by simp)];rfl
 . rw [zw (by simp),zw (by simp)];rfl
 . rw [zw (by simp),zw (by simp)];rfl
 . rw [zw (by simp)]
   by_cases hs:s=m.ze[k].src
   . subst hs
     rw [zM]
     show sel (isOut _) _=sel (isOut _) _ ++ _
     rw [ym _ h,if_pos (by simp [isOut])]
   . rw [zw (by simp [hs])]
     show sel (isOut s) _=sel (isOut s) _
     rw [ym _ h,if_neg (by simp only [isOut,beq_iff_eq];exact fun e=>hs e.symm),List.append_nil]
 . by_cases hs:s=m.ze[k].tgt
   . subst hs
     rw [zM]
     show sel (isInto _) _=sel (isInto _) _ ++ _
     rw [ym _ h,if_pos (by simp [isInto])]
   . rw [zw (by simp [hs]),zw (by simp)]
     show sel (isInto s) _=sel (isInto s) _
     rw [ym _ h,if_neg (by simp only [isInto,beq_iff_eq];exact fun e=>hs e.symm),List.append_nil]
def FM (m:MdlD):RI->List Int:=F4 m m.ze.length
theorem IxSt.keepB {W:World} {np nk N1 PB KB MO MP IB XB:Nat} {pl:Nat->PlD} {F:RI->List Int} {V:RI->Value} {co cp:Nat} {wx wy:World} (h:IxSt W np nk N1 PB KB MO MP IB XB pl F V co cp wx) (D:Dst W.heap.size N1 PB KB MO MP IB XB) (hb:Bl W wy)
   (k1:∀ b,b<N1->wy.heap[b]? = wx.heap[b]?) (k2:∀ i g,(V i).ownBlock=some g->wy.heap[g]? = wx.heap[g]?) (hz:N1<=wy.heap.size):IxSt W np nk N1 PB KB MO MP IB XB pl F V co cp wy:=by
 obtain ⟨h1,h2,h3,h4,h5,h6⟩:=D.hi;have kc:∀ b k,b<N1->wy.cell? ⟨b,k,none⟩=wx.cell? ⟨b,k,none⟩:=fun b k hbn=>World.cell?_of_block (w:=wx) (k1 b hbn);have kf:∀ b k,b<N1->wy.frozen? ⟨b,k,none⟩=wx.frozen? ⟨b,k,none⟩:=fun b k hbn=>World.frozen?_of_block (w:=wx) (k1 b hbn);exact ⟨hb,(kc _ _ h6).trans h.x,(k1 _ h5).trans h.i,fun i hi=>(h.pl i hi).keep fun j _=>kc _ _ h1,fun k=>(kf _ _ h1).trans (h.pf k),fun r hr=>(kc _ _ h2).trans (h.kd r hr),fun k=>(kf _ _ h2).trans (h.kf k),h.mo.keep (k1 _ h3),h.mp.keep (k1 _ h4),h.rw.keep k2,hz⟩
theorem IxSt.shut {W:World} {np nk N1 PB KB MO MP IB XB:Nat} {pl:Nat->PlD} {F:RI->List Int} {V:RI->Value} {co cp:Nat} {wx:World} {ds:List Nat} (h:IxSt W np nk N1 PB KB MO MP IB XB pl F V co cp wx) (D:Dst W.heap.size N1 PB KB MO MP IB XB) (hN:W.heap.size<=N1) (hM:Marked N1 ds wx):IxSt W np nk N1 PB KB MO MP IB XB pl F V co cp (Rfu.shut ds wx):=by
 have hb:Below N1 wx (Rfu.shut ds wx):=zU hM.lo;refine h.keepB D (h.bel.trans (hb.mono hN)) (fun b hbn=>hb.block b hbn) (fun i g hg=>qC ds wx fun hm=>?_) (Nat.le_trans h.z hb.size);have hd:=hM.at_ g hm;obtain ⟨_,h2⟩:=h.rw.own i
 rcases h2 with ⟨e,_⟩ | ⟨g',cap,cur,e,_,hgc,_⟩
 . rw [e] at hg;cases hg
 . rw [e] at hg
   simp only [Value.ownBlock,Option.some.injEq] at hg;subst hg;rw [hd] at hgc;cases hgc
def IdxAt (B:Nat) (m:MdlD) (IB:Nat) (wx:World):Prop:=∃ (W:World) (N1 PB KB MO MP XB cp:Nat) (V:RI->Value),B<=W.heap.size/\W.heap.size<=N1/\Dst W.heap.size N1 PB KB MO MP IB XB/\IxSt W m.zc.length m.zb.length N1 PB KB MO MP IB XB (plF m) (FM m) V m.zb.length cp wx
theorem IdxAt.grown {B:Nat} {m:MdlD} {IB:Nat} {wx wy:World} (h:IdxAt B m IB wx) (g:Bl wx wy):IdxAt B m IB wy:=by
 obtain ⟨W,N1,PB,KB,MO,MP,XB,cp,V,h1,h2,D,h⟩:=h;exact ⟨W,N1,PB,KB,MO,MP,XB,cp,V,h1,h2,D,h.grown D g⟩
theorem Rws.push1 {N:Nat} {F:RI->List Int} {V:RI->Value} {w w1:World} {i:RI} {x:Int} {gg cap n:Nat} {xs:List Int} (h:Rws N F V w) (hn:(F i).length=n) (hxs:F i=xs) (hg:w.grownBy w1 (V i).ownBlock) (hat:(V i).ownBlock=some gg\/gg=w.heap.size)
   (ho:w1.ownsRow N 3 1 (.slice (some ⟨gg,0,none⟩) (n+1) cap) (n+1) (nums xs ++ [.int .i64 x])):Rws N (upd F i (xs ++ [x])) (upd V i (.slice (some ⟨gg,0,none⟩) (n+1) cap)) w1:=by
 subst hxs;subst hn
 have hgk:∀ j g,j≠i->(V j).ownBlock=some g->w1.heap[g]? = w.heap[g]? := fun j g hj hb=>by
   refine hg.block g (h.lt hb).2 (fun e=>?_)
   rcases h.ap j i hj with h1 | h1
   . rw [h1] at hb;cases hb
   . exact h1 (by rw [hb];exact e)
 refine ⟨fun j=>?_,fun j k hjk=>?_⟩
 . by_cases hj:j=i
   . subst hj
     rw [zM,zM];simpa [nums] using ho
   . rw [zw hj,zw hj]
     obtain ⟨h1,h2⟩:=h.own j;refine ⟨h1,?_⟩
     rcases h2 with h2 | ⟨g,cp,cur,e,hb,hgc,r⟩
     . exact .inl h2
     . exact .inr ⟨g,cp,cur,e,hb,by rw [hgk j g hj (by rw [e];rfl)];exact hgc,r⟩
 . have key:∀ a,a≠i->(V a).ownBlock=none\/(V a).ownBlock≠some gg:=fun a ha=>by
     cases hb:(V a).ownBlock with
     | none=>exact .inl rfl
     | some g =>
      refine .inr fun e=>?_
      injection e with e
      subst e
      rcases hat with h1 | h1
      . rcases h.ap a i ha with h2 | h2
        . rw [h2] at hb;cases hb
        . exact h2 (by rw [hb,h1])
      . have:=(h.lt hb).2;omega
   by_cases hj:j=i
   . subst hj
     have hk:k≠j:=fun e=>hjk e.symm;rw [zM,zw hk]
     rcases key k hk with h1 | h1
     . exact .inr (by rw [h1];simp [Value.ownBlock])
     . exact .inr (by simp only [Value.ownBlock];exact fun e=>h1 e.symm)
   . rw [zw hj]
     by_cases hk:k=i
     . subst hk
       rw [zM]
       rcases key j hj with h1 | h1
       . exact .inl h1
       . exact .inr h1
     . rw [zw hk];exact h.ap j k hjk
theorem Rws.no_mark {N n0:Nat} {F:RI->List Int} {V:RI->Value} {w:World} {ds:List Nat} (h:Rws N F V w) (hM:Marked n0 ds w) (i:RI) {D:Nat} (hD:D ∈ ds):(V i).ownBlock≠some D:=fun e=>by
 have hd:=hM.at_ D hD;obtain ⟨_,h2⟩:=h.own i
 rcases h2 with ⟨e2,_⟩ | ⟨g',cap,cur,e2,_,hgc,_⟩
 . rw [e2] at e;cases e
 . rw [e2] at e
   simp only [Value.ownBlock,Option.some.injEq] at e;subst e;rw [hd] at hgc;cases hgc
theorem IxSt.pushes {W:World} {np nk N1 PB KB MO MP IB XB:Nat} {pl:Nat->PlD} {F:RI->List Int} {V:RI->Value} {co cp:Nat} {w w10 w11 w15:World} {s t:Nat} {x:Int} {g1 c1 g2 c2 nA nB:Nat} {ds:List Nat} (h:IxSt W np nk N1 PB KB MO MP IB XB pl F V co cp w) (D:Dst W.heap.size N1 PB KB MO MP IB XB) (hN:W.heap.size<=N1) (hM:Marked N1 ds w)
   (hnA:(F (.out,s)).length=nA) (hnB:(F (.into,t)).length=nB)
   (hg1:w.grownBy w10 (V (.out,s)).ownBlock) (hat1:(V (.out,s)).ownBlock=some g1\/g1=w.heap.size) (ho1:w10.ownsRow N1 3 1 (.slice (some ⟨g1,0,none⟩) (nA+1) c1) (nA+1) (nums (F (.out,s)) ++ [.int .i64 x]))
   (hb:Bl w10 w11)
   (hg2:w11.grownBy w15 (V (.into,t)).ownBlock) (hat2:(V (.into,t)).ownBlock=some g2\/g2=w11.heap.size) (ho2:w15.ownsRow N1 3 1 (.slice (some ⟨g2,0,none⟩) (nB+1) c2) (nB+1) (nums (F (.into,t)) ++ [.int .i64 x])) :
   IxSt W np nk N1 PB KB MO MP IB XB pl (upd (upd F (.out,s) (F (.out,s) ++ [x])) (.into,t) (F (.into,t) ++ [x])) (upd (upd V (.out,s) (.slice (some ⟨g1,0,none⟩) (nA+1) c1)) (.into,t) (.slice (some ⟨g2,0,none⟩) (nB+1) c2)) co cp
       ((w15.setCell ⟨PB,s * 7+5,none⟩ (.slice (some ⟨g1,0,none⟩) (nA+1) c1)).setCell ⟨PB,t * 7+6,none⟩ (.slice (some ⟨g2,0,none⟩) (nB+1) c2)) /\
     Marked N1 ds ((w15.setCell ⟨PB,s * 7+5,none⟩ (.slice (some ⟨g1,0,none⟩) (nA+1) c1)).setCell ⟨PB,t * 7+6,none⟩ (.slice (some ⟨g2,0,none⟩) (nB+1) c2)):=by
 obtain ⟨h1,h2,h3,h4,h5,h6⟩:=D.hi;obtain ⟨a1,a2,a3,a4,a5⟩:=D.ne1;have lo:=D.lo.1;have r1:=h.rw.push1 hnA rfl hg1 hat1 ho1;have r2:=r1.keep fun i b hbk=>hb.block b (r1.lt hbk).2;have eF:upd F (.out,(s:Int)) (F (.out,s) ++ [x]) (.into,(t:Int))=F (.into,t):=zw (by simp);have eV:upd V (.out,(s:Int)) (.slice (some ⟨g1,0,none⟩) (nA+1) c1) (.into,(t:Int))=V (.into,t):=zw (by simp);have r3:=r2.push1 (i:=(.into,(t:Int))) (by rw [eF];exact hnB) eF (by rw [eV];exact hg2) (by rw [eV];exact hat2) ho2;have hz:=h.z;have hs1:=hg1.size;have hs2:=hb.size;have hs3:=hg2.size;have hB:Below N1 w w15:=(((Below.refl N1 w).grown hg1 hz fun k hk=>(h.rw.lt hk).1).trans (hb.mono (by omega))).grown hg2 (by omega) fun k hk=>(h.rw.lt hk).1
 have kc:∀ b k,b<N1->w15.cell? ⟨b,k,none⟩=w.cell? ⟨b,k,none⟩:=fun b k hbn=>World.cell?_of_block (w:=w) (hB.block b hbn);have kf:∀ b k,b<N1->w15.frozen? ⟨b,k,none⟩=w.frozen? ⟨b,k,none⟩:=fun b k hbn=>World.frozen?_of_block (w:=w) (hB.block b hbn);obtain ⟨va,hva⟩:∃ va,va=Value.slice (some ⟨g1,0,none⟩) (nA+1) c1:=⟨_,rfl⟩;obtain ⟨vb,hvb⟩:∃ vb,vb=Value.slice (some ⟨g2,0,none⟩) (nB+1) c2:=⟨_,rfl⟩;rw [<- hva,<- hvb] at r3 |-;have kb:∀ b,b≠PB->((w15.setCell ⟨PB,s * 7+5,none⟩ va).setCell ⟨PB,t * 7+6,none⟩ vb).heap[b]? = w15.heap[b]? := fun b hb=>(Below.heap_setCell _ ⟨PB,t * 7+6,none⟩ vb b hb).trans (Below.heap_setCell w15 ⟨PB,s * 7+5,none⟩ va b hb);have k2:∀ b,b≠PB->b<N1->((w15.setCell ⟨PB,s * 7+5,none⟩ va).setCell ⟨PB,t * 7+6,none⟩ vb).heap[b]? = w.heap[b]? := fun b hb hbn=>(kb b hb).trans (hB.block b hbn)
 have o2:∀ i j,j<7->(i≠t\/j≠6)->((w15.setCell ⟨PB,s * 7+5,none⟩ va).setCell ⟨PB,t * 7+6,none⟩ vb).cell? ⟨PB,i * 7+j,none⟩=(w15.setCell ⟨PB,s * 7+5,none⟩ va).cell? ⟨PB,i * 7+j,none⟩:=fun i j hj hij=>World.cell?_setCell_other _ _ _ _ fun e=>by
   simp only [Addr.mk.injEq,true_and,and_true] at e;omega
 have o1:∀ i j,j<7->(i≠s\/j≠5)->(w15.setCell ⟨PB,s * 7+5,none⟩ va).cell? ⟨PB,i * 7+j,none⟩=w.cell? ⟨PB,i * 7+j,none⟩:=fun i j hj hij=>(World.cell?_setCell_other _ _ _ _ fun e=>by
   simp only [Addr.mk.injEq,true_and,and_true] at e;omega).trans (kc _ _ h1)
 constructor
 . refine ⟨((h.bel.trans (hB.mono hN)).setCell lo _).setCell lo _,((World.cell?_setCell_far _ _ _ _ a5).trans (World.cell?_setCell_far _ _ _ _ a5)).trans ((kc _ _ h6).trans h.x),(k2 _ a4.symm h5).trans h.i,fun i hi=>?_,fun k=>?_,fun r hr=>?_,fun k=>?_,?_,?_,r3.keep fun i b hbk=>kb b ?_,?_⟩
   . have q:=h.pl i hi
     refine ⟨(o2 i 0 (by omega) (by omega)).trans ((o1 i 0 (by omega) (by omega)).trans q.c0),(o2 i 1 (by omega) (by omega)).trans ((o1 i 1 (by omega) (by omega)).trans q.c1),(o2 i 2 (by omega) (by omega)).trans ((o1 i 2 (by omega) (by omega)).trans q.c2),(o2 i 3 (by omega) (by omega)).trans ((o1 i 3 (by omega) (by omega)).trans q.c3),(o2 i 4 (by omega) (by omega)).trans ((o1 i 4 (by omega) (by omega)).trans q.c4),(o2 i 5 (by omega) (by omega)).trans ?_,?_⟩
     . rw [zw (by simp)]
       by_cases hi:i=s
       . subst hi
         rw [zM];exact World.cell?_setCell_same _ _ _ ((kc _ _ h1).trans q.c5)
       . rw [zw (by simp;omega)]
         exact (o1 i 5 (by omega) (by omega)).trans q.c5
     . by_cases hi:i=t
       . subst hi
         rw [zM];exact World.cell?_setCell_same _ _ _ ((o1 i 6 (by omega) (by omega)).trans q.c6)
       . rw [zw (by simp;omega),zw (by simp)]
         exact (o2 i 6 (by omega) (by omega)).trans ((o1 i 6 (by omega) (by omega)).trans q.c6)
   . rw [World.frozen?_setCell,World.frozen?_setCell];exact (kf _ _ h1).trans (h.pf k)
   . rw [zw (by simp),zw (by simp)]
     exact ((World.cell?_setCell_far _ _ _ _ a1).trans (World.cell?_setCell_far _ _ _ _ a1)).trans ((kc _ _ h2).trans (h.kd r hr))
   . rw [World.frozen?_setCell,World.frozen?_setCell];exact (kf _ _ h2).trans (h.kf k)
   . have e:(fun q=>upd (upd V (.out,(s:Int)) va) (.into,(t:Int)) vb (.own,q))=fun q=>V (.own,q):=by
       funext q;rw [zw (by simp),zw (by simp)]
     rw [e];exact h.mo.keep (k2 _ a2.symm h3)
   . have e:(fun q=>upd (upd V (.out,(s:Int)) va) (.into,(t:Int)) vb (.pnt,q))=fun q=>V (.pnt,q):=by
       funext q;rw [zw (by simp),zw (by simp)]
     rw [e];exact h.mp.keep (k2 _ a3.symm h4)
   . have:=(r3.lt hbk).1;omega
   . have:N1<=w15.heap.size:=Nat.le_trans hz hB.size
     simpa using this
 . refine hM.keep fun D' hD'=>?_
   have hl:=(Array.getElem?_eq_some_iff.1 (hM.at_ D' hD')).1;have hlo:=hM.lo D' hD';refine (kb D' (by omega)).trans ((hg2.block D' (by omega) fun e=>h.rw.no_mark hM _ hD' e.symm).trans ((hb.block D' (by omega)).trans (hg1.block D' hl fun e=>h.rw.no_mark hM _ hD' e.symm)))
end Go.Proofs
