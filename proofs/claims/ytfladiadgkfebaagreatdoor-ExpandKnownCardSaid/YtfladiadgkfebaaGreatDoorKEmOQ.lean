/- Walks: the function that 'size' hands to 'uses'. -/
import Derived.Test.YtfladiadgkfebaaGreatDoorKEmLM
import Derived.Test.YtfladiadgkfebaaGreatDoorKEmF
namespace Go.Md
open Go.RowKit Go.Lx Go.Proofs
open Lib(hid)
set_option maxRecDepth 100000
set_option maxHeartbeats 0
set_option linter.unusedVariables false
theorem siz_len {l:List MdlD} (hL:∀ m ∈ l,riM m=(0,0,0)):∀ (f a:Nat),LeS (sizF l f a) (bnS f,bnS f,bnS f)
 | 0,a=>by unfold bnS LeS;simp [sizF]
 | f+1,a=>by
   have h0:(l.getD a D0).regs.length<=512/\(l.getD a D0).vers.length<=512/\(l.getD a D0).trns.length<=512:=by
     rcases Nat.lt_or_ge a l.length with h | h
     . exact (right_len (hL _ (getD_mem h D0))).2.2
     . rw [List.getD_eq_getElem?_getD,List.getElem?_eq_none h];simp
   have key:∀ (vs:List Nat) (out:Siz),LeS out (bnS (f+1),bnS (f+1),bnS (f+1))->LeS (vs.foldl (sizS l (sizF l f) (l.getD a D0)) out) (bnS (f+1),bnS (f+1),bnS (f+1)):=by
     intro vs
     induction vs with
     | nil=>intro out h;exact h
     | cons v vs ih =>
      intro out h
      refine ih _ ?_
      unfold sizS
      cases hx:(l.getD a D0).vers[v]? with
      | none=>exact h
      | some x =>
       dsimp only
       split
       . exact h
       . rename_i hc
         cases hf:fnd l x.sb with
         | none=>exact h
         | some n =>
          dsimp only
          have hm:manyS out=false:=by
            cases hh:manyS out with
            | false=>rfl
            | true=>rw [hh] at hc;simp at hc
          obtain ⟨k1,k2,k3⟩:=few_le hm
          obtain ⟨g1,g2,g3⟩:=siz_len hL f n
          have hp:=pts_len (l.getD a D0) v
          unfold bnS at *
          unfold LeS addS
          dsimp only at *
          omega
   refine key _ _ ?_
   obtain ⟨h1,h2,h3⟩:=h0
   refine ⟨?_,?_,?_⟩
   . exact Nat.le_trans h1 (show 512<=bnS (f+1) by unfold bnS;omega)
   . exact Nat.le_trans h2 (show 512<=bnS (f+1) by unfold bnS;omega)
   . exact Nat.le_trans h3 (show 512<=bnS (f+1) by unfold bnS;omega)
end Go.Md
namespace Go.Proofs
open Go.RowKit Go.Lx Go.Md Go.Maps Go.BigFrame Go.Rgi
open Lib(hid)
set_option maxRecDepth 100000
set_option maxHeartbeats 0
set_option linter.unusedVariables false
def szO (s:Siz):Obj:=.cells #[.int .i64 (s.1:Nat),.int .i64 (s.2.1:Nat),.int .i64 (s.2.2:Nat)] 104 (0,0)
theorem szO.at_ {w:World} {H:Nat} {s:Siz} (h:w.heap[H]? = some (szO s)):w.cell? ⟨H,0,none⟩=some (.int .i64 (s.1:Nat))/\w.cell? ⟨H,1,none⟩=some (.int .i64 (s.2.1:Nat))/\w.cell? ⟨H,2,none⟩=some (.int .i64 (s.2.2:Nat))/\w.frozen? ⟨H,0,none⟩=false/\w.frozen? ⟨H,1,none⟩=false/\w.frozen? ⟨H,2,none⟩=false:=by
 unfold szO at h
 refine ⟨?_,?_,?_,?_,?_,?_⟩ <;> first | (unfold World.cell?;simp only [h];rfl) | (unfold World.frozen?;simp [h])
theorem szO.set {w:World} {H:Nat} {s:Siz} (h:w.heap[H]? = some (szO s)) (a b c:Nat):(((w.setCell ⟨H,0,none⟩ (.int .i64 a)).setCell ⟨H,1,none⟩ (.int .i64 b)).setCell ⟨H,2,none⟩ (.int .i64 c)).heap[H]? = some (szO (a,b,c)) :=
 box_set (box_set (box_set h 0 _) 1 _) 2 _
def CutZ (SB SZ:Nat) (s1:Siz) (w1 w wx:World):Prop:=wx.heap[SZ]? = some (szO s1)/\wx.heap[SB]? = w1.heap[SB]? /\ Fr2 SB SZ w wx
theorem size1_any {Q:Nat->BP} (m:MdlD) (pm:Ph) (LB SB LPB SZ MB k q:Nat) (s0 z:Siz) (P:World->Prop) (w:World) (hP:∀ wx wy,P wx->wy.heap[SB]? = wx.heap[SB]? -> P wy) (hmm:∀ wx,Fr2 SB SZ w wx->Mod Q wx m pm) (hv:m.vers.length<=10000)
   (hlp:w.heap[LPB]? = some (.cells #[.pointer (some ⟨LB,0,none⟩)] 72 (0,0))) (hsz:w.heap[SZ]? = some (szO s0)) (hmb:w.heap[MB]? = some (mBox m pm)) (n1:SZ≠SB) (n2:MB≠SB) (n3:LPB≠SB) (n4:MB≠SZ) (n5:LPB≠SZ) (hSB:SB<w.heap.size)
   (b0:LeS s0 (1000000,1000000,1000000)) (b1:LeS z (1000000,1000000,1000000))
   (hR:Calls Tryz.prog 48 #[.pointer (some ⟨LB,0,none⟩),.int .i64 q] w fun e w'=>e=.returned (sizV z)/\P w'/\w.grownBy w' (some SB)) :
   Calls Tryz.prog 85 #[.int .i64 k,.int .i64 q,.pointer (some ⟨LPB,0,none⟩),.pointer (some ⟨SZ,0,none⟩),.pointer (some ⟨MB,0,none⟩)] w fun e w'=>e=.returned (.bool !manyS (addS s0 z (ptsM m k).length))/\w'.heap[SZ]? = some (szO (addS s0 z (ptsM m k).length))/\P w'/\Fr2 SB SZ w w':=by
 obtain ⟨c1,c2,c3⟩:=b0
 obtain ⟨d1,d2,d3⟩:=b1
 dsimp only at c1 c2 c3 d1 d2 d3
 have hpl:(ptsM m k).length<=10000:=Nat.le_trans (pts_len m k) hv
 have HR:=hid hR
 have hl:=cell_at hlp
 have HP:=hid fun wx (g:Fr2 SB SZ w wx)=>points_any m pm k wx (hmm wx g) hv
 have HPP:=hid hP
 have HF:Hid (∀ wx,w.grownBy wx (some SB)->wx.heap[SZ]? = some (szO s0)/\wx.heap[MB]? = some (mBox m pm)):=hid fun wx g =>
   ⟨(g.block _ (Array.getElem?_eq_some_iff.1 hsz).1 (by intro e;injection e with e;exact n1 e)).trans hsz,(g.block _ (Array.getElem?_eq_some_iff.1 hmb).1 (by intro e;injection e with e;exact n2 e)).trans hmb⟩
 have hszl:=(Array.getElem?_eq_some_iff.1 hsz).1
 clear hR hlp hsz hmb hmm hP
 unfold sizV at HR
 go_enter Tryz.func85,Tryz.ntmps85
 go_upto_region 2 with ((with_reducible refine (HR.o).mono ?_);rintro e w1 ⟨rfl,hp1,hg1⟩)
 obtain ⟨hs1,hm1⟩:=HF.o w1 hg1
 obtain ⟨W2,hW2⟩:=ex2 (w1.alloc (szO z))
 have hB2:Below w1.heap.size w1 W2:=by rw [<- hW2];exact below_al1 w1 _
 have hX2:W2.heap[w1.heap.size]? = some (szO z):=by rw [<- hW2];exact World.alloc_heap_new w1 _
 have hz2:w1.heap.size<W2.heap.size:=by rw [<- hW2];simp
 have hg:=hg1.size
 have hZ2:W2.heap[SZ]? = some (szO s0):=(hB2.block _ (by omega)).trans hs1
 have hM2:W2.heap[MB]? = some (mBox m pm):=(hB2.block _ (Array.getElem?_eq_some_iff.1 hm1).1).trans hm1
 unfold szO at hW2
 rw [hW2]
 clear hW2
 have HFr:Hid (Fr2 SB SZ w W2):=hid ((Fr2.of_grown hg1).trans (Fr2.of_below hB2))
 have HSB2:Hid (W2.heap[SB]? = w1.heap[SB]? /\ SB<W2.heap.size):=hid ⟨hB2.block _ (by omega),by omega⟩
 have HC:=hid fun wx (g:Below W2.heap.size W2 wx)=>HP.o wx (HFr.o.trans (Fr2.of_below g))
 unfold mdV at HC
 have kz:∀ W',Below W2.heap.size W2 W'->W'.heap[SZ]? = some (szO s0):=fun W' g=>(g.block _ (by omega)).trans hZ2
 have kx:∀ W',Below W2.heap.size W2 W'->W'.heap[w1.heap.size]? = some (szO z):=fun W' g=>(g.block _ hz2).trans hX2
 have km:∀ W',Below W2.heap.size W2 W'->W'.heap[MB]? = some (mBox m pm):=fun W' g=>(g.block _ (Array.getElem?_eq_some_iff.1 hM2).1).trans hM2
 have HZ:=hid fun W' g=>szO.at_ (kz W' g)
 have hxz:w1.heap.size≠SZ:=by omega
 have HS:Hid (∀ W',Below W2.heap.size W2 W'->W'.cell? ⟨SZ,2,none⟩=some (.int .i64 (s0.2.2:Nat))/\(W'.cell? ⟨w1.heap.size,0,none⟩=some (.int .i64 (z.1:Nat))/\W'.cell? ⟨w1.heap.size,1,none⟩=some (.int .i64 (z.2.1:Nat))/\W'.cell? ⟨w1.heap.size,2,none⟩=some (.int .i64 (z.2.2:Nat)))/\W'.cell? ⟨MB,0,none⟩=some (.string m.nm)/\W'.cell? ⟨MB,1,none⟩=some (.slice pm.a1 m.vars.length pm.c1)/\W'.cell? ⟨MB,2,none⟩=some (.slice pm.a2 m.evs.length pm.c2)/\W'.cell? ⟨MB,3,none⟩=some (.slice pm.a3 m.regs.length pm.c3)/\W'.cell? ⟨MB,4,none⟩=some (.slice pm.a4 m.vers.length pm.c4)/\W'.cell? ⟨MB,5,none⟩=some (.slice pm.a5 m.trns.length pm.c5)):=hid fun W' g=>by
   obtain ⟨_,_,a2,_⟩:=szO.at_ (kz W' g)
   obtain ⟨x0,x1,x2,_⟩:=szO.at_ (kx W' g)
   obtain ⟨m0,m1,m2,m3,m4,m5,_⟩:=mBox.box (km W' g)
   exact ⟨a2,⟨x0,x1,x2⟩,m0,m1,m2,m3,m4,m5⟩
 have kc:∀ (W':World) (b o j:Nat) (u v:Value),W'.cell? ⟨b,o,none⟩=some v->(b≠SZ\/o≠j)->(W'.setCell ⟨SZ,j,none⟩ u).cell? ⟨b,o,none⟩=some v:=fun W' b o j u v h hne=>by
   rw [World.cell?_setCell_other W' _ _ u (by intro e;injection e with e1 e2;rcases hne with h | h;exact h e1.symm;exact h e2.symm)];exact h
 have HS2:Hid (∀ W' u,Below W2.heap.size W2 W'->(W'.setCell ⟨SZ,0,none⟩ u).cell? ⟨SZ,2,none⟩=some (.int .i64 (s0.2.2:Nat))/\((W'.setCell ⟨SZ,0,none⟩ u).cell? ⟨w1.heap.size,0,none⟩=some (.int .i64 (z.1:Nat))/\(W'.setCell ⟨SZ,0,none⟩ u).cell? ⟨w1.heap.size,1,none⟩=some (.int .i64 (z.2.1:Nat))/\(W'.setCell ⟨SZ,0,none⟩ u).cell? ⟨w1.heap.size,2,none⟩=some (.int .i64 (z.2.2:Nat)))/\(W'.setCell ⟨SZ,0,none⟩ u).cell? ⟨MB,0,none⟩=some (.string m.nm)/\(W'.setCell ⟨SZ,0,none⟩ u).cell? ⟨MB,1,none⟩=some (.slice pm.a1 m.vars.length pm.c1)/\(W'.setCell ⟨SZ,0,none⟩ u).cell? ⟨MB,2,none⟩=some (.slice pm.a2 m.evs.length pm.c2)/\(W'.setCell ⟨SZ,0,none⟩ u).cell? ⟨MB,3,none⟩=some (.slice pm.a3 m.regs.length pm.c3)/\(W'.setCell ⟨SZ,0,none⟩ u).cell? ⟨MB,4,none⟩=some (.slice pm.a4 m.vers.length pm.c4)/\(W'.setCell ⟨SZ,0,none⟩ u).cell? ⟨MB,5,none⟩=some (.slice pm.a5 m.trns.length pm.c5)):=hid fun W' u g=>by
   obtain ⟨a,⟨b,c,d⟩,e0,e1,e2,e3,e4,e5⟩:=HS.o W' g
   exact ⟨kc _ _ _ _ _ _ a (.inr (by decide)),⟨kc _ _ _ _ _ _ b (.inl hxz),kc _ _ _ _ _ _ c (.inl hxz),kc _ _ _ _ _ _ d (.inl hxz)⟩,kc _ _ _ _ _ _ e0 (.inl n4),kc _ _ _ _ _ _ e1 (.inl n4),kc _ _ _ _ _ _ e2 (.inl n4),kc _ _ _ _ _ _ e3 (.inl n4),kc _ _ _ _ _ _ e4 (.inl n4),kc _ _ _ _ _ _ e5 (.inl n4)⟩
 have HS3:Hid (∀ W' u u',Below W2.heap.size W2 W'->((W'.setCell ⟨SZ,0,none⟩ u).setCell ⟨SZ,1,none⟩ u').cell? ⟨SZ,2,none⟩=some (.int .i64 (s0.2.2:Nat))/\(((W'.setCell ⟨SZ,0,none⟩ u).setCell ⟨SZ,1,none⟩ u').cell? ⟨w1.heap.size,0,none⟩=some (.int .i64 (z.1:Nat))/\((W'.setCell ⟨SZ,0,none⟩ u).setCell ⟨SZ,1,none⟩ u').cell? ⟨w1.heap.size,1,none⟩=some (.int .i64 (z.2.1:Nat))/\((W'.setCell ⟨SZ,0,none⟩ u).setCell ⟨SZ,1,none⟩ u').cell? ⟨w1.heap.size,2,none⟩=some (.int .i64 (z.2.2:Nat)))/\((W'.setCell ⟨SZ,0,none⟩ u).setCell ⟨SZ,1,none⟩ u').cell? ⟨MB,0,none⟩=some (.string m.nm)/\((W'.setCell ⟨SZ,0,none⟩ u).setCell ⟨SZ,1,none⟩ u').cell? ⟨MB,1,none⟩=some (.slice pm.a1 m.vars.length pm.c1)/\((W'.setCell ⟨SZ,0,none⟩ u).setCell ⟨SZ,1,none⟩ u').cell? ⟨MB,2,none⟩=some (.slice pm.a2 m.evs.length pm.c2)/\((W'.setCell ⟨SZ,0,none⟩ u).setCell ⟨SZ,1,none⟩ u').cell? ⟨MB,3,none⟩=some (.slice pm.a3 m.regs.length pm.c3)/\((W'.setCell ⟨SZ,0,none⟩ u).setCell ⟨SZ,1,none⟩ u').cell? ⟨MB,4,none⟩=some (.slice pm.a4 m.vers.length pm.c4)/\((W'.setCell ⟨SZ,0,none⟩ u).setCell ⟨SZ,1,none⟩ u').cell? ⟨MB,5,none⟩=some (.slice pm.a5 m.trns.length pm.c5)):=hid fun W' u u' g=>by
   obtain ⟨a,⟨b,c,d⟩,e0,e1,e2,e3,e4,e5⟩:=HS2.o W' u g
   exact ⟨kc _ _ _ _ _ _ a (.inr (by decide)),⟨kc _ _ _ _ _ _ b (.inl hxz),kc _ _ _ _ _ _ c (.inl hxz),kc _ _ _ _ _ _ d (.inl hxz)⟩,kc _ _ _ _ _ _ e0 (.inl n4),kc _ _ _ _ _ _ e1 (.inl n4),kc _ _ _ _ _ _ e2 (.inl n4),kc _ _ _ _ _ _ e3 (.inl n4),kc _ _ _ _ _ _ e4 (.inl n4),kc _ _ _ _ _ _ e5 (.inl n4)⟩
 obtain ⟨pl,hpe⟩:=ex2 ((ptsM m k).length)
 obtain ⟨s1,hs1e⟩:=ex2 (addS s0 z (ptsM m k).length)
 obtain ⟨t1,ht1⟩:∃ t1:Nat,s0.1+z.1=t1:=⟨_,rfl⟩
 obtain ⟨t2,ht2⟩:∃ t2:Nat,s0.2.1+z.2.1=t2:=⟨_,rfl⟩
 obtain ⟨t3,ht3⟩:∃ t3:Nat,s0.2.2+z.2.2=t3:=⟨_,rfl⟩
 obtain ⟨t4,ht4⟩:∃ t4:Nat,t3+pl=t4:=⟨_,rfl⟩
 have hse:s1=(t1,t2,t4):=by rw [<- hs1e,<- ht4,<- ht3,<- ht2,<- ht1,<- hpe];rfl
 have hw1:IntKind.i64.wrap ((s0.1:Nat)+(z.1:Nat):Int)=(t1:Int):=by rw [IntWalk.i64_in _ ⟨by omega,by omega⟩];omega
 have hw2:IntKind.i64.wrap ((s0.2.1:Nat)+(z.2.1:Nat):Int)=(t2:Int):=by rw [IntWalk.i64_in _ ⟨by omega,by omega⟩];omega
 have hw3:IntKind.i64.wrap ((s0.2.2:Nat)+(z.2.2:Nat):Int)=(t3:Int):=by rw [IntWalk.i64_in _ ⟨by omega,by omega⟩];omega
 have hw4:IntKind.i64.wrap ((t3:Nat)+(pl:Nat):Int)=(t4:Int):=by rw [IntWalk.i64_in _ ⟨by omega,by omega⟩];omega
 have HCut:Hid (∀ W',Below W2.heap.size W2 W'->CutZ SB SZ s1 w1 w (((W'.setCell ⟨SZ,0,none⟩ (.int .i64 t1)).setCell ⟨SZ,1,none⟩ (.int .i64 t2)).setCell ⟨SZ,2,none⟩ (.int .i64 t4))):=hid fun W' g=>by
   have hat:AtB SZ W' (((W'.setCell ⟨SZ,0,none⟩ (.int .i64 t1)).setCell ⟨SZ,1,none⟩ (.int .i64 t2)).setCell ⟨SZ,2,none⟩ (.int .i64 t4)):=(((AtB.refl SZ W').set _ _).set _ _).set _ _
   refine ⟨by rw [hse];exact szO.set (kz W' g) t1 t2 t4,((hat.block SB (Ne.symm n1)).trans (g.block SB HSB2.o.2)).trans HSB2.o.1,(HFr.o.trans (Fr2.of_below g)).trans ⟨hat.os,hat.tape,hat.output,by rw [hat.size];exact Nat.le_refl _,fun b _ _ hb=>hat.block b hb⟩⟩
 rw [hpe] at hpl
 have HS1E:=hid hs1e
 have HPe:=hid hpe
 have HSe:=hid hse
 have hB0:Below W2.heap.size W2 W2:=Below.refl _ _
 obtain ⟨a0,a1,a2,f0,f1,f2⟩:=HZ.o W2 hB0
 clear ht1 ht2 ht3 ht4 hs1e hse hpe kz kx km kc hs1 hm1 hB2 hX2 hZ2 hM2 hg1 HP HR HF hl hg
 go_cut [] (fun wx=>CutZ SB SZ s1 w1 w wx)
 case first =>
  refine wp_region_any (by kernel_rfl) ?_
  change wpAny _ _ _ _ _ _ _ (World.drew _)
  refine wpAny_sink (n:=25) (o:=⟨none,.store 3 (.tmp 34) (.tmp 31),0, "expand.go:94", #[⟨24,.data⟩,⟨19,.data⟩,⟨23,.chain⟩,⟨0,.phase⟩,⟨1,.phase⟩,⟨2,.phase⟩,⟨3,.phase⟩,⟨4,.phase⟩,⟨5,.phase⟩,⟨6,.phase⟩,⟨7,.phase⟩,⟨8,.phase⟩,⟨9,.phase⟩,⟨10,.phase⟩,⟨11,.phase⟩,⟨12,.phase⟩,⟨13,.phase⟩,⟨14,.phase⟩,⟨15,.phase⟩,⟨16,.phase⟩,⟨17,.phase⟩,⟨18,.phase⟩,⟨19,.phase⟩,⟨20,.phase⟩,⟨21,.phase⟩,⟨22,.phase⟩,⟨23,.phase⟩],none⟩) (ops':=#[⟨some 12,.fieldAddr 104 (.tmp 3) 0,0, "expand.go:94", #[],none⟩,⟨some 13,.load 3 (.tmp 12),3, "expand.go:94", #[⟨0,.data⟩],none⟩,⟨some 14,.fieldAddr 104 (.tmp 8) 0,0, "expand.go:94", #[],none⟩,⟨some 15,.load 3 (.tmp 14),3, "expand.go:94", #[⟨2,.data⟩],none⟩,⟨some 16,.binOp .add 3 (.tmp 13) (.tmp 15) 3,3, "expand.go:94", #[⟨1,.data⟩,⟨3,.data⟩],none⟩,⟨some 17,.fieldAddr 104 (.tmp 3) 1,0, "expand.go:94", #[],none⟩,⟨some 18,.load 3 (.tmp 17),3, "expand.go:94", #[⟨5,.data⟩],none⟩,⟨some 19,.fieldAddr 104 (.tmp 8) 1,0, "expand.go:94", #[],none⟩,⟨some 20,.load 3 (.tmp 19),3, "expand.go:94", #[⟨7,.data⟩],none⟩,⟨some 21,.binOp .add 3 (.tmp 18) (.tmp 20) 3,3, "expand.go:94", #[⟨6,.data⟩,⟨8,.data⟩],none⟩,⟨some 22,.fieldAddr 104 (.tmp 3) 2,0, "expand.go:94", #[],none⟩,⟨some 23,.load 3 (.tmp 22),3, "expand.go:94", #[⟨10,.data⟩],none⟩,⟨some 24,.fieldAddr 104 (.tmp 8) 2,0, "expand.go:94", #[],none⟩,⟨some 25,.load 3 (.tmp 24),3, "expand.go:94", #[⟨12,.data⟩],none⟩,⟨some 26,.binOp .add 3 (.tmp 23) (.tmp 25) 3,3, "expand.go:94", #[⟨11,.data⟩,⟨13,.data⟩],none⟩,⟨some 27,.load 42 (.tmp 4),42, "expand.go:94", #[],none⟩,⟨some 28,.move (.tmp 0),3, "expand.go:94", #[],none⟩,⟨some 29,.call { callee:=.value (.func 54),args:=#[.tmp 27,.tmp 28],argTypes:=#[42,3] },95, "expand.go:94", #[⟨15,.data⟩,⟨16,.data⟩],none⟩,⟨some 30,.call { callee:=.builtin .len,args:=#[.tmp 29],argTypes:=#[95] },3, "expand.go:94", #[⟨17,.data⟩],none⟩,⟨some 31,.binOp .add 3 (.tmp 26) (.tmp 30) 3,3, "expand.go:94", #[⟨14,.data⟩,⟨18,.data⟩],none⟩,⟨some 32,.fieldAddr 104 (.tmp 3) 0,0, "expand.go:94", #[⟨0,.phase⟩,⟨1,.phase⟩,⟨2,.phase⟩,⟨3,.phase⟩,⟨4,.phase⟩,⟨5,.phase⟩,⟨6,.phase⟩,{ on:=7,ground:=.textOnly Go.Departure.lateStores },{ on:=8,ground:=.textOnly Go.Departure.lateStores },{ on:=9,ground:=.textOnly Go.Departure.lateStoresUnsure },⟨10,.phase⟩,⟨11,.phase⟩,{ on:=12,ground:=.textOnly Go.Departure.lateStores },{ on:=13,ground:=.textOnly Go.Departure.lateStores },{ on:=14,ground:=.textOnly Go.Departure.lateStoresUnsure },{ on:=15,ground:=.textOnly Go.Departure.inlinedCapture },{ on:=16,ground:=.textOnly Go.Departure.lateStores },{ on:=17,ground:=.textOnly Go.Departure.lateStoresUnsure },{ on:=18,ground:=.textOnly Go.Departure.lateStoresUnsure },{ on:=19,ground:=.textOnly Go.Departure.lateStoresUnsure }],none⟩,⟨none,.store 3 (.tmp 32) (.tmp 16),0, "expand.go:94", #[⟨20,.data⟩,⟨4,.data⟩,⟨17,.chain⟩,⟨0,.phase⟩,⟨1,.phase⟩,⟨2,.phase⟩,⟨3,.phase⟩,⟨4,.phase⟩,⟨5,.phase⟩,⟨6,.phase⟩,{ on:=7,ground:=.textOnly Go.Departure.lateStores },{ on:=8,ground:=.textOnly Go.Departure.lateStores },{ on:=9,ground:=.textOnly Go.Departure.lateStoresUnsure },⟨10,.phase⟩,⟨11,.phase⟩,{ on:=12,ground:=.textOnly Go.Departure.lateStores },{ on:=13,ground:=.textOnly Go.Departure.lateStores },{ on:=14,ground:=.textOnly Go.Departure.lateStoresUnsure },{ on:=15,ground:=.textOnly Go.Departure.inlinedCapture },{ on:=16,ground:=.textOnly Go.Departure.lateStores },{ on:=17,ground:=.textOnly Go.Departure.lateStoresUnsure },{ on:=18,ground:=.textOnly Go.Departure.lateStoresUnsure },{ on:=19,ground:=.textOnly Go.Departure.lateStoresUnsure }],none⟩,⟨some 33,.fieldAddr 104 (.tmp 3) 1,0, "expand.go:94", #[⟨0,.phase⟩,⟨1,.phase⟩,⟨2,.phase⟩,⟨3,.phase⟩,⟨4,.phase⟩,⟨5,.phase⟩,⟨6,.phase⟩,⟨7,.phase⟩,⟨8,.phase⟩,⟨9,.phase⟩,⟨10,.phase⟩,⟨11,.phase⟩,{ on:=12,ground:=.textOnly Go.Departure.lateStores },{ on:=13,ground:=.textOnly Go.Departure.lateStores },{ on:=14,ground:=.textOnly Go.Departure.lateStoresUnsure },{ on:=15,ground:=.textOnly Go.Departure.inlinedCapture },{ on:=16,ground:=.textOnly Go.Departure.lateStores },{ on:=17,ground:=.textOnly Go.Departure.lateStoresUnsure },{ on:=18,ground:=.textOnly Go.Departure.lateStoresUnsure },{ on:=19,ground:=.textOnly Go.Departure.lateStoresUnsure },⟨20,.phase⟩,⟨21,.phase⟩],none⟩,⟨none,.store 3 (.tmp 33) (.tmp 21),0, "expand.go:94", #[⟨22,.data⟩,⟨9,.data⟩,⟨21,.chain⟩,⟨0,.phase⟩,⟨1,.phase⟩,⟨2,.phase⟩,⟨3,.phase⟩,⟨4,.phase⟩,⟨5,.phase⟩,⟨6,.phase⟩,⟨7,.phase⟩,⟨8,.phase⟩,⟨9,.phase⟩,⟨10,.phase⟩,⟨11,.phase⟩,{ on:=12,ground:=.textOnly Go.Departure.lateStores },{ on:=13,ground:=.textOnly Go.Departure.lateStores },{ on:=14,ground:=.textOnly Go.Departure.lateStoresUnsure },{ on:=15,ground:=.textOnly Go.Departure.inlinedCapture },{ on:=16,ground:=.textOnly Go.Departure.lateStores },{ on:=17,ground:=.textOnly Go.Departure.lateStoresUnsure },{ on:=18,ground:=.textOnly Go.Departure.lateStoresUnsure },{ on:=19,ground:=.textOnly Go.Departure.lateStoresUnsure },⟨20,.phase⟩,⟨21,.phase⟩],none⟩,⟨some 34,.fieldAddr 104 (.tmp 3) 2,0, "expand.go:94", #[⟨0,.phase⟩,⟨1,.phase⟩,⟨2,.phase⟩,⟨3,.phase⟩,⟨4,.phase⟩,⟨5,.phase⟩,⟨6,.phase⟩,⟨7,.phase⟩,⟨8,.phase⟩,⟨9,.phase⟩,⟨10,.phase⟩,⟨11,.phase⟩,⟨12,.phase⟩,⟨13,.phase⟩,⟨14,.phase⟩,⟨15,.phase⟩,⟨16,.phase⟩,⟨17,.phase⟩,⟨18,.phase⟩,⟨19,.phase⟩,⟨20,.phase⟩,⟨21,.phase⟩,⟨22,.phase⟩,⟨23,.phase⟩],none⟩]) (by decide) (by kernel_rfl) (by rfl) (by rfl) ?_
  refine hld HS.o (hB0.drew) (fun hHeld=>?_)
  refine tk 0 rfl ?_
  refine tk 2 rfl ?_
  refine tk 3 rfl ?_
  refine tk 5 rfl ?_
  refine tk 7 rfl ?_
  refine tk 8 rfl ?_
  refine tk 10 rfl ?_
  refine tk 11 rfl ?_
  refine tk 12 rfl ?_
  refine tk 13 rfl ?_
  refine tk 14 rfl ?_
  refine tk 15 rfl ?_
  refine tk 16 rfl ?_
  refine rdy [1,6,17] ?_
  refine rdC rfl (fun K hK=>?_) ?_
  (go_simp)
  refine nx hK ?_ (fun hH1=>?_)
  (first | exact HS.o _ hB0.drew | exact HS.o _ (by assumption) | exact HS2.o _ _ hB9 | exact HS3.o _ _ _ hB9)
  clear hK K hHeld
  refine tk 4 rfl ?_
  refine rdy [6,17] ?_
  refine rdC rfl (fun K hK=>?_) ?_
  (go_simp)
  refine nx hK ?_ (fun hH2=>?_)
  (first | exact HS.o _ hB0.drew | exact HS.o _ (by assumption) | exact HS2.o _ _ hB9 | exact HS3.o _ _ _ hB9)
  clear hK K hH1
  refine tk 9 rfl ?_
  refine tk 20 rfl ?_
  refine rd1 17 (fun K hK=>?_)
  (go_simp;(with_reducible refine (HC.o _ hB0.drew).mono ?_);rintro e w9 ⟨v9,rfl,hown9,hb9⟩;rw [HPe.o] at hown9;obtain ⟨a9,c9,rfl⟩:=ownsRow_slice hown9;have hB9:Below W2.heap.size W2 w9:=hB0.drew.trans hb9;obtain ⟨a0,a1,a2,f0,f1,f2⟩:=HZ.o w9 hB9;go_wp2_with fail)
  refine nx hK ?_ (fun hH3=>?_)
  (first | exact HS.o _ hB0.drew | exact HS.o _ (by assumption) | exact HS2.o _ _ hB9 | exact HS3.o _ _ _ hB9)
  clear hK K hH2
  refine tk 18 rfl ?_
  refine tk 19 rfl ?_
  refine rd1 21 (fun K hK=>?_)
  (go_simp)
  refine nx hK ?_ (fun hH4=>?_)
  (first | exact HS.o _ hB0.drew | exact HS.o _ (by assumption) | exact HS2.o _ _ hB9 | exact HS3.o _ _ _ hB9)
  clear hK K hH3
  refine tk 22 rfl ?_
  refine rd1 23 (fun K hK=>?_)
  (go_simp)
  refine nx hK ?_ (fun hH5=>?_)
  (first | exact HS.o _ hB0.drew | exact HS.o _ (by assumption) | exact HS2.o _ _ hB9 | exact HS3.o _ _ _ hB9)
  clear hK K hH4
  refine tk 24 rfl ?_
  refine dn ?_
  rotate_left
  refine rdC rfl (fun K hK=>?_) ?_
  (go_simp;(with_reducible refine (HC.o _ hB0.drew).mono ?_);rintro e w9 ⟨v9,rfl,hown9,hb9⟩;rw [HPe.o] at hown9;obtain ⟨a9,c9,rfl⟩:=ownsRow_slice hown9;have hB9:Below W2.heap.size W2 w9:=hB0.drew.trans hb9;obtain ⟨a0,a1,a2,f0,f1,f2⟩:=HZ.o w9 hB9;go_wp2_with fail)
  refine nx hK ?_ (fun hH6=>?_)
  (first | exact HS.o _ hB0.drew | exact HS.o _ (by assumption) | exact HS2.o _ _ hB9 | exact HS3.o _ _ _ hB9)
  clear hK K hH1
  refine tk 18 rfl ?_
  refine tk 19 rfl ?_
  refine rd1 6 (fun K hK=>?_)
  (go_simp)
  refine nx hK ?_ (fun hH7=>?_)
  (first | exact HS.o _ hB0.drew | exact HS.o _ (by assumption) | exact HS2.o _ _ hB9 | exact HS3.o _ _ _ hB9)
  clear hK K hH6
  refine tk 9 rfl ?_
  refine tk 20 rfl ?_
  refine rd1 21 (fun K hK=>?_)
  (go_simp)
  refine nx hK ?_ (fun hH8=>?_)
  (first | exact HS.o _ hB0.drew | exact HS.o _ (by assumption) | exact HS2.o _ _ hB9 | exact HS3.o _ _ _ hB9)
  clear hK K hH7
  refine tk 22 rfl ?_
  refine rd1 23 (fun K hK=>?_)
  (go_simp)
  refine nx hK ?_ (fun hH9=>?_)
  (first | exact HS.o _ hB0.drew | exact HS.o _ (by assumption) | exact HS2.o _ _ hB9 | exact HS3.o _ _ _ hB9)
  clear hK K hH8
  refine tk 24 rfl ?_
  refine dn ?_
  rotate_left
  exact AllReadyH.nil
  refine rdC rfl (fun K hK=>?_) ?_
  (go_simp)
  refine nx hK ?_ (fun hH10=>?_)
  (first | exact HS.o _ hB0.drew | exact HS.o _ (by assumption) | exact HS2.o _ _ hB9 | exact HS3.o _ _ _ hB9)
  clear hK K hHeld
  refine tk 9 rfl ?_
  refine rdy [1,17] ?_
  refine rdC rfl (fun K hK=>?_) ?_
  (go_simp)
  refine nx hK ?_ (fun hH11=>?_)
  (first | exact HS.o _ hB0.drew | exact HS.o _ (by assumption) | exact HS2.o _ _ hB9 | exact HS3.o _ _ _ hB9)
  clear hK K hH10
  refine tk 4 rfl ?_
  refine tk 20 rfl ?_
  refine rd1 17 (fun K hK=>?_)
  (go_simp;(with_reducible refine (HC.o _ hB0.drew).mono ?_);rintro e w9 ⟨v9,rfl,hown9,hb9⟩;rw [HPe.o] at hown9;obtain ⟨a9,c9,rfl⟩:=ownsRow_slice hown9;have hB9:Below W2.heap.size W2 w9:=hB0.drew.trans hb9;obtain ⟨a0,a1,a2,f0,f1,f2⟩:=HZ.o w9 hB9;go_wp2_with fail)
  refine nx hK ?_ (fun hH12=>?_)
  (first | exact HS.o _ hB0.drew | exact HS.o _ (by assumption) | exact HS2.o _ _ hB9 | exact HS3.o _ _ _ hB9)
  clear hK K hH11
  refine tk 18 rfl ?_
  refine tk 19 rfl ?_
  refine rd1 21 (fun K hK=>?_)
  (go_simp)
  refine nx hK ?_ (fun hH13=>?_)
  (first | exact HS.o _ hB0.drew | exact HS.o _ (by assumption) | exact HS2.o _ _ hB9 | exact HS3.o _ _ _ hB9)
  clear hK K hH12
  refine tk 22 rfl ?_
  refine rd1 23 (fun K hK=>?_)
  (go_simp)
  refine nx hK ?_ (fun hH14=>?_)
  (first | exact HS.o _ hB0.drew | exact HS.o _ (by assumption) | exact HS2.o _ _ hB9 | exact HS3.o _ _ _ hB9)
  clear hK K hH13
  refine tk 24 rfl ?_
  refine dn ?_
  rotate_left
  refine rdC rfl (fun K hK=>?_) ?_
  (go_simp;(with_reducible refine (HC.o _ hB0.drew).mono ?_);rintro e w9 ⟨v9,rfl,hown9,hb9⟩;rw [HPe.o] at hown9;obtain ⟨a9,c9,rfl⟩:=ownsRow_slice hown9;have hB9:Below W2.heap.size W2 w9:=hB0.drew.trans hb9;obtain ⟨a0,a1,a2,f0,f1,f2⟩:=HZ.o w9 hB9;go_wp2_with fail)
  refine nx hK ?_ (fun hH15=>?_)
  (first | exact HS.o _ hB0.drew | exact HS.o _ (by assumption) | exact HS2.o _ _ hB9 | exact HS3.o _ _ _ hB9)
  clear hK K hH10
  refine tk 18 rfl ?_
  refine tk 19 rfl ?_
  refine rd1 1 (fun K hK=>?_)
  (go_simp)
  refine nx hK ?_ (fun hH16=>?_)
  (first | exact HS.o _ hB0.drew | exact HS.o _ (by assumption) | exact HS2.o _ _ hB9 | exact HS3.o _ _ _ hB9)
  clear hK K hH15
  refine tk 4 rfl ?_
  refine tk 20 rfl ?_
  refine rd1 21 (fun K hK=>?_)
  (go_simp)
  refine nx hK ?_ (fun hH17=>?_)
  (first | exact HS.o _ hB0.drew | exact HS.o _ (by assumption) | exact HS2.o _ _ hB9 | exact HS3.o _ _ _ hB9)
  clear hK K hH16
  refine tk 22 rfl ?_
  refine rd1 23 (fun K hK=>?_)
  (go_simp)
  refine nx hK ?_ (fun hH18=>?_)
  (first | exact HS.o _ hB0.drew | exact HS.o _ (by assumption) | exact HS2.o _ _ hB9 | exact HS3.o _ _ _ hB9)
  clear hK K hH17
  refine tk 24 rfl ?_
  refine dn ?_
  rotate_left
  exact AllReadyH.nil
  refine rdC rfl (fun K hK=>?_) ?_
  (go_simp;(with_reducible refine (HC.o _ hB0.drew).mono ?_);rintro e w9 ⟨v9,rfl,hown9,hb9⟩;rw [HPe.o] at hown9;obtain ⟨a9,c9,rfl⟩:=ownsRow_slice hown9;have hB9:Below W2.heap.size W2 w9:=hB0.drew.trans hb9;obtain ⟨a0,a1,a2,f0,f1,f2⟩:=HZ.o w9 hB9;go_wp2_with fail)
  refine nx hK ?_ (fun hH19=>?_)
  (first | exact HS.o _ hB0.drew | exact HS.o _ (by assumption) | exact HS2.o _ _ hB9 | exact HS3.o _ _ _ hB9)
  clear hK K hHeld
  refine tk 18 rfl ?_
  refine tk 19 rfl ?_
  refine rdy [1,6] ?_
  refine rdC rfl (fun K hK=>?_) ?_
  (go_simp)
  refine nx hK ?_ (fun hH20=>?_)
  (first | exact HS.o _ hB0.drew | exact HS.o _ (by assumption) | exact HS2.o _ _ hB9 | exact HS3.o _ _ _ hB9)
  clear hK K hH19
  refine tk 4 rfl ?_
  refine rd1 6 (fun K hK=>?_)
  (go_simp)
  refine nx hK ?_ (fun hH21=>?_)
  (first | exact HS.o _ hB0.drew | exact HS.o _ (by assumption) | exact HS2.o _ _ hB9 | exact HS3.o _ _ _ hB9)
  clear hK K hH20
  refine tk 9 rfl ?_
  refine tk 20 rfl ?_
  refine rd1 21 (fun K hK=>?_)
  (go_simp)
  refine nx hK ?_ (fun hH22=>?_)
  (first | exact HS.o _ hB0.drew | exact HS.o _ (by assumption) | exact HS2.o _ _ hB9 | exact HS3.o _ _ _ hB9)
  clear hK K hH21
  refine tk 22 rfl ?_
  refine rd1 23 (fun K hK=>?_)
  (go_simp)
  refine nx hK ?_ (fun hH23=>?_)
  (first | exact HS.o _ hB0.drew | exact HS.o _ (by assumption) | exact HS2.o _ _ hB9 | exact HS3.o _ _ _ hB9)
  clear hK K hH22
  refine tk 24 rfl ?_
  refine dn ?_
  rotate_left
  refine rdC rfl (fun K hK=>?_) ?_
  (go_simp)
  refine nx hK ?_ (fun hH24=>?_)
  (first | exact HS.o _ hB0.drew | exact HS.o _ (by assumption) | exact HS2.o _ _ hB9 | exact HS3.o _ _ _ hB9)
  clear hK K hH19
  refine tk 9 rfl ?_
  refine rd1 1 (fun K hK=>?_)
  (go_simp)
  refine nx hK ?_ (fun hH25=>?_)
  (first | exact HS.o _ hB0.drew | exact HS.o _ (by assumption) | exact HS2.o _ _ hB9 | exact HS3.o _ _ _ hB9)
  clear hK K hH24
  refine tk 4 rfl ?_
  refine tk 20 rfl ?_
  refine rd1 21 (fun K hK=>?_)
  (go_simp)
  refine nx hK ?_ (fun hH26=>?_)
  (first | exact HS.o _ hB0.drew | exact HS.o _ (by assumption) | exact HS2.o _ _ hB9 | exact HS3.o _ _ _ hB9)
  clear hK K hH25
  refine tk 22 rfl ?_
  refine rd1 23 (fun K hK=>?_)
  (go_simp)
  refine nx hK ?_ (fun hH27=>?_)
  (first | exact HS.o _ hB0.drew | exact HS.o _ (by assumption) | exact HS2.o _ _ hB9 | exact HS3.o _ _ _ hB9)
  clear hK K hH26
  refine tk 24 rfl ?_
  refine dn ?_
  rotate_left
  exact AllReadyH.nil
  exact AllReadyH.nil
  all_goals
    refine sinkQ_of fun K hK=>?_
    have hW:=HCut.o w9 hB9
    go_simp
    refine hK _ _ ?_
    clear hK K
    go_wp2_with fail
    go_meet
    exact hW
 case rest =>
  clear a0 a1 a2 f0 f1 f2 HS HS2 HS3 HZ HC HCut HFr
  obtain ⟨h1,h2,h3⟩:=hcut
  have HM:=hid fun wx=>sizMany_any s1 wx
  unfold sizV at HM
  obtain ⟨a0,a1,a2,f0,f1,f2⟩:=szO.at_ h1
  have hL:Hid (wc.heap[SZ]? = some (szO s1)/\SZ<wc.heap.size/\SB<wc.heap.size):=hid ⟨h1,(Array.getElem?_eq_some_iff.1 h1).1,by have:=h3.size;omega⟩
  have H2:=hid h2
  have H3:=hid h3
  have HP1:=hid hp1
  clear h1 h2 h3 hp1
  go_wp2_with ((with_reducible refine (HM.o _).mono ?_);rintro e w9 ⟨rfl,hb9⟩)
  go_ret
  rw [HS1E.o]
  exact ⟨rfl,(hb9.block _ hL.o.2.1).trans hL.o.1,HPP.o _ _ HP1.o ((hb9.block _ hL.o.2.2).trans H2.o),H3.o.trans (Fr2.of_below hb9)⟩
end Go.Proofs

namespace Go.Proofs
open Go.RowKit Go.Lx Go.Md Go.Maps Go.BigFrame Go.Rgi
open Lib(hid)
set_option maxRecDepth 100000
set_option maxHeartbeats 0
set_option linter.unusedVariables false
theorem cntF_n (f:Nat->Bool):∀ n,cntF f n<=n
 | 0=>Nat.le_refl _
 | n+1=>by unfold cntF;have:=cntF_n f n;split <;> omega
def isS (g:Int->Option Value) (i:Nat):Bool:=(g (i:Int)).isSome
structure Inv (l:List MdlD) (g:Int->Option Value) (cnt:Nat):Prop where
 val:∀ n,n<l.length->∀ v,g (n:Int)=some v->v=sizV (sizF l l.length n)
 cnt:cnt+cntF (isS g) l.length<=l.length
def New (l:List MdlD) (n:Nat) (g g':Int->Option Value):Prop:=∀ i,isS g' i=true->isS g i=true\/Rch l n i
def SzM (l:List MdlD) (n SB:Nat) (g:Int->Option Value) (w:World):Prop:=∃ cnt' g',SizAt SB cnt' g' w/\Inv l g' cnt'/\New l n g g'
def SzP (l:List MdlD) (n SB:Nat) (g:Int->Option Value) (w:World) (e:Ending) (w':World):Prop:=e=.returned (sizV (sizF l l.length n))/\(∃ cnt' g',SizAt SB cnt' g' w'/\Inv l g' cnt'/\∀ i,isS g' i=true->isS g i=true\/i=n\/Rch l n i)/\w.grownBy w' (some SB)
theorem LibA.fr2 {N:Nat} {l:List MdlD} {a:Option Addr} {c LB NB SB cnt S T:Nat} {w w':World} (h:LibA N l a c LB NB SB cnt w) (g:Fr2 S T w w') (h1:N<=S) (h1':N<=T) (h2:LB≠S) (h2':LB≠T) (h3:NB≠S) (h3':NB≠T):LibA N l a c LB NB SB cnt w':=by
 have hb:Below N w w':=⟨g.os,g.tape,g.output,g.size,fun b hb=>g.block b (Nat.lt_of_lt_of_le hb h.nl) (by omega) (by omega)⟩
 exact ⟨g.cell h.c0 h2 h2',g.cell h.c1 h2 h2',g.cell h.c2 h2 h2',h.lib.below hb,h.nam.keep (g.block _ h.nb h3 h3'),Nat.lt_of_lt_of_le h.lb g.size,Nat.lt_of_lt_of_le h.nb g.size,Nat.le_trans h.nl g.size⟩
theorem right_few {m:MdlD} (h:riM m=(0,0,0)):manyS (lens m)=false:=by
 obtain ⟨_,_,h3,h4,h5⟩:=right_len h
 cases hm:manyS (lens m) with
 | false=>rfl
 | true =>
  rw [manyS_iff] at hm
  unfold lens at hm
  dsimp only at hm
  omega
theorem szK_le {l:List MdlD} (hL:∀ m ∈ l,riM m=(0,0,0)) (n k:Nat) (h:manyS (szK l n k)=false):LeS (szK l n k) (1000000,1000000,1000000):=(few_le h).trans (by unfold LeS;dsimp only;omega)
theorem size_uses (N:Nat) (l:List MdlD) (a:Option Addr) (c LB NB SB cnt:Nat) (hL:LibP l) (hll:l.length<=100) (n:Nat) (hn:n<l.length) (pm:Ph) (g:Int->Option Value) (LPB SZ MB:Nat) (w:World) (hA:LibA N l a c LB NB SB cnt w) (hN:N<=SB) (hN2:N<=SZ) (hLB:LB≠SB) (hNB:NB≠SB) (hLZ:LB≠SZ) (hNZ:NB≠SZ)
   (hmm:Mod (fun _=>OldB N) w l[n] pm) (hlp:w.heap[LPB]? = some (.cells #[.pointer (some ⟨LB,0,none⟩)] 72 (0,0))) (hsz:w.heap[SZ]? = some (szO (lens l[n]))) (hmb:w.heap[MB]? = some (mBox l[n] pm)) (n1:SZ≠SB) (n2:MB≠SB) (n3:LPB≠SB) (n4:MB≠SZ) (n5:LPB≠SZ)
   (hM:SzM l n SB g w)
   (hR:∀ q,Use l n q->∀ wx cnt' g',LibA N l a c LB NB SB cnt wx->SizAt SB cnt' g' wx->Inv l g' cnt'->Calls Tryz.prog 48 #[.pointer (some ⟨LB,0,none⟩),.int .i64 q] wx (SzP l q SB g' wx)) :
   Calls Tryz.prog 51 #[.pointer (some ⟨LB,0,none⟩),.int .i64 n,.func (.func 85) #[] #[.pointer (some ⟨LPB,0,none⟩),.pointer (some ⟨SZ,0,none⟩),.pointer (some ⟨MB,0,none⟩)]] w fun e w'=>∃ b,e=.returned (.bool b)/\w'.heap[SZ]? = some (szO (sizF l l.length n))/\SzM l n SB g w'/\Fr2 SB SZ w w':=by
 have hmem:=List.getElem_mem hn
 have h0:=hL.ri _ hmem
 obtain ⟨v1,v2,v3,v4,v5⟩:=right_len h0
 have hgd:l.getD n D0=l[n]:=by rw [List.getD_eq_getElem?_getD,List.getElem?_eq_getElem hn];rfl
 have hlib:∀ wr,Fr2 SB SZ w wr->LibA N l a c LB NB SB cnt wr:=fun wr g=>hA.fr2 g hN hN2 hLB hLZ hNB hNZ
 have hkM:∀ wx wy,SzM l n SB g wx->wy.heap[SB]? = wx.heap[SB]? -> SzM l n SB g wy:=fun wx wy ⟨c',g',h1,h2,h3⟩ he=>⟨c',g',h1.keep he,h2,h3⟩
 have hSBl:∀ wr,SzM l n SB g wr->SB<wr.heap.size:=fun wr ⟨c',g',h1,h2,h3⟩=>h1.lt
 refine (usesSi_any N l a c LB NB SB cnt l[n] n LPB SZ MB w (fun k wr=>wr.heap[SZ]? = some (szO (szK l n k))/\manyS (szK l n k)=false/\SzM l n SB g wr/\Fr2 SB SZ w wr) (fun wr=>wr.heap[SZ]? = some (szO (sizF l l.length n))/\SzM l n SB g wr/\Fr2 SB SZ w wr) hn rfl (by omega) (by omega) (fun x hx=>((hL.prt _ hmem).verx x hx).1.sb) ?_ ?_ ?_ ?_ ?_).mono ?_
 . rintro k wr ⟨_,_,_,g'⟩
   exact ⟨hlib wr g',⟨g'.os,g'.tape,g'.output,g'.size,fun b hb=>g'.block b (Nat.lt_of_lt_of_le hb hA.nl) (by omega) (by omega)⟩⟩
 . rintro k wr wx ⟨h1,h2,h3,h4⟩ hx
   exact ⟨(hx.block _ (Array.getElem?_eq_some_iff.1 h1).1).trans h1,h2,hkM wr wx h3 (hx.block _ (hSBl _ h3)),h4.trans (Fr2.of_below hx)⟩
 . rintro k wr hk ⟨h1,h2,h3,h4⟩ hz0
   have e:=szK_skip (l:=l) (n:=n) hgd hk hz0
   exact ⟨by rw [e];exact h1,by rw [e];exact h2,h3,h4⟩
 . rintro k wr hk ⟨h1,h2,h3,h4⟩ hp
   obtain ⟨q,hq,hql,hpt⟩:=hL.use hmem hk hp
   rw [fndI_some hq]
   have hu:Use l n q:=⟨l[n],List.getElem?_eq_getElem hn,_,List.getElem_mem hk,hp,hq⟩
   have e1:=szK_add (l:=l) (n:=n) hgd hk hp hq h2
   have hkM2:=hkM
   obtain ⟨cnt',g',k1,k2,k3⟩:=h3
   have hb:∀ b (o:Obj),w.heap[b]? = some o->b≠SB->b≠SZ->wr.heap[b]? = some o:=fun b o hb' h5 h6=>(h4.block b (Array.getElem?_eq_some_iff.1 hb').1 h5 h6).trans hb'
   have hLm:=(siz_len (l:=l) hL.ri l.length q)
   refine (size1_any (Q:=fun _=>OldB N) l[n] pm LB SB LPB SZ MB k q (szK l n k) (sizF l l.length q) (SzM l n SB g) wr hkM2 (fun wx gx=>hmm.keptN ?_) (by omega) (hb _ _ hlp n3 n5) h1 (hb _ _ hmb n2 n4) n1 n2 n3 n4 n5 k1.lt (szK_le hL.ri n k h2) (hLm.trans ?_) ((hR q hu wr cnt' g' (hlib wr h4) k1 k2).mono ?_)).mono ?_
   . have gg:=h4.trans gx
     exact ⟨gg.os,gg.tape,gg.output,gg.size,fun b hb=>gg.block b (Nat.lt_of_lt_of_le hb hA.nl) (by omega) (by omega)⟩
   . unfold LeS bnS;dsimp only;omega
   . rintro e w' ⟨rfl,⟨cnt2,g2,m1,m2,m3⟩,m4⟩
     refine ⟨rfl,⟨cnt2,g2,m1,m2,fun i hi=>?_⟩,m4⟩
     rcases m3 i hi with h | rfl | h
     . exact k3 i h
     . exact .inr (.one hu)
     . exact .inr (.more hu h)
   . rintro e w' ⟨rfl,m1,m2,m3⟩
     rw [<- e1] at m1 |-
     refine ⟨_,rfl,fun ht=>⟨m1,by simpa using ht,m2,h4.trans m3⟩,fun hf=>⟨?_,m2,h4.trans m3⟩⟩
     have hmany:manyS (szK l n (k+1))=true:=by simpa using hf
     obtain ⟨d,hd⟩:=Nat.exists_eq_add_of_le (Nat.succ_le_of_lt hk)
     have e2:=szK_many hmany d
     rw [show k+1+d=l[n].vers.length by omega,<- hgd,szK_all hL.no hn] at e2
     rw [e2];exact m1
 . have e0:szK l n 0=lens l[n]:=by unfold szK;rw [<- hgd];rfl
   exact ⟨by rw [e0];exact hsz,by rw [e0];exact right_few h0,hM,Fr2.refl _ _ _⟩
 . rintro e w' ⟨b,rfl,ht,hf⟩
   cases b with
   | true =>
    obtain ⟨h1,h2,h3,h4⟩:=ht rfl
    have e2:=szK_all hL.no hn
    rw [hgd] at e2
    rw [e2] at h1
    exact ⟨true,rfl,h1,h3,h4⟩
   | false =>
    obtain ⟨h1,h3,h4⟩:=hf rfl
    exact ⟨false,rfl,h1,h3,h4⟩
theorem sizM_look {SB cnt n:Nat} {g:Int->Option Value} {w:World} (h:SizAt SB cnt g w) (hn:n<=1000000):(Instr.lookup 74 (.map (some SB)) (.int .i64 n) true).run Tryz.prog w=.ok (.tuple #[(g n).getD zS,.bool (g n).isSome]) w:=by
 have hz:∀ w:World,(zeroValue 104).run Tryz.prog w=.ok zS w:=fun w=>by kernel_rfl
 exact MapG.look (E:=104) h (int_keyed Tryz.underlying3) Tryz.underlying74 hz (s:=(n:Int)) (key:=.int .i64 n) (keyOf_int_mk Tryz.underlying3 (WalkArith.wf_i64 ⟨by omega,by omega⟩))
theorem isS_upd (g:Int->Option Value) (n:Nat) (v:Value):isS (fun t=>if t=(n:Int) then some v else g t)=updB (isS g) n:=by
 funext i
 show (if (i:Int)=(n:Int) then some v else g i).isSome=if i=n then true else (g i).isSome
 by_cases h:i=n
 . subst h;simp
 . rw [if_neg (by omega),if_neg h]
theorem Inv.put {l:List MdlD} {g:Int->Option Value} {cnt n:Nat} (h:Inv l g cnt) (hn:n<l.length) (hg:isS g n=false):Inv l (fun t=>if t=(n:Int) then some (sizV (sizF l l.length n)) else g t) (cnt+1):=by
 refine ⟨fun i hi v hv=>?_,?_⟩
 . by_cases e:i=n
   . subst e
     rw [if_pos rfl] at hv
     injection hv with hv
     exact hv.symm
   . rw [if_neg (by omega)] at hv
     exact h.val i hi v hv
 . rw [isS_upd]
   have:=cntF_upd hg l.length hn
   have:=h.cnt
   omega
theorem objs3b (w:World) (a b c:Obj):Below w.heap.size w (((w.alloc a).alloc b).alloc c):=(below_al2 w _ _).alloc (by simp;omega) _
theorem libsize_any (N:Nat) (l:List MdlD) (a:Option Addr) (c LB NB SB cnt:Nat) (hL:LibP l) (hll:l.length<=100) (hN:N<=SB) (hLB:LB≠SB) (hNB:NB≠SB) :
   ∀ (d n:Nat),Dpt l d n->n<l.length->∀ w cnt' g,LibA N l a c LB NB SB cnt w->SizAt SB cnt' g w->Inv l g cnt'->Calls Tryz.prog 48 #[.pointer (some ⟨LB,0,none⟩),.int .i64 n] w (SzP l n SB g w):=by
 intro d
 induction d with
 | zero=>intro n h;exact h.elim
 | succ d ih =>
  intro n hd hn w cnt' g hA hG hI
  have hlk:=sizM_look hG (n:=n) (by omega)
  have c2:=hA.c2
  have hlb:=hA.lb
  have hnb:=hA.nb
  have hsl:=hG.lt
  have HL:=hid fun wx (gx:Below w.heap.size w wx)=>sizM_look (hG.keep (gx.block _ hsl)) (n:=n) (by omega)
  have HA:=hid hA
  have HG:=hid hG
  have HI:=hid hI
  have HIH:=hid fun q (hu:Use l n q) wx cnt2 g2 h1 h2 h3=>ih q (hd q hu) hu.lt.2 wx cnt2 g2 h1 h2 h3
  clear hlk ih hd hA hG hI
  go_enter Tryz.func48,Tryz.ntmps48
  go_upto_region 1 with fail
  have hB2:=below_al2 w (.cells #[.pointer (some ⟨LB,0,none⟩)] 72) (szO (0,0,0))
  have hO2:((w.alloc (.cells #[.pointer (some ⟨LB,0,none⟩)] 72)).alloc (szO (0,0,0))).heap[w.heap.size]? = some (.cells #[.pointer (some ⟨LB,0,none⟩)] 72 (0,0))/\((w.alloc (.cells #[.pointer (some ⟨LB,0,none⟩)] 72)).alloc (szO (0,0,0))).heap[w.heap.size+1]? = some (szO (0,0,0)):=by
    refine ⟨?_,alloc2_at _ _ _⟩
    rw [Below.heap_alloc _ _ _ (by simp),World.alloc_heap_new]
  have hz2:((w.alloc (.cells #[.pointer (some ⟨LB,0,none⟩)] 72)).alloc (szO (0,0,0))).heap.size=w.heap.size+1+1:=by simp
  unfold szO at hB2 hO2 hz2
  generalize ((w.alloc (.cells #[.pointer (some ⟨LB,0,none⟩)] 72)).alloc (.cells #[.int .i64 ((0:Nat):Int),.int .i64 ((0:Nat):Int),.int .i64 ((0:Nat):Int)] 104))=W2 at *
  have hlp:=cell_at hO2.1
  have d2:=(hB2.cell (p:=⟨LB,2,none⟩) hlb).trans c2
  have HR2:Hid (W2.heap[w.heap.size+1]? = some (szO (0,0,0))):=hid hO2.2
  have HP2:Hid (W2.heap[w.heap.size]? = some (.cells #[.pointer (some ⟨LB,0,none⟩)] 72 (0,0))):=hid hO2.1
  have HB2:=hid hB2
  have hlk2:=HL.o W2 hB2
  clear hB2 hO2 c2
  cases hg:g (n:Int) with
  | some v =>
   obtain rfl:=HI.o.val n hn v hg
   rw [hg] at hlk2
   simp only [Option.getD_some,Option.isSome_some] at hlk2
   unfold sizV at hlk2
   obtain ⟨z,hze⟩:=ex2 (sizF l l.length n)
   rw [hze] at hlk2
   have HZE:=hid hze
   clear hg hze
   go_upto_region 3 with fail
   have hB3:=below_al1 W2 (szO z)
   have hX3:(W2.alloc (szO z)).heap[w.heap.size+1+1]? = some (szO z):=by rw [<- hz2];exact World.alloc_heap_new W2 _
   have hR3:=(hB3.block (w.heap.size+1) (by omega)).trans HR2.o
   unfold szO at hB3 hX3 hR3
   generalize W2.alloc (.cells #[.int .i64 (z.1:Nat),.int .i64 (z.2.1:Nat),.int .i64 (z.2.2:Nat)] 104)=W3 at *
   obtain ⟨x0,x1,x2,_⟩:=szO.at_ hX3
   obtain ⟨r0,r1,r2,f0,f1,f2⟩:=szO.at_ hR3
   have hat:AtB (w.heap.size+1) W3 (((W3.setCell ⟨w.heap.size+1,0,none⟩ (.int .i64 (z.1:Nat))).setCell ⟨w.heap.size+1,1,none⟩ (.int .i64 (z.2.1:Nat))).setCell ⟨w.heap.size+1,2,none⟩ (.int .i64 (z.2.2:Nat))):=(((AtB.refl _ W3).set _ _).set _ _).set _ _
   have HW:Hid (SzP l n SB g w (.returned (sizV z)) (((W3.setCell ⟨w.heap.size+1,0,none⟩ (.int .i64 (z.1:Nat))).setCell ⟨w.heap.size+1,1,none⟩ (.int .i64 (z.2.1:Nat))).setCell ⟨w.heap.size+1,2,none⟩ (.int .i64 (z.2.2:Nat)))):=hid (by
     have hb:Below w.heap.size w (((W3.setCell ⟨w.heap.size+1,0,none⟩ (.int .i64 (z.1:Nat))).setCell ⟨w.heap.size+1,1,none⟩ (.int .i64 (z.2.1:Nat))).setCell ⟨w.heap.size+1,2,none⟩ (.int .i64 (z.2.2:Nat))):=(HB2.o.trans (hB3.mono (by omega))).trans (hat.below (by omega))
     exact ⟨by rw [HZE.o],⟨cnt',g,HG.o.keep (hb.block _ hsl),HI.o,fun i h=>.inl h⟩,grown_below hb⟩)
   clear hX3 hR3 hat hB3
   go_wp2_with fail
   refine bodyPost_ret (v:=sizV z) (by simp [results,Tryz.results48,go_sem,sizV,r0,r1,r2]) rfl HW.o
  | none =>
   rw [hg] at hlk2
   simp only [Option.getD_none,Option.isSome_none] at hlk2
   unfold zS at hlk2
   go_upto_region 4 with fail
   have hB3:Below w.heap.size w (W2.alloc (szO (0,0,0))):=HB2.o.trans ((below_al1 W2 _).mono (by omega))
   have hk3:∀ b o,b<W2.heap.size->W2.heap[b]? = some o->(W2.alloc (szO (0,0,0))).heap[b]? = some o:=fun b o hb h=>((below_al1 W2 _).block b hb).trans h
   have hz3:(W2.alloc (szO (0,0,0))).heap.size=w.heap.size+1+1+1:=by simp [hz2]
   have hR3:=hk3 _ _ (by omega) HR2.o
   have hP3:=hk3 _ _ (by omega) HP2.o
   unfold szO at hB3 hR3 hP3 hz3
   generalize W2.alloc (.cells #[.int .i64 ((0:Nat):Int),.int .i64 ((0:Nat):Int),.int .i64 ((0:Nat):Int)] 104)=W3 at *
   have HR3:=hid hR3
   have HP3:=hid hP3
   obtain ⟨m,hm⟩:=ex2 (l[n])
   have hmem:=List.getElem_mem hn
   have hrl:=right_len (hL.ri _ hmem)
   rw [hm] at hrl
   obtain ⟨b1,o1,e1,hb1,pm,hmo,r0,r1,r2,r3,r4,r5⟩:=HA.o.lib.get hn
   rw [hm] at hmo r0 r1 r2 r3 r4 r5
   subst e1
   have hnI:(n:Int)<(l.length:Int):=by omega
   have hn0:(0:Int)<=(n:Int):=by omega
   have HMo:=hid hmo
   have HGn:=hid hg
   replace r0:=(hB3.cell (p:=⟨b1,o1+n * 6,none⟩) hb1).trans r0
   replace r1:=(hB3.cell (p:=⟨b1,o1+n * 6+1,none⟩) hb1).trans r1
   replace r2:=(hB3.cell (p:=⟨b1,o1+n * 6+2,none⟩) hb1).trans r2
   replace r3:=(hB3.cell (p:=⟨b1,o1+n * 6+3,none⟩) hb1).trans r3
   replace r4:=(hB3.cell (p:=⟨b1,o1+n * 6+4,none⟩) hb1).trans r4
   replace r5:=(hB3.cell (p:=⟨b1,o1+n * 6+5,none⟩) hb1).trans r5
   have hc0:=(hB3.cell (p:=⟨LB,0,none⟩) hlb).trans HA.o.c0
   have hlp3:=cell_at hP3
   have HB3:=hid hB3
   clear hmo hg hmem hR3 hP3 hk3 hB3 hlp d2 hlk2
   go_upto_region 6 with fail
   have hB5:=below_al2 W3 (mBox m pm) (szO (lens m))
   have hO5:((W3.alloc (mBox m pm)).alloc (szO (lens m))).heap[w.heap.size+1+1+1]? = some (mBox m pm)/\((W3.alloc (mBox m pm)).alloc (szO (lens m))).heap[w.heap.size+1+1+1+1]? = some (szO (lens m)):=by
     rw [<- hz3]
     refine ⟨?_,alloc2_at _ _ _⟩
     rw [Below.heap_alloc _ _ _ (by simp),World.alloc_heap_new]
   have hz5:((W3.alloc (mBox m pm)).alloc (szO (lens m))).heap.size=w.heap.size+1+1+1+1+1:=by simp [hz3]
   have hP5:=(hB5.block _ (by omega)).trans HP3.o
   have hR5:=(hB5.block _ (by omega)).trans HR3.o
   unfold mBox szO lens at hB5 hO5 hz5 hP5 hR5
   generalize (W3.alloc (.cells #[.string m.nm,.slice pm.a1 m.vars.length pm.c1,.slice pm.a2 m.evs.length pm.c2,.slice pm.a3 m.regs.length pm.c3,.slice pm.a4 m.vers.length pm.c4,.slice pm.a5 m.trns.length pm.c5] 42)).alloc (.cells #[.int .i64 (m.regs.length:Nat),.int .i64 (m.vers.length:Nat),.int .i64 (m.trns.length:Nat)] 104)=W5 at *
   have hBw:Below w.heap.size w W5:=HB3.o.trans (hB5.mono (by omega))
   have hA5:=HA.o.below hBw
   have hU:=size_uses N l _ c LB NB SB cnt hL hll n hn pm g w.heap.size (w.heap.size+1+1+1+1) (w.heap.size+1+1+1) W5 hA5 hN (by have:=HA.o.nl;omega) hLB hNB (by omega) (by omega) (by rw [hm];exact HMo.o.keptN (hBw.mono HA.o.nl)) hP5 (by rw [hm];exact hO5.2) (by rw [hm];exact hO5.1) (by omega) (by omega) (by omega) (by omega) (by omega) ⟨cnt',g,HG.o.keep (hBw.block _ hsl),HI.o,fun i h=>.inl h⟩ HIH.o
   have HU:=hid hU
   have hlp5:=cell_at hP5
   have HA5:=hid hA5
   have HP5:=hid hP5
   have HR5:=hid hR5
   have HBw:=hid hBw
   clear hB5 hO5 hP5 hR5 hA5 hU hBw hlp3 hc0 r0 r1 r2 r3 r4 r5
   go_upto_region 7 with ((with_reducible refine (HU.o).mono ?_);rintro e w7 ⟨bb,rfl,hz7,hM7,hf7⟩)
   obtain ⟨z,hze⟩:=ex2 (sizF l l.length n)
   rw [hze] at hz7
   have HZE:=hid hze
   have hA7:=HA5.o.fr2 hf7 hN (by have:=HA.o.nl;omega) hLB (by omega) hNB (by omega)
   have hP7:=(hf7.block w.heap.size (by omega) (by omega) (by omega)).trans HP5.o
   have hR7:=(hf7.block (w.heap.size+1) (by omega) (by omega) (by omega)).trans HR5.o
   obtain ⟨cnt2,g2,hg2,hI2,hN2⟩:=hM7
   have hno:isS g2 n=false:=by
     cases h:isS g2 n with
     | false=>rfl
     | true =>
      rcases hN2 n h with h1 | h1
      . unfold isS at h1;rw [HGn.o] at h1;cases h1
      . exact absurd h1 (hL.no n)
   have hcl:cnt2<100000:=by have:=hI2.cnt;omega
   have hg2d:SizAt SB cnt2 g2 w7.drew:=hg2.keep rfl
   obtain ⟨w8,e8,h8,g8⟩:=MapG.put (T:=74) (E:=104) hg2d (int_keyed Tryz.underlying3) Tryz.underlying74 hcl klI_inj (fun _=>trivial) (s:=(n:Int)) (key:=.int .i64 n) (keyOf_int_mk Tryz.underlying3 (WalkArith.wf_i64 ⟨by omega,by omega⟩)) (sizV z)
   have HS:Hid (∀ W',Below w7.heap.size w7 W'->W'.cell? ⟨w.heap.size,0,none⟩=some (.pointer (some ⟨LB,0,none⟩))/\W'.cell? ⟨LB,2,none⟩=some (.map (some SB))/\W'.cell? ⟨w.heap.size+1+1+1+1,0,none⟩=some (.int .i64 (z.1:Nat))/\W'.cell? ⟨w.heap.size+1+1+1+1,1,none⟩=some (.int .i64 (z.2.1:Nat))/\W'.cell? ⟨w.heap.size+1+1+1+1,2,none⟩=some (.int .i64 (z.2.2:Nat))):=hid fun W' gg=>by
     obtain ⟨q0,q1,q2,_⟩:=szO.at_ ((gg.block _ (Array.getElem?_eq_some_iff.1 hz7).1).trans hz7)
     exact ⟨cell_at ((gg.block _ (Array.getElem?_eq_some_iff.1 hP7).1).trans hP7),(gg.cell (p:=⟨LB,2,none⟩) hA7.lb).trans hA7.c2,q0,q1,q2⟩
   have hs7:=hf7.size
   have hB0:Below w7.heap.size w7 w7:=Below.refl _ _
   have hR8:=(g8.block (w.heap.size+1) (Array.getElem?_eq_some_iff.1 hR7).1 (by intro e;injection e with e;omega)).trans hR7
   have hZ8:=(g8.block (w.heap.size+1+1+1+1) (Array.getElem?_eq_some_iff.1 hz7).1 (by intro e;injection e with e;omega)).trans hz7
   have hat:AtB (w.heap.size+1) w8 (((w8.setCell ⟨w.heap.size+1,0,none⟩ (.int .i64 (z.1:Nat))).setCell ⟨w.heap.size+1,1,none⟩ (.int .i64 (z.2.1:Nat))).setCell ⟨w.heap.size+1,2,none⟩ (.int .i64 (z.2.2:Nat))):=(((AtB.refl _ w8).set _ _).set _ _).set _ _
   have HW:Hid (SzP l n SB g w (.returned (sizV z)) (((w8.setCell ⟨w.heap.size+1,0,none⟩ (.int .i64 (z.1:Nat))).setCell ⟨w.heap.size+1,1,none⟩ (.int .i64 (z.2.1:Nat))).setCell ⟨w.heap.size+1,2,none⟩ (.int .i64 (z.2.2:Nat)))):=hid (by
     refine ⟨by rw [HZE.o],⟨cnt2+1,_,h8.keep (hat.block SB (by omega)),by rw [<- HZE.o];exact hI2.put hn hno,fun i hi=>?_⟩,⟨(((hat.os.trans g8.os).trans hf7.os).trans HBw.o.os),(((hat.tape.trans g8.tape).trans hf7.tape).trans HBw.o.tape),(((hat.output.trans g8.output).trans hf7.output).trans HBw.o.output),by have h1:=hat.size;have h2:w7.heap.size<=w8.heap.size:=g8.size;omega,fun b hb hne=>?_⟩⟩
     . rw [isS_upd] at hi
       unfold updB at hi
       split at hi
       . exact .inr (.inl (by assumption))
       . rcases hN2 i hi with h | h
         . exact .inl h
         . exact .inr (.inr h)
     . have hbs:b≠SB:=fun e=>hne (by rw [e])
       exact (((hat.block b (by omega)).trans (g8.block b (by show b<w7.heap.size;omega) hne)).trans (hf7.block b (by omega) hbs (by omega))).trans (HBw.o.block b hb))
   obtain ⟨x0,x1,x2,_⟩:=szO.at_ hZ8
   obtain ⟨r0,r1,r2,f0,f1,f2⟩:=szO.at_ (s:=(0,0,0)) hR8
   unfold sizV at e8
   clear hA7 hP7 hR7 hg2 hI2 hN2 hno hcl hg2d h8 g8 hR8 hZ8 hat hz7 hlp5 HU HA5 HP5 HR5 HBw
   refine wp_region_any (by kernel_rfl) ?_
   change wpAny _ _ _ _ _ _ _ (World.drew _)
   refine wpAny_sink (n:=6) (o:=⟨none,.mapUpdate 74 (.tmp 44) (.tmp 45) (.tmp 46),0, "expand.go:97", #[⟨3,.data⟩,⟨4,.data⟩,⟨5,.data⟩,⟨0,.phase⟩,⟨1,.phase⟩,⟨2,.phase⟩,⟨3,.phase⟩,⟨4,.phase⟩,⟨5,.phase⟩],none⟩) (ops':=#[⟨some 41,.load 72 (.tmp 2),72, "expand.go:97", #[],none⟩,⟨some 42,.nilCheck (.tmp 41),0, "expand.go:97", #[⟨0,.data⟩],none⟩,⟨some 43,.fieldAddr 76 (.tmp 42) 2,0, "expand.go:97", #[⟨1,.data⟩],none⟩,⟨some 44,.load 74 (.tmp 43),74, "expand.go:97", #[⟨2,.data⟩],none⟩,⟨some 45,.move (.tmp 1),3, "expand.go:97", #[],none⟩,⟨some 46,.load 104 (.tmp 8),104, "expand.go:97", #[],none⟩]) (by decide) (by kernel_rfl) (by rfl) (by rfl) ?_
   refine hld HS.o (hB0.drew) (fun hHeld=>?_)
   refine tk 0 rfl ?_
   refine tk 1 rfl ?_
   refine tk 2 rfl ?_
   refine tk 3 rfl ?_
   refine tk 4 rfl ?_
   refine tk 5 rfl ?_
   refine dn ?_
   rotate_left
   all_goals
     refine sinkQ_of fun K hK=>?_
     go_simp
     refine hK _ _ ?_
     clear hK K
     go_wp2_with fail
     refine bodyPost_ret (v:=sizV z) (by simp [results,Tryz.results48,go_sem,sizV,r0,r1,r2]) rfl HW.o
end Go.Proofs
