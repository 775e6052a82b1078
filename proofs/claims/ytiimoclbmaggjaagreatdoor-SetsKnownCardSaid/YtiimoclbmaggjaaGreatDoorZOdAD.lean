/- The door with one thing another one: cells of such kinds; no matter which. -/
import Derived.Test.YtiimoclbmaggjaaGreatDoorZIxVX
import Derived.Laws.BytesArg
import Derived.Deep.RegionWith
namespace Go.Proofs
open Go.RowKit Go.Lx Go.Md Go.Shelf
open Lib(hid)
open Go.Proofs.Tryz
set_option maxRecDepth 100000
set_option maxHeartbeats 0
set_option linter.unusedVariables false
def kF:Nat->Nat->Nat
 | 0,k=>k % 2
 | 1,_=>0
 | 2,k=>k % 2
 | 3,k=>[0,2,1,1,0,0,3,0].getD (k % 8) 0
 | _,k=>[0,1,1,3,1,0,0,2].getD (k % 8) 0
def sF:Nat->Nat
 | 0=>4
 | 1=>3
 | 2=>6
 | 3=>88
 | _=>64
def txtB (bk:Nat->Nat):BP:=fun b o=>(∀ f,f<5->b≠bk f)/\∃ cs fr,o=some (.cells cs 9 fr)
def OkD (bk:Nat->Nat) (w:World) (u:Value):Prop:=∃ l:List ByteArray,SlS (txtB bk) w u l/\l.length<=140737488355328/\∀ s ∈ l,s.size<=140737488355328
def OkV (bk:Nat->Nat) (w:World) (u:Value):Nat->Prop
 | 0=>∃ s:ByteArray,u=.string s/\s.size<=140737488355328
 | 1=>∃ x:Int,u=.int .i64 x/\-9223372036854775808<=x/\x<=9223372036854775807
 | 2=>∃ k:Nat,u=.int .u8 (k:Int)/\k<256
 | _=>OkD bk w u
theorem OkV.kept {bk:Nat->Nat} {w w':World} {u:Value} {c:Nat} (h:OkV bk w u c) (hk:Kept (txtB bk) w w'):OkV bk w' u c:=by
 match c,h with
 | 0,h=>exact h
 | 1,h=>exact h
 | 2,h=>exact h
 | _+3,⟨l,h1,h2,h3⟩=>exact ⟨l,h1.kept hk,h2,h3⟩
structure Odw (bk:Nat->Nat) (w:World):Prop where
 cell:∀ f,f<5->∀ k,k<sF f->∃ u,w.cell? ⟨bk f,k,none⟩=some u/\OkV bk w u (kF f k)
 free:∀ f,f<5->∀ k,w.frozen? ⟨bk f,k,none⟩=false
 ne:∀ f g,f<5->g<5->f≠g->bk f≠bk g
 lt:∀ f,f<5->bk f<w.heap.size
theorem Odw.zf {bk:Nat->Nat} {w w':World} (h:Odw bk w) (g:Bl w w'):Odw bk w' :=
 ⟨fun f hf k hk=>by
   obtain ⟨u,h1,h2⟩:=h.cell f hf k hk;exact ⟨u,(g.cell (p:=⟨bk f,k,none⟩) (h.lt f hf)).trans h1,h2.kept (Kept.of_below g)⟩,fun f hf k=>(g.frozen (p:=⟨bk f,k,none⟩) (h.lt f hf)).trans (h.free f hf k),h.ne,fun f hf=>Nat.lt_of_lt_of_le (h.lt f hf) g.size⟩
theorem Odw.set {bk:Nat->Nat} {w:World} (h:Odw bk w) (f k:Nat) (hf:f<5) (hk:k<sF f) {u:Value} (hu:OkV bk w u (kF f k)):Odw bk (w.setCell ⟨bk f,k,none⟩ u):=by
 have hkp:Kept (txtB bk) w (w.setCell ⟨bk f,k,none⟩ u):=Kept.setCell fun o ho=>ho.1 f hf rfl;refine ⟨fun f' hf' k' hk'=>?_,fun f' hf' k'=>by rw [World.frozen?_setCell];exact h.free f' hf' k',h.ne,fun f' hf'=>by rw [World.size_setCell];exact h.lt f' hf'⟩;obtain ⟨v,h1,h2⟩:=h.cell f' hf' k' hk'
 by_cases e:f'=f/\k'=k
 . obtain ⟨rfl,rfl⟩:=e
   exact ⟨u,World.cell?_setCell_same _ _ _ h1,hu.kept hkp⟩
 . refine ⟨v,?_,h2.kept hkp⟩
   rw [World.cell?_setCell_other _ _ _ _ ?_]
   . exact h1
   . intro e2
     simp only [Addr.mk.injEq,and_true] at e2
     by_cases ef:f'=f
     . subst ef;exact e ⟨rfl,by omega⟩
     . first | exact h.ne f' f hf' hf ef e2.1 | exact h.ne f' f hf' hf ef e2.1.symm
theorem jp {α:Type} (P:Nat->α->Prop):∀ n:Nat,(∀ i,i<n->∃ x,P i x)->∃ l:List α,l.length=n/\∀ i (hi:i<l.length),P i l[i]
 | 0,_=>⟨[],rfl,fun i hi=>absurd hi (by simp)⟩
 | n+1,h=>by
   obtain ⟨l,hl,hp⟩:=jp P n fun i hi=>h i (by omega)
   obtain ⟨x,hx⟩:=h n (by omega);refine ⟨l ++ [x],by simp [hl],fun i hi=>?_⟩
   by_cases e:i<l.length
   . rw [List.getElem_append_left e];exact hp i e
   . have e2:i=l.length:=by simp at hi;omega
     subst e2;simp only [List.getElem_append_right (Nat.le_refl _),Nat.sub_self,List.getElem_cons_zero];rw [hl];exact hx
theorem Odw.at {bk:Nat->Nat} {w:World} (h:Odw bk w) (f i j n c:Nat) (hf:f<5) (hk:i * n+j<sF f) (hc:kF f (i * n+j)=c):∃ u,w.cell? ⟨bk f,0+i * n+j,none⟩=some u/\OkV bk w u c:=by
 rw [Nat.zero_add,<- hc];exact h.cell f hf _ hk
theorem Odw.str {bk:Nat->Nat} {w:World} (h:Odw bk w) (f i j n:Nat) (hf:f<5) (hk:i * n+j<sF f) (hc:kF f (i * n+j)=0):∃ s:ByteArray,w.cell? ⟨bk f,0+i * n+j,none⟩=some (.string s)/\s.size<=140737488355328:=by
 obtain ⟨_,h1,s,rfl,h2⟩:=h.at f i j n 0 hf hk hc;exact ⟨s,h1,h2⟩
theorem Odw.num {bk:Nat->Nat} {w:World} (h:Odw bk w) (f i j n:Nat) (hf:f<5) (hk:i * n+j<sF f) (hc:kF f (i * n+j)=1):∃ x:Int,w.cell? ⟨bk f,0+i * n+j,none⟩=some (.int .i64 x)/\-9223372036854775808<=x/\x<=9223372036854775807:=by
 obtain ⟨_,h1,s,rfl,h2⟩:=h.at f i j n 1 hf hk hc;exact ⟨s,h1,h2⟩
theorem Odw.knd {bk:Nat->Nat} {w:World} (h:Odw bk w) (f i j n:Nat) (hf:f<5) (hk:i * n+j<sF f) (hc:kF f (i * n+j)=2):∃ x:Nat,w.cell? ⟨bk f,0+i * n+j,none⟩=some (.int .u8 (x:Int))/\x<256:=by
 obtain ⟨_,h1,s,rfl,h2⟩:=h.at f i j n 2 hf hk hc;exact ⟨s,h1,h2⟩
theorem Odw.row {bk:Nat->Nat} {w:World} (h:Odw bk w) (f i j n:Nat) (hf:f<5) (hk:i * n+j<sF f) (hc:kF f (i * n+j)=3):∃ dv l,w.cell? ⟨bk f,0+i * n+j,none⟩=some dv/\SlS anyB w dv l/\l.length<=140737488355328/\∀ s ∈ l,s.size<=140737488355328:=by
 obtain ⟨u,h1,l,h2,h3⟩:=h.at f i j n 3 hf hk hc;exact ⟨u,l,h1,h2.weaken fun _ _ _=>trivial,h3⟩
theorem k8 (f i j:Nat) (hj:j<8) (hf:f=3\/f=4):kF f (i * 8+j)=kF f j:=by
 have e:(i * 8+j) % 8=j % 8:=by omega
 rcases hf with rfl | rfl <;> simp only [kF,e]
theorem k2 (f i j:Nat) (hf:f=0\/f=2):kF f (i * 2+j)=kF f j:=by
 have e:(i * 2+j) % 2=j % 2:=by omega
 rcases hf with rfl | rfl <;> simp only [kF,e]
theorem Odw.mod {bk:Nat->Nat} {w:World} (h:Odw bk w) (nm:ByteArray) (hnm:nm.size<=140737488355328) (no:Bool) :
   ∃ m:MdlD,m.nm=nm/\m.vars.length=2/\m.za.length=3/\m.zb.length=(if no then 0 else 3)/\m.zc.length=11/\m.ze.length=8/\MdlOk m/\Mod anyM w m ⟨some ⟨bk 0,0,none⟩,2,some ⟨bk 1,0,none⟩,3,if no then none else some ⟨bk 2,0,none⟩,if no then 0 else 3,some ⟨bk 3,0,none⟩,11,some ⟨bk 4,0,none⟩,8⟩:=by
 obtain ⟨lv,hv,pv⟩:=jp (fun i (x:VarD)=>VarE w (bk 0) (0+i * 2) x/\x.nm.size<=140737488355328) 2 fun i hi=>by
   obtain ⟨s,h1,h2⟩:=h.str 0 i 0 2 (by omega) (by simp only [sF];omega) (k2 0 i 0 (.inl rfl));obtain ⟨x,h3,_⟩:=h.num 0 i 1 2 (by omega) (by simp only [sF];omega) (k2 0 i 1 (.inl rfl));exact ⟨⟨s,x⟩,⟨h1,h3⟩,h2⟩
 obtain ⟨le,he,pe⟩:=jp (fun i (s:ByteArray)=>w.cell? ⟨bk 1,0+i,none⟩=some (.string s)/\s.size<=140737488355328) 3 fun i hi=>by
   obtain ⟨s,h1,h2⟩:=h.str 1 i 0 1 (by omega) (by simp only [sF];omega) rfl;exact ⟨s,by simpa using h1,h2⟩
 obtain ⟨lr,hr,pr⟩:=jp (fun i (x:RegD)=>RegE w (bk 2) (0+i * 2) x/\x.nm.size<=140737488355328/\-9223372036854775808<=x.own/\x.own<=9223372036854775807) 3 fun i hi=>by
   obtain ⟨s,h1,h2⟩:=h.str 2 i 0 2 (by omega) (by simp only [sF];omega) (k2 2 i 0 (.inr rfl));obtain ⟨x,h3,h4⟩:=h.num 2 i 1 2 (by omega) (by simp only [sF];omega) (k2 2 i 1 (.inr rfl));exact ⟨⟨s,x⟩,⟨h1,h3⟩,h2,h4⟩
 obtain ⟨lx,hx,px⟩:=jp (fun i (x:VerD)=>VerE anyB w (bk 3) (0+i * 8) x/\VerOk x) 11 fun i hi=>by
   obtain ⟨s0,a0,b0⟩:=h.str 3 i 0 8 (by omega) (by simp only [sF];omega) (k8 3 i 0 (by omega) (.inl rfl));obtain ⟨s1,a1,b1⟩:=h.knd 3 i 1 8 (by omega) (by simp only [sF];omega) (k8 3 i 1 (by omega) (.inl rfl));obtain ⟨s2,a2,b2⟩:=h.num 3 i 2 8 (by omega) (by simp only [sF];omega) (k8 3 i 2 (by omega) (.inl rfl));obtain ⟨s3,a3,b3⟩:=h.num 3 i 3 8 (by omega) (by simp only [sF];omega) (k8 3 i 3 (by omega) (.inl rfl));obtain ⟨s4,a4,b4⟩:=h.str 3 i 4 8 (by omega) (by simp only [sF];omega) (k8 3 i 4 (by omega) (.inl rfl));obtain ⟨s5,a5,b5⟩:=h.str 3 i 5 8 (by omega) (by simp only [sF];omega) (k8 3 i 5 (by omega) (.inl rfl));obtain ⟨dv,s6,a6,b6,b6'⟩:=h.row 3 i 6 8 (by omega) (by simp only [sF];omega) (k8 3 i 6 (by omega) (.inl rfl));obtain ⟨s7,a7,b7⟩:=h.str 3 i 7 8 (by omega) (by simp only [sF];omega) (k8 3 i 7 (by omega) (.inl rfl));exact ⟨⟨s0,s1,s2,s3,s4,s5,s6,s7⟩,⟨dv,b6,a0,a1,a2,a3,a4,a5,a6,a7⟩,⟨b0,b1,b4,b5,b6'.1,b6'.2,b7,b2,b3⟩⟩
 obtain ⟨lt,ht,pt⟩:=jp (fun i (x:TrnD)=>TrnE anyB w (bk 4) (0+i * 8) x/\TrnOk x) 8 fun i hi=>by
   obtain ⟨s0,a0,b0⟩:=h.str 4 i 0 8 (by omega) (by simp only [sF];omega) (k8 4 i 0 (by omega) (.inr rfl));obtain ⟨s1,a1,b1⟩:=h.num 4 i 1 8 (by omega) (by simp only [sF];omega) (k8 4 i 1 (by omega) (.inr rfl));obtain ⟨s2,a2,b2⟩:=h.num 4 i 2 8 (by omega) (by simp only [sF];omega) (k8 4 i 2 (by omega) (.inr rfl));obtain ⟨dv,s3,a3,b3,b3'⟩:=h.row 4 i 3 8 (by omega) (by simp only [sF];omega) (k8 4 i 3 (by omega) (.inr rfl));obtain ⟨s4,a4,b4⟩:=h.num 4 i 4 8 (by omega) (by simp only [sF];omega) (k8 4 i 4 (by omega) (.inr rfl));obtain ⟨s5,a5,b5⟩:=h.str 4 i 5 8 (by omega) (by simp only [sF];omega) (k8 4 i 5 (by omega) (.inr rfl));obtain ⟨s6,a6,b6⟩:=h.str 4 i 6 8 (by omega) (by simp only [sF];omega) (k8 4 i 6 (by omega) (.inr rfl));obtain ⟨s7,a7,b7⟩:=h.knd 4 i 7 8 (by omega) (by simp only [sF];omega) (k8 4 i 7 (by omega) (.inr rfl));exact ⟨⟨s0,s1,s2,s3,s4,s5,s6,s7⟩,⟨dv,b3,a0,a1,a2,a3,a4,a5,a6,a7⟩,⟨b0,b7,b5,b6,b3'.1,b3'.2,b1,b2,b4⟩⟩
 have sv:Sl anyB 2 VarE w (.slice (some ⟨bk 0,0,none⟩) 2 2) lv:=.inr ⟨bk 0,0,2,by rw [hv],by omega,h.lt 0 (by omega),trivial,fun i hi=>(pv i hi).1⟩;have se:SlS anyB w (.slice (some ⟨bk 1,0,none⟩) 3 3) le:=.inr ⟨bk 1,0,3,by rw [he],by omega,h.lt 1 (by omega),trivial,fun i hi=>(pe i hi).1⟩;have sr:Sl anyB 2 RegE w (.slice (some ⟨bk 2,0,none⟩) 3 3) lr:=.inr ⟨bk 2,0,3,by rw [hr],by omega,h.lt 2 (by omega),trivial,fun i hi=>(pr i hi).1⟩;have sx:Sl anyB 8 (VerE anyB) w (.slice (some ⟨bk 3,0,none⟩) 11 11) lx:=.inr ⟨bk 3,0,11,by rw [hx],by omega,h.lt 3 (by omega),trivial,fun i hi=>(px i hi).1⟩;have st:Sl anyB 8 (TrnE anyB) w (.slice (some ⟨bk 4,0,none⟩) 8 8) lt:=.inr ⟨bk 4,0,8,by rw [ht],by omega,h.lt 4 (by omega),trivial,fun i hi=>(pt i hi).1⟩;have fv:∀ x ∈ lv,x.nm.size<=140737488355328:=fun x hx=>by obtain ⟨i,hi,rfl⟩:=List.getElem_of_mem hx;exact (pv i hi).2
 have fe:∀ x ∈ le,x.size<=140737488355328:=fun x hx=>by obtain ⟨i,hi,rfl⟩:=List.getElem_of_mem hx;exact (pe i hi).2
 have fr:∀ x ∈ lr,x.nm.size<=140737488355328:=fun x hx=>by obtain ⟨i,hi,rfl⟩:=List.getElem_of_mem hx;exact (pr i hi).2.1
 have fo:∀ x ∈ lr,-9223372036854775808<=x.own/\x.own<=9223372036854775807:=fun x hx=>by obtain ⟨i,hi,rfl⟩:=List.getElem_of_mem hx;exact (pr i hi).2.2
 have fx:∀ x ∈ lx,VerOk x:=fun x hx=>by obtain ⟨i,hi,rfl⟩:=List.getElem_of_mem hx;exact (px i hi).2
 have ft:∀ x ∈ lt,TrnOk x:=fun x hx=>by obtain ⟨i,hi,rfl⟩:=List.getElem_of_mem hx;exact (pt i hi).2
 cases no with
 | false =>
  refine ⟨⟨nm,lv,le,lr,lx,lt⟩,rfl,hv,he,hr,hx,ht,⟨hnm,by show lv.length<=_;omega,fv,by show le.length<=_;omega,fe,by show lr.length<=_;omega,fr,fo,by show lx.length<=_;omega,fx,by show lt.length<=_;omega,ft⟩,⟨?_,?_,?_,?_,?_⟩⟩
  . show Sl anyB 2 VarE w (.slice _ lv.length _) lv;rw [hv];exact sv
  . show SlS anyB w (.slice _ le.length _) le;rw [he];exact se
  . show Sl anyB 2 RegE w (.slice _ lr.length _) lr;rw [hr];exact sr
  . show Sl anyB 8 (VerE anyB) w (.slice _ lx.length _) lx;rw [hx];exact sx
  . show Sl anyB 8 (TrnE anyB) w (.slice _ lt.length _) lt;rw [ht];exact st
 | true =>
  refine ⟨⟨nm,lv,le,[],lx,lt⟩,rfl,hv,he,rfl,hx,ht,⟨hnm,by show lv.length<=_;omega,fv,by show le.length<=_;omega,fe,by simp,fun _ h=>absurd h (by simp),fun _ h=>absurd h (by simp),by show lx.length<=_;omega,fx,by show lt.length<=_;omega,ft⟩,⟨?_,?_,?_,?_,?_⟩⟩
  . show Sl anyB 2 VarE w (.slice _ lv.length _) lv;rw [hv];exact sv
  . show SlS anyB w (.slice _ le.length _) le;rw [he];exact se
  . exact .inl ⟨_,_,rfl,rfl⟩
  . show Sl anyB 8 (VerE anyB) w (.slice _ lx.length _) lx;rw [hx];exact sx
  . show Sl anyB 8 (TrnE anyB) w (.slice _ lt.length _) lt;rw [ht];exact st
theorem zcw {k n:Nat} (h:k<n * 2):∃ i j,i<n/\j<2/\k=i * 2+j:=⟨k / 2,k % 2,by omega,by omega,by omega⟩
theorem zcx {k n:Nat} (h:k<n * 8):∃ i j,i<n/\j<8/\k=i * 8+j:=⟨k / 8,k % 8,by omega,by omega,by omega⟩
theorem zcy (N:Nat) {j b:Nat} {o:Option Obj} (hj:5<=j) (h:doorQ N j b o):txtB (bkD N) b o:=by
 obtain ⟨h2,h3⟩:(b=N+4\/(N+6<=b/\b<=N+9))/\∃ cs fr,o=some (.cells cs 9 fr):=by
   match j,hj,h with
   | j+5,_,h=>simp only [doorQ] at h;exact h
 refine ⟨?_,h3⟩;intro f hf;have:f=0\/f=1\/f=2\/f=3\/f=4:=by omega
 rcases this with rfl | rfl | rfl | rfl | rfl <;> simp only [bkD] <;> omega
theorem zcz {N:Nat} {w:World} (h:Mod (doorQ N) w doorM (doorP N)) (hf:∀ f,f<5->∀ k,w.frozen? ⟨bkD N f,k,none⟩=false):Odw (bkD N) w:=by
 have hm:=zbW;refine ⟨fun f hf5 k hk=>?_,hf,fun f g hf hg hne=>?_,fun f hf5=>?_⟩
 . have:f=0\/f=1\/f=2\/f=3\/f=4:=by omega
   rcases this with rfl | rfl | rfl | rfl | rfl
   . obtain ⟨i,j,hi,hj,rfl⟩:=zcw (n:=2) hk
     obtain ⟨b,off,ea,_,h1,h2⟩:=h.vars.get (k:=i) hi;simp only [doorP,Option.some.injEq,Addr.mk.injEq,and_true] at ea;obtain ⟨rfl,rfl⟩:=ea;rw [k2 0 i j (.inl rfl)];rw [Nat.zero_add] at h1 h2;have:j=0\/j=1:=by omega
     rcases this with rfl | rfl
     . exact ⟨_,h1,_,rfl,hm.varn _ (List.getElem_mem _)⟩
     . exact ⟨_,h2,_,rfl,qK (List.all_eq_true.1 (show (doorM.vars.all fun x=>intOkB x.ini)=true by kernel_rfl) _ (List.getElem_mem _))⟩
   . obtain ⟨b,off,ea,_,h1⟩:=h.za.get (k:=k) hk
     simp only [doorP,Option.some.injEq,Addr.mk.injEq,and_true] at ea;obtain ⟨rfl,rfl⟩:=ea;rw [Nat.zero_add] at h1;exact ⟨_,h1,_,rfl,hm.evn _ (List.getElem_mem _)⟩
   . obtain ⟨i,j,hi,hj,rfl⟩:=zcw (n:=3) hk
     obtain ⟨b,off,ea,_,h1,h2⟩:=h.zb.get (k:=i) hi;simp only [doorP,Option.some.injEq,Addr.mk.injEq,and_true] at ea;obtain ⟨rfl,rfl⟩:=ea;rw [k2 2 i j (.inr rfl)];rw [Nat.zero_add] at h1 h2;have:j=0\/j=1:=by omega
     rcases this with rfl | rfl
     . exact ⟨_,h1,_,rfl,hm.regn _ (List.getElem_mem _)⟩
     . exact ⟨_,h2,_,rfl,hm.rego _ (List.getElem_mem _)⟩
   . obtain ⟨i,j,hi,hj,rfl⟩:=zcx (n:=11) hk
     obtain ⟨b,off,ea,_,dv,h8,h0,h1,h2,h3,h4,h5,h6,h7⟩:=h.zc.get (k:=i) hi;simp only [doorP,Option.some.injEq,Addr.mk.injEq,and_true] at ea;obtain ⟨rfl,rfl⟩:=ea;rw [k8 3 i j hj (.inl rfl)];rw [Nat.zero_add] at h0 h1 h2 h3 h4 h5 h6 h7;have hv:=hm.verx _ (List.getElem_mem (l:=doorM.zc) (n:=i) hi);have:j=0\/j=1\/j=2\/j=3\/j=4\/j=5\/j=6\/j=7:=by omega
     rcases this with rfl | rfl | rfl | rfl | rfl | rfl | rfl | rfl
     . exact ⟨_,h0,_,rfl,hv.nm⟩
     . exact ⟨_,h1,_,rfl,hv.kd⟩
     . exact ⟨_,h2,_,rfl,hv.rg⟩
     . exact ⟨_,h3,_,rfl,hv.ofv⟩
     . exact ⟨_,h4,_,rfl,hv.en⟩
     . exact ⟨_,h5,_,rfl,hv.ex⟩
     . exact ⟨_,h6,_,h8.weaken (fun b _ hb=>zcy N (Nat.le_refl 5) hb),hv.df,hv.dfs⟩
     . exact ⟨_,h7,_,rfl,hv.sb⟩
   . obtain ⟨i,j,hi,hj,rfl⟩:=zcx (n:=8) hk
     obtain ⟨b,off,ea,_,dv,h8,h0,h1,h2,h3,h4,h5,h6,h7⟩:=h.ze.get (k:=i) hi;simp only [doorP,Option.some.injEq,Addr.mk.injEq,and_true] at ea;obtain ⟨rfl,rfl⟩:=ea;rw [k8 4 i j hj (.inr rfl)];rw [Nat.zero_add] at h0 h1 h2 h3 h4 h5 h6 h7;have hv:=hm.trnx _ (List.getElem_mem (l:=doorM.ze) (n:=i) hi);have:j=0\/j=1\/j=2\/j=3\/j=4\/j=5\/j=6\/j=7:=by omega
     rcases this with rfl | rfl | rfl | rfl | rfl | rfl | rfl | rfl
     . exact ⟨_,h0,_,rfl,hv.nm⟩
     . exact ⟨_,h1,_,rfl,hv.src⟩
     . exact ⟨_,h2,_,rfl,hv.tgt⟩
     . exact ⟨_,h3,_,h8.weaken (fun b _ hb=>zcy N (by omega) hb),hv.tr,hv.trs⟩
     . exact ⟨_,h4,_,rfl,hv.af⟩
     . exact ⟨_,h5,_,rfl,hv.gd⟩
     . exact ⟨_,h6,_,rfl,hv.ef⟩
     . exact ⟨_,h7,_,rfl,hv.kd⟩
 . have h1:f=0\/f=1\/f=2\/f=3\/f=4:=by omega
   have h2:g=0\/g=1\/g=2\/g=3\/g=4:=by omega
   rcases h1 with rfl | rfl | rfl | rfl | rfl <;> rcases h2 with rfl | rfl | rfl | rfl | rfl <;> simp only [bkD] <;> omega
 . have h1:f=0\/f=1\/f=2\/f=3\/f=4:=by omega
   rcases h1 with rfl | rfl | rfl | rfl | rfl
   . obtain ⟨b,off,ea,hb,_⟩:=h.vars.get (k:=0) (by decide)
     simp only [doorP,Option.some.injEq,Addr.mk.injEq,and_true] at ea;obtain ⟨rfl,rfl⟩:=ea;exact hb
   . obtain ⟨b,off,ea,hb,_⟩:=h.za.get (k:=0) (by decide)
     simp only [doorP,Option.some.injEq,Addr.mk.injEq,and_true] at ea;obtain ⟨rfl,rfl⟩:=ea;exact hb
   . obtain ⟨b,off,ea,hb,_⟩:=h.zb.get (k:=0) (by decide)
     simp only [doorP,Option.some.injEq,Addr.mk.injEq,and_true] at ea;obtain ⟨rfl,rfl⟩:=ea;exact hb
   . obtain ⟨b,off,ea,hb,_⟩:=h.zc.get (k:=0) (by decide)
     simp only [doorP,Option.some.injEq,Addr.mk.injEq,and_true] at ea;obtain ⟨rfl,rfl⟩:=ea;exact hb
   . obtain ⟨b,off,ea,hb,_⟩:=h.ze.get (k:=0) (by decide)
     simp only [doorP,Option.some.injEq,Addr.mk.injEq,and_true] at ea;obtain ⟨rfl,rfl⟩:=ea;exact hb
structure OdS (bk:Nat->Nat) (N:Nat) (nm:ByteArray) (rs:Value) (w wx:World):Prop where
 o:Odw bk wx
 bel:Below N w wx
 c0:wx.cell? ⟨w.heap.size,0,none⟩=some (.string nm)
 c1:wx.cell? ⟨w.heap.size,1,none⟩=some (.slice (some ⟨bk 0,0,none⟩) 2 2)
 c2:wx.cell? ⟨w.heap.size,2,none⟩=some (.slice (some ⟨bk 1,0,none⟩) 3 3)
 c3:wx.cell? ⟨w.heap.size,3,none⟩=some rs
 c4:wx.cell? ⟨w.heap.size,4,none⟩=some (.slice (some ⟨bk 3,0,none⟩) 11 11)
 c5:wx.cell? ⟨w.heap.size,5,none⟩=some (.slice (some ⟨bk 4,0,none⟩) 8 8)
 rb:wx.heap[w.heap.size+1]? = some zeroM
 fr:∀ k,wx.frozen? ⟨w.heap.size,k,none⟩=false
 lt:w.heap.size+1<wx.heap.size
 nz:N<=w.heap.size
 up:∀ f,f<5->N<=bk f/\bk f<w.heap.size
 ks:∀ b,b<w.heap.size->(∀ f,f<5->b≠bk f)->wx.heap[b]? = w.heap[b]?
 mb:∃ cs,wx.heap[w.heap.size]? = some (.cells cs 28 (0,0))
section
variable {bk:Nat->Nat} {N:Nat} {nm:ByteArray} {rs:Value} {w wx:World}
theorem OdS.zf {wy:World} (h:OdS bk N nm rs w wx) (g:Bl wx wy):OdS bk N nm rs w wy:=by
 have hl:=h.lt;have k:∀ j,wy.cell? ⟨w.heap.size,j,none⟩=wx.cell? ⟨w.heap.size,j,none⟩:=fun j=>g.cell (p:=⟨w.heap.size,j,none⟩) (by simp only;omega)
 exact ⟨h.o.zf g,h.bel.trans (g.mono (by have:=h.nz;omega)),(k 0).trans h.c0,(k 1).trans h.c1,(k 2).trans h.c2,(k 3).trans h.c3,(k 4).trans h.c4,(k 5).trans h.c5,(g.block _ hl).trans h.rb,fun j=>(g.frozen (p:=⟨w.heap.size,j,none⟩) (by simp only;omega)).trans (h.fr j),Nat.lt_of_lt_of_le hl g.size,h.nz,h.up,fun b hb hn=>(g.block b (by omega)).trans (h.ks b hb hn),h.mb.imp fun _ e=>(g.block _ (by omega)).trans e⟩
theorem OdS.set (h:OdS bk N nm rs w wx) (f k:Nat) (hf:f<5) (hk:k<sF f) {u:Value} (hu:OkV bk wx u (kF f k)):OdS bk N nm rs w (wx.setCell ⟨bk f,k,none⟩ u):=by
 have hn:=h.up f hf;have hb:∀ b,b≠bk f->(wx.setCell ⟨bk f,k,none⟩ u).heap[b]? = wx.heap[b]? := fun b hb=>Below.heap_setCell _ _ _ _ hb;have kc:∀ j,(wx.setCell ⟨bk f,k,none⟩ u).cell? ⟨w.heap.size,j,none⟩=wx.cell? ⟨w.heap.size,j,none⟩:=fun j=>World.cell?_of_block (w:=wx) (hb _ (by simp only;omega))
 exact ⟨h.o.set f k hf hk hu,h.bel.setCell (p:=⟨bk f,k,none⟩) hn.1 _,(kc 0).trans h.c0,(kc 1).trans h.c1,(kc 2).trans h.c2,(kc 3).trans h.c3,(kc 4).trans h.c4,(kc 5).trans h.c5,(hb _ (by omega)).trans h.rb,fun j=>by rw [World.frozen?_setCell];exact h.fr j,by rw [World.size_setCell];exact h.lt,h.nz,h.up,fun b hb' hn'=>(hb b (hn' f hf)).trans (h.ks b hb' hn'),h.mb.imp fun _ e=>(hb _ (by omega)).trans e⟩
theorem OdS.setS (h:OdS bk N nm rs w wx) (f k:Nat) (hf:f<5) (hk:k<sF f) (hc:kF f k=0) (s:ByteArray) (hs:s.size<=140737488355328):OdS bk N nm rs w (wx.setCell ⟨bk f,k,none⟩ (.string s)):=h.set f k hf hk (by rw [hc];exact ⟨s,rfl,hs⟩)
theorem OdS.setI (h:OdS bk N nm rs w wx) (f k:Nat) (hf:f<5) (hk:k<sF f) (hc:kF f k=1) (x:Int) (hx:-9223372036854775808<=x/\x<=9223372036854775807):OdS bk N nm rs w (wx.setCell ⟨bk f,k,none⟩ (.int .i64 x)):=h.set f k hf hk (by rw [hc];exact ⟨x,rfl,hx⟩)
theorem OdS.setU (h:OdS bk N nm rs w wx) (f k:Nat) (hf:f<5) (hk:k<sF f) (hc:kF f k=2) (x:Nat) (hx:x<256):OdS bk N nm rs w (wx.setCell ⟨bk f,k,none⟩ (.int .u8 (x:Int))):=h.set f k hf hk (by rw [hc];exact ⟨x,rfl,hx⟩)
theorem OdS.setD (h:OdS bk N nm rs w wx) (f k:Nat) (hf:f<5) (hk:k<sF f) (hc:kF f k=3) (cs:Array Value) (l:List ByteArray) (he:cs.toList=l.map Value.string) (n:Nat) (hn:l.length=n) (hl:n<=100) (hs:∀ s ∈ l,s.size<=100):OdS bk N nm rs w ((wx.alloc (.cells cs 9)).setCell ⟨bk f,k,none⟩ (.slice (some ⟨wx.heap.size,0,none⟩) n n)):=by
 subst hn;refine (h.zf (zg wx (.cells cs 9))).set f k hf hk ?_;rw [hc];refine ⟨l,.inr ⟨wx.heap.size,0,l.length,rfl,Nat.le_refl _,by simp,⟨fun f hf e=>?_,_,_,World.alloc_heap_new wx (.cells cs 9)⟩,fun i hi=>?_⟩,by omega,fun s hs'=>by have:=hs s hs';omega⟩
 . have:=h.o.lt f hf;omega
 . have e:=World.alloc_heap_new wx (.cells cs 9)
   rw [Nat.zero_add];unfold World.cell?;simp only [e];rw [<- Array.getElem?_toList,he]
   simp [hi]
end
def oddV (bk:Nat->Nat) (nm:ByteArray) (rs:Value):Value:=.agg #[.string nm,.slice (some ⟨bk 0,0,none⟩) 2 2,.slice (some ⟨bk 1,0,none⟩) 3 3,rs,.slice (some ⟨bk 3,0,none⟩) 11 11,.slice (some ⟨bk 4,0,none⟩) 8 8]
theorem zag {bk:Nat->Nat} {N:Nat} {nm:ByteArray} {rs:Value} {w:World} (h:Odw bk w) (hup:∀ f,f<5->N<=bk f/\bk f<w.heap.size) (hN:N<=w.heap.size) :
   OdS bk N nm rs w ((w.alloc (.cells #[.string nm,.slice (some ⟨bk 0,0,none⟩) 2 2,.slice (some ⟨bk 1,0,none⟩) 3 3,rs,.slice (some ⟨bk 3,0,none⟩) 11 11,.slice (some ⟨bk 4,0,none⟩) 8 8] 28)).alloc zeroM):=by
 have e0:((w.alloc (.cells #[.string nm,.slice (some ⟨bk 0,0,none⟩) 2 2,.slice (some ⟨bk 1,0,none⟩) 3 3,rs,.slice (some ⟨bk 3,0,none⟩) 11 11,.slice (some ⟨bk 4,0,none⟩) 8 8] 28)).alloc zeroM).heap[w.heap.size]? = some (.cells #[.string nm,.slice (some ⟨bk 0,0,none⟩) 2 2,.slice (some ⟨bk 1,0,none⟩) 3 3,rs,.slice (some ⟨bk 3,0,none⟩) 11 11,.slice (some ⟨bk 4,0,none⟩) 8 8] 28 (0,0)):=(Below.heap_alloc _ _ _ (by simp)).trans (World.alloc_heap_new w _);have e1:=World.alloc_heap_new (w.alloc (.cells #[.string nm,.slice (some ⟨bk 0,0,none⟩) 2 2,.slice (some ⟨bk 1,0,none⟩) 3 3,rs,.slice (some ⟨bk 3,0,none⟩) 11 11,.slice (some ⟨bk 4,0,none⟩) 8 8] 28)) zeroM;rw [World.size_alloc] at e1;have hb:Bl w ((w.alloc (.cells #[.string nm,.slice (some ⟨bk 0,0,none⟩) 2 2,.slice (some ⟨bk 1,0,none⟩) 3 3,rs,.slice (some ⟨bk 3,0,none⟩) 11 11,.slice (some ⟨bk 4,0,none⟩) 8 8] 28)).alloc zeroM):=((Below.refl _ w).alloc (Nat.le_refl _) _).alloc (by simp) _;exact ⟨h.zf hb,hb.mono hN,zh e0 0,zh e0 1,zh e0 2,zh e0 3,zh e0 4,zh e0 5,e1,zv e0,by simp,hN,hup,fun b hb' _=>hb.block b hb',_,e0⟩
theorem jF {w:World} {b k:Nat} {cs:Array Value} {u:Value} (h:w.heap[b]? = some (.cells cs 28 (0,0))):∃ cs',(w.setCell ⟨b,k,none⟩ u).heap[b]? = some (.cells cs' 28 (0,0)):=by
 have:(w.setCell ⟨b,k,none⟩ u).heap[b]? = some (.cells (cs.setIfInBounds k u) 28 (0,0)):=by
   unfold World.setCell;simp only [Array.getElem?_modify,if_true,h,Option.map_some]
   rfl
 exact ⟨_,this⟩
theorem Odw.elsewhere {bk:Nat->Nat} {w:World} {b k:Nat} {cs:Array Value} {u:Value} (h:Odw bk w) (hne:∀ f,f<5->b≠bk f) (hm:w.heap[b]? = some (.cells cs 28 (0,0))):Odw bk (w.setCell ⟨b,k,none⟩ u):=by
 have hb:∀ b',b'≠b->(w.setCell ⟨b,k,none⟩ u).heap[b']? = w.heap[b']? := fun b' hb'=>Below.heap_setCell _ _ _ _ hb'
 have hkp:Kept (txtB bk) w (w.setCell ⟨b,k,none⟩ u):=⟨by rw [World.size_setCell];exact Nat.le_refl _,fun b' _ hQ=>hb b' fun e=>by
   obtain ⟨_,cs',fr',ho⟩:=hQ;rw [e,hm] at ho;simp only [Option.some.injEq,Obj.cells.injEq] at ho;exact absurd ho.2.1 (by decide)⟩
 refine ⟨fun f hf j hj=>?_,fun f hf j=>by rw [World.frozen?_setCell];exact h.free f hf j,h.ne,fun f hf=>by rw [World.size_setCell];exact h.lt f hf⟩;obtain ⟨v,h1,h2⟩:=h.cell f hf j hj;exact ⟨v,(World.cell?_of_block (w:=w) (a:=⟨bk f,j,none⟩) (hb _ (hne f hf).symm)).trans h1,h2.kept hkp⟩
theorem OdS.setN {bk:Nat->Nat} {N:Nat} {nm:ByteArray} {rs:Value} {w wx:World} (h:OdS bk N nm rs w wx) (nm':ByteArray):OdS bk N nm' rs w (wx.setCell ⟨w.heap.size,0,none⟩ (.string nm')):=by
 obtain ⟨cs,hm⟩:=h.mb;have hl:=h.lt;have hne:∀ f,f<5->w.heap.size≠bk f:=fun f hf=>by have:=(h.up f hf).2;omega
 have hb:∀ b,b≠w.heap.size->(wx.setCell ⟨w.heap.size,0,none⟩ (.string nm')).heap[b]? = wx.heap[b]? := fun b hb=>Below.heap_setCell _ _ _ _ hb;exact ⟨h.o.elsewhere hne hm,h.bel.setCell (p:=⟨w.heap.size,0,none⟩) h.nz _,World.cell?_setCell_same _ _ _ h.c0,(World.cell?_setCell_other _ _ _ _ (by simp)).trans h.c1,(World.cell?_setCell_other _ _ _ _ (by simp)).trans h.c2,(World.cell?_setCell_other _ _ _ _ (by simp)).trans h.c3,(World.cell?_setCell_other _ _ _ _ (by simp)).trans h.c4,(World.cell?_setCell_other _ _ _ _ (by simp)).trans h.c5,(hb _ (by omega)).trans h.rb,fun j=>by rw [World.frozen?_setCell];exact h.fr j,by rw [World.size_setCell];exact h.lt,h.nz,h.up,fun b hb' hn'=>(hb b (by omega)).trans (h.ks b hb' hn'),jF hm⟩
theorem OdS.setR {bk:Nat->Nat} {N:Nat} {nm:ByteArray} {rs:Value} {w wx:World} (h:OdS bk N nm rs w wx) (rs':Value):OdS bk N nm rs' w (wx.setCell ⟨w.heap.size,3,none⟩ rs'):=by
 obtain ⟨cs,hm⟩:=h.mb;have hl:=h.lt;have hne:∀ f,f<5->w.heap.size≠bk f:=fun f hf=>by have:=(h.up f hf).2;omega
 have hb:∀ b,b≠w.heap.size->(wx.setCell ⟨w.heap.size,3,none⟩ rs').heap[b]? = wx.heap[b]? := fun b hb=>Below.heap_setCell _ _ _ _ hb;exact ⟨h.o.elsewhere hne hm,h.bel.setCell (p:=⟨w.heap.size,3,none⟩) h.nz _,(World.cell?_setCell_other _ _ _ _ (by simp)).trans h.c0,(World.cell?_setCell_other _ _ _ _ (by simp)).trans h.c1,(World.cell?_setCell_other _ _ _ _ (by simp)).trans h.c2,World.cell?_setCell_same _ _ _ h.c3,(World.cell?_setCell_other _ _ _ _ (by simp)).trans h.c4,(World.cell?_setCell_other _ _ _ _ (by simp)).trans h.c5,(hb _ (by omega)).trans h.rb,fun j=>by rw [World.frozen?_setCell];exact h.fr j,by rw [World.size_setCell];exact h.lt,h.nz,h.up,fun b hb' hn'=>(hb b (by omega)).trans (h.ks b hb' hn'),jF hm⟩
theorem yk {P:Program} {S:World->Prop} {c:Code} {Q:Exit->Act->World->Prop} {a:Act} {W:World} (h:S W) (k:∀ W,S W->c.wp P Q a W):c.wp P Q a W:=k W h
theorem od1 {P:Program} {c:Code} {Q:Exit->Act->World->Prop} {a:Act} {bk:Nat->Nat} {N:Nat} {nm:ByteArray} {rs:Value} {w W:World} (h:OdS bk N nm rs w W) (k:∀ W,OdS bk N nm rs w W->c.wp P Q a W):c.wp P Q a W:=k W h
theorem OdS.sS {bk:Nat->Nat} {N:Nat} {nm:ByteArray} {rs:Value} {w wx:World} (h:OdS bk N nm rs w wx) (f k:Nat) (s:ByteArray) (hs:s.size<=140737488355328:=by decide) (hf:f<5:=by decide) (hk:k<sF f:=by decide) (hc:kF f k=0:=by decide):OdS bk N nm rs w (wx.setCell ⟨bk f,k,none⟩ (.string s)):=h.setS f k hf hk hc s hs
theorem OdS.sI {bk:Nat->Nat} {N:Nat} {nm:ByteArray} {rs:Value} {w wx:World} (h:OdS bk N nm rs w wx) (f k:Nat) (x:Int) (hx:-9223372036854775808<=x/\x<=9223372036854775807:=by decide) (hf:f<5:=by decide) (hk:k<sF f:=by decide) (hc:kF f k=1:=by decide):OdS bk N nm rs w (wx.setCell ⟨bk f,k,none⟩ (.int .i64 x)):=h.setI f k hf hk hc x hx
theorem OdS.sU {bk:Nat->Nat} {N:Nat} {nm:ByteArray} {rs:Value} {w wx:World} (h:OdS bk N nm rs w wx) (f k x:Nat) (hx:x<256:=by decide) (hf:f<5:=by decide) (hk:k<sF f:=by decide) (hc:kF f k=2:=by decide):OdS bk N nm rs w (wx.setCell ⟨bk f,k,none⟩ (.int .u8 (x:Int))):=h.setU f k hf hk hc x hx
theorem OdS.done {bk:Nat->Nat} {N:Nat} {nm:ByteArray} {rs:Value} {w wx:World} (h:OdS bk N nm rs w wx) (a0 a1 a2 a3 a4 a5:Value):Odw bk ((((((wx.setCell ⟨w.heap.size+1,0,none⟩ a0).setCell ⟨w.heap.size+1,1,none⟩ a1).setCell ⟨w.heap.size+1,2,none⟩ a2).setCell ⟨w.heap.size+1,3,none⟩ a3).setCell ⟨w.heap.size+1,4,none⟩ a4).setCell ⟨w.heap.size+1,5,none⟩ a5)/\Below N w ((((((wx.setCell ⟨w.heap.size+1,0,none⟩ a0).setCell ⟨w.heap.size+1,1,none⟩ a1).setCell ⟨w.heap.size+1,2,none⟩ a2).setCell ⟨w.heap.size+1,3,none⟩ a3).setCell ⟨w.heap.size+1,4,none⟩ a4).setCell ⟨w.heap.size+1,5,none⟩ a5)/\∀ b,b<w.heap.size->(∀ f,f<5->b≠bk f)->((((((wx.setCell ⟨w.heap.size+1,0,none⟩ a0).setCell ⟨w.heap.size+1,1,none⟩ a1).setCell ⟨w.heap.size+1,2,none⟩ a2).setCell ⟨w.heap.size+1,3,none⟩ a3).setCell ⟨w.heap.size+1,4,none⟩ a4).setCell ⟨w.heap.size+1,5,none⟩ a5).heap[b]? = w.heap[b]? := by
 have hz:=h.nz;have hb:Below w.heap.size wx ((((((wx.setCell ⟨w.heap.size+1,0,none⟩ a0).setCell ⟨w.heap.size+1,1,none⟩ a1).setCell ⟨w.heap.size+1,2,none⟩ a2).setCell ⟨w.heap.size+1,3,none⟩ a3).setCell ⟨w.heap.size+1,4,none⟩ a4).setCell ⟨w.heap.size+1,5,none⟩ a5):=((((((Below.refl _ wx).setCell (p:=⟨w.heap.size+1,0,none⟩) (by simp) _).setCell (p:=⟨w.heap.size+1,1,none⟩) (by simp) _).setCell (p:=⟨w.heap.size+1,2,none⟩) (by simp) _).setCell (p:=⟨w.heap.size+1,3,none⟩) (by simp) _).setCell (p:=⟨w.heap.size+1,4,none⟩) (by simp) _).setCell (p:=⟨w.heap.size+1,5,none⟩) (by simp) _;refine ⟨⟨fun f hf k hk=>?_,fun f hf k=>?_,h.o.ne,fun f hf=>Nat.lt_of_lt_of_le (h.o.lt f hf) hb.size⟩,h.bel.trans (hb.mono hz),fun b hb' hn'=>(hb.block b hb').trans (h.ks b hb' hn')⟩
 . obtain ⟨u,h1,h2⟩:=h.o.cell f hf k hk
   refine ⟨u,(hb.cell (p:=⟨bk f,k,none⟩) (h.up f hf).2).trans h1,h2.kept ⟨hb.size,fun b hb2 hQ=>?_⟩⟩;obtain ⟨_,cs,fr,ho⟩:=hQ;have hne:b≠w.heap.size+1:=fun e=>by subst e;rw [h.rb] at ho;unfold zeroM at ho;simp at ho
   exact (Below.heap_setCell _ ⟨w.heap.size+1,5,none⟩ _ _ hne).trans ((Below.heap_setCell _ ⟨w.heap.size+1,4,none⟩ _ _ hne).trans ((Below.heap_setCell _ ⟨w.heap.size+1,3,none⟩ _ _ hne).trans ((Below.heap_setCell _ ⟨w.heap.size+1,2,none⟩ _ _ hne).trans ((Below.heap_setCell _ ⟨w.heap.size+1,1,none⟩ _ _ hne).trans (Below.heap_setCell _ ⟨w.heap.size+1,0,none⟩ _ _ hne)))))
 . exact (hb.frozen (p:=⟨bk f,k,none⟩) (h.up f hf).2).trans (h.o.free f hf k)
theorem OdS.setD2 {bk:Nat->Nat} {N:Nat} {nm:ByteArray} {rs:Value} {w wx:World} (h:OdS bk N nm rs w wx) (f k:Nat) (hf:f<5) (hk:k<sF f) (hc:kF f k=3) (cs:Array Value) (l:List ByteArray) (he:cs.toList=l.map Value.string) (n:Nat) (hn:l.length=n) (hl:n<=100) (hs:∀ s ∈ l,s.size<=100) :
   OdS bk N nm rs w ((wx.setCell ⟨bk f,k,none⟩ (.slice (some ⟨wx.heap.size,0,none⟩) n n)).alloc (.cells cs 9)):=by
 have:=h.setD f k hf hk hc cs l he n hn hl hs;rwa [World.setCell_alloc_past _ _ _ _ (h.o.lt f hf)] at this
theorem zcA {bk:Nat->Nat} {N:Nat} (nm:ByteArray) (ra:Option Addr) (rn rc:Nat) (i:Int) (long:ByteArray) (w:World) (h:Odw bk w) (hup:∀ f,f<5->N<=bk f/\bk f<w.heap.size) (hN:N<=w.heap.size) (hi:i<21\/42<i) :
   Calls prog 153 #[oddV bk nm (.slice ra rn rc),.int .i64 i,.string long] w fun e w'=>e=.returned (oddV bk nm (.slice ra rn rc))/\Odw bk w'/\Below N w w'/\∀ b,b<w.heap.size->(∀ f,f<5->b≠bk f)->w'.heap[b]? = w.heap[b]? := by
 have HS:=hid (zag (nm:=nm) (rs:=.slice ra rn rc) h hup hN)
 obtain ⟨t21,t22,t23,t24,t25,t26,t27,t28,t29,t30,t31,t32,t33,t34,t35,t36,t37,t38,t39,t40,t41,t42⟩:(i == 21)=false/\(i == 22)=false/\(i == 23)=false/\(i == 24)=false/\(i == 25)=false/\(i == 26)=false/\(i == 27)=false/\(i == 28)=false/\(i == 29)=false/\(i == 30)=false/\(i == 31)=false/\(i == 32)=false/\(i == 33)=false/\(i == 34)=false/\(i == 35)=false/\(i == 36)=false/\(i == 37)=false/\(i == 38)=false/\(i == 39)=false/\(i == 40)=false/\(i == 41)=false/\(i == 42)=false:=by
   simp only [beq_eq_false_iff_ne];omega
 unfold oddV;clear h hi;go_enter func153,ntmps153;go_upto_region 1 with fail;unfold zeroM at HS;generalize (w.alloc (.cells #[.string nm,.slice (some ⟨bk 0,0,none⟩) 2 2,.slice (some ⟨bk 1,0,none⟩) 3 3,.slice ra rn rc,.slice (some ⟨bk 3,0,none⟩) 11 11,.slice (some ⟨bk 4,0,none⟩) 8 8] 28)).alloc (.cells #[.string ⟨#[]⟩,.slice none 0 0,.slice none 0 0,.slice none 0 0,.slice none 0 0,.slice none 0 0] 28)=W1 at *;go_upto_region 47 with fail;refine od1 HS.o ?_
 all_goals
   intro W hW;have HW:=hid hW;obtain ⟨_,_,c0,c1,c2,c3,c4,c5,hrb,_⟩:=hW;unfold zeroM at hrb;have r0:=zh hrb 0;have r1:=zh hrb 1;have r2:=zh hrb 2;have r3:=zh hrb 3;have r4:=zh hrb 4;have r5:=zh hrb 5;have f0:=zv hrb 0;have f1:=zv hrb 1;have f2:=zv hrb 2;have f3:=zv hrb 3;have f4:=zv hrb 4;have f5:=zv hrb 5;simp only [List.getElem?_toArray,List.getElem?_cons_zero,List.getElem?_cons_succ] at r0 r1 r2 r3 r4 r5;clear hrb;go_wp2_with fail;have HD:=HW.o.done (.string nm) (.slice (some ⟨bk 0,0,none⟩) 2 2) (.slice (some ⟨bk 1,0,none⟩) 3 3) (.slice ra rn rc) (.slice (some ⟨bk 3,0,none⟩) 11 11) (.slice (some ⟨bk 4,0,none⟩) 8 8);refine bodyPost_ret (v:=.agg #[.string nm,.slice (some ⟨bk 0,0,none⟩) 2 2,.slice (some ⟨bk 1,0,none⟩) 3 3,.slice ra rn rc,.slice (some ⟨bk 3,0,none⟩) 11 11,.slice (some ⟨bk 4,0,none⟩) 8 8]) (by simp [results,results153,go_sem,r0,r1,r2,r3,r4,r5]) rfl ⟨rfl,HD.1,HD.2.1,HD.2.2⟩
theorem zeW {bk:Nat->Nat} {N:Nat} (nm:ByteArray) (i:Int) (long:ByteArray) (hl:long.size=4097) (w:World) (h:Odw bk w) (hup:∀ f,f<5->N<=bk f/\bk f<w.heap.size) (hN:N<=w.heap.size) (hi:21<=i/\i<=42) :
   Calls prog 153 #[oddV bk nm (.slice (some ⟨bk 2,0,none⟩) 3 3),.int .i64 i,.string long] w fun e w'=>e=.returned (oddV bk nm (.slice (some ⟨bk 2,0,none⟩) 3 3))/\Odw bk w'/\Below N w w'/\∀ b,b<w.heap.size->(∀ f,f<5->b≠bk f)->w'.heap[b]? = w.heap[b]? := by
 have HS:=hid (zag (nm:=nm) (rs:=.slice (some ⟨bk 2,0,none⟩) 3 3) h hup hN);unfold oddV;clear h;go_enter func153,ntmps153;go_upto_region 1 with fail;unfold zeroM at HS;generalize (w.alloc (.cells #[.string nm,.slice (some ⟨bk 0,0,none⟩) 2 2,.slice (some ⟨bk 1,0,none⟩) 3 3,.slice (some ⟨bk 2,0,none⟩) 3 3,.slice (some ⟨bk 3,0,none⟩) 11 11,.slice (some ⟨bk 4,0,none⟩) 8 8] 28)).alloc (.cells #[.string ⟨#[]⟩,.slice none 0 0,.slice none 0 0,.slice none 0 0,.slice none 0 0,.slice none 0 0] 28)=W1 at *;obtain ⟨_,_,c0,c1,c2,c3,c4,c5,_⟩:=HS.o;have hb0:=HS.o.o.lt 0 (by omega);have hb1:=HS.o.o.lt 1 (by omega);have hb2:=HS.o.o.lt 2 (by omega);have hb3:=HS.o.o.lt 3 (by omega);have hb4:=HS.o.o.lt 4 (by omega);obtain ⟨u0,q0,_⟩:=HS.o.o.cell 2 (by omega) 3 (by decide);have z0:=HS.o.o.free 2 (by omega) 3;obtain ⟨u1,q1,_⟩:=HS.o.o.cell 3 (by omega) 6 (by decide);have z1:=HS.o.o.free 3 (by omega) 6;obtain ⟨u2,q2,_⟩:=HS.o.o.cell 3 (by omega) 14 (by decide);have z2:=HS.o.o.free 3 (by omega) 14;obtain ⟨u3,q3,_⟩:=HS.o.o.cell 3 (by omega) 26 (by decide);have z3:=HS.o.o.free 3 (by omega) 26;obtain ⟨u4,q4,_⟩:=HS.o.o.cell 3 (by omega) 33 (by decide);have z4:=HS.o.o.free 3 (by omega) 33;obtain ⟨u5,q5,_⟩:=HS.o.o.cell 3 (by omega) 36 (by decide);have z5:=HS.o.o.free 3 (by omega) 36;obtain ⟨u6,q6,_⟩:=HS.o.o.cell 3 (by omega) 37 (by decide);have z6:=HS.o.o.free 3 (by omega) 37;obtain ⟨u7,q7,_⟩:=HS.o.o.cell 3 (by omega) 73 (by decide);have z7:=HS.o.o.free 3 (by omega) 73;obtain ⟨u8,q8,_⟩:=HS.o.o.cell 3 (by omega) 80 (by decide);have z8:=HS.o.o.free 3 (by omega) 80;obtain ⟨u9,q9,_⟩:=HS.o.o.cell 4 (by omega) 0 (by decide);have z9:=HS.o.o.free 4 (by omega) 0;obtain ⟨u10,q10,_⟩:=HS.o.o.cell 4 (by omega) 5 (by decide);have z10:=HS.o.o.free 4 (by omega) 5;obtain ⟨u11,q11,_⟩:=HS.o.o.cell 4 (by omega) 6 (by decide);have z11:=HS.o.o.free 4 (by omega) 6;obtain ⟨u12,q12,_⟩:=HS.o.o.cell 4 (by omega) 7 (by decide);have z12:=HS.o.o.free 4 (by omega) 7;obtain ⟨u13,q13,_⟩:=HS.o.o.cell 4 (by omega) 17 (by decide);have z13:=HS.o.o.free 4 (by omega) 17;obtain ⟨u14,q14,_⟩:=HS.o.o.cell 4 (by omega) 18 (by decide);have z14:=HS.o.o.free 4 (by omega) 18;obtain ⟨u15,q15,_⟩:=HS.o.o.cell 4 (by omega) 19 (by decide);have z15:=HS.o.o.free 4 (by omega) 19;obtain ⟨u16,q16,_⟩:=HS.o.o.cell 4 (by omega) 20 (by decide);have z16:=HS.o.o.free 4 (by omega) 20;obtain ⟨u17,q17,_⟩:=HS.o.o.cell 4 (by omega) 52 (by decide);have z17:=HS.o.o.free 4 (by omega) 52;have hs0:(4096:Int)<=(long.size:Int):=by omega
 have hs1:(4096:Nat)<=long.size:=by omega
 have hs2:¬ (long.size<4096):=by omega
 have hs3:long.size<=4097:=by omega
 have hcase:i=27\/i=21\/i=22\/i=23\/i=24\/i=25\/i=26\/i=28\/i=29\/i=30\/i=31\/i=32\/i=33\/i=34\/i=35\/i=36\/i=37\/i=38\/i=39\/i=40\/i=41\/i=42:=by omega
 clear hi
 rcases hcase with rfl | hcase
 . go_upto_region 15 with fail
   go_region
   all_goals
     go_upto_region 47 with fail;refine od1 ((HS.o.zf (below_drewN (Below.refl _ _) _)).sS 3 36 _ (by simp;omega)) ?_;intro W hW;have HW:=hid hW;obtain ⟨_,_,c0,c1,c2,c3,c4,c5,hrb,_⟩:=hW;unfold zeroM at hrb;have r0:=zh hrb 0;have r1:=zh hrb 1;have r2:=zh hrb 2;have r3:=zh hrb 3;have r4:=zh hrb 4;have r5:=zh hrb 5;have f0:=zv hrb 0;have f1:=zv hrb 1;have f2:=zv hrb 2;have f3:=zv hrb 3;have f4:=zv hrb 4;have f5:=zv hrb 5;simp only [List.getElem?_toArray,List.getElem?_cons_zero,List.getElem?_cons_succ] at r0 r1 r2 r3 r4 r5;clear hrb;go_wp2_with fail;have HD:=HW.o.done (.string nm) (.slice (some ⟨bk 0,0,none⟩) 2 2) (.slice (some ⟨bk 1,0,none⟩) 3 3) (.slice (some ⟨bk 2,0,none⟩) 3 3) (.slice (some ⟨bk 3,0,none⟩) 11 11) (.slice (some ⟨bk 4,0,none⟩) 8 8);refine bodyPost_ret (v:=.agg #[.string nm,.slice (some ⟨bk 0,0,none⟩) 2 2,.slice (some ⟨bk 1,0,none⟩) 3 3,.slice (some ⟨bk 2,0,none⟩) 3 3,.slice (some ⟨bk 3,0,none⟩) 11 11,.slice (some ⟨bk 4,0,none⟩) 8 8]) (by simp [results,results153,go_sem,r0,r1,r2,r3,r4,r5]) rfl ⟨rfl,HD.1,HD.2.1,HD.2.2⟩
 rcases hcase with rfl | rfl | rfl | rfl | rfl | rfl | rfl | rfl | rfl | rfl | rfl | rfl | rfl | rfl | rfl | rfl | rfl | rfl | rfl | rfl | rfl
 go_upto_region 47 with fail;refine od1 (HS.o.setD2 3 6 (by decide) (by decide) (by decide) #[.string ⟨#[111,112,101,110]⟩] [⟨#[111,112,101,110]⟩] rfl 1 rfl (by decide) (by decide)) ?_;rotate_left;go_upto_region 47 with fail;refine od1 (HS.o.setD2 3 14 (by decide) (by decide) (by decide) #[.string ⟨#[111,112,101,110]⟩,.string ⟨#[111,112,101,110]⟩] [⟨#[111,112,101,110]⟩,⟨#[111,112,101,110]⟩] rfl 2 rfl (by decide) (by decide)) ?_;rotate_left;go_upto_region 47 with fail;refine od1 (HS.o.setD2 3 14 (by decide) (by decide) (by decide) #[.string ⟨#[110,111,110,101]⟩] [⟨#[110,111,110,101]⟩] rfl 1 rfl (by decide) (by decide)) ?_;rotate_left;go_upto_region 47 with fail;refine od1 (HS.o.sU 3 33 0) ?_;rotate_left;go_upto_region 47 with fail;refine od1 (HS.o.sU 3 33 13) ?_;rotate_left;go_upto_region 47 with fail;refine od1 (HS.o.sS 3 37 long (by omega)) ?_;rotate_left;go_upto_region 47 with fail;refine od1 ((HS.o.sI 2 3 (3)).sI 3 26 (1)) ?_;rotate_left;go_upto_region 47 with fail;refine od1 (HS.o.sI 4 17 (-1)) ?_;rotate_left;go_upto_region 47 with fail;refine od1 (HS.o.sI 4 18 (11)) ?_;rotate_left;go_upto_region 47 with fail;refine od1 (HS.o.setD2 4 19 (by decide) (by decide) (by decide) #[.string ⟨#[111,112,101,110]⟩,.string ⟨#[108,111,99,107]⟩,.string ⟨#[111,112,101,110]⟩] [⟨#[111,112,101,110]⟩,⟨#[108,111,99,107]⟩,⟨#[111,112,101,110]⟩] rfl 3 rfl (by decide) (by decide)) ?_;rotate_left;go_upto_region 47 with fail;refine od1 (HS.o.sI 4 20 (1)) ?_;rotate_left;go_upto_region 47 with fail;refine od1 (HS.o.sI 4 52 (65535)) ?_;rotate_left;go_upto_region 47 with fail;refine od1 (HS.o.sI 4 52 (65536)) ?_;rotate_left;go_upto_region 47 with fail;refine od1 (HS.o.sI 4 52 (-1)) ?_;rotate_left;go_upto_region 47 with fail;refine od1 (HS.o.sU 4 7 0) ?_;rotate_left;go_upto_region 47 with fail;refine od1 (HS.o.sS 4 5 long (by omega)) ?_;rotate_left;go_upto_region 47 with fail;refine od1 (HS.o.sS 4 6 long (by omega)) ?_;rotate_left;go_upto_region 47 with fail;refine od1 (HS.o.sS 4 0 _) ?_;rotate_left;go_upto_region 47 with fail;refine od1 (HS.o.sS 3 80 _) ?_;rotate_left;go_upto_region 47 with fail;refine od1 (HS.o.sU 3 73 11) ?_;rotate_left;go_upto_region 47 with fail;refine od1 (HS.o.sU 3 73 6) ?_;rotate_left
 all_goals
   intro W hW;have HW:=hid hW;obtain ⟨_,_,c0,c1,c2,c3,c4,c5,hrb,_⟩:=hW;unfold zeroM at hrb;have r0:=zh hrb 0;have r1:=zh hrb 1;have r2:=zh hrb 2;have r3:=zh hrb 3;have r4:=zh hrb 4;have r5:=zh hrb 5;have f0:=zv hrb 0;have f1:=zv hrb 1;have f2:=zv hrb 2;have f3:=zv hrb 3;have f4:=zv hrb 4;have f5:=zv hrb 5;simp only [List.getElem?_toArray,List.getElem?_cons_zero,List.getElem?_cons_succ] at r0 r1 r2 r3 r4 r5;clear hrb;go_wp2_with fail;have HD:=HW.o.done (.string nm) (.slice (some ⟨bk 0,0,none⟩) 2 2) (.slice (some ⟨bk 1,0,none⟩) 3 3) (.slice (some ⟨bk 2,0,none⟩) 3 3) (.slice (some ⟨bk 3,0,none⟩) 11 11) (.slice (some ⟨bk 4,0,none⟩) 8 8);refine bodyPost_ret (v:=.agg #[.string nm,.slice (some ⟨bk 0,0,none⟩) 2 2,.slice (some ⟨bk 1,0,none⟩) 3 3,.slice (some ⟨bk 2,0,none⟩) 3 3,.slice (some ⟨bk 3,0,none⟩) 11 11,.slice (some ⟨bk 4,0,none⟩) 8 8]) (by simp [results,results153,go_sem,r0,r1,r2,r3,r4,r5]) rfl ⟨rfl,HD.1,HD.2.1,HD.2.2⟩
theorem info_Byt:(prog.info? 5).map (fun i=>(i.zero,i.size,i.bytes))=some (some (.int .u8 0),1,1):=by kernel_rfl
theorem long_str (w:World) (base g N:Nat) (hN:N=4097) (h:w.ownsRow base 5 1 (.slice (some ⟨g,0,none⟩) N N) N (madeCells (Value.int .u8 0).cells (N * 1)).toList) :
   ∃ S:ByteArray,(convert 149 9 (.slice (some ⟨g,0,none⟩) N N)).run prog w=.ok (.string S) w/\S.size=4097:=by
 have hc:=h.cells (g:=g) rfl
 have:=run_convert_bytes_arg (P:=prog) w 149 5 underlying149 underlying5 g 0 N N (List.replicate N (0:Int)) (by simp) (fun i hi=>by
   have:=hc i (.int .u8 0) (by simp [madeCells,hi,Value.cells,Nat.mod_one]);have e:(⟨g,0,none⟩:Addr).add i=⟨g,0+i,none⟩:=by simp [Addr.add];exact fun h=>h.symm
   rw [e] at this;rw [this];simp [List.getD,hi]) 9 underlying9
 exact ⟨_,this,by rw [strOfNums_size,List.length_replicate];exact hN⟩
theorem OdS.call {bk:Nat->Nat} {N:Nat} {nm:ByteArray} {rs:Value} {w W w':World} (h:OdS bk N nm rs w W) (o:Odw bk w') (b:Below N W w') (k:∀ b,b<W.heap.size->(∀ f,f<5->b≠bk f)->w'.heap[b]? = W.heap[b]?):OdS bk N nm rs w w':=by
 have hl:=h.lt;have hne:∀ f,f<5->w.heap.size≠bk f:=fun f hf=>by have:=(h.up f hf).2;omega
 have hne1:∀ f,f<5->w.heap.size+1≠bk f:=fun f hf=>by have:=(h.up f hf).2;omega
 have kb:=k w.heap.size (by omega) hne;have kc:∀ j,w'.cell? ⟨w.heap.size,j,none⟩=W.cell? ⟨w.heap.size,j,none⟩:=fun j=>World.cell?_of_block (w:=W) (a:=⟨w.heap.size,j,none⟩) kb;exact ⟨o,h.bel.trans b,(kc 0).trans h.c0,(kc 1).trans h.c1,(kc 2).trans h.c2,(kc 3).trans h.c3,(kc 4).trans h.c4,(kc 5).trans h.c5,(k _ hl hne1).trans h.rb,fun j=>(World.frozen?_of_block (w:=W) (a:=⟨w.heap.size,j,none⟩) kb).trans (h.fr j),Nat.lt_of_lt_of_le hl b.size,h.nz,h.up,fun b' hb' hn'=>(k b' (by omega) hn').trans (h.ks b' hb' hn'),h.mb.imp fun _ e=>kb.trans e⟩
theorem Odw.six {bk:Nat->Nat} {w:World} {H:Nat} {cs:Array Value} (h:Odw bk w) (hne:∀ f,f<5->H≠bk f) (hm:w.heap[H]? = some (.cells cs 28 (0,0))) (a0 a1 a2 a3 a4 a5:Value):Odw bk ((((((w.setCell ⟨H,0,none⟩ a0).setCell ⟨H,1,none⟩ a1).setCell ⟨H,2,none⟩ a2).setCell ⟨H,3,none⟩ a3).setCell ⟨H,4,none⟩ a4).setCell ⟨H,5,none⟩ a5):=by
 obtain ⟨c0,h0⟩:=jF (k:=0) (u:=a0) hm;obtain ⟨c1,h1⟩:=jF (k:=1) (u:=a1) h0;obtain ⟨c2,h2⟩:=jF (k:=2) (u:=a2) h1;obtain ⟨c3,h3⟩:=jF (k:=3) (u:=a3) h2;obtain ⟨c4,h4⟩:=jF (k:=4) (u:=a4) h3;exact (((((h.elsewhere hne hm).elsewhere hne h0).elsewhere hne h1).elsewhere hne h2).elsewhere hne h3).elsewhere hne h4
theorem zeX {bk:Nat->Nat} {N:Nat} (nm:ByteArray) (i:Int) (long:ByteArray) (hl:long.size=4097) (w:World) (h:Odw bk w) (hup:∀ f,f<5->N<=bk f/\bk f<w.heap.size) (hN:N<=w.heap.size) :
   Calls prog 153 #[oddV bk nm (.slice (some ⟨bk 2,0,none⟩) 3 3),.int .i64 i,.string long] w fun e w'=>e=.returned (oddV bk nm (.slice (some ⟨bk 2,0,none⟩) 3 3))/\Odw bk w'/\Below N w w'/\∀ b,b<w.heap.size->(∀ f,f<5->b≠bk f)->w'.heap[b]? = w.heap[b]? := by
 by_cases hi:21<=i/\i<=42
 . exact zeW nm i long hl w h hup hN hi
 . exact zcA nm _ 3 3 i long w h hup hN (by omega)
def NoR (bk:Nat->Nat) (ra:Option Addr) (rn rc:Nat):Prop:=∃ no:Bool,ra=(if no then none else some ⟨bk 2,0,none⟩)/\rn=(if no then 0 else 3)/\rc=if no then 0 else 3
theorem NoR.no (bk:Nat->Nat):NoR bk (some ⟨bk 2,0,none⟩) 3 3:=⟨false,rfl,rfl,rfl⟩
theorem NoR.yes (bk:Nat->Nat):NoR bk none 0 0:=⟨true,rfl,rfl,rfl⟩
def ChgP (bk:Nat->Nat) (N:Nat) (w:World) (e:Ending) (w':World):Prop:=∃ (nm:ByteArray) (no:Bool),nm.size<=140737488355328/\e=.returned (oddV bk nm (.slice (if no then none else some ⟨bk 2,0,none⟩) (if no then 0 else 3) (if no then 0 else 3)))/\Odw bk w'/\Below N w w'
def ChS (bk:Nat->Nat) (N:Nat) (w W:World):Prop:=∃ (nm9:ByteArray) (ra:Option Addr) (rn rc:Nat),nm9.size<=140737488355328/\Hid (NoR bk ra rn rc)/\OdS bk N nm9 (.slice ra rn rc) w W
theorem chg_of {bk:Nat->Nat} {N:Nat} {w w':World} {nm:ByteArray} {ra:Option Addr} {rn rc:Nat} (h:Hid (NoR bk ra rn rc)) (hn:nm.size<=140737488355328) (o:Odw bk w') (g:Below N w w'):ChgP bk N w (.returned (oddV bk nm (.slice ra rn rc))) w':=by
 obtain ⟨no,rfl,rfl,rfl⟩:=h.o;exact ⟨nm,no,hn,rfl,o,g⟩
theorem zds {bk:Nat->Nat} {N:Nat} (nm:ByteArray) (hnm:nm.size<=140737488355328) (i:Int) (w:World) (h:Odw bk w) (hup:∀ f,f<5->N<=bk f/\bk f<w.heap.size) (hN:N<=w.heap.size) :
   Calls prog 61 #[oddV bk nm (.slice (some ⟨bk 2,0,none⟩) 3 3),.int .i64 i] w (ChgP bk N w):=by
 obtain ⟨i8,hi8,hz0,hz1,hz2⟩:=info_parts info_Byt;have HS:=hid (zag (nm:=nm) (rs:=.slice (some ⟨bk 2,0,none⟩) 3 3) h hup hN);have HUP:=hid (fun (W:World) (hW:w.heap.size<=W.heap.size) f (hf:f<5)=>(⟨(hup f hf).1,by have:=(hup f hf).2;omega⟩:N<=bk f/\bk f<W.heap.size));have HNM:=hid hnm;have hNl:N<=w.heap.size:=hN;unfold oddV;clear h hup hnm hN;go_enter func61,ntmps61;go_upto_region 1 with fail;unfold zeroM at HS;generalize (w.alloc (.cells #[.string nm,.slice (some ⟨bk 0,0,none⟩) 2 2,.slice (some ⟨bk 1,0,none⟩) 3 3,.slice (some ⟨bk 2,0,none⟩) 3 3,.slice (some ⟨bk 3,0,none⟩) 11 11,.slice (some ⟨bk 4,0,none⟩) 8 8] 28)).alloc (.cells #[.string ⟨#[]⟩,.slice none 0 0,.slice none 0 0,.slice none 0 0,.slice none 0 0,.slice none 0 0] 28)=W1 at *;obtain ⟨L,hL⟩:∃ L:Nat,L=4097:=⟨_,rfl⟩;have hLi:(4097:Int)=(L:Int):=by omega
 have hLb:i8.bytes * L<=281474976710656:=by rw [hz2];omega
 have hLm:L<=maxLen:=by unfold maxLen;omega
 have HL:=hid hL;have HLI:=hid hLi;have HLB:=hid hLb;have HLM:=hid hLm;clear hL hLi hLb hLm;go_upto_region 3 with (at_make;refine wpList_make_full _ rfl _ _ 149 rfl W1.heap.size 5 i8 (.int .u8 0) 1 underlying149 hi8 hz0 hz1 .i64 .i64 4097 4097 L rfl rfl HLI.o HLI.o HLB.o HLM.o (Nat.le_refl _) ?_;intro wz hownz hgrowz;obtain ⟨S,hS,hSz⟩:=long_str wz _ _ L HL.o hownz;have hgz:=hid (Below.grown (Below.refl W1.heap.size W1) hgrowz (Nat.le_refl _) (fun _ h=>by cases h));clear hownz hgrowz);have HS2:=hid (HS.o.zf hgz.o);have HSz:=hid hSz;clear hS hgz HS hSz HL HLI HLB HLM;have hb0:=HS2.o.o.lt 0 (by omega);have hb1:=HS2.o.o.lt 1 (by omega);have hb2:=HS2.o.o.lt 2 (by omega);have hb3:=HS2.o.o.lt 3 (by omega);have hb4:=HS2.o.o.lt 4 (by omega);obtain ⟨u0,q0,_⟩:=HS2.o.o.cell 0 (by omega) 0 (by decide);have z0:=HS2.o.o.free 0 (by omega) 0;obtain ⟨u1,q1,_⟩:=HS2.o.o.cell 0 (by omega) 2 (by decide);have z1:=HS2.o.o.free 0 (by omega) 2;obtain ⟨u2,q2,_⟩:=HS2.o.o.cell 1 (by omega) 0 (by decide);have z2:=HS2.o.o.free 1 (by omega) 0;obtain ⟨u3,q3,_⟩:=HS2.o.o.cell 1 (by omega) 2 (by decide);have z3:=HS2.o.o.free 1 (by omega) 2;obtain ⟨u4,q4,_⟩:=HS2.o.o.cell 2 (by omega) 1 (by decide);have z4:=HS2.o.o.free 2 (by omega) 1;obtain ⟨u5,q5,_⟩:=HS2.o.o.cell 2 (by omega) 2 (by decide);have z5:=HS2.o.o.free 2 (by omega) 2;obtain ⟨u6,q6,_⟩:=HS2.o.o.cell 2 (by omega) 3 (by decide);have z6:=HS2.o.o.free 2 (by omega) 3;obtain ⟨u7,q7,_⟩:=HS2.o.o.cell 2 (by omega) 5 (by decide);have z7:=HS2.o.o.free 2 (by omega) 5;obtain ⟨u8,q8,_⟩:=HS2.o.o.cell 3 (by omega) 4 (by decide);have z8:=HS2.o.o.free 3 (by omega) 4;obtain ⟨u9,q9,_⟩:=HS2.o.o.cell 3 (by omega) 15 (by decide);have z9:=HS2.o.o.free 3 (by omega) 15;obtain ⟨u10,q10,_⟩:=HS2.o.o.cell 3 (by omega) 26 (by decide);have z10:=HS2.o.o.free 3 (by omega) 26;obtain ⟨u11,q11,_⟩:=HS2.o.o.cell 3 (by omega) 27 (by decide);have z11:=HS2.o.o.free 3 (by omega) 27;obtain ⟨u12,q12,_⟩:=HS2.o.o.cell 3 (by omega) 55 (by decide);have z12:=HS2.o.o.free 3 (by omega) 55;obtain ⟨u13,q13,_⟩:=HS2.o.o.cell 3 (by omega) 74 (by decide);have z13:=HS2.o.o.free 3 (by omega) 74;obtain ⟨u14,q14,_⟩:=HS2.o.o.cell 3 (by omega) 75 (by decide);have z14:=HS2.o.o.free 3 (by omega) 75;obtain ⟨_,_,c0,c1,c2,c3,c4,c5,_⟩:=HS2.o;have f0:=HS2.o.fr 0;have f1:=HS2.o.fr 1;have f2:=HS2.o.fr 2;have f3:=HS2.o.fr 3;have f4:=HS2.o.fr 4;have f5:=HS2.o.fr 5;have OT:=hid (fun (W:World) (o:OdS bk N nm (.slice (some ⟨bk 2,0,none⟩) 3 3) w W)=>zeX nm i S HSz.o W o.o (HUP.o W (by have:=o.lt;omega)) (by have:=o.lt;have:=o.nz;omega));have ON:=hid (fun (nm:ByteArray) (ra:Option Addr) (rn rc:Nat) (hi:i<21\/42<i) (W:World) (o:OdS bk N nm (.slice ra rn rc) w W)=>zcA nm ra rn rc i S W o.o (HUP.o W (by have:=o.lt;omega)) (by have:=o.lt;have:=o.nz;omega) hi);unfold oddV at OT ON;have hcase:i=1\/i=2\/i=3\/i=4\/i=5\/i=6\/i=7\/i=8\/i=9\/i=10\/i=11\/i=12\/i=13\/i=14\/i=15\/i=16\/i=17\/i=18\/i=19\/i=20\/(i<1\/20<i):=by omega
 rcases hcase with rfl | rfl | rfl | rfl | rfl | rfl | rfl | rfl | rfl | rfl | rfl | rfl | rfl | rfl | rfl | rfl | rfl | rfl | rfl | rfl | hcase
 go_upto_region 43 with fail;refine yk (S:=ChS bk N w) ⟨⟨#[]⟩,_,_,_,by decide,hid (NoR.no bk),HS2.o.setN ⟨#[]⟩⟩ ?_;rotate_left;go_upto_region 43 with fail;refine yk (S:=ChS bk N w) ⟨⟨#[97,32,98]⟩,_,_,_,by decide,hid (NoR.no bk),HS2.o.setN ⟨#[97,32,98]⟩⟩ ?_;rotate_left;go_upto_region 43 with fail;refine yk (S:=ChS bk N w) ⟨nm,_,_,_,HNM.o,hid (NoR.no bk),(HS2.o.sS 0 2 _)⟩ ?_;rotate_left;go_upto_region 43 with fail;refine yk (S:=ChS bk N w) ⟨nm,_,_,_,HNM.o,hid (NoR.no bk),(HS2.o.sS 0 0 _)⟩ ?_;rotate_left;go_upto_region 43 with fail;refine yk (S:=ChS bk N w) ⟨nm,_,_,_,HNM.o,hid (NoR.no bk),(HS2.o.sS 1 2 _)⟩ ?_;rotate_left;go_upto_region 43 with fail;refine yk (S:=ChS bk N w) ⟨nm,_,_,_,HNM.o,hid (NoR.no bk),(HS2.o.sS 1 0 _)⟩ ?_;rotate_left;go_upto_region 43 with fail;refine yk (S:=ChS bk N w) ⟨nm,_,_,_,HNM.o,hid (NoR.yes bk),HS2.o.setR _⟩ ?_;rotate_left;go_upto_region 43 with fail;refine yk (S:=ChS bk N w) ⟨nm,_,_,_,HNM.o,hid (NoR.no bk),(HS2.o.sI 2 1 (1))⟩ ?_;rotate_left;go_upto_region 43 with fail;refine yk (S:=ChS bk N w) ⟨nm,_,_,_,HNM.o,hid (NoR.no bk),(HS2.o.sI 2 5 (0))⟩ ?_;rotate_left;go_upto_region 43 with fail;refine yk (S:=ChS bk N w) ⟨nm,_,_,_,HNM.o,hid (NoR.no bk),(HS2.o.sI 2 3 (11))⟩ ?_;rotate_left;go_upto_region 43 with fail;refine yk (S:=ChS bk N w) ⟨nm,_,_,_,HNM.o,hid (NoR.no bk),(HS2.o.sS 2 2 _)⟩ ?_;rotate_left;go_upto_region 43 with fail;refine yk (S:=ChS bk N w) ⟨nm,_,_,_,HNM.o,hid (NoR.no bk),(HS2.o.sS 3 15 _)⟩ ?_;rotate_left;go_upto_region 43 with fail;refine yk (S:=ChS bk N w) ⟨nm,_,_,_,HNM.o,hid (NoR.no bk),(HS2.o.sS 3 55 _)⟩ ?_;rotate_left;go_upto_region 43 with fail;refine yk (S:=ChS bk N w) ⟨nm,_,_,_,HNM.o,hid (NoR.no bk),(HS2.o.sS 3 55 _)⟩ ?_;rotate_left;go_upto_region 43 with fail;refine yk (S:=ChS bk N w) ⟨nm,_,_,_,HNM.o,hid (NoR.no bk),(HS2.o.sI 3 26 (9))⟩ ?_;rotate_left;go_upto_region 43 with fail;refine yk (S:=ChS bk N w) ⟨nm,_,_,_,HNM.o,hid (NoR.no bk),(HS2.o.sI 3 27 (1))⟩ ?_;rotate_left;go_upto_region 43 with fail;refine yk (S:=ChS bk N w) ⟨nm,_,_,_,HNM.o,hid (NoR.no bk),(HS2.o.sI 3 75 (3))⟩ ?_;rotate_left;go_upto_region 43 with fail;refine yk (S:=ChS bk N w) ⟨nm,_,_,_,HNM.o,hid (NoR.no bk),(HS2.o.sI 3 75 (2))⟩ ?_;rotate_left;go_upto_region 43 with fail;refine yk (S:=ChS bk N w) ⟨nm,_,_,_,HNM.o,hid (NoR.no bk),(HS2.o.sI 3 74 (1))⟩ ?_;rotate_left;go_upto_region 43 with fail;refine yk (S:=ChS bk N w) ⟨nm,_,_,_,HNM.o,hid (NoR.no bk),(HS2.o.sS 3 4 _)⟩ ?_;rotate_left
 . obtain ⟨t1,t2,t3,t4,t5,t6,t7,t8,t9,t10,t11,t12,t13,t14,t15,t16,t17,t18,t19,t20⟩:(i == 1)=false/\(i == 2)=false/\(i == 3)=false/\(i == 4)=false/\(i == 5)=false/\(i == 6)=false/\(i == 7)=false/\(i == 8)=false/\(i == 9)=false/\(i == 10)=false/\(i == 11)=false/\(i == 12)=false/\(i == 13)=false/\(i == 14)=false/\(i == 15)=false/\(i == 16)=false/\(i == 17)=false/\(i == 18)=false/\(i == 19)=false/\(i == 20)=false:=by
     simp only [beq_eq_false_iff_ne];omega
   clear hcase;go_upto_region 43 with fail;have HW:=HS2;go_wp2_with fail;(with_reducible refine (OT.o _ HW.o).mono ?_);rintro e w9 ⟨rfl,o9,b9,k9⟩;have HNo:=hid (NoR.no bk);clear c0 c1 c2 c3 c4 c5 f0 f1 f2 f3 f4 f5;have HV:=hid (HW.o.call o9 b9 k9);clear o9 b9 k9 HW;have hrb:=HV.o.rb;unfold zeroM at hrb;have r0:=zh hrb 0;have r1:=zh hrb 1;have r2:=zh hrb 2;have r3:=zh hrb 3;have r4:=zh hrb 4;have r5:=zh hrb 5;have f0:=zv hrb 0;have f1:=zv hrb 1;have f2:=zv hrb 2;have f3:=zv hrb 3;have f4:=zv hrb 4;have f5:=zv hrb 5;simp only [List.getElem?_toArray,List.getElem?_cons_zero,List.getElem?_cons_succ] at r0 r1 r2 r3 r4 r5;clear hrb;go_wp2_with fail;have HD:=HV.o.done (.string nm) (.slice (some ⟨bk 0,0,none⟩) 2 2) (.slice (some ⟨bk 1,0,none⟩) 3 3) (.slice (some ⟨bk 2,0,none⟩) 3 3) (.slice (some ⟨bk 3,0,none⟩) 11 11) (.slice (some ⟨bk 4,0,none⟩) 8 8);refine bodyPost_ret (v:=oddV bk nm (.slice (some ⟨bk 2,0,none⟩) 3 3)) (by simp [results,results61,go_sem,r0,r1,r2,r3,r4,r5,oddV]) rfl (chg_of HNo HNM.o HD.1 HD.2.1)
 all_goals
   intro W hW;obtain ⟨nm9,ra,rn,rc,hnm9,HNo,hW⟩:=hW;have HW:=hid hW;clear hW c0 c1 c2 c3 c4 c5 f0 f1 f2 f3 f4 f5;obtain ⟨_,_,c0,c1,c2,c3,c4,c5,_⟩:=HW.o;have f0:=HW.o.fr 0;have f1:=HW.o.fr 1;have f2:=HW.o.fr 2;have f3:=HW.o.fr 3;have f4:=HW.o.fr 4;have f5:=HW.o.fr 5;go_wp2_with fail;(with_reducible refine (ON.o nm9 ra rn rc (by omega) W HW.o).mono ?_);rintro e w9 ⟨rfl,o9,b9,k9⟩;clear c0 c1 c2 c3 c4 c5 f0 f1 f2 f3 f4 f5;have HV:=hid (HW.o.call o9 b9 k9);clear o9 b9 k9 HW;have hrb:=HV.o.rb;unfold zeroM at hrb;have r0:=zh hrb 0;have r1:=zh hrb 1;have r2:=zh hrb 2;have r3:=zh hrb 3;have r4:=zh hrb 4;have r5:=zh hrb 5;have f0:=zv hrb 0;have f1:=zv hrb 1;have f2:=zv hrb 2;have f3:=zv hrb 3;have f4:=zv hrb 4;have f5:=zv hrb 5;simp only [List.getElem?_toArray,List.getElem?_cons_zero,List.getElem?_cons_succ] at r0 r1 r2 r3 r4 r5;clear hrb;go_wp2_with fail;have HD:=HV.o.done (.string nm9) (.slice (some ⟨bk 0,0,none⟩) 2 2) (.slice (some ⟨bk 1,0,none⟩) 3 3) (.slice ra rn rc) (.slice (some ⟨bk 3,0,none⟩) 11 11) (.slice (some ⟨bk 4,0,none⟩) 8 8);refine bodyPost_ret (v:=oddV bk nm9 (.slice ra rn rc)) (by simp [results,results61,go_sem,r0,r1,r2,r3,r4,r5,oddV]) rfl (chg_of HNo hnm9 HD.1 HD.2.1)
def AnyP (w:World) (e:Ending) (w':World):Prop:=∃ (m:MdlD) (p:Ph),e=.returned (mdV m p)/\MdlOk m/\Mod anyM w' m p/\Bl w w'
theorem odd_any (i:Int) (w:World):Calls prog 9 #[.int .i64 i] w (AnyP w):=by
 have HL:=hid (zcB (w.alloc zeroM))
 have HC:=hid (fun (wx:World) (h:Mod (doorQ (w.alloc zeroM).heap.size) wx doorM (doorP (w.alloc zeroM).heap.size)) (g:Below (w.alloc zeroM).heap.size (w.alloc zeroM) wx) (hf:∀ f,f<5->∀ k,wx.frozen? ⟨bkD (w.alloc zeroM).heap.size f,k,none⟩=false)=>show Calls prog 61 #[mdV doorM (doorP (w.alloc zeroM).heap.size),.int .i64 i] wx (ChgP (bkD (w.alloc zeroM).heap.size) (w.alloc zeroM).heap.size wx) from zds (bk:=bkD (w.alloc zeroM).heap.size) (N:=(w.alloc zeroM).heap.size) doorM.nm (by decide) i wx (zcz h hf) (fun f hf5=>⟨by
   have:f=0\/f=1\/f=2\/f=3\/f=4:=by omega
   rcases this with rfl | rfl | rfl | rfl | rfl <;> simp only [bkD] <;> omega,(zcz h hf).lt f hf5⟩) g.size)
 have HZ:Hid ((w.alloc zeroM).heap[w.heap.size]? = some zeroM):=hid (World.alloc_heap_new w _);have HB:=hid (zg w zeroM);have hsz:Hid (w.heap.size<(w.alloc zeroM).heap.size):=hid (by simp)
 have HNe:Hid (∀ f,f<5->w.heap.size≠bkD (w.alloc zeroM).heap.size f):=hid (fun f hf5=>by
   have:(w.alloc zeroM).heap.size=w.heap.size+1:=by simp
   have:f=0\/f=1\/f=2\/f=3\/f=4:=by omega
   rcases this with rfl | rfl | rfl | rfl | rfl <;> simp only [bkD] <;> omega)
 unfold zeroM at HL HC HZ HB hsz HNe;unfold AnyP;go_enter func9,ntmps9;go_upto_region 1 with fail;generalize w.alloc (.cells #[.string ⟨#[]⟩,.slice none 0 0,.slice none 0 0,.slice none 0 0,.slice none 0 0,.slice none 0 0] 28)=W1 at *;go_wp2_with fail;(with_reducible refine (HL.o).mono ?_);rintro e w2 ⟨rfl,hm,g2,hf⟩;have HG:=hid g2;have HCh:=hid (HC.o w2 hm g2 hf);clear hm g2 hf HL HC;generalize mdV doorM (doorP W1.heap.size)=dv at HCh |-;go_wp2_with fail;(with_reducible refine (HCh.o).mono ?_);rintro e w3 ⟨nm,no,hn,rfl,o3,b3⟩;have HO:=hid o3;have HB3:=hid (HG.o.trans b3);have hrb:=(HB3.o.block w.heap.size hsz.o).trans HZ.o;have HRb:=hid hrb;have HNM:=hid hn;have r0:=zh hrb 0;have r1:=zh hrb 1;have r2:=zh hrb 2;have r3:=zh hrb 3;have r4:=zh hrb 4;have r5:=zh hrb 5;have f0:=zv hrb 0;have f1:=zv hrb 1;have f2:=zv hrb 2;have f3:=zv hrb 3;have f4:=zv hrb 4;have f5:=zv hrb 5;simp only [List.getElem?_toArray,List.getElem?_cons_zero,List.getElem?_cons_succ] at r0 r1 r2 r3 r4 r5;clear hrb o3 b3 hn HCh;unfold oddV;obtain ⟨ra,hra⟩:∃ ra:Option Addr,(if no then none else some ⟨bkD W1.heap.size 2,0,none⟩)=ra:=⟨_,rfl⟩;obtain ⟨rn,hrn⟩:∃ rn:Nat,(if no then 0 else 3)=rn:=⟨_,rfl⟩;rw [hra,hrn];have Hra:=hid hra;have Hrn:=hid hrn;clear hra hrn;go_wp2_with fail;have O6:=HO.o.six HNe.o HRb.o (.string nm) (.slice (some ⟨bkD W1.heap.size 0,0,none⟩) 2 2) (.slice (some ⟨bkD W1.heap.size 1,0,none⟩) 3 3) (.slice ra rn rn) (.slice (some ⟨bkD W1.heap.size 3,0,none⟩) 11 11) (.slice (some ⟨bkD W1.heap.size 4,0,none⟩) 8 8);obtain ⟨m,e1,e2,e3,e4,e5,e6,hok,hmod⟩:=O6.mod nm HNM.o no
 have hv:oddV (bkD W1.heap.size) nm (.slice ra rn rn)=mdV m ⟨some ⟨bkD W1.heap.size 0,0,none⟩,2,some ⟨bkD W1.heap.size 1,0,none⟩,3,if no then none else some ⟨bkD W1.heap.size 2,0,none⟩,if no then 0 else 3,some ⟨bkD W1.heap.size 3,0,none⟩,11,some ⟨bkD W1.heap.size 4,0,none⟩,8⟩:=by
   unfold oddV mdV;rw [e1,e2,e3,e4,e5,e6,Hra.o,Hrn.o]
 refine bodyPost_ret (v:=oddV (bkD W1.heap.size) nm (.slice ra rn rn)) (by simp [results,results9,go_sem,r0,r1,r2,r3,r4,r5,oddV]) rfl ⟨m,_,by rw [hv],hok,hmod,?_⟩;exact ((((((HB.o.trans (HB3.o.mono (Nat.le_of_lt hsz.o))).setCell (p:=⟨w.heap.size,0,none⟩) (Nat.le_refl _) _).setCell (p:=⟨w.heap.size,1,none⟩) (Nat.le_refl _) _).setCell (p:=⟨w.heap.size,2,none⟩) (Nat.le_refl _) _).setCell (p:=⟨w.heap.size,3,none⟩) (Nat.le_refl _) _).setCell (p:=⟨w.heap.size,4,none⟩) (Nat.le_refl _) _).setCell (p:=⟨w.heap.size,5,none⟩) (Nat.le_refl _) _
end Go.Proofs
