/- The door with one thing another one: cells of such kinds; no matter which. -/
import Derived.Test.YtiimoclbmaggjaaGreatDoorHIxVX
namespace Go.Proofs
open Go.RowKit Go.Lx Go.Md Go.Shelf
set_option linter.unusedVariables false
def kF:Nat→Nat→Nat
 | 0,k=>k % 2
 | 1,_=>0
 | 2,k=>k % 2
 | 3,k=>[0,2,1,1,0,0,3,0].getD (k % 8) 0
 | _,k=>[0,1,1,3,1,0,0,2].getD (k % 8) 0
def sF:Nat→Nat
 | 0=>4
 | 1=>3
 | 2=>6
 | 3=>88
 | _=>64
def txtB (bk:Nat→Nat):BP:=fun b o=>(∀ f,f<5→b≠bk f)∧∃ cs fr,o=some (.cells cs 9 fr)
def OkD (bk:Nat→Nat) (w:World) (u:Value):Prop:=∃ l:List ByteArray,SlS (txtB bk) w u l∧l.length≤140737488355328∧∀ s ∈ l,s.size≤140737488355328
def OkV (bk:Nat→Nat) (w:World) (u:Value):Nat→Prop
 | 0=>∃ s:ByteArray,u=.string s∧s.size≤140737488355328
 | 1=>∃ x:Int,u=.int .i64 x∧-9223372036854775808≤x∧x≤9223372036854775807
 | 2=>∃ k:Nat,u=.int .u8 (k:Int)∧k<256
 | _=>OkD bk w u
theorem OkV.kept {bk:Nat→Nat} {w w':World} {u:Value} {c:Nat} (h:OkV bk w u c) (hk:Kept (txtB bk) w w'):OkV bk w' u c:=by
 match c,h with
 | 0,h=>exact h
 | 1,h=>exact h
 | 2,h=>exact h
 | _+3,⟨l,h1,h2,h3⟩=>exact ⟨l,h1.kept hk,h2,h3⟩
structure Odw (bk:Nat→Nat) (w:World):Prop where
 cell:∀ f,f<5→∀ k,k<sF f→∃ u,w.cell? ⟨bk f,k,none⟩=some u∧OkV bk w u (kF f k)
 free:∀ f,f<5→∀ k,w.frozen? ⟨bk f,k,none⟩=false
 ne:∀ f g,f<5→g<5→f≠g→bk f≠bk g
 lt:∀ f,f<5→bk f<w.heap.size
theorem Odw.below {bk:Nat→Nat} {w w':World} (h:Odw bk w) (g:Below w.heap.size w w'):Odw bk w' :=
 ⟨fun f hf k hk=>by
   obtain ⟨u,h1,h2⟩:=h.cell f hf k hk
   exact ⟨u,(g.cell (p:=⟨bk f,k,none⟩) (h.lt f hf)).trans h1,h2.kept (Kept.of_below g)⟩,fun f hf k=>(g.frozen (p:=⟨bk f,k,none⟩) (h.lt f hf)).trans (h.free f hf k),h.ne,fun f hf=>Nat.lt_of_lt_of_le (h.lt f hf) g.size⟩
theorem Odw.set {bk:Nat→Nat} {w:World} (h:Odw bk w) (f k:Nat) (hf:f<5) (hk:k<sF f) {u:Value} (hu:OkV bk w u (kF f k)):Odw bk (w.setCell ⟨bk f,k,none⟩ u):=by
 have hkp:Kept (txtB bk) w (w.setCell ⟨bk f,k,none⟩ u):=Kept.setCell fun o ho=>ho.1 f hf rfl
 refine ⟨fun f' hf' k' hk'=>?_,fun f' hf' k'=>by rw [World.frozen?_setCell];exact h.free f' hf' k',h.ne,fun f' hf'=>by rw [World.size_setCell];exact h.lt f' hf'⟩
 obtain ⟨v,h1,h2⟩:=h.cell f' hf' k' hk'
 by_cases e:f'=f∧k'=k
 · obtain ⟨rfl,rfl⟩:=e
   exact ⟨u,World.cell?_setCell_same _ _ _ h1,hu.kept hkp⟩
 · refine ⟨v,?_,h2.kept hkp⟩
   rw [World.cell?_setCell_other _ _ _ _ ?_]
   · exact h1
   · intro e2
     simp only [Addr.mk.injEq,and_true] at e2
     by_cases ef:f'=f
     · subst ef;exact e ⟨rfl,by omega⟩
     · first | exact h.ne f' f hf' hf ef e2.1 | exact h.ne f' f hf' hf ef e2.1.symm
theorem list_of {α:Type} (P:Nat→α→Prop):∀ n:Nat,(∀ i,i<n→∃ x,P i x)→∃ l:List α,l.length=n∧∀ i (hi:i<l.length),P i l[i]
 | 0,_=>⟨[],rfl,fun i hi=>absurd hi (by simp)⟩
 | n+1,h=>by
   obtain ⟨l,hl,hp⟩:=list_of P n fun i hi=>h i (by omega)
   obtain ⟨x,hx⟩:=h n (by omega)
   refine ⟨l ++ [x],by simp [hl],fun i hi=>?_⟩
   by_cases e:i<l.length
   · rw [List.getElem_append_left e];exact hp i e
   · have e2:i=l.length:=by simp at hi;omega
     subst e2
     simp only [List.getElem_append_right (Nat.le_refl _),Nat.sub_self,List.getElem_cons_zero]
     rw [hl];exact hx
theorem Odw.at {bk:Nat→Nat} {w:World} (h:Odw bk w) (f i j n c:Nat) (hf:f<5) (hk:i * n+j<sF f) (hc:kF f (i * n+j)=c):∃ u,w.cell? ⟨bk f,0+i * n+j,none⟩=some u∧OkV bk w u c:=by
 rw [Nat.zero_add,← hc];exact h.cell f hf _ hk
theorem Odw.str {bk:Nat→Nat} {w:World} (h:Odw bk w) (f i j n:Nat) (hf:f<5) (hk:i * n+j<sF f) (hc:kF f (i * n+j)=0):∃ s:ByteArray,w.cell? ⟨bk f,0+i * n+j,none⟩=some (.string s)∧s.size≤140737488355328:=by
 obtain ⟨_,h1,s,rfl,h2⟩:=h.at f i j n 0 hf hk hc
 exact ⟨s,h1,h2⟩
theorem Odw.num {bk:Nat→Nat} {w:World} (h:Odw bk w) (f i j n:Nat) (hf:f<5) (hk:i * n+j<sF f) (hc:kF f (i * n+j)=1):∃ x:Int,w.cell? ⟨bk f,0+i * n+j,none⟩=some (.int .i64 x)∧-9223372036854775808≤x∧x≤9223372036854775807:=by
 obtain ⟨_,h1,s,rfl,h2⟩:=h.at f i j n 1 hf hk hc
 exact ⟨s,h1,h2⟩
theorem Odw.knd {bk:Nat→Nat} {w:World} (h:Odw bk w) (f i j n:Nat) (hf:f<5) (hk:i * n+j<sF f) (hc:kF f (i * n+j)=2):∃ x:Nat,w.cell? ⟨bk f,0+i * n+j,none⟩=some (.int .u8 (x:Int))∧x<256:=by
 obtain ⟨_,h1,s,rfl,h2⟩:=h.at f i j n 2 hf hk hc
 exact ⟨s,h1,h2⟩
theorem Odw.row {bk:Nat→Nat} {w:World} (h:Odw bk w) (f i j n:Nat) (hf:f<5) (hk:i * n+j<sF f) (hc:kF f (i * n+j)=3):∃ dv l,w.cell? ⟨bk f,0+i * n+j,none⟩=some dv∧SlS anyB w dv l∧l.length≤140737488355328∧∀ s ∈ l,s.size≤140737488355328:=by
 obtain ⟨u,h1,l,h2,h3⟩:=h.at f i j n 3 hf hk hc
 exact ⟨u,l,h1,h2.weaken fun _ _ _=>trivial,h3⟩
theorem k8 (f i j:Nat) (hj:j<8) (hf:f=3∨f=4):kF f (i * 8+j)=kF f j:=by
 have e:(i * 8+j) % 8=j % 8:=by omega
 rcases hf with rfl | rfl <;> simp only [kF,e]
theorem k2 (f i j:Nat) (hf:f=0∨f=2):kF f (i * 2+j)=kF f j:=by
 have e:(i * 2+j) % 2=j % 2:=by omega
 rcases hf with rfl | rfl <;> simp only [kF,e]
theorem Odw.mod {bk:Nat→Nat} {w:World} (h:Odw bk w) (nm:ByteArray) (hnm:nm.size≤140737488355328) (no:Bool) :
   ∃ m:MdlD,m.nm=nm∧m.vars.length=2∧m.evs.length=3∧m.regs.length=(if no then 0 else 3)∧m.vers.length=11∧m.trns.length=8∧MdlOk m∧Mod anyM w m ⟨some ⟨bk 0,0,none⟩,2,some ⟨bk 1,0,none⟩,3,if no then none else some ⟨bk 2,0,none⟩,if no then 0 else 3,some ⟨bk 3,0,none⟩,11,some ⟨bk 4,0,none⟩,8⟩:=by
 obtain ⟨lv,hv,pv⟩:=list_of (fun i (x:VarD)=>VarE w (bk 0) (0+i * 2) x∧x.nm.size≤140737488355328) 2 fun i hi=>by
   obtain ⟨s,h1,h2⟩:=h.str 0 i 0 2 (by omega) (by simp only [sF];omega) (k2 0 i 0 (.inl rfl))
   obtain ⟨x,h3,_⟩:=h.num 0 i 1 2 (by omega) (by simp only [sF];omega) (k2 0 i 1 (.inl rfl))
   exact ⟨⟨s,x⟩,⟨h1,h3⟩,h2⟩
 obtain ⟨le,he,pe⟩:=list_of (fun i (s:ByteArray)=>w.cell? ⟨bk 1,0+i,none⟩=some (.string s)∧s.size≤140737488355328) 3 fun i hi=>by
   obtain ⟨s,h1,h2⟩:=h.str 1 i 0 1 (by omega) (by simp only [sF];omega) rfl
   exact ⟨s,by simpa using h1,h2⟩
 obtain ⟨lr,hr,pr⟩:=list_of (fun i (x:RegD)=>RegE w (bk 2) (0+i * 2) x∧x.nm.size≤140737488355328∧-9223372036854775808≤x.own∧x.own≤9223372036854775807) 3 fun i hi=>by
   obtain ⟨s,h1,h2⟩:=h.str 2 i 0 2 (by omega) (by simp only [sF];omega) (k2 2 i 0 (.inr rfl))
   obtain ⟨x,h3,h4⟩:=h.num 2 i 1 2 (by omega) (by simp only [sF];omega) (k2 2 i 1 (.inr rfl))
   exact ⟨⟨s,x⟩,⟨h1,h3⟩,h2,h4⟩
 obtain ⟨lx,hx,px⟩:=list_of (fun i (x:VerD)=>VerE anyB w (bk 3) (0+i * 8) x∧VerOk x) 11 fun i hi=>by
   obtain ⟨s0,a0,b0⟩:=h.str 3 i 0 8 (by omega) (by simp only [sF];omega) (k8 3 i 0 (by omega) (.inl rfl))
   obtain ⟨s1,a1,b1⟩:=h.knd 3 i 1 8 (by omega) (by simp only [sF];omega) (k8 3 i 1 (by omega) (.inl rfl))
   obtain ⟨s2,a2,b2⟩:=h.num 3 i 2 8 (by omega) (by simp only [sF];omega) (k8 3 i 2 (by omega) (.inl rfl))
   obtain ⟨s3,a3,b3⟩:=h.num 3 i 3 8 (by omega) (by simp only [sF];omega) (k8 3 i 3 (by omega) (.inl rfl))
   obtain ⟨s4,a4,b4⟩:=h.str 3 i 4 8 (by omega) (by simp only [sF];omega) (k8 3 i 4 (by omega) (.inl rfl))
   obtain ⟨s5,a5,b5⟩:=h.str 3 i 5 8 (by omega) (by simp only [sF];omega) (k8 3 i 5 (by omega) (.inl rfl))
   obtain ⟨dv,s6,a6,b6,b6'⟩:=h.row 3 i 6 8 (by omega) (by simp only [sF];omega) (k8 3 i 6 (by omega) (.inl rfl))
   obtain ⟨s7,a7,b7⟩:=h.str 3 i 7 8 (by omega) (by simp only [sF];omega) (k8 3 i 7 (by omega) (.inl rfl))
   exact ⟨⟨s0,s1,s2,s3,s4,s5,s6,s7⟩,⟨dv,b6,a0,a1,a2,a3,a4,a5,a6,a7⟩,⟨b0,b1,b4,b5,b6'.1,b6'.2,b7,b2,b3⟩⟩
 obtain ⟨lt,ht,pt⟩:=list_of (fun i (x:TrnD)=>TrnE anyB w (bk 4) (0+i * 8) x∧TrnOk x) 8 fun i hi=>by
   obtain ⟨s0,a0,b0⟩:=h.str 4 i 0 8 (by omega) (by simp only [sF];omega) (k8 4 i 0 (by omega) (.inr rfl))
   obtain ⟨s1,a1,b1⟩:=h.num 4 i 1 8 (by omega) (by simp only [sF];omega) (k8 4 i 1 (by omega) (.inr rfl))
   obtain ⟨s2,a2,b2⟩:=h.num 4 i 2 8 (by omega) (by simp only [sF];omega) (k8 4 i 2 (by omega) (.inr rfl))
   obtain ⟨dv,s3,a3,b3,b3'⟩:=h.row 4 i 3 8 (by omega) (by simp only [sF];omega) (k8 4 i 3 (by omega) (.inr rfl))
   obtain ⟨s4,a4,b4⟩:=h.num 4 i 4 8 (by omega) (by simp only [sF];omega) (k8 4 i 4 (by omega) (.inr rfl))
   obtain ⟨s5,a5,b5⟩:=h.str 4 i 5 8 (by omega) (by simp only [sF];omega) (k8 4 i 5 (by omega) (.inr rfl))
   obtain ⟨s6,a6,b6⟩:=h.str 4 i 6 8 (by omega) (by simp only [sF];omega) (k8 4 i 6 (by omega) (.inr rfl))
   obtain ⟨s7,a7,b7⟩:=h.knd 4 i 7 8 (by omega) (by simp only [sF];omega) (k8 4 i 7 (by omega) (.inr rfl))
   exact ⟨⟨s0,s1,s2,s3,s4,s5,s6,s7⟩,⟨dv,b3,a0,a1,a2,a3,a4,a5,a6,a7⟩,⟨b0,b7,b5,b6,b3'.1,b3'.2,b1,b2,b4⟩⟩
 have sv:Sl anyB 2 VarE w (.slice (some ⟨bk 0,0,none⟩) 2 2) lv:=.inr ⟨bk 0,0,2,by rw [hv],by omega,h.lt 0 (by omega),trivial,fun i hi=>(pv i hi).1⟩
 have se:SlS anyB w (.slice (some ⟨bk 1,0,none⟩) 3 3) le:=.inr ⟨bk 1,0,3,by rw [he],by omega,h.lt 1 (by omega),trivial,fun i hi=>(pe i hi).1⟩
 have sr:Sl anyB 2 RegE w (.slice (some ⟨bk 2,0,none⟩) 3 3) lr:=.inr ⟨bk 2,0,3,by rw [hr],by omega,h.lt 2 (by omega),trivial,fun i hi=>(pr i hi).1⟩
 have sx:Sl anyB 8 (VerE anyB) w (.slice (some ⟨bk 3,0,none⟩) 11 11) lx:=.inr ⟨bk 3,0,11,by rw [hx],by omega,h.lt 3 (by omega),trivial,fun i hi=>(px i hi).1⟩
 have st:Sl anyB 8 (TrnE anyB) w (.slice (some ⟨bk 4,0,none⟩) 8 8) lt:=.inr ⟨bk 4,0,8,by rw [ht],by omega,h.lt 4 (by omega),trivial,fun i hi=>(pt i hi).1⟩
 have fv:∀ x ∈ lv,x.nm.size≤140737488355328:=fun x hx=>by obtain ⟨i,hi,rfl⟩:=List.getElem_of_mem hx;exact (pv i hi).2
 have fe:∀ x ∈ le,x.size≤140737488355328:=fun x hx=>by obtain ⟨i,hi,rfl⟩:=List.getElem_of_mem hx;exact (pe i hi).2
 have fr:∀ x ∈ lr,x.nm.size≤140737488355328:=fun x hx=>by obtain ⟨i,hi,rfl⟩:=List.getElem_of_mem hx;exact (pr i hi).2.1
 have fo:∀ x ∈ lr,-9223372036854775808≤x.own∧x.own≤9223372036854775807:=fun x hx=>by obtain ⟨i,hi,rfl⟩:=List.getElem_of_mem hx;exact (pr i hi).2.2
 have fx:∀ x ∈ lx,VerOk x:=fun x hx=>by obtain ⟨i,hi,rfl⟩:=List.getElem_of_mem hx;exact (px i hi).2
 have ft:∀ x ∈ lt,TrnOk x:=fun x hx=>by obtain ⟨i,hi,rfl⟩:=List.getElem_of_mem hx;exact (pt i hi).2
 cases no with
 | false =>
  refine ⟨⟨nm,lv,le,lr,lx,lt⟩,rfl,hv,he,hr,hx,ht,⟨hnm,by show lv.length≤_;omega,fv,by show le.length≤_;omega,fe,by show lr.length≤_;omega,fr,fo,by show lx.length≤_;omega,fx,by show lt.length≤_;omega,ft⟩,⟨?_,?_,?_,?_,?_⟩⟩
  · show Sl anyB 2 VarE w (.slice _ lv.length _) lv;rw [hv];exact sv
  · show SlS anyB w (.slice _ le.length _) le;rw [he];exact se
  · show Sl anyB 2 RegE w (.slice _ lr.length _) lr;rw [hr];exact sr
  · show Sl anyB 8 (VerE anyB) w (.slice _ lx.length _) lx;rw [hx];exact sx
  · show Sl anyB 8 (TrnE anyB) w (.slice _ lt.length _) lt;rw [ht];exact st
 | true =>
  refine ⟨⟨nm,lv,le,[],lx,lt⟩,rfl,hv,he,rfl,hx,ht,⟨hnm,by show lv.length≤_;omega,fv,by show le.length≤_;omega,fe,by simp,fun _ h=>absurd h (by simp),fun _ h=>absurd h (by simp),by show lx.length≤_;omega,fx,by show lt.length≤_;omega,ft⟩,⟨?_,?_,?_,?_,?_⟩⟩
  · show Sl anyB 2 VarE w (.slice _ lv.length _) lv;rw [hv];exact sv
  · show SlS anyB w (.slice _ le.length _) le;rw [he];exact se
  · exact .inl ⟨_,_,rfl,rfl⟩
  · show Sl anyB 8 (VerE anyB) w (.slice _ lx.length _) lx;rw [hx];exact sx
  · show Sl anyB 8 (TrnE anyB) w (.slice _ lt.length _) lt;rw [ht];exact st
theorem div_mod2 {k n:Nat} (h:k<n * 2):∃ i j,i<n∧j<2∧k=i * 2+j:=⟨k / 2,k % 2,by omega,by omega,by omega⟩
theorem div_mod8 {k n:Nat} (h:k<n * 8):∃ i j,i<n∧j<8∧k=i * 8+j:=⟨k / 8,k % 8,by omega,by omega,by omega⟩
theorem door_far (N:Nat) {j b:Nat} {o:Option Obj} (hj:5≤j) (h:doorQ N j b o):txtB (bkD N) b o:=by
 obtain ⟨h2,h3⟩:(b=N+4∨(N+6≤b∧b≤N+9))∧∃ cs fr,o=some (.cells cs 9 fr):=by
   match j,hj,h with
   | j+5,_,h=>simp only [doorQ] at h;exact h
 refine ⟨?_,h3⟩
 intro f hf
 have:f=0∨f=1∨f=2∨f=3∨f=4:=by omega
 rcases this with rfl | rfl | rfl | rfl | rfl <;> simp only [bkD] <;> omega
theorem odw_door {N:Nat} {w:World} (h:Mod (doorQ N) w doorM (doorP N)) (hf:∀ f,f<5→∀ k,w.frozen? ⟨bkD N f,k,none⟩=false):Odw (bkD N) w:=by
 have hm:=door_ok
 refine ⟨fun f hf5 k hk=>?_,hf,fun f g hf hg hne=>?_,fun f hf5=>?_⟩
 · have:f=0∨f=1∨f=2∨f=3∨f=4:=by omega
   rcases this with rfl | rfl | rfl | rfl | rfl
   · obtain ⟨i,j,hi,hj,rfl⟩:=div_mod2 (n:=2) hk
     obtain ⟨b,off,ea,_,h1,h2⟩:=h.vars.get (k:=i) hi
     simp only [doorP,Option.some.injEq,Addr.mk.injEq,and_true] at ea
     obtain ⟨rfl,rfl⟩:=ea
     rw [k2 0 i j (.inl rfl)]
     rw [Nat.zero_add] at h1 h2
     have:j=0∨j=1:=by omega
     rcases this with rfl | rfl
     · exact ⟨_,h1,_,rfl,hm.varn _ (List.getElem_mem _)⟩
     · exact ⟨_,h2,_,rfl,i64B_of (List.all_eq_true.1 (show (doorM.vars.all fun x=>intOkB x.ini)=true by kernel_rfl) _ (List.getElem_mem _))⟩
   · obtain ⟨b,off,ea,_,h1⟩:=h.evs.get (k:=k) hk
     simp only [doorP,Option.some.injEq,Addr.mk.injEq,and_true] at ea
     obtain ⟨rfl,rfl⟩:=ea
     rw [Nat.zero_add] at h1
     exact ⟨_,h1,_,rfl,hm.evn _ (List.getElem_mem _)⟩
   · obtain ⟨i,j,hi,hj,rfl⟩:=div_mod2 (n:=3) hk
     obtain ⟨b,off,ea,_,h1,h2⟩:=h.regs.get (k:=i) hi
     simp only [doorP,Option.some.injEq,Addr.mk.injEq,and_true] at ea
     obtain ⟨rfl,rfl⟩:=ea
     rw [k2 2 i j (.inr rfl)]
     rw [Nat.zero_add] at h1 h2
     have:j=0∨j=1:=by omega
     rcases this with rfl | rfl
     · exact ⟨_,h1,_,rfl,hm.regn _ (List.getElem_mem _)⟩
     · exact ⟨_,h2,_,rfl,hm.rego _ (List.getElem_mem _)⟩
   · obtain ⟨i,j,hi,hj,rfl⟩:=div_mod8 (n:=11) hk
     obtain ⟨b,off,ea,_,dv,h8,h0,h1,h2,h3,h4,h5,h6,h7⟩:=h.vers.get (k:=i) hi
     simp only [doorP,Option.some.injEq,Addr.mk.injEq,and_true] at ea
     obtain ⟨rfl,rfl⟩:=ea
     rw [k8 3 i j hj (.inl rfl)]
     rw [Nat.zero_add] at h0 h1 h2 h3 h4 h5 h6 h7
     have hv:=hm.verx _ (List.getElem_mem (l:=doorM.vers) (n:=i) hi)
     have:j=0∨j=1∨j=2∨j=3∨j=4∨j=5∨j=6∨j=7:=by omega
     rcases this with rfl | rfl | rfl | rfl | rfl | rfl | rfl | rfl
     · exact ⟨_,h0,_,rfl,hv.nm⟩
     · exact ⟨_,h1,_,rfl,hv.kd⟩
     · exact ⟨_,h2,_,rfl,hv.rg⟩
     · exact ⟨_,h3,_,rfl,hv.ofv⟩
     · exact ⟨_,h4,_,rfl,hv.en⟩
     · exact ⟨_,h5,_,rfl,hv.ex⟩
     · exact ⟨_,h6,_,h8.weaken (fun b _ hb=>door_far N (Nat.le_refl 5) hb),hv.df,hv.dfs⟩
     · exact ⟨_,h7,_,rfl,hv.sb⟩
   · obtain ⟨i,j,hi,hj,rfl⟩:=div_mod8 (n:=8) hk
     obtain ⟨b,off,ea,_,dv,h8,h0,h1,h2,h3,h4,h5,h6,h7⟩:=h.trns.get (k:=i) hi
     simp only [doorP,Option.some.injEq,Addr.mk.injEq,and_true] at ea
     obtain ⟨rfl,rfl⟩:=ea
     rw [k8 4 i j hj (.inr rfl)]
     rw [Nat.zero_add] at h0 h1 h2 h3 h4 h5 h6 h7
     have hv:=hm.trnx _ (List.getElem_mem (l:=doorM.trns) (n:=i) hi)
     have:j=0∨j=1∨j=2∨j=3∨j=4∨j=5∨j=6∨j=7:=by omega
     rcases this with rfl | rfl | rfl | rfl | rfl | rfl | rfl | rfl
     · exact ⟨_,h0,_,rfl,hv.nm⟩
     · exact ⟨_,h1,_,rfl,hv.src⟩
     · exact ⟨_,h2,_,rfl,hv.tgt⟩
     · exact ⟨_,h3,_,h8.weaken (fun b _ hb=>door_far N (by omega) hb),hv.tr,hv.trs⟩
     · exact ⟨_,h4,_,rfl,hv.af⟩
     · exact ⟨_,h5,_,rfl,hv.gd⟩
     · exact ⟨_,h6,_,rfl,hv.ef⟩
     · exact ⟨_,h7,_,rfl,hv.kd⟩
 · have h1:f=0∨f=1∨f=2∨f=3∨f=4:=by omega
   have h2:g=0∨g=1∨g=2∨g=3∨g=4:=by omega
   rcases h1 with rfl | rfl | rfl | rfl | rfl <;> rcases h2 with rfl | rfl | rfl | rfl | rfl <;> simp only [bkD] <;> omega
 · have h1:f=0∨f=1∨f=2∨f=3∨f=4:=by omega
   rcases h1 with rfl | rfl | rfl | rfl | rfl
   · obtain ⟨b,off,ea,hb,_⟩:=h.vars.get (k:=0) (by decide)
     simp only [doorP,Option.some.injEq,Addr.mk.injEq,and_true] at ea
     obtain ⟨rfl,rfl⟩:=ea;exact hb
   · obtain ⟨b,off,ea,hb,_⟩:=h.evs.get (k:=0) (by decide)
     simp only [doorP,Option.some.injEq,Addr.mk.injEq,and_true] at ea
     obtain ⟨rfl,rfl⟩:=ea;exact hb
   · obtain ⟨b,off,ea,hb,_⟩:=h.regs.get (k:=0) (by decide)
     simp only [doorP,Option.some.injEq,Addr.mk.injEq,and_true] at ea
     obtain ⟨rfl,rfl⟩:=ea;exact hb
   · obtain ⟨b,off,ea,hb,_⟩:=h.vers.get (k:=0) (by decide)
     simp only [doorP,Option.some.injEq,Addr.mk.injEq,and_true] at ea
     obtain ⟨rfl,rfl⟩:=ea;exact hb
   · obtain ⟨b,off,ea,hb,_⟩:=h.trns.get (k:=0) (by decide)
     simp only [doorP,Option.some.injEq,Addr.mk.injEq,and_true] at ea
     obtain ⟨rfl,rfl⟩:=ea;exact hb
end Go.Proofs
