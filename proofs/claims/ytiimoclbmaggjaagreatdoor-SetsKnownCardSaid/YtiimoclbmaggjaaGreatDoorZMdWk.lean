/- 'works' of the model's laws: the statement with three copies, by an invariant. -/
import Derived.Test.YtiimoclbmaggjaaGreatDoorZGen
import Derived.Test.YtiimoclbmaggjaaGreatDoorZMdRSm
import Derived.Test.YtiimoclbmaggjaaGreatDoorZMdRf
namespace Go.Proofs
open Go.RowKit Go.Lx Go.Md
set_option linter.unusedVariables false

theorem Mod.kept7 {Q:Nat->BP} {w w':World} {m:MdlD} {p:Ph} (h:Mod Q w m p) (hk:∀ j,j<7->Kept (Q j) w w'):Mod Q w' m p :=
 ⟨h.vars.kept (VarE.mono (R:=Q 0)) (hk 0 (by decide)) (hk 0 (by decide)),h.za.kept (hk 1 (by decide)),h.zb.kept (RegE.mono (R:=Q 2)) (hk 2 (by decide)) (hk 2 (by decide)),h.zc.kept VerE.mono (hk 3 (by decide)) (hk 5 (by decide)),h.ze.kept TrnE.mono (hk 4 (by decide)) (hk 6 (by decide))⟩
structure CpyW (N:Nat) (w:World) (p:Ph) (q:Nat->Nat):Prop where
 mod:Mod (Lay q) w smallM p
 mono:∀ j,q j<=q (j+1)
 lo:N<=q 0
 hi:q 7<=w.heap.size
def Out (B:Nat) (q:Nat->Nat):Prop:=B<q 0\/q 7<=B
def BoxS (w:World) (B:Nat) (p:Ph):Prop:=Box w B (.string smallM.nm) (.slice p.a1 smallM.vars.length p.c1) (.slice p.a2 smallM.za.length p.c2) (.slice p.a3 smallM.zb.length p.c3) (.slice p.a4 smallM.zc.length p.c4) (.slice p.a5 smallM.ze.length p.c5)
def BoxE (w:World) (B:Nat):Prop:=∃ v0 v1 v2 v3 v4 v5,Box w B v0 v1 v2 v3 v4 v5
structure BoxN (N:Nat) (w:World) (u:Value) (B:Nat):Prop where
 ptr:u=.pointer (some ⟨B,0,none⟩)
 lo:N<=B
 hi:B<w.heap.size
 has:BoxE w B
theorem q_le {q:Nat->Nat} (h:∀ j,q j<=q (j+1)) {i j:Nat} (hij:i<=j):q i<=q j:=by
 induction j with
 | zero =>
  have:i=0:=by omega
  rw [this];exact Nat.le_refl _
 | succ j ih =>
  by_cases e:i=j+1
  . rw [e];exact Nat.le_refl _
  . exact Nat.le_trans (ih (by omega)) (h j)
theorem CpyW.zf {N:Nat} {w w':World} {p:Ph} {q:Nat->Nat} (h:CpyW N w p q) (hb:Bl w w'):CpyW N w' p q:=⟨h.mod.zf hb,h.mono,h.lo,Nat.le_trans h.hi hb.size⟩
theorem CpyW.far {N:Nat} {w w':World} {p:Ph} {q:Nat->Nat} {B:Nat} (h:CpyW N w p q) (hs:w.heap.size<=w'.heap.size) (hk:∀ b,b≠B->b<w.heap.size->w'.heap[b]? = w.heap[b]?) (hb:Out B q):CpyW N w' p q:=by
 refine ⟨h.mod.kept7 fun j hj=>⟨hs,fun b h1 hQ=>hk b (fun e=>?_) h1⟩,h.mono,h.lo,Nat.le_trans h.hi hs⟩;have l1:=hQ.1;have l2:=hQ.2.1;have l3:=q_le h.mono (Nat.zero_le j);have l4:=q_le h.mono (show j+1<=7 by omega)
 rcases hb with hb | hb <;> omega
theorem BoxN.zf {N:Nat} {w w':World} {u:Value} {B:Nat} (h:BoxN N w u B) (hb:Bl w w'):BoxN N w' u B:=by
 obtain ⟨v0,v1,v2,v3,v4,v5,hx⟩:=h.has;exact ⟨h.ptr,h.lo,Nat.lt_of_lt_of_le h.hi hb.size,⟨v0,v1,v2,v3,v4,v5,hx.zf hb h.hi⟩⟩
theorem BoxE.any {w w':World} {B:Nat} (h:BoxE w B) (hb:w'.heap[B]? = w.heap[B]?):BoxE w' B:=by
 obtain ⟨v0,v1,v2,v3,v4,v5,hx⟩:=h;exact ⟨v0,v1,v2,v3,v4,v5,hx.any hb⟩
theorem BoxN.far {N:Nat} {w w':World} {u:Value} {B B':Nat} (h:BoxN N w u B) (hs:w.heap.size<=w'.heap.size) (hk:∀ b,b≠B'->b<w.heap.size->w'.heap[b]? = w.heap[b]?) (hb:B≠B'):BoxN N w' u B :=
 ⟨h.ptr,h.lo,Nat.lt_of_lt_of_le h.hi hs,h.has.any (hk B hb h.hi)⟩
structure J3 (W:World) (M:Value) (pa pb pc:Ph) (qa qb qc:Nat->Nat) (B5 B6 B7:Nat) (l0 l1 l2 l3 l4 l5 l6 l7 l8 l9 l10 l11:Bool) (u24 u25 u26 u27 u28 u29 u5 u6 u7:Value) (w:World):Prop where
 bel:Bl W w
 v24:l0=true->u24=M
 v26:l2=true->u26=M
 v28:l4=true->u28=M
 ca:l1=true->u25=mdV smallM pa/\CpyW W.heap.size w pa qa
 cb:l3=true->u27=mdV smallM pb/\CpyW W.heap.size w pb qb
 cc:l5=true->u29=mdV smallM pc/\CpyW W.heap.size w pc qc
 ab:l1=true->l3=true->qa 7<=qb 0
 ac:l1=true->l5=true->qa 7<=qc 0
 bc:l3=true->l5=true->qb 7<=qc 0
 x5:l6=true->BoxN W.heap.size w u5 B5
 x6:l7=true->BoxN W.heap.size w u6 B6
 x7:l8=true->BoxN W.heap.size w u7 B7
 d5a:l6=true->l1=true->Out B5 qa
 d5b:l6=true->l3=true->Out B5 qb
 d5c:l6=true->l5=true->Out B5 qc
 d6a:l7=true->l1=true->Out B6 qa
 d6b:l7=true->l3=true->Out B6 qb
 d6c:l7=true->l5=true->Out B6 qc
 d7a:l8=true->l1=true->Out B7 qa
 d7b:l8=true->l3=true->Out B7 qb
 d7c:l8=true->l5=true->Out B7 qc
 n56:l6=true->l7=true->B5≠B6
 n57:l6=true->l8=true->B5≠B7
 n67:l7=true->l8=true->B6≠B7
 s5:l9=true->BoxS w B5 pa
 s6:l10=true->BoxS w B6 pb
 s7:l11=true->BoxS w B7 pc
 t3:l3=true->l1=true
 t5:l5=true->l3=true
 k5:l9=true->l6=true/\l1=true
 k6:l10=true->l7=true/\l3=true
 k7:l11=true->l8=true/\l5=true
theorem J3.read0 {W:World} {M:Value} {pa pb pc:Ph} {qa qb qc:Nat->Nat} {B5 B6 B7:Nat} {l0 l1 l2 l3 l4 l5 l6 l7 l8 l9 l10 l11:Bool} {u24 u25 u26 u27 u28 u29 u5 u6 u7:Value} {w:World} (h:J3 W M pa pb pc qa qb qc B5 B6 B7 l0 l1 l2 l3 l4 l5 l6 l7 l8 l9 l10 l11 u24 u25 u26 u27 u28 u29 u5 u6 u7 w):J3 W M pa pb pc qa qb qc B5 B6 B7 true l1 l2 l3 l4 l5 l6 l7 l8 l9 l10 l11 M u25 u26 u27 u28 u29 u5 u6 u7 w :=
 ⟨h.bel,(fun _=>rfl),h.v26,h.v28,h.ca,h.cb,h.cc,h.ab,h.ac,h.bc,h.x5,h.x6,h.x7,h.d5a,h.d5b,h.d5c,h.d6a,h.d6b,h.d6c,h.d7a,h.d7b,h.d7c,h.n56,h.n57,h.n67,h.s5,h.s6,h.s7,h.t3,h.t5,h.k5,h.k6,h.k7⟩
theorem J3.read2 {W:World} {M:Value} {pa pb pc:Ph} {qa qb qc:Nat->Nat} {B5 B6 B7:Nat} {l0 l1 l2 l3 l4 l5 l6 l7 l8 l9 l10 l11:Bool} {u24 u25 u26 u27 u28 u29 u5 u6 u7:Value} {w:World} (h:J3 W M pa pb pc qa qb qc B5 B6 B7 l0 l1 l2 l3 l4 l5 l6 l7 l8 l9 l10 l11 u24 u25 u26 u27 u28 u29 u5 u6 u7 w):J3 W M pa pb pc qa qb qc B5 B6 B7 l0 l1 true l3 l4 l5 l6 l7 l8 l9 l10 l11 u24 u25 M u27 u28 u29 u5 u6 u7 w :=
 ⟨h.bel,h.v24,(fun _=>rfl),h.v28,h.ca,h.cb,h.cc,h.ab,h.ac,h.bc,h.x5,h.x6,h.x7,h.d5a,h.d5b,h.d5c,h.d6a,h.d6b,h.d6c,h.d7a,h.d7b,h.d7c,h.n56,h.n57,h.n67,h.s5,h.s6,h.s7,h.t3,h.t5,h.k5,h.k6,h.k7⟩
theorem J3.read4 {W:World} {M:Value} {pa pb pc:Ph} {qa qb qc:Nat->Nat} {B5 B6 B7:Nat} {l0 l1 l2 l3 l4 l5 l6 l7 l8 l9 l10 l11:Bool} {u24 u25 u26 u27 u28 u29 u5 u6 u7:Value} {w:World} (h:J3 W M pa pb pc qa qb qc B5 B6 B7 l0 l1 l2 l3 l4 l5 l6 l7 l8 l9 l10 l11 u24 u25 u26 u27 u28 u29 u5 u6 u7 w):J3 W M pa pb pc qa qb qc B5 B6 B7 l0 l1 l2 l3 true l5 l6 l7 l8 l9 l10 l11 u24 u25 u26 u27 M u29 u5 u6 u7 w :=
 ⟨h.bel,h.v24,h.v26,(fun _=>rfl),h.ca,h.cb,h.cc,h.ab,h.ac,h.bc,h.x5,h.x6,h.x7,h.d5a,h.d5b,h.d5c,h.d6a,h.d6b,h.d6c,h.d7a,h.d7b,h.d7c,h.n56,h.n57,h.n67,h.s5,h.s6,h.s7,h.t3,h.t5,h.k5,h.k6,h.k7⟩
theorem zcI (N:Nat) (w:World) (hN:N<=w.heap.size):BoxN N (w.alloc (.cells #[.string ⟨#[]⟩,.slice none 0 0,.slice none 0 0,.slice none 0 0,.slice none 0 0,.slice none 0 0] 28)) (.pointer (some ⟨w.heap.size,0,none⟩)) w.heap.size:=by
 refine ⟨rfl,hN,by simp,⟨.string ⟨#[]⟩,.slice none 0 0,.slice none 0 0,.slice none 0 0,.slice none 0 0,.slice none 0 0,?_⟩⟩;have h:=zB w (.cells #[.string ⟨#[]⟩,.slice none 0 0,.slice none 0 0,.slice none 0 0,.slice none 0 0,.slice none 0 0] 28);generalize w.alloc (.cells #[.string ⟨#[]⟩,.slice none 0 0,.slice none 0 0,.slice none 0 0,.slice none 0 0,.slice none 0 0] 28)=W at h |-;exact ⟨zh h _,zh h _,zh h _,zh h _,zh h _,zh h _,by unfold World.frozen?;simp [h],by unfold World.frozen?;simp [h],by unfold World.frozen?;simp [h],by unfold World.frozen?;simp [h],by unfold World.frozen?;simp [h],by unfold World.frozen?;simp [h]⟩
theorem J3.alloc7 {W:World} {M:Value} {pa pb pc:Ph} {qa qb qc:Nat->Nat} {B5 B6 B7:Nat} {l0 l1 l2 l3 l4 l5 l6 l7 l8 l9 l10 l11:Bool} {u24 u25 u26 u27 u28 u29 u5 u6 u7:Value} {w:World} (h:J3 W M pa pb pc qa qb qc B5 B6 B7 l0 l1 l2 l3 l4 l5 l6 l7 l8 l9 l10 l11 u24 u25 u26 u27 u28 u29 u5 u6 u7 w) (n1:l7=false):J3 W M pa pb pc qa qb qc B5 w.heap.size B7 l0 l1 l2 l3 l4 l5 l6 true l8 l9 l10 l11 u24 u25 u26 u27 u28 u29 u5 (.pointer (some ⟨w.heap.size,0,none⟩)) u7 (w.alloc (.cells #[.string ⟨#[]⟩,.slice none 0 0,.slice none 0 0,.slice none 0 0,.slice none 0 0,.slice none 0 0] 28)):=by
 have g:Bl w (w.alloc (.cells #[.string ⟨#[]⟩,.slice none 0 0,.slice none 0 0,.slice none 0 0,.slice none 0 0,.slice none 0 0] 28)):=zg w _;exact ⟨(h.bel.trans (g.mono h.bel.size)),h.v24,h.v26,h.v28,(fun k=>⟨(h.ca k).1,(h.ca k).2.zf g⟩),(fun k=>⟨(h.cb k).1,(h.cb k).2.zf g⟩),(fun k=>⟨(h.cc k).1,(h.cc k).2.zf g⟩),h.ab,h.ac,h.bc,(fun k=>(h.x5 k).zf g),(fun _=>zcI _ _ h.bel.size),(fun k=>(h.x7 k).zf g),h.d5a,h.d5b,h.d5c,(fun _ k=>.inr (h.ca k).2.hi),(fun _ k=>.inr (h.cb k).2.hi),(fun _ k=>.inr (h.cc k).2.hi),h.d7a,h.d7b,h.d7c,(fun k _=>Nat.ne_of_lt (h.x5 k).hi),h.n57,(fun _ k=>(Nat.ne_of_lt (h.x7 k).hi).symm),(fun k=>Box.zf (h.s5 k) g (h.x5 (h.k5 k).1).hi),(fun k=>by have:=(h.k6 k).1;rw [n1] at this;cases this),(fun k=>Box.zf (h.s7 k) g (h.x7 (h.k7 k).1).hi),h.t3,h.t5,h.k5,(fun k=>⟨rfl,(h.k6 k).2⟩),h.k7⟩
theorem J3.alloc8 {W:World} {M:Value} {pa pb pc:Ph} {qa qb qc:Nat->Nat} {B5 B6 B7:Nat} {l0 l1 l2 l3 l4 l5 l6 l7 l8 l9 l10 l11:Bool} {u24 u25 u26 u27 u28 u29 u5 u6 u7:Value} {w:World} (h:J3 W M pa pb pc qa qb qc B5 B6 B7 l0 l1 l2 l3 l4 l5 l6 l7 l8 l9 l10 l11 u24 u25 u26 u27 u28 u29 u5 u6 u7 w) (n1:l8=false):J3 W M pa pb pc qa qb qc B5 B6 w.heap.size l0 l1 l2 l3 l4 l5 l6 l7 true l9 l10 l11 u24 u25 u26 u27 u28 u29 u5 u6 (.pointer (some ⟨w.heap.size,0,none⟩)) (w.alloc (.cells #[.string ⟨#[]⟩,.slice none 0 0,.slice none 0 0,.slice none 0 0,.slice none 0 0,.slice none 0 0] 28)):=by
 have g:Bl w (w.alloc (.cells #[.string ⟨#[]⟩,.slice none 0 0,.slice none 0 0,.slice none 0 0,.slice none 0 0,.slice none 0 0] 28)):=zg w _;exact ⟨(h.bel.trans (g.mono h.bel.size)),h.v24,h.v26,h.v28,(fun k=>⟨(h.ca k).1,(h.ca k).2.zf g⟩),(fun k=>⟨(h.cb k).1,(h.cb k).2.zf g⟩),(fun k=>⟨(h.cc k).1,(h.cc k).2.zf g⟩),h.ab,h.ac,h.bc,(fun k=>(h.x5 k).zf g),(fun k=>(h.x6 k).zf g),(fun _=>zcI _ _ h.bel.size),h.d5a,h.d5b,h.d5c,h.d6a,h.d6b,h.d6c,(fun _ k=>.inr (h.ca k).2.hi),(fun _ k=>.inr (h.cb k).2.hi),(fun _ k=>.inr (h.cc k).2.hi),h.n56,(fun k _=>Nat.ne_of_lt (h.x5 k).hi),(fun k _=>Nat.ne_of_lt (h.x6 k).hi),(fun k=>Box.zf (h.s5 k) g (h.x5 (h.k5 k).1).hi),(fun k=>Box.zf (h.s6 k) g (h.x6 (h.k6 k).1).hi),(fun k=>by have:=(h.k7 k).1;rw [n1] at this;cases this),h.t3,h.t5,h.k5,h.k6,(fun k=>⟨rfl,(h.k7 k).2⟩)⟩
theorem Box.set0 {w:World} {H:Nat} {v0 v1 v2 v3 v4 v5:Value} (h:Box w H v0 v1 v2 v3 v4 v5) (u:Value):Box (w.setCell ⟨H,0,none⟩ u) H u v1 v2 v3 v4 v5 :=
 ⟨World.cell?_setCell_same _ _ _ h.c0,zt h.c1 (by decide),zt h.c2 (by decide),zt h.c3 (by decide),zt h.c4 (by decide),zt h.c5 (by decide),by simpa using h.f0,by simpa using h.f1,by simpa using h.f2,by simpa using h.f3,by simpa using h.f4,by simpa using h.f5⟩
theorem zb0 (w:World) (a:Addr) (u:Value):(w.setCell a u).os=w.os/\(w.setCell a u).tape=w.tape/\(w.setCell a u).output=w.output:=⟨(Below.setCell (B:=0) (Below.refl 0 w) (Nat.zero_le _) u).os,(Below.setCell (B:=0) (Below.refl 0 w) (Nat.zero_le _) u).tape,(Below.setCell (B:=0) (Below.refl 0 w) (Nat.zero_le _) u).output⟩
end Go.Proofs
