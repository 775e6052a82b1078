/- What lies in what: plain. -/
import Derived.Test.YtfladiadgkfebaaGreatDoorKMdPR
namespace Go.Md
open Go.RowKit Go.Lx
def selF {α:Type} (p:α->Bool):Nat->List α->List Int
 | _,[]=>[]
 | i,x :: t=>if p x then (i:Int) :: selF p (i+1) t else selF p (i+1) t
theorem selF_cons {α:Type} (p:α->Bool) (i:Nat) (x:α) (t:List α):selF p i (x :: t)=if p x then (i:Int) :: selF p (i+1) t else selF p (i+1) t:=rfl
def sel {α:Type} (p:α->Bool) (l:List α):List Int:=selF p 0 l
theorem selF_app {α:Type} (p:α->Bool):∀ (s t:List α) (i:Nat),selF p i (s ++ t)=selF p i s ++ selF p (i+s.length) t
 | [],t,i=>by simp [selF]
 | x :: s,t,i=>by
   rw [List.cons_append,selF_cons,selF_cons]
   rw [selF_app p s t (i+1),show i+(x :: s).length=i+1+s.length by simp;omega]
   split <;> rfl
theorem sel_take {α:Type} (p:α->Bool) {l:List α} {k:Nat} (h:k<l.length):sel p (l.take (k+1))=sel p (l.take k) ++ (if p l[k] then [(k:Int)] else []):=by
 unfold sel
 rw [List.take_succ_eq_append_getElem h,selF_app,List.length_take,Nat.min_eq_left (Nat.le_of_lt h)]
 simp [selF]
theorem selF_len {α:Type} (p:α->Bool):∀ (l:List α) (i:Nat),(selF p i l).length<=l.length
 | [],_=>Nat.le_refl _
 | x :: t,i=>by
   unfold selF
   have:=selF_len p t (i+1)
   split <;> simp <;> omega
theorem sel_len {α:Type} (p:α->Bool) (l:List α):(sel p l).length<=l.length:=selF_len p l 0
theorem selF_mem {α:Type} (p:α->Bool):∀ (l:List α) (i:Nat) (v:Int),v ∈ selF p i l↔∃ k,∃ h:k<l.length,v=((i+k:Nat):Int)/\p l[k]=true
 | [],i,v=>by simp [selF]
 | x :: t,i,v=>by
   unfold selF
   constructor
   . intro h
     by_cases hp:p x=true
     . rw [if_pos hp,List.mem_cons] at h
       rcases h with rfl | h
       . exact ⟨0,by simp,by simp,hp⟩
       . obtain ⟨k,hk,e,hq⟩:=(selF_mem p t (i+1) v).1 h
         exact ⟨k+1,by simp;omega,by rw [e];congr 1;omega,hq⟩
     . rw [if_neg hp] at h
       obtain ⟨k,hk,e,hq⟩:=(selF_mem p t (i+1) v).1 h
       exact ⟨k+1,by simp;omega,by rw [e];congr 1;omega,hq⟩
   . rintro ⟨k,hk,e,hq⟩
     cases k with
     | zero =>
      rw [List.getElem_cons_zero] at hq
      rw [if_pos hq,List.mem_cons];exact .inl (by rw [e];simp)
     | succ k =>
      have:v ∈ selF p (i+1) t:=(selF_mem p t (i+1) v).2 ⟨k,by simpa using hk,by rw [e];congr 1;omega,by simpa using hq⟩
      split
      . exact List.mem_cons_of_mem _ this
      . exact this
theorem sel_mem {α:Type} (p:α->Bool) (l:List α) (v:Int):v ∈ sel p l↔∃ k,∃ h:k<l.length,v=(k:Int)/\p l[k]=true:=by
 unfold sel
 rw [selF_mem]
 simp
def rgM (m:MdlD) (v:Int):Int:=match m.vers[v.toNat]? with
 | some x=>if 0<=x.ofv then (match m.vers[x.ofv.toNat]? with | some y=>y.rg | none=>-1) else x.rg
 | none=>-1
def upL (m:MdlD):Nat->Int->List Int
 | 0,_=>[]
 | f+1,v=>if v<0 then [] else v :: upL m f (arM m v)
end Go.Md

namespace Go.Md
open Go.RowKit Go.Lx
set_option linter.unusedVariables false
def fndF (s:ByteArray):Nat->List MdlD->Option Nat
 | _,[]=>none
 | i,m :: t=>if eqS m.nm s then some i else fndF s (i+1) t
def fnd (l:List MdlD) (s:ByteArray):Option Nat:=fndF s 0 l
theorem fndF_some {s:ByteArray}:∀ {l:List MdlD} {i n:Nat},fndF s i l=some n->∃ k,∃ h:k<l.length,n=i+k/\l[k].nm=s/\∀ j (hj:j<k),(l[j]'(by omega)).nm≠s
 | [],i,n,h=>by simp [fndF] at h
 | m :: t,i,n,h=>by
   unfold fndF at h
   by_cases he:eqS m.nm s=true
   . rw [if_pos he] at h
     simp only [Option.some.injEq] at h
     exact ⟨0,by simp,by omega,eqS_iff.1 he,fun j hj=>absurd hj (by omega)⟩
   . rw [if_neg he] at h
     obtain ⟨k,hk,e,e2,h3⟩:=fndF_some h
     refine ⟨k+1,by simp;omega,by omega,by simpa using e2,fun j hj=>?_⟩
     cases j with
     | zero=>simp only [List.getElem_cons_zero];intro e3;exact he (eqS_iff.2 e3)
     | succ j=>simp only [List.getElem_cons_succ];exact h3 j (by omega)
theorem fnd_some {l:List MdlD} {s:ByteArray} {n:Nat} (h:fnd l s=some n):∃ h:n<l.length,l[n].nm=s/\∀ j (hj:j<n),(l[j]'(by omega)).nm≠s:=by
 obtain ⟨k,hk,e,e2,h3⟩:=fndF_some h
 obtain rfl:n=k:=by omega
 exact ⟨hk,e2,h3⟩
def fndI (l:List MdlD) (s:ByteArray):Int:=match fnd l s with
 | some n=>n
 | none=>-1
def bndB (p x:VerD):Bool:=decide (0<p.nm.size) && eqS x.nm p.nm && x.kd == (if p.kd=11 then 2 else 1) && x.rg == 0
def bndF (p:VerD):Nat->List VerD->Option Nat
 | _,[]=>none
 | i,x :: t=>if bndB p x then some i else bndF p (i+1) t
def bnd (p:VerD) (m:MdlD):Option Nat:=bndF p 0 m.vers
def bndI (p:VerD) (m:MdlD):Int:=match bnd p m with
 | some n=>n
 | none=>-1
theorem bndF_lt {p:VerD}:∀ {l:List VerD} {i n:Nat},bndF p i l=some n->∃ k,∃ h:k<l.length,n=i+k/\bndB p l[k]=true
 | [],i,n,h=>by simp [bndF] at h
 | m :: t,i,n,h=>by
   unfold bndF at h
   by_cases he:bndB p m=true
   . rw [if_pos he] at h
     simp only [Option.some.injEq] at h
     exact ⟨0,by simp,by omega,he⟩
   . rw [if_neg he] at h
     obtain ⟨k,hk,e,e2⟩:=bndF_lt h
     exact ⟨k+1,by simp;omega,by omega,by simpa using e2⟩
theorem bnd_lt {p:VerD} {m:MdlD} {n:Nat} (h:bnd p m=some n):∃ h:n<m.vers.length,bndB p m.vers[n]=true:=by
 obtain ⟨k,hk,e,e2⟩:=bndF_lt h
 obtain rfl:n=k:=by omega
 exact ⟨hk,e2⟩
def ptsM (m:MdlD) (s:Int):List Int:=sel (fun x=>x.ofv == s) m.vers
def verG (m:MdlD) (v:Int):VerD:=m.vers.getD v.toNat ⟨⟨#[]⟩,0,0,0,⟨#[]⟩,⟨#[]⟩,[],⟨#[]⟩⟩
def tiedV (l:List MdlD) (m:MdlD) (s:Nat) (x:VerD):Bool :=
 x.sb.size == 0 || (match fnd l x.sb with
   | some n=>(ptsM m s).all fun p=>(bnd (verG m p) (l.getD n m)).isSome
   | none=>false)
def tiedF (l:List MdlD) (m:MdlD):Nat->List VerD->Bool
 | _,[]=>true
 | s,x :: t=>tiedV l m s x && tiedF l m (s+1) t
def tiedM (l:List MdlD) (m:MdlD):Bool:=tiedF l m 0 m.vers
theorem tiedF_iff {l:List MdlD} {m:MdlD}:∀ {t:List VerD} {s:Nat},tiedF l m s t=true↔∀ k (h:k<t.length),tiedV l m (s+k) t[k]=true
 | [],s=>by simp [tiedF]
 | x :: t,s=>by
   unfold tiedF
   rw [Bool.and_eq_true,tiedF_iff]
   constructor
   . rintro ⟨h1,h2⟩ k hk
     cases k with
     | zero=>exact h1
     | succ k=>have:=h2 k (by simpa using hk);rw [show s+(k+1)=s+1+k by omega];simpa using this
   . intro h
     refine ⟨h 0 (by simp),fun k hk=>?_⟩
     have:=h (k+1) (by simpa using hk)
     rw [show s+1+k=s+(k+1) by omega];simpa using this
theorem tiedF_drop {l:List MdlD} {m:MdlD} {k:Nat} (h:k<m.vers.length):tiedF l m k (m.vers.drop k)=(tiedV l m k m.vers[k] && tiedF l m (k+1) (m.vers.drop (k+1))):=by
 rw [List.drop_eq_getElem_cons h,tiedF]
def Use (l:List MdlD) (a b:Nat):Prop:=∃ m,l[a]? = some m/\∃ x ∈ m.vers,0<x.sb.size/\fnd l x.sb=some b
inductive Rch (l:List MdlD):Nat->Nat->Prop
 | one {a b:Nat}:Use l a b->Rch l a b
 | more {a b c:Nat}:Use l a b->Rch l b c->Rch l a c
theorem Rch.trans {l:List MdlD} {a b c:Nat} (h:Rch l a b) (k:Rch l b c):Rch l a c:=by
 induction h with
 | one u=>exact .more u k
 | more u _ ih=>exact .more u (ih k)
theorem Use.lt {l:List MdlD} {a b:Nat} (h:Use l a b):a<l.length/\b<l.length:=by
 obtain ⟨m,hm,x,_,_,hf⟩:=h
 exact ⟨(List.getElem?_eq_some_iff.1 hm).1,(fnd_some hf).1⟩
theorem Rch.lt {l:List MdlD} {a b:Nat} (h:Rch l a b):a<l.length/\b<l.length:=by
 induction h with
 | one u=>exact u.lt
 | more u _ ih=>exact ⟨u.lt.1,ih.2⟩
theorem Rch.closed {l:List MdlD} {a:Nat} {S:Nat->Prop} (h0:∀ b,Use l a b->S b) (h1:∀ b c,S b->Use l b c->S c) {b:Nat} (h:Rch l a b):S b:=by
 have:∀ {x y:Nat},Rch l x y->(x=a\/S x)->S y:=by
   intro x y h
   induction h with
   | one u =>
    rintro (rfl | hx)
    . exact h0 _ u
    . exact h1 _ _ hx u
   | more u _ ih =>
    rintro (rfl | hx)
    . exact ih (.inr (h0 _ u))
    . exact ih (.inr (h1 _ _ hx u))
 exact this h (.inl rfl)
def manyM (m:MdlD):Bool:=decide (512<m.regs.length) || decide (512<m.vers.length) || decide (512<m.trns.length)
def mvV (r v:Nat) (x:VerD):VerD:=if 0<=x.ofv then { x with ofv:=x.ofv+v } else { x with rg:=x.rg+r }
def mvT (v:Nat) (x:TrnD):TrnD:={ x with src:=x.src+v,tgt:=x.tgt+v }
def mvR (s v:Nat):List RegD->List RegD
 | []=>[]
 | x :: t=>{ x with own:=(s:Int) } :: t.map fun y=>{ y with own:=y.own+v }
def setV (m:MdlD) (v:Nat) (f:VerD->VerD):MdlD:={ m with vers:=m.vers.modify v f }
def way (s t:Int):TrnD:=⟨⟨#[]⟩,s,t,[],0,⟨#[]⟩,⟨#[]⟩,1⟩
def tie1 (sub:MdlD) (by':Nat) (out:MdlD) (p:Int):MdlD :=
 let x:=verG out p
 let to:=(by':Int)+bndI x sub
 if x.kd=11 then { setV out to.toNat (fun y=>{ y with kd:=5 }) with trns:=out.trns ++ [way to p] } else { out with trns:=out.trns ++ [way p to] }
def tiesM (sub:MdlD) (by':Nat) (out:MdlD) (ps:List Int):MdlD:=ps.foldl (tie1 sub by') out
def put1 (sub:MdlD) (s:Nat) (out:MdlD):MdlD :=
 { out with regs:=out.regs ++ mvR s out.vers.length sub.regs,vers:=(out.vers.modify s fun y=>{ y with sb:=⟨#[]⟩ }) ++ sub.vers.map (mvV out.regs.length out.vers.length),trns:=out.trns ++ sub.trns.map (mvT out.vers.length) }
def putM (sub own m:MdlD) (s:Nat) (out:MdlD):MdlD:=tiesM own out.vers.length (put1 sub s out) (ptsM m s)
def expS (cut:Bool) (l:List MdlD) (ex:Nat->MdlD) (m:MdlD) (out:MdlD) (s:Nat):MdlD :=
 match m.vers[s]? with
 | none=>out
 | some x=>if (cut && manyM out) || x.sb.size == 0 then out else
   match fnd l x.sb with
   | none=>out
   | some n=>putM (ex n) (l.getD n m) m s out
def expF (cut:Bool) (l:List MdlD):Nat->Nat->MdlD
 | 0,_=>⟨⟨#[]⟩,[],[],[],[],[]⟩
 | f+1,a=>(List.range (l.getD a ⟨⟨#[]⟩,[],[],[],[],[]⟩).vers.length).foldl (expS cut l (expF cut l f) (l.getD a ⟨⟨#[]⟩,[],[],[],[],[]⟩)) (l.getD a ⟨⟨#[]⟩,[],[],[],[],[]⟩)
abbrev Siz:=Nat × Nat × Nat
def manyS (s:Siz):Bool:=decide (512<s.1) || decide (512<s.2.1) || decide (512<s.2.2)
def lens (m:MdlD):Siz:=(m.regs.length,m.vers.length,m.trns.length)
theorem manyM_lens (m:MdlD):manyM m=manyS (lens m):=rfl
def addS (a b:Siz) (k:Nat):Siz:=(a.1+b.1,a.2.1+b.2.1,a.2.2+b.2.2+k)
def sizS (l:List MdlD) (sz:Nat->Siz) (m:MdlD) (s:Siz) (v:Nat):Siz :=
 match m.vers[v]? with
 | none=>s
 | some x=>if manyS s || x.sb.size == 0 then s else
   match fnd l x.sb with
   | none=>s
   | some n=>addS s (sz n) (ptsM m v).length
def sizF (l:List MdlD):Nat->Nat->Siz
 | 0,_=>(0,0,0)
 | f+1,a=>(List.range (l.getD a ⟨⟨#[]⟩,[],[],[],[],[]⟩).vers.length).foldl (sizS l (sizF l f) (l.getD a ⟨⟨#[]⟩,[],[],[],[],[]⟩)) (lens (l.getD a ⟨⟨#[]⟩,[],[],[],[],[]⟩))
abbrev D0:MdlD:=⟨⟨#[]⟩,[],[],[],[],[]⟩
def LeS (a b:Siz):Prop:=a.1<=b.1/\a.2.1<=b.2.1/\a.2.2<=b.2.2
theorem LeS.refl (a:Siz):LeS a a:=⟨Nat.le_refl _,Nat.le_refl _,Nat.le_refl _⟩
theorem LeS.trans {a b c:Siz} (h:LeS a b) (k:LeS b c):LeS a c:=⟨Nat.le_trans h.1 k.1,Nat.le_trans h.2.1 k.2.1,Nat.le_trans h.2.2 k.2.2⟩
theorem manyS_iff {a:Siz}:manyS a=true↔512<a.1\/512<a.2.1\/512<a.2.2:=by
 unfold manyS;simp only [Bool.or_eq_true,decide_eq_true_eq,or_assoc]
theorem LeS.many {a b:Siz} (h:LeS a b) (k:manyS a=true):manyS b=true:=by
 rw [manyS_iff] at k |-
 obtain ⟨h1,h2,h3⟩:=h
 omega
theorem mvR_len (s v:Nat) (l:List RegD):(mvR s v l).length=l.length:=by cases l <;> simp [mvR]
theorem lens_put1 (sub:MdlD) (s:Nat) (out:MdlD):lens (put1 sub s out)=addS (lens out) (lens sub) 0:=by
 simp [lens,put1,addS,mvR_len]
theorem lens_tie1 (sub:MdlD) (b:Nat) (out:MdlD) (p:Int):lens (tie1 sub b out p)=addS (lens out) (0,0,0) 1:=by
 unfold tie1
 dsimp only
 split <;> simp [lens,addS,setV]
theorem lens_ties (sub:MdlD) (b:Nat):∀ (ps:List Int) (out:MdlD),lens (tiesM sub b out ps)=addS (lens out) (0,0,0) ps.length
 | [],out=>by simp [tiesM,addS]
 | p :: ps,out=>by
   show lens (tiesM sub b (tie1 sub b out p) ps)=_
   rw [lens_ties sub b ps,lens_tie1]
   refine Prod.ext ?_ (Prod.ext ?_ ?_) <;> simp [addS] <;> omega
theorem lens_putM (sub own m:MdlD) (s:Nat) (out:MdlD):lens (putM sub own m s out)=addS (lens out) (lens sub) (ptsM m s).length:=by
 unfold putM
 rw [lens_ties,lens_put1]
 refine Prod.ext ?_ (Prod.ext ?_ ?_) <;> simp [addS] <;> omega
theorem le_addS (a b:Siz) (k:Nat):LeS a (addS a b k):=by unfold LeS addS;dsimp only;omega
theorem le_addS' (a b:Siz) (k:Nat):LeS b (addS a b k):=by unfold LeS addS;dsimp only;omega
structure Rel (u c:MdlD) (s:Siz):Prop where
 few:manyS (lens u)=false->c=u/\s=lens u
 many:manyS (lens u)=true->manyS (lens c)=true/\manyS s=true
theorem Rel.refl (u:MdlD):Rel u u (lens u):=⟨fun _=>⟨rfl,rfl⟩,fun h=>⟨h,h⟩⟩
theorem Rel.step {l:List MdlD} {U C:Nat->MdlD} {Z:Nat->Siz} (h:∀ n,Rel (U n) (C n) (Z n)) (m:MdlD) (v:Nat) {u c:MdlD} {s:Siz} (r:Rel u c s):Rel (expS false l U m u v) (expS true l C m c v) (sizS l Z m s v):=by
 unfold expS sizS
 cases hx:m.vers[v]? with
 | none=>exact r
 | some x =>
  dsimp only
  by_cases h0:(x.sb.size == 0)=true
  . rw [h0];simpa using r
  . rw [Bool.not_eq_true] at h0
    rw [h0]
    simp only [Bool.false_and,Bool.true_and,Bool.or_false,Bool.false_eq_true,if_false]
    cases hf:fnd l x.sb with
    | none=>simp only [ite_self];exact r
    | some n =>
     dsimp only
     have g1:LeS (lens u) (lens (putM (U n) (l.getD n m) m v u)):=by rw [lens_putM];exact le_addS _ _ _
     have g2:LeS (lens (U n)) (lens (putM (U n) (l.getD n m) m v u)):=by rw [lens_putM];exact le_addS' _ _ _
     cases hu:manyS (lens u) with
     | true =>
      obtain ⟨k1,k2⟩:=r.many hu
      rw [manyM_lens,k1,k2,if_pos rfl,if_pos rfl]
      have:=g1.many hu
      exact ⟨fun h=>(by rw [this] at h;cases h),fun _=>⟨k1,k2⟩⟩
     | false =>
      obtain ⟨rfl,rfl⟩:=r.few hu
      rw [manyM_lens,hu]
      simp only [Bool.false_eq_true,if_false]
      cases hs:manyS (lens (U n)) with
      | false =>
       obtain ⟨e1,e2⟩:=(h n).few hs
       rw [e1,e2,<- lens_putM]
       exact Rel.refl _
      | true =>
       obtain ⟨e1,e2⟩:=(h n).many hs
       have:=g2.many hs
       refine ⟨fun h=>(by rw [this] at h;cases h),fun _=>⟨?_,(le_addS' _ _ _).many e2⟩⟩
       rw [lens_putM];exact (le_addS' _ _ _).many e1
theorem Rel.fold {l:List MdlD} {U C:Nat->MdlD} {Z:Nat->Siz} (h:∀ n,Rel (U n) (C n) (Z n)) (m:MdlD):∀ (vs:List Nat) {u c:MdlD} {s:Siz},Rel u c s->Rel (vs.foldl (expS false l U m) u) (vs.foldl (expS true l C m) c) (vs.foldl (sizS l Z m) s)
 | [],_,_,_,r=>r
 | v :: vs,_,_,_,r=>Rel.fold h m vs (r.step h m v)
theorem rel_exp (l:List MdlD):∀ (f a:Nat),Rel (expF false l f a) (expF true l f a) (sizF l f a)
 | 0,_=>Rel.refl _
 | f+1,_=>Rel.fold (rel_exp l f) _ _ (Rel.refl _)
def Dpt (l:List MdlD):Nat->Nat->Prop
 | 0,_=>False
 | f+1,a=>∀ b,Use l a b->Dpt l f b
theorem Dpt.succ {l:List MdlD}:∀ {f a:Nat},Dpt l f a->Dpt l (f+1) a
 | 0,_,h=>h.elim
 | f+1,_,h=>fun b u=>Dpt.succ (h b u)
theorem Dpt.mono {l:List MdlD} {f a:Nat} (h:Dpt l f a):∀ {g:Nat},f<=g->Dpt l g a:=by
 intro g hg
 induction hg with
 | refl=>exact h
 | step _ ih=>exact ih.succ
theorem expS_congr {cut:Bool} {l:List MdlD} {e e':Nat->MdlD} {a:Nat} (h:∀ b,Use l a b->e b=e' b) (out:MdlD) (s:Nat):expS cut l e (l.getD a D0) out s=expS cut l e' (l.getD a D0) out s:=by
 unfold expS
 cases hx:(l.getD a D0).vers[s]? with
 | none=>rfl
 | some x =>
  dsimp only
  by_cases h0:(x.sb.size == 0)=true
  . rw [h0];simp
  . split
    . rfl
    . cases hf:fnd l x.sb with
      | none=>rfl
      | some n =>
       dsimp only
       rw [h n]
       have ha:l[a]? = some (l.getD a D0):=by
         rw [List.getD_eq_getElem?_getD] at hx |-
         cases hl:l[a]? with
         | none=>rw [hl] at hx;simp at hx
         | some m=>simp
       exact ⟨_,ha,x,List.mem_of_getElem? hx,Nat.pos_of_ne_zero (by simpa using h0),hf⟩
theorem sizS_congr {l:List MdlD} {e e':Nat->Siz} {a:Nat} (h:∀ b,Use l a b->e b=e' b) (out:Siz) (s:Nat):sizS l e (l.getD a D0) out s=sizS l e' (l.getD a D0) out s:=by
 unfold sizS
 cases hx:(l.getD a D0).vers[s]? with
 | none=>rfl
 | some x =>
  dsimp only
  by_cases h0:(x.sb.size == 0)=true
  . rw [h0];simp
  . split
    . rfl
    . cases hf:fnd l x.sb with
      | none=>rfl
      | some n =>
       dsimp only
       rw [h n]
       have ha:l[a]? = some (l.getD a D0):=by
         rw [List.getD_eq_getElem?_getD] at hx |-
         cases hl:l[a]? with
         | none=>rw [hl] at hx;simp at hx
         | some m=>simp
       exact ⟨_,ha,x,List.mem_of_getElem? hx,Nat.pos_of_ne_zero (by simpa using h0),hf⟩
theorem foldl_congr' {α β:Type} {f g:α->β->α} (h:∀ a b,f a b=g a b):∀ (l:List β) (a:α),l.foldl f a=l.foldl g a
 | [],_=>rfl
 | b :: l,a=>by rw [List.foldl_cons,List.foldl_cons,h,foldl_congr' h l]
theorem exp_stable {cut:Bool} {l:List MdlD}:∀ {f a:Nat},Dpt l f a->expF cut l (f+1) a=expF cut l f a
 | 0,_,h=>h.elim
 | f+1,a,h=>by
   rw [expF,expF]
   exact foldl_congr' (expS_congr fun b u=>exp_stable (h b u)) _ _
theorem siz_stable {l:List MdlD}:∀ {f a:Nat},Dpt l f a->sizF l (f+1) a=sizF l f a
 | 0,_,h=>h.elim
 | f+1,a,h=>by
   rw [sizF,sizF]
   exact foldl_congr' (sizS_congr fun b u=>siz_stable (h b u)) _ _
theorem countP_lt' {α:Type} {p q:α->Bool}:∀ {l:List α},(∀ x ∈ l,p x=true->q x=true)->(∃ x ∈ l,p x=false/\q x=true)->l.countP p<l.countP q
 | [],_,⟨x,hx,_⟩=>by cases hx
 | y :: l,h,⟨x,hx,h1,h2⟩=>by
   have hle:l.countP p<=l.countP q:=List.countP_mono_left fun z hz=>h z (List.mem_cons_of_mem _ hz)
   rcases List.mem_cons.1 hx with rfl | hx
   . rw [List.countP_cons,List.countP_cons,h1,h2];simp;omega
   . have:=countP_lt' (fun z hz=>h z (List.mem_cons_of_mem _ hz)) ⟨x,hx,h1,h2⟩
     have hy:=h y (by simp)
     rw [List.countP_cons,List.countP_cons]
     cases hp:p y with
     | false=>simp;split <;> omega
     | true=>rw [hy hp];simp;omega
open Classical in
theorem dpt_of {l:List MdlD} (hno:∀ i,¬ Rch l i i):∀ (k a:Nat),(List.range l.length).countP (fun b=>decide (Rch l a b))<k->Dpt l k a
 | 0,_,h=>absurd h (by omega)
 | k+1,a,h=>fun b u=>by
   refine dpt_of hno k b ?_
   have:(List.range l.length).countP (fun c=>decide (Rch l b c))<(List.range l.length).countP (fun c=>decide (Rch l a c)) :=
     countP_lt' (fun c _ hc=>decide_eq_true (.more u (of_decide_eq_true hc))) ⟨b,List.mem_range.2 u.lt.2,decide_eq_false (hno b),decide_eq_true (.one u)⟩
   omega
open Classical in
theorem dpt_all {l:List MdlD} (hno:∀ i,¬ Rch l i i) {a:Nat} (ha:a<l.length):Dpt l l.length a:=by
 refine dpt_of hno _ a ?_
 have:(List.range l.length).countP (fun b=>decide (Rch l a b))<(List.range l.length).countP (fun _=>true) :=
   countP_lt' (fun _ _ _=>rfl) ⟨a,List.mem_range.2 ha,decide_eq_false (hno a),rfl⟩
 simpa using this
def frsF (f:Nat->Nat):Nat->Nat->Nat × Nat
 | 0,_=>(0,0)
 | k+1,i=>if f i=0 then frsF f k (i+1) else (i,f i)
theorem frsF_zero {f:Nat->Nat}:∀ {k i:Nat},(frsF f k i).2=0↔∀ j,j<k->f (i+j)=0
 | 0,i=>by simp [frsF]
 | k+1,i=>by
   unfold frsF
   by_cases h:f i=0
   . rw [if_pos h,frsF_zero]
     constructor
     . intro g j hj
       cases j with
       | zero=>exact h
       | succ j=>have:=g j (by omega);rw [show i+(j+1)=i+1+j by omega];exact this
     . intro g j hj
       have:=g (j+1) (by omega);rw [show i+1+j=i+(j+1) by omega];exact this
   . rw [if_neg h]
     exact ⟨fun g=>absurd g h,fun g=>absurd (g 0 (by omega)) h⟩
theorem frsF_at {f:Nat->Nat} {n k:Nat} (h:∀ j,j<k->f j=0) (hk:k<=n):frsF f n 0=frsF f (n - k) k:=by
 induction k with
 | zero=>rfl
 | succ k ih =>
  rw [ih (fun j hj=>h j (by omega)) (by omega),show n - k=n - (k+1)+1 by omega,frsF,if_pos (h k (by omega))]
theorem frsF_hit {f:Nat->Nat} {n k:Nat} (h:∀ j,j<k->f j=0) (hk:k<n) (h0:f k≠0):frsF f n 0=(k,f k):=by
 rw [frsF_at h (by omega),show n - k=n - k - 1+1 by omega,frsF,if_neg h0]
theorem frsF_none {f:Nat->Nat} {n:Nat} (h:∀ j,j<n->f j=0):frsF f n 0=(0,0):=by
 rw [frsF_at h (Nat.le_refl _),Nat.sub_self];rfl
open Classical in
noncomputable def rB (l:List MdlD) (a b:Nat):Bool:=decide (Rch l a b)
theorem rB_iff {l:List MdlD} {a b:Nat}:rB l a b=true↔Rch l a b:=by unfold rB;simp
noncomputable def usdM (l:List MdlD) (a:Nat):List Bool:=(List.range l.length).map (rB l a)
def ahd (l:List MdlD) (i:Nat):Bool:=(l.take i).any fun m=>eqS m.nm (l.getD i D0).nm
def w1 (l:List MdlD) (i:Nat):Nat:=if (riM (l.getD i D0)).2.2≠0 then (riM (l.getD i D0)).2.2 else if ahd l i then 180 else 0
def w2 (l:List MdlD) (i:Nat):Nat:=if tiedM l (l.getD i D0) then 0 else 180
noncomputable def w3 (l:List MdlD) (i:Nat):Nat:=if rB l i i then 180 else 0
abbrev Bad:=Nat × Nat
def orB (a b:Bad):Bad:=if a.2=0 then b else a
noncomputable def wrgM (l:List MdlD):Bad :=
 orB (frsF (w1 l) l.length 0) (orB (frsF (w2 l) l.length 0) (orB (frsF (w3 l) l.length 0) (if manyS (sizF l l.length 0) then (0,3) else (0,0))))
def addV (acc:List VarD) (v:VarD):List VarD:=if acc.any fun w=>eqS w.nm v.nm then acc else acc ++ [v]
def addE (acc:List ByteArray) (e:ByteArray):List ByteArray:=if acc.any (eqS e) then acc else acc ++ [e]
noncomputable def isU (l:List MdlD) (i:Nat):Bool:=i == 0 || rB l 0 i
noncomputable def varsS (l:List MdlD) (acc:List VarD) (i:Nat):List VarD:=if isU l i then (l.getD i D0).vars.foldl addV acc else acc
noncomputable def evsS (l:List MdlD) (acc:List ByteArray) (i:Nat):List ByteArray:=if isU l i then (l.getD i D0).evs.foldl addE acc else acc
noncomputable def allV (l:List MdlD):List VarD:=(List.range l.length).foldl (varsS l) []
noncomputable def allE (l:List MdlD):List ByteArray:=(List.range l.length).foldl (evsS l) []
noncomputable def madeM (l:List MdlD):MdlD:={ expF false l l.length 0 with vars:=allV l,evs:=allE l }
noncomputable def expM (l:List MdlD):MdlD × Bad :=
 if l.length=0 then (D0,(0,2)) else if (wrgM l).2≠0 then (D0,wrgM l) else if (riM (madeM l)).2.2≠0 then (D0,(0,(riM (madeM l)).2.2)) else (madeM l,(0,0))
end Go.Md
