/- Which configurations are legal, what they are filled to: plain. -/
import Derived.Test.YtiimoclbmaggjaaGreatDoorZHsAP
namespace Go.Md
open Go.RowKit Go.Lx Go.Proofs
set_option linter.unusedVariables false

def isA (m:MdlD) (c:List Int) (v:Int):Bool:=stands m v && atL c (rgA m v) == v
def ruleM (m:MdlD) (c:List Int) (r:Nat):Nat :=
 if ownA m r<0 then (if 0<=atL c r then 0 else 1)
 else if isA m c (ownA m r) then (if 0<=atL c r then 0 else 2) else (if 0<=atL c r then 3 else 0)
def lstM (m:MdlD) (r:Int) (k:Nat):Int:=((kidsM m r).find? (fun v=>kdA m v == k)).getD (-1)
def leastM (m:MdlD) (r:Int):Int:=if lstM m r 1<0 then lstM m r 2 else lstM m r 1
def fillM (m:MdlD) (c:List Int) (r:Nat):Bool:=(ruleM m c r == 1 || ruleM m c r == 2) && decide (0<=leastM m r)
theorem yg {m:MdlD} {k:Nat} (h:k<m.zc.length):stands m (k:Int)=(m.zc[k].kd == 1 || m.zc[k].kd == 2):=by
 unfold stands;rw [zE h,Int.toNat_natCast,List.getElem?_eq_getElem h];simp
theorem zdX {m:MdlD} {k:Nat} (h:k<m.zc.length):rgA m (k:Int)=m.zc[k].rg:=by
 unfold rgA;rw [Int.toNat_natCast,List.getElem?_eq_getElem h]
theorem qP {m:MdlD} {k:Nat} (h:k<m.zc.length):kdA m (k:Int)=m.zc[k].kd:=by
 unfold kdA;rw [Int.toNat_natCast,List.getElem?_eq_getElem h]
theorem zD {m:MdlD} (h0:riM m=(0,0,0)) {v:Int} (h:stands m v=true):∃ k:Nat,∃ hk:k<m.zc.length,v=k/\∃ r:Nat,∃ hr:r<m.zb.length,rgA m v=r/\homeM m v=r/\m.zc[k].rg=r/\m.zc[k].ofv<0/\arM m k=m.zb[r].own:=by
 have h1:=h;unfold stands at h1;rw [Bool.and_eq_true] at h1;obtain ⟨k,rfl,hk⟩:=zN h1.1;rw [yg hk] at h;simp only [Bool.or_eq_true,beq_iff_eq] at h;have hp:=zaE h0 hk (by omega)
 rcases qQ h0 hk with ⟨h2,r,hr,e1,e2,e3⟩ | ⟨h2,_⟩
 . refine ⟨k,hk,rfl,r,hr,by rw [zdX hk,e2],?_,e2,h2,e3⟩
   unfold homeM;rw [zE hk];exact e1
 . omega
theorem jw {d:List Int} {q:Nat} (hq:q<d.length) (v:Int) (r:Int):atL (d.set q v) r=if r.toNat=q then v else atL d r:=by
 unfold atL;rw [List.getD_eq_getElem?_getD,List.getElem?_set]
 by_cases h:q=r.toNat
 . rw [if_pos h,if_pos hq,if_pos h.symm];rfl
 . rw [if_neg h,if_neg (fun e=>h e.symm),<- List.getD_eq_getElem?_getD]
inductive Fld (m:MdlD) (c:List Int):List Int->Prop
 | refl:Fld m c c
 | step {d:List Int} {r:Nat}:Fld m c d->r<m.zb.length->fillM m d r=true->Fld m c (d.set r (leastM m r))
def Nrm (m:MdlD) (d:List Int):Prop:=∀ r:Nat,r<m.zb.length->fillM m d r=false
theorem zce {m:MdlD} {d:List Int} {r:Nat} (h:fillM m d r=true):atL d r<0/\0<=leastM m r/\(ownA m r<0\/isA m d (ownA m r)=true):=by
 unfold fillM ruleM at h;rw [Bool.and_eq_true,decide_eq_true_eq] at h;refine ⟨?_,h.2,?_⟩
 . have h1:=h.1
   split at h1
   . split at h1
     . simp at h1
     . omega
   . split at h1
     . split at h1
       . simp at h1
       . omega
     . split at h1 <;> simp at h1
 . have h1:=h.1
   split at h1
   . left;assumption
   . split at h1
     . right;assumption
     . split at h1 <;> simp at h1
theorem fill_of {m:MdlD} {d:List Int} {r:Nat} (h1:atL d r<0) (h2:0<=leastM m r) (h3:ownA m r<0\/isA m d (ownA m r)=true):fillM m d r=true:=by
 unfold fillM ruleM;rw [Bool.and_eq_true,decide_eq_true_eq];refine ⟨?_,h2⟩;rw [if_neg (show ¬ (0<=atL d r) by omega),if_neg (show ¬ (0<=atL d r) by omega)]
 by_cases h:ownA m r<0
 . rw [if_pos h];rfl
 . rw [if_neg h,if_pos (h3.resolve_left h)];rfl
theorem Fld.len {m:MdlD} {c d:List Int} (h:Fld m c d):d.length=c.length:=by
 induction h with
 | refl=>rfl
 | step _ _ _ ih=>rw [List.length_set,ih]
theorem Fld.at {m:MdlD} {c d:List Int} (hl:c.length=m.zb.length) (h:Fld m c d):∀ r:Nat,atL d r=atL c r\/(atL c r<0/\atL d r=leastM m r/\0<=leastM m r):=by
 induction h with
 | refl=>exact fun _=>.inl rfl
 | @step d q hd hq hf ih =>
  intro r;have hdl:q<d.length:=by rw [hd.len,hl];exact hq
  obtain ⟨f1,f2,_⟩:=zce hf;rw [jw hdl]
  by_cases h:(r:Int).toNat=q
  . rw [if_pos h]
    obtain rfl:r=q:=by omega
    right
    rcases ih r with e | ⟨e,_⟩
    . exact ⟨by rw [<- e];exact f1,rfl,f2⟩
    . exact ⟨e,rfl,f2⟩
  . rw [if_neg h];exact ih r
theorem Fld.le {m:MdlD} {c d n:List Int} (hl:c.length=m.zb.length) (hn:Fld m c n) (hN:Nrm m n) (h:Fld m c d):∀ r:Nat,0<=atL d r->atL n r=atL d r:=by
 induction h with
 | refl =>
  intro r hr
  rcases hn.at hl r with e | ⟨e,_⟩
  . exact e
  . omega
 | @step d q hd hq hf ih =>
  intro r hr;have hdl:q<d.length:=by rw [hd.len,hl];exact hq
  obtain ⟨f1,f2,f3⟩:=zce hf;rw [jw hdl] at hr |-
  by_cases h:(r:Int).toNat=q
  . rw [if_pos h]
    obtain rfl:r=q:=by omega
    rcases hn.at hl r with e | ⟨_,e,_⟩
    . exfalso
      have hc:atL c r<0:=by
        rcases hd.at hl r with e2 | ⟨e2,_⟩
        . rw [<- e2];exact f1
        . exact e2
      have:=hN r hq
      rw [fill_of (by omega) f2 (f3.imp id fun ha=>by
        unfold isA at ha |-;simp only [Bool.and_eq_true,beq_iff_eq] at ha |-;refine ⟨ha.1,?_⟩;have h5:=ih (rgA m (ownA m r)).toNat;have e6:∀ x:List Int,atL x (((rgA m (ownA m r)).toNat:Nat):Int)=atL x (rgA m (ownA m r)):=fun x=>by unfold atL;rw [Int.toNat_natCast]
        rw [e6,e6,ha.2] at h5
        exact h5 (by
          have hs:=ha.1;unfold stands at hs;rw [Bool.and_eq_true] at hs;obtain ⟨k,ek,_⟩:=zN hs.1;omega))] at this
      cases this
    . exact e
  . rw [if_neg h] at hr |-;exact ih r hr
theorem lst_at {m:MdlD} (h0:riM m=(0,0,0)) {r:Int} {k:Nat} (h:0<=lstM m r k):∃ v:Nat,∃ hv:v<m.zc.length,lstM m r k=v/\m.zc[v].kd=k/\m.zc[v].rg=r:=by
 unfold lstM at h |-
 cases hf:(kidsM m r).find? (fun v=>kdA m v == k) with
 | none=>rw [hf] at h;exact absurd h (by decide)
 | some x =>
  have h1:=List.find?_some hf;have h2:=List.mem_of_find?_eq_some hf;obtain ⟨v,hv,rfl,hp⟩:=(zb6 _ _ _).1 h2;refine ⟨v,hv,rfl,?_,?_⟩
  . rw [qP hv] at h1;simpa using h1
  . simp only [isKid,Bool.and_eq_true,beq_iff_eq] at hp;exact hp.2
theorem least_at {m:MdlD} (h0:riM m=(0,0,0)) {r:Int} (h:0<=leastM m r):∃ v:Nat,∃ hv:v<m.zc.length,leastM m r=v/\(m.zc[v].kd=1\/m.zc[v].kd=2)/\m.zc[v].rg=r:=by
 unfold leastM at h |-
 split at h
 . rename_i hn
   obtain ⟨v,hv,e,h1,h2⟩:=lst_at h0 h;rw [if_pos hn];exact ⟨v,hv,e,.inr h1,h2⟩
 . rename_i hn
   obtain ⟨v,hv,e,h1,h2⟩:=lst_at h0 h;rw [if_neg hn];exact ⟨v,hv,e,.inl h1,h2⟩
theorem Fld.fits {m:MdlD} (h0:riM m=(0,0,0)) {c d:List Int} (h:Fld m c d) (hc:fitRow m c=true):fitRow m d=true:=by
 induction h with
 | refl=>exact hc
 | @step d q hd hq hf ih =>
  obtain ⟨f1,f2,_⟩:=zce hf;obtain ⟨v,hv,e,h1,h2⟩:=least_at h0 f2;rw [yb] at ih |-;intro r hr;rw [List.getElem_set]
  split
  . rename_i e2
    subst e2;rw [e];unfold mayM;rw [if_pos (zE hv),Int.toNat_natCast,List.getElem?_eq_getElem hv];simp only [Bool.and_eq_true,Bool.or_eq_true,beq_iff_eq];exact ⟨h2,h1⟩
  . exact ih r (by rw [List.length_set] at hr;exact hr)
theorem yD {m:MdlD} {c:List Int} (hl:c.length=m.zb.length) (hf:fitRow m c=true) {r:Nat} (hr:r<m.zb.length) (h:0<=atL c r):∃ k:Nat,∃ hk:k<m.zc.length,atL c r=k/\m.zc[k].rg=r/\(m.zc[k].kd=1\/m.zc[k].kd=2)/\isA m c k=true:=by
 have hm:=yb.1 hf r (by omega);have e:atL c r=c[r]'(by omega):=by unfold atL;rw [Int.toNat_natCast,List.getD_eq_getElem?_getD,List.getElem?_eq_getElem (by omega)];rfl
 rw [<- e] at hm;unfold mayM at hm
 split at hm
 . rename_i hv
   obtain ⟨k,ek,hk⟩:=zN hv;rw [ek,Int.toNat_natCast,List.getElem?_eq_getElem hk] at hm;simp only [Bool.and_eq_true,Bool.or_eq_true,beq_iff_eq] at hm;refine ⟨k,hk,ek,hm.1,hm.2,?_⟩;unfold isA;rw [yg hk,zdX hk,hm.1,ek];simpa using hm.2
 . have:atL c r=-1:=by simpa using hm
   omega
end Go.Md
