/- What is left with a region, and filled again: plain. -/
import Derived.Test.YtiimoclbmaggjaaGreatDoorZLgP
namespace Go.Md
open Go.RowKit Go.Lx Go.Proofs
set_option linter.unusedVariables false
def exF (m:MdlD) (c:List Int):Nat->Int->List Int
 | 0,_=>[]
 | f+1,r=>if atL c r<0 then [] else (ownM m (atL c r)).flatMap (exF m c f) ++ [atL c r]
def exM (m:MdlD) (c:List Int) (r:Int):List Int:=exF m c 66 r
def leftM (c done:List Int):List Int:=c.map fun x=>if x ∈ done then -1 else x
structure Fit (m:MdlD) (c:List Int):Prop where
 h0:riM m=(0,0,0)
 hl:c.length=m.zb.length
 hf:fitRow m c=true
theorem yE {m:MdlD} {s q:Int} (h:q ∈ ownM m s):∃ j:Nat,∃ hj:j<m.zb.length,q=j/\m.zb[j].own=s:=by
 obtain ⟨j,hj,e,hp⟩:=(zb6 _ _ _).1 h;exact ⟨j,hj,e,by simpa [isOwn] using hp⟩
theorem own_in {m:MdlD} {s:Int} {j:Nat} (hj:j<m.zb.length) (h:m.zb[j].own=s):(j:Int) ∈ ownM m s:=(zb6 _ _ _).2 ⟨j,hj,rfl,by simp [isOwn,h]⟩
theorem qI {m:MdlD} {c:List Int} (F:Fit m c) {j v k:Nat} (hj:j<m.zb.length) (ho:m.zb[j].own=(v:Int)) (hv:v<m.zc.length) (hk:k<m.zc.length) (ha:atL c j=k) (hg:m.zc[k].rg=j) (hd:m.zc[k].kd=1\/m.zc[k].kd=2):arM m k=v/\deM m k=deM m v+1:=by
 have hst:stands m k=true:=by rw [yg hk];simpa using hd
 obtain ⟨k',hk',ek,r,hr,e1,e2,e3,e4,e5⟩:=zD F.h0 hst;obtain rfl:k=k':=by omega
 obtain rfl:j=r:=by omega
 have e:arM m k=v:=by rw [e5,ho]
 exact ⟨e,zW F.h0 hk hv e⟩
theorem zc8 {m:MdlD} {c:List Int} (F:Fit m c):∀ (f r:Nat) (hr:r<m.zb.length) (x:Int),x ∈ exF m c f r->∃ k v:Nat,x=k/\k<m.zc.length/\isA m c k=true/\v<m.zc.length/\atL c r=v/\(v:Int) ∈ upsM m k
 | 0,_,_,_,h=>by cases h
 | f+1,r,hr,x,h=>by
   unfold exF at h
   split at h
   . cases h
   . rename_i hn
     obtain ⟨v,hv,e,hg,hd,ha⟩:=yD F.hl F.hf hr (by omega);rw [List.mem_append,List.mem_singleton,List.mem_flatMap] at h
     rcases h with ⟨q,hq,hx⟩ | rfl
     . rw [e] at hq
       obtain ⟨j,hj,rfl,ho⟩:=yE hq;obtain ⟨k,y,ex,hk,hka,hy,hjy,hup⟩:=zc8 F f j hj x hx;obtain ⟨y',hy',ey,gy,dy,_⟩:=yD F.hl F.hf hj (by omega);obtain rfl:y=y':=by omega
       obtain ⟨ar,_⟩:=qI F hj ho hv hy hjy gy dy;exact ⟨k,v,ex,hk,hka,hv,e,kD F.h0 hk hup ar hv⟩
     . exact ⟨v,v,e,hv,ha,hv,e,zaF⟩
theorem zaJ {m:MdlD} {c:List Int} (F:Fit m c):∀ (f r:Nat) (hr:r<m.zb.length),(exF m c f r).Nodup
 | 0,_,_=>List.nodup_nil
 | f+1,r,hr=>by
   unfold exF
   split
   . exact List.nodup_nil
   . rename_i hn
     obtain ⟨v,hv,e,hg,hd,ha⟩:=yD F.hl F.hf hr (by omega);rw [e]
     have key:∀ q ∈ ownM m (v:Int),∀ x ∈ exF m c f q,∃ j:Nat,∃ hj:j<m.zb.length,∃ k y:Nat,q=j/\x=k/\∃ hk:k<m.zc.length,∃ hy:y<m.zc.length,m.zc[y].rg=j/\(y:Int) ∈ upsM m k/\deM m y=deM m v+1:=by
       intro q hq x hx;obtain ⟨j,hj,rfl,ho⟩:=yE hq;obtain ⟨k,y,ex,hk,hka,hy,hjy,hup⟩:=zc8 F f j hj x hx;obtain ⟨y',hy',ey,gy,dy,_⟩:=yD F.hl F.hf hj (by omega);obtain rfl:y=y':=by omega
       exact ⟨j,hj,k,y,rfl,ex,hk,hy,gy,hup,(qI F hj ho hv hy hjy gy dy).2⟩
     rw [List.nodup_append];refine ⟨jC (zbH _ _) (fun q hq=>?_) (fun a ha' b hb hab x hxa hxb=>?_),by simp,fun x hx y hy=>?_⟩
     . obtain ⟨j,hj,rfl,_⟩:=yE hq
       exact zaJ F f j hj
     . obtain ⟨j,hj,k,y,rfl,rfl,hk,hy,gy,hu,hdy⟩:=key a ha' x hxa
       obtain ⟨j2,hj2,k2,y2,rfl,ek,hk2,hy2,gy2,hu2,hdy2⟩:=key b hb _ hxb;obtain rfl:k=k2:=by omega
       obtain rfl:y=y2:=zaG F.h0 hk hu hu2 (by omega);exact hab (by omega)
     . rw [List.mem_singleton] at hy
       rw [List.mem_flatMap] at hx;obtain ⟨q,hq,hx⟩:=hx;obtain ⟨j,hj,k,y',rfl,rfl,hk,hy',gy,hu,hdy⟩:=key q hq x hx;rintro rfl;obtain rfl:k=v:=by omega
       have:=(yr F.h0 hk hu).2.1;omega
def Post (m:MdlD) (c:List Int):List Int->List Int->Prop
 | _,[]=>True
 | done,x :: t=>(∀ q ∈ ownM m x,atL c q<0\/atL c q ∈ done)/\Post m c (done ++ [x]) t
theorem Post.mono {m:MdlD} {c:List Int}:∀ (l d d':List Int),Post m c d l->(∀ x ∈ d,x ∈ d')->Post m c d' l
 | [],_,_,_,_=>trivial
 | x :: t,d,d',h,hs=>⟨fun q hq=>(h.1 q hq).imp id (hs _),Post.mono t _ _ h.2 (fun y hy=>by
     rw [List.mem_append] at hy |-;exact hy.imp (hs _) id)⟩
theorem Post.app {m:MdlD} {c:List Int}:∀ (a b d:List Int),Post m c d a->Post m c (d ++ a) b->Post m c d (a ++ b)
 | [],b,d,_,h=>by simpa using h
 | x :: t,b,d,h,k=>⟨h.1,Post.app t b _ h.2 (by simpa using k)⟩
theorem Post.flat {m:MdlD} {c:List Int} {g:Int->List Int}:∀ (l d:List Int),(∀ q ∈ l,∀ d,Post m c d (g q))->Post m c d (l.flatMap g)
 | [],_,_=>trivial
 | q :: t,d,h=>by
   rw [List.flatMap_cons];exact Post.app _ _ _ (h q List.mem_cons_self d) (Post.flat t _ fun q hq=>h q (List.mem_cons_of_mem _ hq))
theorem Post.closed {m:MdlD} {c:List Int}:∀ (l d:List Int),Post m c d l->∀ s ∈ l,∀ q ∈ ownM m s,atL c q<0\/atL c q ∈ d ++ l
 | [],_,_,_,h,_,_=>by cases h
 | x :: t,d,h,s,hs,q,hq=>by
   rcases List.mem_cons.1 hs with rfl | hs
   . exact (h.1 q hq).imp id fun h=>List.mem_append_left _ h
   . have:=Post.closed t _ h.2 s hs q hq
     simpa using this
theorem Post.at {m:MdlD} {c:List Int}:∀ (l d:List Int),Post m c d l->∀ (i:Nat) (hi:i<l.length),∀ q ∈ ownM m l[i],atL c q<0\/atL c q ∈ d ++ l.take i
 | x :: t,d,h,0,_,q,hq=>by simpa using h.1 q hq
 | x :: t,d,h,i+1,hi,q,hq=>by
   have:=Post.at t _ h.2 i (by simpa using hi) q (by simpa using hq);simpa using this
theorem zeF {m:MdlD} {c:List Int} (F:Fit m c):∀ (f r:Nat) (hr:r<m.zb.length) (d:List Int),(∀ k:Nat,atL c r=k->65<=deM m k+f)->Post m c d (exF m c f r)
 | 0,_,_,_,_=>trivial
 | f+1,r,hr,d,hd=>by
   unfold exF
   split
   . trivial
   . rename_i hn
     obtain ⟨v,hv,e,hg,hk,ha⟩:=yD F.hl F.hf hr (by omega);have hdv:=hd v e;rw [e]
     have dn:∀ j:Nat,∀ hj:j<m.zb.length,m.zb[j].own=(v:Int)->∀ y:Nat,atL c j=y->deM m y=deM m v+1/\deM m y<=64:=fun j hj ho y hy=>by
       obtain ⟨y',hy',ey,gy,dy,_⟩:=yD F.hl F.hf hj (by omega);obtain rfl:y=y':=by omega
       exact ⟨(qI F hj ho hv hy' hy gy dy).2,by have:=zO F.h0 hy';omega⟩
     refine Post.app _ _ _ (Post.flat _ _ fun q hq d'=>?_) ⟨fun q hq=>?_,trivial⟩
     . obtain ⟨j,hj,rfl,ho⟩:=yE hq
       exact zeF F f j hj d' fun y hy=>by have:=(dn j hj ho y hy).1;omega
     . by_cases h:atL c q<0
       . exact .inl h
       . right
         have hq2:=hq;obtain ⟨j,hj,rfl,ho⟩:=yE hq;obtain ⟨y,hy⟩:=Int.eq_ofNat_of_zero_le (show 0<=atL c j by omega);have:=dn j hj ho y hy;obtain ⟨g,rfl⟩:∃ g,f=g+1:=⟨f - 1,by omega⟩;rw [List.mem_append,List.mem_flatMap];refine .inr ⟨j,hq2,?_⟩;unfold exF;rw [if_neg h,List.mem_append,List.mem_singleton];exact .inr rfl
theorem exM_post {m:MdlD} {c:List Int} (F:Fit m c) {r:Nat} (hr:r<m.zb.length):Post m c [] (exM m c r):=zeF F 66 r hr [] fun k _=>by omega
theorem zbK {m:MdlD} {c:List Int} (F:Fit m c) {r:Nat} (hr:r<m.zb.length):(exM m c r).Nodup:=zaJ F 66 r hr
theorem zcf {m:MdlD} {c:List Int} (F:Fit m c) {r:Nat} (hr:r<m.zb.length) {x:Int} (h:x ∈ exM m c r):∃ k:Nat,x=k/\k<m.zc.length/\isA m c k=true:=by
 obtain ⟨k,_,e,hk,ha,_⟩:=zc8 F 66 r hr x h;exact ⟨k,e,hk,ha⟩
theorem zaK (c done:List Int) (r:Int):atL (leftM c done) r=if atL c r ∈ done then -1 else atL c r:=by
 unfold atL leftM;rw [List.getD_eq_getElem?_getD,List.getD_eq_getElem?_getD,List.getElem?_map]
 cases h:c[r.toNat]? with
 | none=>simp
 | some x=>simp
theorem zcg {c done:List Int} {i:Nat} (h:i<(leftM c done).length) (h':i<c.length):(leftM c done)[i]=if c[i] ∈ done then -1 else c[i]:=List.getElem_map _
theorem zaL (c done:List Int):(leftM c done).length=c.length:=List.length_map _
theorem j7 (c:List Int):leftM c []=c:=by unfold leftM;simp
theorem qS {m:MdlD} {c:List Int} {v:Int} (h:isA m c v=true):stands m v=true/\atL c (rgA m v)=v:=by
 unfold isA at h;simpa only [Bool.and_eq_true,beq_iff_eq] using h
theorem zaM {m:MdlD} {c done:List Int} {v:Int} (hv:0<=v):isA m (leftM c done) v=(isA m c v && !decide (v ∈ done)):=by
 unfold isA;rw [zaK]
 by_cases h:atL c (rgA m v)=v
 . rw [h]
   by_cases hd:v ∈ done
   . rw [if_pos hd]
     have:((-1:Int) == v)=false:=by rw [beq_eq_false_iff_ne];omega
     simp [this,hd]
   . rw [if_neg hd];simp [hd]
 . have h1:(atL c (rgA m v) == v)=false:=by rw [beq_eq_false_iff_ne];exact h
   rw [h1]
   split
   . have:((-1:Int) == v)=false:=by rw [beq_eq_false_iff_ne];omega
     rw [this];simp
   . rw [h1];simp
theorem zbL {m:MdlD} {c done:List Int} (F:Fit m c) {x:Int} (ha:isA m c x=true):(leftM c done).set (rgA m x).toNat (-1)=leftM c (done ++ [x]):=by
 obtain ⟨hs,hx⟩:=qS ha;obtain ⟨k,hk,rfl,r,hr,e1,_,e2,_⟩:=zD F.h0 hs;rw [e1] at hx |-;rw [Int.toNat_natCast];apply List.ext_getElem (by simp [leftM]);intro i hi hi';have hic:i<c.length:=by simpa [leftM] using hi'
 rw [List.getElem_set,zcg hi' hic]
 by_cases h:r=i
 . subst h
   rw [if_pos rfl];have:c[r]=k:=by rw [<- hx];unfold atL;rw [Int.toNat_natCast,List.getD_eq_getElem?_getD,List.getElem?_eq_getElem hic];rfl
   rw [this,if_pos (by simp)]
 . rw [if_neg h,zcg (by simpa [leftM] using hic) hic]
   have hne:c[i]≠(k:Int):=fun e=>by
     have hm:=yb.1 F.hf i hic;rw [e] at hm;unfold mayM at hm;rw [if_pos (zE hk),Int.toNat_natCast,List.getElem?_eq_getElem hk] at hm;simp only [Bool.and_eq_true,beq_iff_eq] at hm;omega
   have e:(c[i] ∈ done ++ [(k:Int)])=(c[i] ∈ done):=by simp [hne]
   simp only [e]
theorem jn {m:MdlD} {c:List Int} (F:Fit m c) (done:List Int):Fit m (leftM c done):=by
 refine ⟨F.h0,by rw [zaL];exact F.hl,?_⟩;rw [yb];intro r hr;have hrc:r<c.length:=by simpa [leftM] using hr
 rw [zcg hr hrc]
 split
 . unfold mayM;simp [hasV]
 . exact yb.1 F.hf r hrc
def leaveOk (m:MdlD) (d:List Int) (v:Int):Bool:=!((ownM m v).any fun q=>decide (0<=atL d q)) && isA m d v
theorem leave_at {m:MdlD} {c:List Int} (F:Fit m c) {r:Nat} (hr:r<m.zb.length) {i:Nat} (hi:i<(exM m c r).length):leaveOk m (leftM c ((exM m c r).take i)) (exM m c r)[i]=true:=by
 obtain ⟨k,e,hk,ha⟩:=zcf F hr (List.getElem_mem hi);have hp:=Post.at _ _ (exM_post F hr) i hi
 have hnot:(exM m c r)[i] ∉ (exM m c r).take i:=fun h=>by
   obtain ⟨j,hj,ej⟩:=List.getElem_of_mem h;rw [List.getElem_take] at ej;have:=(List.nodup_iff_pairwise_ne.1 (zbK F hr));have hji:j<i:=by simp at hj;omega
   exact (List.pairwise_iff_getElem.1 this j i (by omega) hi hji) ej
 unfold leaveOk;rw [Bool.and_eq_true];constructor
 . rw [Bool.not_eq_true',List.any_eq_false]
   intro q hq;rw [zaK];have:=hp q hq;rw [List.nil_append] at this
   rcases this with h | h
   . split <;> simp <;> omega
   . rw [if_pos h];simp
 . rw [e] at hnot |-
   rw [zaM (by omega),ha];simpa using hnot
def noStray (m:MdlD) (c:List Int):Prop:=∀ r:Nat,r<m.zb.length->0<=ownA m r->0<=atL c r->isA m c (ownA m r)=true
theorem zdZ {m:MdlD} {c done:List Int} (h:noStray m c) (hc:∀ s ∈ done,∀ q ∈ ownM m s,atL c q<0\/atL c q ∈ done):noStray m (leftM c done):=fun r hr ho ha=>by
 rw [zaK] at ha
 split at ha
 . omega
 . rename_i hn
   have h1:=h r hr ho ha;rw [zaM ho,h1];simp only [Bool.true_and,Bool.not_eq_true',decide_eq_false_iff_not];intro hd
   rcases hc _ hd r (own_in hr (by rw [yq hr])) with h2 | h2
   . omega
   . exact hn h2
theorem zeG {m:MdlD} {d:List Int} {r:Nat} (hr:r<d.length) (h:atL d r<0) {v s:Int} (hs:0<=s) (ha:isA m d s=true):isA m (d.set r v) s=true:=by
 obtain ⟨h1,h2⟩:=qS ha;unfold isA;rw [h1,Bool.true_and,beq_iff_eq,jw hr,if_neg]
 . exact h2
 . intro e
   have:atL d (rgA m s)=atL d r:=by unfold atL;rw [e,Int.toNat_natCast]
   omega
theorem zd0 {m:MdlD} {c:List Int} (F:Fit m c) (hs:noStray m c) {v:Nat} (hv:v<m.zc.length) (ha:isA m c v=true):∀ x ∈ upsM m v,isA m c x=true:=by
 have key:∀ (d v:Nat) (hv:v<m.zc.length),deM m v=d->isA m c v=true->∀ x ∈ upsM m (arM m v),isA m c x=true:=by
   intro d
   induction d with
   | zero =>
    intro v hv hd _ x hx
    rcases qG F.h0 hv with e | ⟨s,hs,e,_⟩
    . rw [e,yT m (by omega)] at hx;cases hx
    . have:=zW F.h0 hv hs e;omega
   | succ d ih =>
    intro v hv hd ha x hx
    rcases qG F.h0 hv with e | ⟨s,hs',e,hkd⟩
    . rw [e,yT m (by omega)] at hx;cases hx
    . obtain ⟨hst,hat⟩:=qS ha
      obtain ⟨k,hk,ek,r,hr,e1,_,e2,_,e3⟩:=zD F.h0 hst;obtain rfl:v=k:=by omega
      rw [e1] at hat
      have has:isA m c (s:Int)=true:=by
        have:=hs r hr (by rw [yq hr,<- e3,e];omega) (by omega);rwa [yq hr,<- e3,e] at this
      rw [e,ya F.h0 hs',List.mem_cons] at hx
      rcases hx with rfl | hx
      . exact has
      . exact ih s hs' (by have:=zW F.h0 hv hs' e;omega) has x hx
 intro x hx;rw [ya F.h0 hv,List.mem_cons] at hx
 rcases hx with rfl | hx
 . exact ha
 . exact key _ v hv rfl ha x hx
theorem up_next {m:MdlD} (h0:riM m=(0,0,0)) {v t:Nat} (hv:v<m.zc.length) (ht:(t:Int) ∈ upsM m v) (hne:v≠t):∃ u:Nat,u<m.zc.length/\(u:Int) ∈ upsM m v/\arM m u=t/\deM m u=deM m t+1:=by
 obtain ⟨htl,hle,hup⟩:=yr h0 hv ht
 have hlt:deM m t<deM m v:=by
   rcases Nat.lt_or_ge (deM m t) (deM m v) with h | h
   . exact h
   . exact absurd (zaG h0 hv zaF ht (by omega)) hne
 obtain ⟨j,hj⟩:∃ j,deM m v - deM m t=j+1:=⟨deM m v - deM m t - 1,by omega⟩;rw [hj] at hup;have hlen:=(zR h0 hv).1
 have hm:upN m j v ∈ upsM m v:=by
   rw [yJ,List.mem_map];exact ⟨j,List.mem_range.2 (by omega),rfl⟩
 obtain ⟨u,hu,e⟩:=qR h0 hv hm;rw [e] at hm;have ha:arM m u=t:=by rw [<- e,<- ye];exact hup
 exact ⟨u,hu,hm,ha,zW h0 hu htl ha⟩
theorem ex_all {m:MdlD} {c:List Int} (F:Fit m c) (hs:noStray m c):∀ (f r:Nat) (hr:r<m.zb.length),(∀ k:Nat,atL c r=k->65<=deM m k+f)->∀ (v:Nat) (hv:v<m.zc.length),isA m c v=true->inM m v r=true->(v:Int) ∈ exF m c f r
 | f,r,hr,hd,v,hv,ha,hin=>by
   obtain ⟨t,ht,htu,hpl,hrg⟩:=(j6 F.h0 hv hr).1 hin;have hta:=zd0 F hs hv ha _ htu;obtain ⟨hst,hat⟩:=qS hta;obtain ⟨k,hk,ek,q,hq,e1,e2,e3,_,e4⟩:=zD F.h0 hst;obtain rfl:t=k:=by omega
   have hqr:q=r:=by
     unfold homeM at e2;rw [zE ht,if_pos rfl] at e2;omega
   subst hqr;rw [e1] at hat;have hd1:=hd t hat;have hd2:=zO F.h0 ht
   cases f with
   | zero=>omega
   | succ f =>
    unfold exF;rw [hat,if_neg (by omega),List.mem_append,List.mem_singleton]
    by_cases hvt:v=t
    . right;omega
    . left
      obtain ⟨u,hu,huu,hua,hud⟩:=up_next F.h0 hv htu hvt;have hact:=zd0 F hs hv ha _ huu;obtain ⟨hst2,hat2⟩:=qS hact;obtain ⟨k2,hk2,ek2,q2,hq2,g1,g2,g3,_,g4⟩:=zD F.h0 hst2;obtain rfl:u=k2:=by omega
      rw [g1] at hat2;rw [List.mem_flatMap];refine ⟨q2,own_in hq2 (by rw [<- g4,hua]),ex_all F hs f q2 hq2 (fun k hk=>?_) v hv ha (yS.2 ⟨zE hv,u,huu,?_⟩)⟩
      . obtain rfl:u=k:=by omega
        omega
      . unfold homeM at g2
        rw [zE hu,if_pos rfl] at g2;exact g2
theorem exM_all {m:MdlD} {c:List Int} (F:Fit m c) (hs:noStray m c) {r:Nat} (hr:r<m.zb.length) {v:Nat} (hv:v<m.zc.length) (ha:isA m c v=true) (hin:inM m v r=true):(v:Int) ∈ exM m c r:=ex_all F hs 66 r hr (fun _ _=>by omega) v hv ha hin
theorem exM_in {m:MdlD} {c:List Int} (F:Fit m c) {r:Nat} (hr:r<m.zb.length) {x:Int} (h:x ∈ exM m c r):inM m x r=true:=by
 obtain ⟨k,v,rfl,hk,_,hv,e,hu⟩:=zc8 F 66 r hr x h;obtain ⟨v',hv',e',hg,hd,_⟩:=yD F.hl F.hf hr (by omega);obtain rfl:v=v':=by omega
 refine yS.2 ⟨zE hk,v,hu,?_⟩;have hst:stands m v=true:=by rw [yg hv];simpa using hd
 obtain ⟨k2,hk2,ek2,q2,hq2,_,g2,g3,_,_⟩:=zD F.h0 hst;obtain rfl:v=k2:=by omega
 unfold homeM at g2;rw [zE hv,if_pos rfl] at g2;omega
theorem left_act {m:MdlD} {c:List Int} (F:Fit m c) (hs:noStray m c) {r:Nat} (hr:r<m.zb.length) {v:Nat} (hv:v<m.zc.length):isA m (leftM c (exM m c r)) v=(isA m c v && !inM m v r):=by
 rw [zaM (by omega)]
 cases ha:isA m c v with
 | false=>rfl
 | true =>
  simp only [Bool.true_and];congr 1
  cases hin:inM m v r with
  | true=>exact decide_eq_true (exM_all F hs hr hv ha hin)
  | false =>
   refine decide_eq_false fun h=>?_;rw [exM_in F hr h] at hin;cases hin
def entM (m:MdlD) (r e:Int):List Int:=if inM m e r then (chainM m e).filter (fun v=>inM m v r) ++ (if stands m e then [e] else []) else []
inductive Pth (m:MdlD):Nat->List Nat->Prop
 | one {r p:Nat}:p<m.zc.length->r<m.zb.length->stands m p=true->rgA m p=r->arM m p=ownA m r->Pth m r [p]
 | cons {r p q:Nat} {L:List Nat}:p<m.zc.length->r<m.zb.length->stands m p=true->rgA m p=r->arM m p=ownA m r->(q:Int) ∈ ownM m p->Pth m q L->Pth m r (p :: L)
theorem qg {m:MdlD} (h0:riM m=(0,0,0)) {k:Nat} (h:stands m k=true):∃ r:Nat,r<m.zb.length/\rgA m k=r/\rgM m k=r/\arM m k=ownA m r:=by
 obtain ⟨k',hk,ek,r,hr,e1,e2,_,_,e4⟩:=zD h0 h;obtain rfl:k=k':=by omega
 refine ⟨r,hr,e1,?_,by rw [e4,yq hr]⟩;unfold homeM at e2;rw [zE hk,if_pos rfl] at e2;exact e2
theorem Pth.first {m:MdlD} {r:Nat} {L:List Nat} (h:Pth m r L):∃ p L',L=p :: L'/\p<m.zc.length/\r<m.zb.length/\stands m p=true/\rgA m p=r/\arM m p=ownA m r:=by
 cases h with
 | one a b c d e=>exact ⟨_,[],rfl,a,b,c,d,e⟩
 | cons a b c d e _ _=>exact ⟨_,_,rfl,a,b,c,d,e⟩
theorem Pth.snoc {m:MdlD} (h0:riM m=(0,0,0)) {x s:Nat} (hx:stands m x=true) (hxl:x<m.zc.length) (ha:arM m x=s):∀ {r:Nat} {L:List Nat},Pth m r L->L.getLast? = some s->Pth m r (L ++ [x]):=by
 intro r L h;obtain ⟨q,hq,e1,_,e3⟩:=qg h0 hx;have ho:(q:Int) ∈ ownM m s:=own_in hq (by rw [<- yq hq,<- e3,ha])
 induction h with
 | @one r p a b c d e =>
  intro hl;simp only [List.getLast?_singleton,Option.some.injEq] at hl;subst hl;exact .cons a b c d e ho (.one hxl hq hx e1 e3)
 | @cons r p q' L a b c d e f g ih =>
  intro hl;obtain ⟨p2,L2,rfl,_⟩:=g.first
  rw [List.getLast?_cons_cons] at hl;exact .cons a b c d e f (ih hl)
theorem zc9 {m:MdlD} (h0:riM m=(0,0,0)) {r:Nat} (hr:r<m.zb.length):∀ (d x:Nat) (hx:x<m.zc.length),deM m x=d->stands m x=true->inM m x r=true->∃ L:List Nat,(upsM m x).reverse.filter (fun v=>inM m v r)=L.map (fun k:Nat=>(k:Int))/\Pth m r L/\L.getLast? = some x:=by
 intro d
 induction d with
 | zero =>
  intro x hx hd hst hin;obtain ⟨q,hq,e1,e2,e3⟩:=qg h0 hst
  have hups:upsM m x=[(x:Int)]:=by
    rw [ya h0 hx]
    rcases qG h0 hx with e | ⟨s,hs,e,_⟩
    . rw [e,yT m (by omega)]
    . have:=zW h0 hx hs e;omega
  obtain ⟨p,hp,e⟩:=(yS.1 hin).2;rw [hups,List.mem_singleton] at hp;subst hp;obtain rfl:q=r:=by omega
  refine ⟨[x],?_,.one hx hq hst e1 e3,rfl⟩;rw [hups]
  simp [hin]
 | succ d ih =>
  intro x hx hd hst hin;obtain ⟨q,hq,e1,e2,e3⟩:=qg h0 hst
  have hsome:∃ s,∃ hs:s<m.zc.length,arM m x=(s:Int)/\m.zc[s].kd=1:=by
    rcases qG h0 hx with e | h
    . have:deM m x=0:=by
        have:=(yp h0 hx).1;rw [e] at this;rw [<- this];unfold lenM dpM;rfl
      omega
    . exact h
  obtain ⟨s,hs,ea,hkd⟩:=hsome;have hds:=zW h0 hx hs ea
  by_cases hqr:q=r
  . subst hqr
    refine ⟨[x],?_,.one hx hq hst e1 e3,rfl⟩;rw [ya h0 hx,List.reverse_cons,List.filter_append]
    have:(upsM m (arM m x)).reverse.filter (fun v=>inM m v q)=[]:=by
      rw [List.filter_eq_nil_iff];intro y hy;rw [List.mem_reverse,ea] at hy;obtain ⟨t,ht,rfl⟩:=qR h0 hs hy;intro hc;have hu:=in_under h0 ht hq (s:=s) (by rw [<- yq hq,<- e3,ea]) hc;have h1:=((yW h0 ht).1 hu).2;have h2:=(yr h0 hs hy).2.1;omega
    rw [this]
    simp [hin]
  . have hins:inM m s r=true:=by
      obtain ⟨p,hp,e⟩:=(yS.1 hin).2;rw [ya h0 hx,List.mem_cons] at hp
      rcases hp with rfl | hp
      . exfalso;omega
      . rw [ea] at hp
        exact yS.2 ⟨zE hs,p,hp,e⟩
    have hss:stands m s=true:=by rw [yg hs];simp [hkd]
    obtain ⟨L,h1,h2,h3⟩:=ih s hs (by omega) hss hins;refine ⟨L ++ [x],?_,h2.snoc h0 hst hx ea h3,by simp⟩;rw [ya h0 hx,ea,List.reverse_cons,List.filter_append,h1]
    simp [hin]
theorem ent_pth {m:MdlD} (h0:riM m=(0,0,0)) {r:Nat} (hr:r<m.zb.length) {e:Int} (h:entM m r e≠[]):∃ L:List Nat,entM m r e=L.map (fun k:Nat=>(k:Int))/\Pth m r L:=by
 unfold entM at h |-
 split at h
 . rename_i hin
   rw [if_pos hin];obtain ⟨k,rfl,hk⟩:=zN (yS.1 hin).1;have hch:chainM m k=(upsM m (arM m k)).reverse:=by unfold chainM;rw [zE hk,if_pos rfl]
   cases hst:stands m (k:Int) with
   | true =>
    obtain ⟨L,h1,h2,_⟩:=zc9 h0 hr _ k hk rfl hst hin;refine ⟨L,?_,h2⟩;rw [<- h1,hch,ya h0 hk,List.reverse_cons,List.filter_append,if_pos rfl]
    simp [hin]
   | false =>
    rw [hst] at h;simp only [Bool.false_eq_true,if_false,List.append_nil] at h |-;rw [hch] at h |-
    rcases qG h0 hk with e | ⟨s,hs,ea,hkd⟩
    . rw [e,yT m (by omega)] at h;exact absurd rfl h
    . rw [ea] at h |-
      have hss:stands m s=true:=by rw [yg hs];simp [hkd]
      have hins:inM m s r=true:=by
        cases hc:inM m s r with
        | true=>rfl
        | false =>
         exfalso;apply h;rw [List.filter_eq_nil_iff];intro y hy;rw [List.mem_reverse] at hy;intro hcy;obtain ⟨t,ht,rfl⟩:=qR h0 hs hy;obtain ⟨p,hp,e⟩:=(yS.1 hcy).2;rw [yS.2 ⟨zE hs,p,?_,e⟩] at hc
         . cases hc
         . obtain ⟨pn,hpn,rfl⟩:=qR h0 ht hp
           exact up_trans h0 hs hy hp
      obtain ⟨L,h1,h2,_⟩:=zc9 h0 hr _ s hs rfl hss hins;exact ⟨L,h1,h2⟩
 . exact absurd rfl h
def enterOk (m:MdlD) (c:List Int) (v:Int):Bool:=decide (atL c (rgA m v)<0) && (upsM m (arM m v)).all (isA m c)
def entered (m:MdlD) (c:List Int) (L:List Nat):List Int:=L.foldl (fun (c:List Int) (p:Nat)=>c.set (rgA m p).toNat p) c
theorem j8 {m:MdlD} {c:List Int} (F:Fit m c) {p:Nat} (hp:stands m p=true):Fit m (c.set (rgA m p).toNat p):=by
 obtain ⟨r,hr,e1,_,_⟩:=qg F.h0 hp;refine ⟨F.h0,by rw [List.length_set];exact F.hl,?_⟩;rw [yb];intro i hi;rw [List.getElem_set]
 split
 . rename_i h
   have:=zdY hp;rw [e1] at this h;rw [Int.toNat_natCast] at h;rw [<- h];exact this
 . exact yb.1 F.hf i (by rw [List.length_set] at hi;exact hi)
theorem zbM {m:MdlD} {c:List Int} (F:Fit m c) (hs:noStray m c) {p r:Nat} (hp:stands m p=true) (hr:r<m.zb.length) (e1:rgA m p=r) (e3:arM m p=ownA m r) (hn:atL c r<0) (ho:ownA m r<0\/isA m c (ownA m r)=true):noStray m (c.set (rgA m p).toNat p):=fun q hq hoq ha=>by
 have hrl:r<c.length:=by rw [F.hl];exact hr
 rw [e1,Int.toNat_natCast] at ha |-;rw [jw hrl] at ha
 by_cases e:(q:Int).toNat=r
 . obtain rfl:q=r:=by omega
   exact zeG hrl hn hoq (ho.resolve_left (by omega))
 . rw [if_neg e] at ha
   exact zeG hrl hn hoq (hs q hq hoq ha)
theorem zda {α β:Type} {g:α->List β} {q:α}:∀ {l:List α},l.Nodup->q ∈ l->(∀ x ∈ l,x≠q->g x=[])->l.flatMap g=g q
 | [],_,h,_=>by cases h
 | x :: t,hn,h,hg=>by
   rw [List.flatMap_cons];rw [List.nodup_cons] at hn
   by_cases e:x=q
   . subst e
     have:t.flatMap g=[]:=by
       rw [List.flatMap_eq_nil_iff];exact fun y hy=>hg y (List.mem_cons_of_mem _ hy) (fun e=>hn.1 (e ▸ hy))
     rw [this,List.append_nil]
   . rw [hg x List.mem_cons_self e,List.nil_append]
     exact zda hn.2 ((List.mem_cons.1 h).resolve_left (fun e2=>e e2.symm)) fun y hy=>hg y (List.mem_cons_of_mem _ hy)
structure EntP (m:MdlD) (c:List Int) (r:Nat) (L:List Nat):Prop where
 ok:∀ i (hi:i<L.length),enterOk m (entered m c (L.take i)) L[i]=true/\stands m L[i]=true/\Fit m (entered m c (L.take i))
 fit:Fit m (entered m c L)
 ns:noStray m (entered m c L)
 keep:∀ q:Int,0<=atL c q->atL (entered m c L) q=atL c q
 only:∀ q:Nat,atL (entered m c L) q≠atL c q->q=r\/∃ s ∈ L,(q:Int) ∈ ownM m s
 deep:∀ s ∈ L,∀ p L',L=p :: L'->deM m p<=deM m s
 o:∀ f,(∀ p L',L=p :: L'->65<=deM m p+f)->exF m (entered m c L) f r=(L.map (fun k:Nat=>(k:Int))).reverse
 back:leftM (entered m c L) (L.map (fun k:Nat=>(k:Int)))=c
theorem zdb {m:MdlD} {c:List Int} (F:Fit m c) {r:Nat} (hr:r<c.length) (h:atL c r<0):c[r]=-1:=by
 have hm:=yb.1 F.hf r hr;have e:atL c r=c[r]:=by unfold atL;rw [Int.toNat_natCast,List.getD_eq_getElem?_getD,List.getElem?_eq_getElem hr];rfl
 rw [e] at h;unfold mayM at hm
 split at hm
 . rename_i hv
   obtain ⟨k,ek,_⟩:=zN hv;omega
 . simpa using hm
theorem row_at {m:MdlD} {c:List Int} (F:Fit m c) {i p:Nat} (hi:i<c.length) (hp:p<m.zc.length) (h:c[i]=(p:Int)):rgA m p=i:=by
 have hm:=yb.1 F.hf i hi;rw [h] at hm;unfold mayM at hm;rw [if_pos (zE hp),Int.toNat_natCast,List.getElem?_eq_getElem hp] at hm;simp only [Bool.and_eq_true,beq_iff_eq] at hm;rw [zdX hp,hm.1]
structure Ent1 (m:MdlD) (c:List Int) (r p:Nat):Prop where
 ok:enterOk m c p=true
 fit:Fit m (c.set (rgA m p).toNat p)
 ns:noStray m (c.set (rgA m p).toNat p)
 self:atL (c.set (rgA m p).toNat p) r=p
 other:∀ q:Int,q.toNat≠r->atL (c.set (rgA m p).toNat p) q=atL c q
 low:∀ q ∈ ownM m p,q.toNat≠r/\atL c q<0
theorem zeH {m:MdlD} {c:List Int} (F:Fit m c) (hs:noStray m c) {r p:Nat} (hpl:p<m.zc.length) (hr:r<m.zb.length) (hp:stands m p=true) (e1:rgA m p=r) (e3:arM m p=ownA m r) (hn:atL c r<0) (ho:ownA m r<0\/isA m c (ownA m r)=true):Ent1 m c r p:=by
 have hrl:r<c.length:=by rw [F.hl];exact hr
 refine ⟨?_,j8 F hp,zbM F hs hp hr e1 e3 hn ho,?_,fun q hq=>?_,fun q hq=>?_⟩
 . unfold enterOk
   rw [e1,decide_eq_true hn,Bool.true_and,List.all_eq_true,e3];intro x hx
   rcases ho with h | h
   . rw [yT m h] at hx;cases hx
   . obtain ⟨k,hk,ek,_⟩:=zD F.h0 (qS h).1
     rw [ek] at h hx;exact zd0 F hs hk h x hx
 . rw [e1,Int.toNat_natCast,jw hrl,if_pos (Int.toNat_natCast r)]
 . rw [e1,Int.toNat_natCast,jw hrl,if_neg hq]
 . obtain ⟨j,hj,rfl,hjo⟩:=yE hq
   constructor
   . intro e
     obtain rfl:j=r:=by omega
     rw [yq hj,hjo] at e3;have:=zW F.h0 hpl hpl e3;omega
   . rcases Int.lt_or_le (atL c j) 0 with h | h
     . exact h
     . exfalso
       have:=hs j hj (by rw [yq hj,hjo];omega) h;rw [yq hj,hjo] at this;have:=(qS this).2;rw [e1] at this;omega
theorem ent_all {m:MdlD} (h0:riM m=(0,0,0)) {r:Nat} {L:List Nat} (h:Pth m r L):∀ {c:List Int},Fit m c->noStray m c->atL c r<0->(ownA m r<0\/isA m c (ownA m r)=true)->EntP m c r L:=by
 induction h with
 | @one r p hpl hr hp e1 e3 =>
  intro c F hs hn ho;have hrl:r<c.length:=by rw [F.hl];exact hr
  obtain ⟨ok,fit,ns,self,other,low⟩:=zeH F hs hpl hr hp e1 e3 hn ho;refine ⟨fun i hi=>?_,fit,ns,fun q hq=>?_,fun q hq=>?_,fun s hs' p' L' e=>?_,fun f hf=>?_,?_⟩
  . obtain rfl:i=0:=by simpa using hi
    exact ⟨ok,hp,F⟩
  . refine other q fun e=>?_
    have:atL c q=atL c r:=by unfold atL;rw [e,Int.toNat_natCast]
    omega
  . by_cases e:(q:Int).toNat=r
    . left;omega
    . exact absurd (other q e) hq
  . simp only [List.mem_singleton] at hs'
    simp only [List.cons.injEq] at e;rw [hs',e.1];exact Nat.le_refl _
  . have h1:=hf p [] rfl
    have h2:=zO h0 hpl;obtain ⟨g,rfl⟩:∃ g,f=g+1:=⟨f - 1,by omega⟩;unfold exF
    show (if atL (c.set (rgA m p).toNat p) r<0 then _ else _)=_
    rw [show atL (entered m c [p]) r=p from self,self,if_neg (by omega)]
    have:(ownM m (p:Int)).flatMap (exF m (entered m c [p]) g)=[]:=by
      rw [List.flatMap_eq_nil_iff];intro q hq;obtain ⟨l1,l2⟩:=low q hq
      cases g with
      | zero=>rfl
      | succ g =>
       unfold exF;rw [show atL (entered m c [p]) q=atL c q from other q l1,if_pos l2]
    rw [this];rfl
  . apply List.ext_getElem (by simp [leftM,entered])
    intro i hi hi';unfold leftM entered;simp only [List.getElem_map,List.foldl_cons,List.foldl_nil,List.map_cons,List.map_nil,List.mem_singleton];simp only [List.getElem_set,e1,Int.toNat_natCast]
    by_cases e:r=i
    . subst e
      simp only [if_true,zdb F hi' hn]
    . simp only [if_neg e]
      rw [if_neg];intro e2;have:=row_at F hi' hpl e2;omega
 | @cons r p q L hpl hr hp e1 e3 hq hL ih =>
  intro c F hs hn ho;have hrl:r<c.length:=by rw [F.hl];exact hr
  obtain ⟨ok,fit,ns,self,other,low⟩:=zeH F hs hpl hr hp e1 e3 hn ho;have hlq:=low q hq;obtain ⟨j,hj,ej,hjo⟩:=yE hq;obtain rfl:q=j:=by omega
  have hact:isA m (c.set (rgA m p).toNat p) p=true:=by
    unfold isA;rw [hp,e1];rw [e1] at self;simpa using self
  have E:=ih fit ns (by rw [other q hlq.1];exact hlq.2) (.inr (by rw [yq hj,hjo];exact hact));obtain ⟨p',L',eL,hpl',_,hp',e1',e3'⟩:=hL.first
  have hdp:deM m p'=deM m p+1:=zW h0 hpl' hpl (by rw [e3',yq hj,hjo]);have hen:entered m c (p :: L)=entered m (c.set (rgA m p).toNat p) L:=rfl;refine ⟨fun i hi=>?_,E.fit,E.ns,fun x hx=>?_,fun x hx=>?_,fun s hs' p2 L2 e=>?_,fun f hf=>?_,?_⟩
  . cases i with
    | zero=>exact ⟨ok,hp,F⟩
    | succ i=>exact E.ok i (by simpa using hi)
  . have hne:x.toNat≠r:=fun e=>by
      have:atL c x=atL c r:=by unfold atL;rw [e,Int.toNat_natCast]
      omega
    rw [hen,E.keep x (by rw [other x hne];exact hx),other x hne]
  . by_cases e:(x:Int).toNat=r
    . left;omega
    . right
      rw [hen,<- other x e] at hx
      rcases E.only x hx with rfl | ⟨s,hs',h⟩
      . exact ⟨p,List.mem_cons_self,hq⟩
      . exact ⟨s,List.mem_cons_of_mem _ hs',h⟩
  . simp only [List.cons.injEq] at e
    obtain ⟨rfl,rfl⟩:=e
    rcases List.mem_cons.1 hs' with rfl | h
    . exact Nat.le_refl _
    . have:=E.deep s h p' L' eL
      omega
  . have h1:=hf p L rfl
    have h2:=zO h0 hpl;obtain ⟨g,rfl⟩:∃ g,f=g+1:=⟨f - 1,by omega⟩;have hself:atL (entered m c (p :: L)) r=p:=by rw [hen,E.keep r (by rw [self];omega),self]
    unfold exF;rw [hself,if_neg (by omega)]
    have hone:(ownM m (p:Int)).flatMap (exF m (entered m c (p :: L)) g)=exF m (entered m c (p :: L)) g q:=by
      refine zda (zbH _ _) hq fun x hx hxq=>?_
      cases g with
      | zero=>rfl
      | succ g =>
       unfold exF;rw [if_pos];obtain ⟨l1,l2⟩:=low x hx
       rcases Int.lt_or_le (atL (entered m c (p :: L)) x) 0 with h | h
       . exact h
       . exfalso
         obtain ⟨jx,hjx,rfl,hjxo⟩:=yE hx;rw [hen] at h
         rcases E.only jx (by rw [other jx l1];omega) with rfl | ⟨s,hs',h3⟩
         . exact hxq rfl
         . obtain ⟨j3,hj3,ej3,hjo3⟩:=yE h3
           obtain rfl:jx=j3:=by omega
           obtain rfl:s=p:=by omega
           have:=E.deep s hs' p' L' eL;omega
    rw [hone,hen,E.o g fun p2 L2 e2=>by
      rw [eL] at e2;simp only [List.cons.injEq] at e2;rw [<- e2.1];omega]
    simp
  . have hb:=E.back
    apply List.ext_getElem (by rw [zaL,hen,E.fit.hl,F.hl]);intro i hi hi';have hself:atL (entered m (c.set (rgA m p).toNat p) L) r=p:=by rw [E.keep r (by rw [self];omega),self]
    have hil:i<(entered m (c.set (rgA m p).toNat p) L).length:=by rw [E.fit.hl,<- F.hl];exact hi'
    have h1:(leftM (entered m (c.set (rgA m p).toNat p) L) (L.map (fun k:Nat=>(k:Int))))[i]'(by rw [zaL];exact hil)=(c.set (rgA m p).toNat p)[i]'(by rw [List.length_set];exact hi'):=by simp only [hb]
    unfold leftM at h1 |-;rw [List.getElem_map] at h1;simp only [hen,List.getElem_map,List.map_cons,List.mem_cons];rw [List.getElem_set] at h1;have hri:(rgA m p).toNat=r:=by rw [e1];rfl
    by_cases e:r=i
    . subst e
      have:(entered m (c.set (rgA m p).toNat p) L)[r]=(p:Int):=by
        refine Eq.trans ?_ hself;unfold atL;rw [Int.toNat_natCast,List.getD_eq_getElem?_getD,List.getElem?_eq_getElem hil];rfl
      exact (if_pos (.inl this)).trans (zdb F hi' hn).symm
    . rw [if_neg (fun h=>e (hri.symm.trans h))] at h1
      have hne:(entered m (c.set (rgA m p).toNat p) L)[i]≠(p:Int):=fun e2=>by
        have:=row_at E.fit hil hpl e2;omega
      refine Eq.trans ?_ h1;simp only [hne,false_or]
structure Rch (m:MdlD) (c:List Int):Prop where
 fit:Fit m c
 ns:noStray m c
theorem atL_none (n:Nat) (r:Int):atL (List.replicate n (-1)) r=-1:=by
 unfold atL;rw [List.getD_eq_getElem?_getD,List.getElem?_replicate]
 split <;> rfl
theorem fit_none {m:MdlD} (h0:riM m=(0,0,0)):Fit m (List.replicate m.zb.length (-1)):=by
 refine ⟨h0,List.length_replicate,?_⟩;rw [yb];intro r hr;rw [List.getElem_replicate];unfold mayM;simp [hasV]
theorem rch_none {m:MdlD} (h0:riM m=(0,0,0)):Rch m (List.replicate m.zb.length (-1)) :=
 ⟨fit_none h0,fun r hr ho ha=>by rw [atL_none] at ha;omega⟩
theorem ups_own {m:MdlD} {s:Nat} {f:Int->Bool} (h:(upsM m s).all f=true):f s=true :=
 List.all_eq_true.1 h _ zaF
theorem enter_at {m:MdlD} {c:List Int} {v:Int} (h0:riM m=(0,0,0)) (hs:stands m v=true) (hk:enterOk m c v=true):∃ p r:Nat,v=p/\p<m.zc.length/\r<m.zb.length/\rgA m v=r/\arM m p=ownA m r/\atL c r<0/\(ownA m r<0\/isA m c (ownA m r)=true):=by
 obtain ⟨p,hp,rfl,_⟩:=zD h0 hs;obtain ⟨r,hr,e1,_,e3⟩:=qg h0 hs;unfold enterOk at hk;rw [Bool.and_eq_true,decide_eq_true_eq,e1] at hk;refine ⟨p,r,rfl,hp,hr,e1,e3,hk.1,?_⟩
 rcases qG h0 hp with e | ⟨s,hs',e,_⟩
 . left;omega
 . right
   have:=hk.2;rw [e] at this;rw [<- e3,e];exact ups_own this
theorem zfD {m:MdlD} {c:List Int} (R:Rch m c) {v:Int} (hs:stands m v=true) (hk:enterOk m c v=true):Rch m (c.set (rgA m v).toNat v):=by
 obtain ⟨p,r,rfl,hp,hr,e1,e3,hn,ho⟩:=enter_at R.fit.h0 hs hk;exact ⟨j8 R.fit hs,zbM R.fit R.ns hs hr e1 e3 hn ho⟩
theorem zfE {m:MdlD} {c:List Int} (R:Rch m c) {v:Int} (hk:leaveOk m c v=true):Rch m (c.set (rgA m v).toNat (-1)):=by
 unfold leaveOk at hk;rw [Bool.and_eq_true,Bool.not_eq_true'] at hk;have e:=zbL (done:=[]) R.fit hk.2;rw [j7,List.nil_append] at e;rw [e];refine ⟨jn R.fit _,zdZ R.ns fun s hs q hq=>?_⟩;rw [List.mem_singleton] at hs;subst hs;have:=List.any_eq_false.1 hk.1 q hq
 left;simpa using this
theorem zaN {m:MdlD} {c:List Int} {v:Int} (h:isA m c v=true):stands m v=true:=(qS h).1
theorem home_in {m:MdlD} (h0:riM m=(0,0,0)) {a r:Int} {t:List Int} (hr:0<=r) (h:∀ x ∈ a :: t,inM m x r=true):0<=commonM m a (a :: t):=by
 have ha:=h a List.mem_cons_self;obtain ⟨hv,p,hp,e⟩:=yS.1 ha;obtain ⟨k,rfl,hk⟩:=zN hv;unfold commonM;rw [if_pos hv]
 cases hf:(upsM m k).find? (fun p=>((k:Int) :: t).all fun v=>inM m v (rgM m p)) with
 | none =>
  have:=List.find?_eq_none.1 hf p hp;rw [e] at this;exact absurd (List.all_eq_true.2 h) this
 | some q =>
  obtain ⟨s,hs,rfl⟩:=qR h0 hk (List.mem_of_find?_eq_some hf);obtain ⟨r2,_,e2⟩:=rg_lt h0 hs
  show 0<=rgM m s
  rw [e2];omega
theorem ent_in {m:MdlD} {r e x:Int} (h:x ∈ entM m r e):inM m x r=true:=by
 unfold entM at h
 split at h
 . rename_i hin
   rw [List.mem_append,List.mem_filter] at h
   rcases h with h | h
   . exact h.2
   . split at h
     . rw [List.mem_singleton] at h;rw [h];exact hin
     . cases h
 . cases h
theorem left_rev (c L:List Int):leftM c L.reverse=leftM c L:=by
 unfold leftM;simp only [List.mem_reverse]
theorem ex_nil {m:MdlD} {c:List Int} {r:Int} (h:exM m c r=[]):atL c r<0:=by
 unfold exM exF at h
 split at h
 . assumption
 . simp at h
def actS (c:List Int):List Int:=(c.filter fun x=>decide (0<=x)).mergeSort fun x y=>decide (x<=y)
def actF (m:MdlD) (c:List Int) (k:Nat):List Int:=((List.range k).filter fun v:Nat=>isA m c (v:Int)).map fun v:Nat=>(v:Int)
theorem zfF (m:MdlD) (c:List Int):actF m c 0=[]:=rfl
theorem zfG (m:MdlD) (c:List Int) (k:Nat):actF m c (k+1)=actF m c k ++ (if isA m c (k:Int) then [(k:Int)] else []):=by
 unfold actF;rw [List.range_succ,List.filter_append,List.map_append]
 cases h:isA m c (k:Int) <;> simp [h]
theorem zdc (m:MdlD) (c:List Int) (k:Nat):(actF m c k).length<=k:=by
 unfold actF;rw [List.length_map];have:=List.length_filter_le (fun v:Nat=>isA m c (v:Int)) (List.range k);simpa using this
theorem qT {c:List Int} {r:Nat} (h:r<c.length):atL c r=c[r]:=by
 unfold atL;rw [Int.toNat_natCast,List.getD_eq_getElem?_getD,List.getElem?_eq_getElem h];rfl
theorem act_mem {m:MdlD} {c:List Int} (F:Fit m c) (x:Int):(x ∈ c/\0<=x)↔x ∈ actF m c m.zc.length:=by
 unfold actF;rw [List.mem_map];constructor
 . rintro ⟨hx,h0⟩
   obtain ⟨i,hi,rfl⟩:=List.getElem_of_mem hx;obtain ⟨k,hk,e,_,_,ha⟩:=yD F.hl F.hf (r:=i) (by rw [<- F.hl];exact hi) (by rw [qT hi];exact h0);rw [qT hi] at e;exact ⟨k,List.mem_filter.2 ⟨List.mem_range.2 hk,ha⟩,e.symm⟩
 . rintro ⟨v,hv,rfl⟩
   obtain ⟨_,ha⟩:=List.mem_filter.1 hv;obtain ⟨hs,hat⟩:=qS ha;obtain ⟨r,hr,e1,_⟩:=qg F.h0 hs;rw [e1] at hat;have hrc:r<c.length:=by rw [F.hl];exact hr
   rw [qT hrc] at hat;exact ⟨hat ▸ List.getElem_mem hrc,by omega⟩
theorem zdd (c:List Int) (x:Int):x ∈ actS c↔x ∈ c/\0<=x:=by
 unfold actS;rw [(List.mergeSort_perm _ _).mem_iff,List.mem_filter,decide_eq_true_eq]
theorem zd1 {m:MdlD} {c:List Int} (F:Fit m c):(actS c).Nodup:=by
 unfold actS;rw [(List.mergeSort_perm _ _).nodup_iff,List.Nodup,List.pairwise_filter,List.pairwise_iff_getElem];intro i j hi hj hij h1 h2 e;rw [decide_eq_true_eq] at h1 h2;obtain ⟨k,hk,ek,g,_⟩:=yD F.hl F.hf (r:=i) (by rw [<- F.hl];exact hi) (by rw [qT hi];exact h1);obtain ⟨k2,hk2,ek2,g2,_⟩:=yD F.hl F.hf (r:=j) (by rw [<- F.hl];exact hj) (by rw [qT hj];exact h2);rw [qT hi] at ek;rw [qT hj] at ek2;obtain rfl:k=k2:=by omega
 omega
theorem act_eq {m:MdlD} {c:List Int} (F:Fit m c):actS c=actF m c m.zc.length:=by
 have key:∀ x,x ∈ actS c↔x ∈ actF m c m.zc.length:=fun x=>by rw [zdd,act_mem F]
 refine jM Int.toNat _ _ ?_ ?_ key
 . have hs:(actS c).Pairwise fun x y=>decide (x<=y)=true:=List.pairwise_mergeSort (fun a b c h1 h2=>by simp at h1 h2 |-;omega) (fun a b=>by simp;omega) _
   have hn:=zd1 F;rw [List.Nodup] at hn;have:=hs.and hn;refine List.Pairwise.imp_of_mem (fun {a b} ha hb h=>?_) this;have h0:=((zdd c a).1 ha).2;have h1:a<=b:=by simpa using h.1
   have h2:a≠b:=h.2;omega
 . unfold actF
   rw [List.pairwise_map];refine List.Pairwise.imp (fun {a b} h=>?_) ((List.pairwise_lt_range (n:=m.zc.length)).filter _);omega
theorem actS_len {m:MdlD} {c:List Int} (F:Fit m c):(actS c).length<=m.zc.length:=by rw [act_eq F];exact zdc m c _
def homeL (m:MdlD):List Int->Int
 | []=>-1
 | a :: t=>commonM m a (a :: t)
theorem homeL_eq {m:MdlD} (h0:riM m=(0,0,0)) (a:Int) (t:List Int):homeL m (a :: t)=comR m (a :: t) :=
 zfC h0 a (a :: t) (a :: t) fun x=>by simp
def entX (m:MdlD) (r e:Int):List Int:=if r<0 then [] else entM m r e
theorem kY {m:MdlD} (h0:riM m=(0,0,0)) (r e:Int):entX m r e=entM m r e:=by
 unfold entX
 split
 . unfold entM
   rw [if_neg];intro h;have:=zaH h0 h;unfold hasR at this;simp at this;omega
 . rfl
def finM (m:MdlD) (v:Int):Bool:=hasV m v && kdA m v == 2
def stA (m:MdlD) (v:Int):Bool:=hasV m v && kdA m v == 1
def cmpM (m:MdlD) (la ll:List Int) (v:Int) (fits:Bool):Bool:=fits && stA m v && isA m la v && !((ownM m v).any fun q=>!finM m (atL la q))
end Go.Md
