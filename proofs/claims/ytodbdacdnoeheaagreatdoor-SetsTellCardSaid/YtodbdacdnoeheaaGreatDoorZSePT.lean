/- What is left with a region, and filled again: plain. No program is in sight. -/
import Derived.Test.YtodbdacdnoeheaaGreatDoorZLgP
namespace Go.Md
open Go.RowKit Go.Lx Go.Proofs
set_option linter.unusedVariables false
def exF (m:MdlD) (c:List Int):Nat→Int→List Int
 | 0,_=>[]
 | f+1,r=>if atL c r<0 then [] else (ownM m (atL c r)).flatMap (exF m c f) ++ [atL c r]
def exM (m:MdlD) (c:List Int) (r:Int):List Int:=exF m c 66 r
structure Fit (m:MdlD) (c:List Int):Prop where
 h0:riM m=(0,0,0)
 hl:c.length=m.regs.length
 hf:fitRow m c=true
theorem own_at {m:MdlD} {s q:Int} (h:q ∈ ownM m s):∃ j:Nat,∃ hj:j<m.regs.length,q=j∧m.regs[j].own=s:=by
 obtain ⟨j,hj,e,hp⟩:=(sel_mem _ _ _).1 h
 exact ⟨j,hj,e,by simpa [isOwn] using hp⟩
theorem own_in {m:MdlD} {s:Int} {j:Nat} (hj:j<m.regs.length) (h:m.regs[j].own=s):(j:Int) ∈ ownM m s:=(sel_mem _ _ _).2 ⟨j,hj,rfl,by simp [isOwn,h]⟩
theorem below_own {m:MdlD} {c:List Int} (F:Fit m c) {j v k:Nat} (hj:j<m.regs.length) (ho:m.regs[j].own=(v:Int)) (hv:v<m.vers.length) (hk:k<m.vers.length) (ha:atL c j=k) (hg:m.vers[k].rg=j) (hd:m.vers[k].kd=1∨m.vers[k].kd=2):arM m k=v∧deM m k=deM m v+1:=by
 have hst:stands m k=true:=by rw [stands_at hk];simpa using hd
 obtain ⟨k',hk',ek,r,hr,e1,e2,e3,e4,e5⟩:=stands_in F.h0 hst
 obtain rfl:k=k':=by omega
 obtain rfl:j=r:=by omega
 have e:arM m k=v:=by rw [e5,ho]
 exact ⟨e,dp_succ F.h0 hk hv e⟩
theorem ex_in {m:MdlD} {c:List Int} (F:Fit m c):∀ (f r:Nat) (hr:r<m.regs.length) (x:Int),x ∈ exF m c f r→∃ k v:Nat,x=k∧k<m.vers.length∧isA m c k=true∧v<m.vers.length∧atL c r=v∧(v:Int) ∈ upsM m k
 | 0,_,_,_,h=>by cases h
 | f+1,r,hr,x,h=>by
   unfold exF at h
   split at h
   · cases h
   · rename_i hn
     obtain ⟨v,hv,e,hg,hd,ha⟩:=fit_in F.hl F.hf hr (by omega)
     rw [List.mem_append,List.mem_singleton,List.mem_flatMap] at h
     rcases h with ⟨q,hq,hx⟩ | rfl
     · rw [e] at hq
       obtain ⟨j,hj,rfl,ho⟩:=own_at hq
       obtain ⟨k,y,ex,hk,hka,hy,hjy,hup⟩:=ex_in F f j hj x hx
       obtain ⟨y',hy',ey,gy,dy,_⟩:=fit_in F.hl F.hf hj (by omega)
       obtain rfl:y=y':=by omega
       obtain ⟨ar,_⟩:=below_own F hj ho hv hy hjy gy dy
       exact ⟨k,v,ex,hk,hka,hv,e,ups_trans F.h0 hk hup ar hv⟩
     · exact ⟨v,v,e,hv,ha,hv,e,ups_self⟩
theorem ex_nodup {m:MdlD} {c:List Int} (F:Fit m c):∀ (f r:Nat) (hr:r<m.regs.length),(exF m c f r).Nodup
 | 0,_,_=>List.nodup_nil
 | f+1,r,hr=>by
   unfold exF
   split
   · exact List.nodup_nil
   · rename_i hn
     obtain ⟨v,hv,e,hg,hd,ha⟩:=fit_in F.hl F.hf hr (by omega)
     rw [e]
     have key:∀ q ∈ ownM m (v:Int),∀ x ∈ exF m c f q,∃ j:Nat,∃ hj:j<m.regs.length,∃ k y:Nat,q=j∧x=k∧∃ hk:k<m.vers.length,∃ hy:y<m.vers.length,m.vers[y].rg=j∧(y:Int) ∈ upsM m k∧deM m y=deM m v+1:=by
       intro q hq x hx
       obtain ⟨j,hj,rfl,ho⟩:=own_at hq
       obtain ⟨k,y,ex,hk,hka,hy,hjy,hup⟩:=ex_in F f j hj x hx
       obtain ⟨y',hy',ey,gy,dy,_⟩:=fit_in F.hl F.hf hj (by omega)
       obtain rfl:y=y':=by omega
       exact ⟨j,hj,k,y,rfl,ex,hk,hy,gy,hup,(below_own F hj ho hv hy hjy gy dy).2⟩
     rw [List.nodup_append]
     refine ⟨nodup_flatMap (sel_nodup _ _) (fun q hq=>?_) (fun a ha' b hb hab x hxa hxb=>?_),by simp,fun x hx y hy=>?_⟩
     · obtain ⟨j,hj,rfl,_⟩:=own_at hq
       exact ex_nodup F f j hj
     · obtain ⟨j,hj,k,y,rfl,rfl,hk,hy,gy,hu,hdy⟩:=key a ha' x hxa
       obtain ⟨j2,hj2,k2,y2,rfl,ek,hk2,hy2,gy2,hu2,hdy2⟩:=key b hb _ hxb
       obtain rfl:k=k2:=by omega
       obtain rfl:y=y2:=up_one F.h0 hk hu hu2 (by omega)
       exact hab (by omega)
     · rw [List.mem_singleton] at hy
       rw [List.mem_flatMap] at hx
       obtain ⟨q,hq,hx⟩:=hx
       obtain ⟨j,hj,k,y',rfl,rfl,hk,hy',gy,hu,hdy⟩:=key q hq x hx
       rintro rfl
       obtain rfl:k=v:=by omega
       have:=(ups_at F.h0 hk hu).2.1
       omega
def Post (m:MdlD) (c:List Int):List Int→List Int→Prop
 | _,[]=>True
 | done,x :: t=>(∀ q ∈ ownM m x,atL c q<0∨atL c q ∈ done)∧Post m c (done ++ [x]) t
theorem Post.mono {m:MdlD} {c:List Int}:∀ (l d d':List Int),Post m c d l→(∀ x ∈ d,x ∈ d')→Post m c d' l
 | [],_,_,_,_=>trivial
 | x :: t,d,d',h,hs=>⟨fun q hq=>(h.1 q hq).imp id (hs _),Post.mono t _ _ h.2 (fun y hy=>by
     rw [List.mem_append] at hy ⊢;exact hy.imp (hs _) id)⟩
theorem Post.app {m:MdlD} {c:List Int}:∀ (a b d:List Int),Post m c d a→Post m c (d ++ a) b→Post m c d (a ++ b)
 | [],b,d,_,h=>by simpa using h
 | x :: t,b,d,h,k=>⟨h.1,Post.app t b _ h.2 (by simpa using k)⟩
theorem Post.closed {m:MdlD} {c:List Int}:∀ (l d:List Int),Post m c d l→∀ s ∈ l,∀ q ∈ ownM m s,atL c q<0∨atL c q ∈ d ++ l
 | [],_,_,_,h,_,_=>by cases h
 | x :: t,d,h,s,hs,q,hq=>by
   rcases List.mem_cons.1 hs with rfl | hs
   · exact (h.1 q hq).imp id fun h=>List.mem_append_left _ h
   · have:=Post.closed t _ h.2 s hs q hq
     simpa using this
theorem Post.at {m:MdlD} {c:List Int}:∀ (l d:List Int),Post m c d l→∀ (i:Nat) (hi:i<l.length),∀ q ∈ ownM m l[i],atL c q<0∨atL c q ∈ d ++ l.take i
 | x :: t,d,h,0,_,q,hq=>by simpa using h.1 q hq
 | x :: t,d,h,i+1,hi,q,hq=>by
   have:=Post.at t _ h.2 i (by simpa using hi) q (by simpa using hq)
   simpa using this
theorem exM_nodup {m:MdlD} {c:List Int} (F:Fit m c) {r:Nat} (hr:r<m.regs.length):(exM m c r).Nodup:=ex_nodup F 66 r hr
theorem exM_act {m:MdlD} {c:List Int} (F:Fit m c) {r:Nat} (hr:r<m.regs.length) {x:Int} (h:x ∈ exM m c r):∃ k:Nat,x=k∧k<m.vers.length∧isA m c k=true:=by
 obtain ⟨k,_,e,hk,ha,_⟩:=ex_in F 66 r hr x h
 exact ⟨k,e,hk,ha⟩
theorem act_at {m:MdlD} {c:List Int} {v:Int} (h:isA m c v=true):stands m v=true∧atL c (rgA m v)=v:=by
 unfold isA at h
 simpa only [Bool.and_eq_true,beq_iff_eq] using h
def leaveOk (m:MdlD) (d:List Int) (v:Int):Bool:=!((ownM m v).any fun q=>decide (0≤atL d q)) && isA m d v
def noStray (m:MdlD) (c:List Int):Prop:=∀ r:Nat,r<m.regs.length→0≤ownA m r→0≤atL c r→isA m c (ownA m r)=true
def entM (m:MdlD) (r e:Int):List Int:=if inM m e r then (chainM m e).filter (fun v=>inM m v r) ++ (if stands m e then [e] else []) else []
inductive Pth (m:MdlD):Nat→List Nat→Prop
 | one {r p:Nat}:p<m.vers.length→r<m.regs.length→stands m p=true→rgA m p=r→arM m p=ownA m r→Pth m r [p]
 | cons {r p q:Nat} {L:List Nat}:p<m.vers.length→r<m.regs.length→stands m p=true→rgA m p=r→arM m p=ownA m r→(q:Int) ∈ ownM m p→Pth m q L→Pth m r (p :: L)
theorem stands_rg {m:MdlD} (h0:riM m=(0,0,0)) {k:Nat} (h:stands m k=true):∃ r:Nat,r<m.regs.length∧rgA m k=r∧rgM m k=r∧arM m k=ownA m r:=by
 obtain ⟨k',hk,ek,r,hr,e1,e2,_,_,e4⟩:=stands_in h0 h
 obtain rfl:k=k':=by omega
 refine ⟨r,hr,e1,?_,by rw [e4,ownA_at hr]⟩
 unfold homeM at e2
 rw [hasV_at hk,if_pos rfl] at e2
 exact e2
theorem Pth.first {m:MdlD} {r:Nat} {L:List Nat} (h:Pth m r L):∃ p L',L=p :: L'∧p<m.vers.length∧r<m.regs.length∧stands m p=true∧rgA m p=r∧arM m p=ownA m r:=by
 cases h with
 | one a b c d e=>exact ⟨_,[],rfl,a,b,c,d,e⟩
 | cons a b c d e _ _=>exact ⟨_,_,rfl,a,b,c,d,e⟩
def enterOk (m:MdlD) (c:List Int) (v:Int):Bool:=decide (atL c (rgA m v)<0) && (upsM m (arM m v)).all (isA m c)
structure Rch (m:MdlD) (c:List Int):Prop where
 fit:Fit m c
 ns:noStray m c
def actS (c:List Int):List Int:=(c.filter fun x=>decide (0≤x)).mergeSort fun x y=>decide (x≤y)
def actF (m:MdlD) (c:List Int) (k:Nat):List Int:=((List.range k).filter fun v:Nat=>isA m c (v:Int)).map fun v:Nat=>(v:Int)
theorem actF_zero (m:MdlD) (c:List Int):actF m c 0=[]:=rfl
theorem actF_succ (m:MdlD) (c:List Int) (k:Nat):actF m c (k+1)=actF m c k ++ (if isA m c (k:Int) then [(k:Int)] else []):=by
 unfold actF
 rw [List.range_succ,List.filter_append,List.map_append]
 cases h:isA m c (k:Int) <;> simp [h]
theorem actF_len (m:MdlD) (c:List Int) (k:Nat):(actF m c k).length≤k:=by
 unfold actF
 rw [List.length_map]
 have:=List.length_filter_le (fun v:Nat=>isA m c (v:Int)) (List.range k)
 simpa using this
theorem atL_get {c:List Int} {r:Nat} (h:r<c.length):atL c r=c[r]:=by
 unfold atL;rw [Int.toNat_natCast,List.getD_eq_getElem?_getD,List.getElem?_eq_getElem h];rfl
theorem act_mem {m:MdlD} {c:List Int} (F:Fit m c) (x:Int):(x ∈ c∧0≤x)↔x ∈ actF m c m.vers.length:=by
 unfold actF
 rw [List.mem_map]
 constructor
 · rintro ⟨hx,h0⟩
   obtain ⟨i,hi,rfl⟩:=List.getElem_of_mem hx
   obtain ⟨k,hk,e,_,_,ha⟩:=fit_in F.hl F.hf (r:=i) (by rw [← F.hl];exact hi) (by rw [atL_get hi];exact h0)
   rw [atL_get hi] at e
   exact ⟨k,List.mem_filter.2 ⟨List.mem_range.2 hk,ha⟩,e.symm⟩
 · rintro ⟨v,hv,rfl⟩
   obtain ⟨_,ha⟩:=List.mem_filter.1 hv
   obtain ⟨hs,hat⟩:=act_at ha
   obtain ⟨r,hr,e1,_⟩:=stands_rg F.h0 hs
   rw [e1] at hat
   have hrc:r<c.length:=by rw [F.hl];exact hr
   rw [atL_get hrc] at hat
   exact ⟨hat ▸ List.getElem_mem hrc,by omega⟩
theorem actS_mem (c:List Int) (x:Int):x ∈ actS c↔x ∈ c∧0≤x:=by
 unfold actS
 rw [(List.mergeSort_perm _ _).mem_iff,List.mem_filter,decide_eq_true_eq]
theorem actS_nodup {m:MdlD} {c:List Int} (F:Fit m c):(actS c).Nodup:=by
 unfold actS
 rw [(List.mergeSort_perm _ _).nodup_iff,List.Nodup,List.pairwise_filter,List.pairwise_iff_getElem]
 intro i j hi hj hij h1 h2 e
 rw [decide_eq_true_eq] at h1 h2
 obtain ⟨k,hk,ek,g,_⟩:=fit_in F.hl F.hf (r:=i) (by rw [← F.hl];exact hi) (by rw [atL_get hi];exact h1)
 obtain ⟨k2,hk2,ek2,g2,_⟩:=fit_in F.hl F.hf (r:=j) (by rw [← F.hl];exact hj) (by rw [atL_get hj];exact h2)
 rw [atL_get hi] at ek
 rw [atL_get hj] at ek2
 obtain rfl:k=k2:=by omega
 omega
theorem act_eq {m:MdlD} {c:List Int} (F:Fit m c):actS c=actF m c m.vers.length:=by
 have key:∀ x,x ∈ actS c↔x ∈ actF m c m.vers.length:=fun x=>by rw [actS_mem,act_mem F]
 refine sorted_ext Int.toNat _ _ ?_ ?_ key
 · have hs:(actS c).Pairwise fun x y=>decide (x≤y)=true:=List.pairwise_mergeSort (fun a b c h1 h2=>by simp at h1 h2 ⊢;omega) (fun a b=>by simp;omega) _
   have hn:=actS_nodup F
   rw [List.Nodup] at hn
   have:=hs.and hn
   refine List.Pairwise.imp_of_mem (fun {a b} ha hb h=>?_) this
   have h0:=((actS_mem c a).1 ha).2
   have h1:a≤b:=by simpa using h.1
   have h2:a≠b:=h.2
   omega
 · unfold actF
   rw [List.pairwise_map]
   refine List.Pairwise.imp (fun {a b} h=>?_) ((List.pairwise_lt_range (n:=m.vers.length)).filter _)
   omega
theorem actS_len {m:MdlD} {c:List Int} (F:Fit m c):(actS c).length≤m.vers.length:=by rw [act_eq F];exact actF_len m c _
def homeL (m:MdlD):List Int→Int
 | []=>-1
 | a :: t=>commonM m a (a :: t)
theorem homeL_eq {m:MdlD} (h0:riM m=(0,0,0)) (a:Int) (t:List Int):homeL m (a :: t)=comR m (a :: t) :=
 common_eq h0 a (a :: t) (a :: t) fun x=>by simp
def entX (m:MdlD) (r e:Int):List Int:=if r<0 then [] else entM m r e
theorem entX_eq {m:MdlD} (h0:riM m=(0,0,0)) (r e:Int):entX m r e=entM m r e:=by
 unfold entX
 split
 · unfold entM
   rw [if_neg]
   intro h
   have:=in_has h0 h
   unfold hasR at this
   simp at this
   omega
 · rfl
def finM (m:MdlD) (v:Int):Bool:=hasV m v && kdA m v == 2
def stA (m:MdlD) (v:Int):Bool:=hasV m v && kdA m v == 1
def cmpM (m:MdlD) (la ll:List Int) (v:Int) (fits:Bool):Bool:=fits && stA m v && isA m la v && !((ownM m v).any fun q=>!finM m (atL la q))
end Go.Md
