/- What is left with a region, and filled again: plain. No program is in sight. -/
import Derived.Test.YtiimoclbmaggjaaGreatDoorLLgP
namespace Go.Md
open Go.RowKit Go.Lx Go.Proofs
set_option linter.unusedVariables false
def exF (m:MdlD) (c:List Int):Nat→Int→List Int
 | 0,_=>[]
 | f+1,r=>if atL c r<0 then [] else (ownM m (atL c r)).flatMap (exF m c f) ++ [atL c r]
def exM (m:MdlD) (c:List Int) (r:Int):List Int:=exF m c 66 r
def leftM (c done:List Int):List Int:=c.map fun x=>if x ∈ done then -1 else x
structure Fit (m:MdlD) (c:List Int):Prop where
 h0:riM m=(0,0,0)
 hl:c.length=m.regs.length
 hf:fitRow m c=true
theorem own_at {m:MdlD} {s q:Int} (h:q ∈ ownM m s):∃ j:Nat,∃ hj:j<m.regs.length,q=j∧m.regs[j].own=s:=by
 obtain ⟨j,hj,e,hp⟩:=(sel_mem _ _ _).1 h
 exact ⟨j,hj,e,by simpa [isOwn] using hp⟩
theorem own_in {m:MdlD} {s:Int} {j:Nat} (hj:j<m.regs.length) (h:m.regs[j].own=s):(j:Int) ∈ ownM m s:=(sel_mem _ _ _).2 ⟨j,hj,rfl,by simp [isOwn,h]⟩
theorem below_own {m:MdlD} {c:List Int} (F:Fit m c) {j v k:Nat} (hj:j<m.regs.length) (ho:m.regs[j].own=(v:Int)) (hv:v<m.vers.length) (hk:k<m.vers.length) (ha:atL c j=k) (hg:m.vers[k].rg=j) (hd:m.vers[k].kd=1∨m.vers[k].kd=2):arM m k=v∧deM m k=deM m v+1:=by
 have hst:stands m k=true:=by rw [stands_at hk];simpa using hd
 obtain ⟨k',hk',ek,r,hr,e1,e2,e3,e4,e5⟩:=stands_in F.h0 hst
 obtain rfl:k=k':=by omega
 obtain rfl:j=r:=by omega
 have e:arM m k=v:=by rw [e5,ho]
 exact ⟨e,dp_succ F.h0 hk hv e⟩
theorem ex_in {m:MdlD} {c:List Int} (F:Fit m c):∀ (f r:Nat) (hr:r<m.regs.length) (x:Int),x ∈ exF m c f r→∃ k v:Nat,x=k∧k<m.vers.length∧isA m c k=true∧v<m.vers.length∧atL c r=v∧(v:Int) ∈ upsM m k
 | 0,_,_,_,h=>by cases h
 | f+1,r,hr,x,h=>by
   unfold exF at h
   split at h
   · cases h
   · rename_i hn
     obtain ⟨v,hv,e,hg,hd,ha⟩:=fit_in F.hl F.hf hr (by omega)
     rw [List.mem_append,List.mem_singleton,List.mem_flatMap] at h
     rcases h with ⟨q,hq,hx⟩ | rfl
     · rw [e] at hq
       obtain ⟨j,hj,rfl,ho⟩:=own_at hq
       obtain ⟨k,y,ex,hk,hka,hy,hjy,hup⟩:=ex_in F f j hj x hx
       obtain ⟨y',hy',ey,gy,dy,_⟩:=fit_in F.hl F.hf hj (by omega)
       obtain rfl:y=y':=by omega
       obtain ⟨ar,_⟩:=below_own F hj ho hv hy hjy gy dy
       exact ⟨k,v,ex,hk,hka,hv,e,ups_trans F.h0 hk hup ar hv⟩
     · exact ⟨v,v,e,hv,ha,hv,e,ups_self⟩
theorem ex_nodup {m:MdlD} {c:List Int} (F:Fit m c):∀ (f r:Nat) (hr:r<m.regs.length),(exF m c f r).Nodup
 | 0,_,_=>List.nodup_nil
 | f+1,r,hr=>by
   unfold exF
   split
   · exact List.nodup_nil
   · rename_i hn
     obtain ⟨v,hv,e,hg,hd,ha⟩:=fit_in F.hl F.hf hr (by omega)
     rw [e]
     have key:∀ q ∈ ownM m (v:Int),∀ x ∈ exF m c f q,∃ j:Nat,∃ hj:j<m.regs.length,∃ k y:Nat,q=j∧x=k∧∃ hk:k<m.vers.length,∃ hy:y<m.vers.length,m.vers[y].rg=j∧(y:Int) ∈ upsM m k∧deM m y=deM m v+1:=by
       intro q hq x hx
       obtain ⟨j,hj,rfl,ho⟩:=own_at hq
       obtain ⟨k,y,ex,hk,hka,hy,hjy,hup⟩:=ex_in F f j hj x hx
       obtain ⟨y',hy',ey,gy,dy,_⟩:=fit_in F.hl F.hf hj (by omega)
       obtain rfl:y=y':=by omega
       exact ⟨j,hj,k,y,rfl,ex,hk,hy,gy,hup,(below_own F hj ho hv hy hjy gy dy).2⟩
     rw [List.nodup_append]
     refine ⟨nodup_flatMap (sel_nodup _ _) (fun q hq=>?_) (fun a ha' b hb hab x hxa hxb=>?_),by simp,fun x hx y hy=>?_⟩
     · obtain ⟨j,hj,rfl,_⟩:=own_at hq
       exact ex_nodup F f j hj
     · obtain ⟨j,hj,k,y,rfl,rfl,hk,hy,gy,hu,hdy⟩:=key a ha' x hxa
       obtain ⟨j2,hj2,k2,y2,rfl,ek,hk2,hy2,gy2,hu2,hdy2⟩:=key b hb _ hxb
       obtain rfl:k=k2:=by omega
       obtain rfl:y=y2:=up_one F.h0 hk hu hu2 (by omega)
       exact hab (by omega)
     · rw [List.mem_singleton] at hy
       rw [List.mem_flatMap] at hx
       obtain ⟨q,hq,hx⟩:=hx
       obtain ⟨j,hj,k,y',rfl,rfl,hk,hy',gy,hu,hdy⟩:=key q hq x hx
       rintro rfl
       obtain rfl:k=v:=by omega
       have:=(ups_at F.h0 hk hu).2.1
       omega
def Post (m:MdlD) (c:List Int):List Int→List Int→Prop
 | _,[]=>True
 | done,x :: t=>(∀ q ∈ ownM m x,atL c q<0∨atL c q ∈ done)∧Post m c (done ++ [x]) t
theorem Post.mono {m:MdlD} {c:List Int}:∀ (l d d':List Int),Post m c d l→(∀ x ∈ d,x ∈ d')→Post m c d' l
 | [],_,_,_,_=>trivial
 | x :: t,d,d',h,hs=>⟨fun q hq=>(h.1 q hq).imp id (hs _),Post.mono t _ _ h.2 (fun y hy=>by
     rw [List.mem_append] at hy ⊢;exact hy.imp (hs _) id)⟩
theorem Post.app {m:MdlD} {c:List Int}:∀ (a b d:List Int),Post m c d a→Post m c (d ++ a) b→Post m c d (a ++ b)
 | [],b,d,_,h=>by simpa using h
 | x :: t,b,d,h,k=>⟨h.1,Post.app t b _ h.2 (by simpa using k)⟩
theorem Post.flat {m:MdlD} {c:List Int} {g:Int→List Int}:∀ (l d:List Int),(∀ q ∈ l,∀ d,Post m c d (g q))→Post m c d (l.flatMap g)
 | [],_,_=>trivial
 | q :: t,d,h=>by
   rw [List.flatMap_cons]
   exact Post.app _ _ _ (h q List.mem_cons_self d) (Post.flat t _ fun q hq=>h q (List.mem_cons_of_mem _ hq))
theorem Post.closed {m:MdlD} {c:List Int}:∀ (l d:List Int),Post m c d l→∀ s ∈ l,∀ q ∈ ownM m s,atL c q<0∨atL c q ∈ d ++ l
 | [],_,_,_,h,_,_=>by cases h
 | x :: t,d,h,s,hs,q,hq=>by
   rcases List.mem_cons.1 hs with rfl | hs
   · exact (h.1 q hq).imp id fun h=>List.mem_append_left _ h
   · have:=Post.closed t _ h.2 s hs q hq
     simpa using this
theorem Post.at {m:MdlD} {c:List Int}:∀ (l d:List Int),Post m c d l→∀ (i:Nat) (hi:i<l.length),∀ q ∈ ownM m l[i],atL c q<0∨atL c q ∈ d ++ l.take i
 | x :: t,d,h,0,_,q,hq=>by simpa using h.1 q hq
 | x :: t,d,h,i+1,hi,q,hq=>by
   have:=Post.at t _ h.2 i (by simpa using hi) q (by simpa using hq)
   simpa using this
theorem ex_post {m:MdlD} {c:List Int} (F:Fit m c):∀ (f r:Nat) (hr:r<m.regs.length) (d:List Int),(∀ k:Nat,atL c r=k→65≤deM m k+f)→Post m c d (exF m c f r)
 | 0,_,_,_,_=>trivial
 | f+1,r,hr,d,hd=>by
   unfold exF
   split
   · trivial
   · rename_i hn
     obtain ⟨v,hv,e,hg,hk,ha⟩:=fit_in F.hl F.hf hr (by omega)
     have hdv:=hd v e
     rw [e]
     have dn:∀ j:Nat,∀ hj:j<m.regs.length,m.regs[j].own=(v:Int)→∀ y:Nat,atL c j=y→deM m y=deM m v+1∧deM m y≤64:=fun j hj ho y hy=>by
       obtain ⟨y',hy',ey,gy,dy,_⟩:=fit_in F.hl F.hf hj (by omega)
       obtain rfl:y=y':=by omega
       exact ⟨(below_own F hj ho hv hy' hy gy dy).2,by have:=deep_right F.h0 hy';omega⟩
     refine Post.app _ _ _ (Post.flat _ _ fun q hq d'=>?_) ⟨fun q hq=>?_,trivial⟩
     · obtain ⟨j,hj,rfl,ho⟩:=own_at hq
       exact ex_post F f j hj d' fun y hy=>by have:=(dn j hj ho y hy).1;omega
     · by_cases h:atL c q<0
       · exact .inl h
       · right
         have hq2:=hq
         obtain ⟨j,hj,rfl,ho⟩:=own_at hq
         obtain ⟨y,hy⟩:=Int.eq_ofNat_of_zero_le (show 0≤atL c j by omega)
         have:=dn j hj ho y hy
         obtain ⟨g,rfl⟩:∃ g,f=g+1:=⟨f - 1,by omega⟩
         rw [List.mem_append,List.mem_flatMap]
         refine .inr ⟨j,hq2,?_⟩
         unfold exF
         rw [if_neg h,List.mem_append,List.mem_singleton]
         exact .inr rfl
theorem exM_post {m:MdlD} {c:List Int} (F:Fit m c) {r:Nat} (hr:r<m.regs.length):Post m c [] (exM m c r):=ex_post F 66 r hr [] fun k _=>by omega
theorem exM_nodup {m:MdlD} {c:List Int} (F:Fit m c) {r:Nat} (hr:r<m.regs.length):(exM m c r).Nodup:=ex_nodup F 66 r hr
theorem exM_act {m:MdlD} {c:List Int} (F:Fit m c) {r:Nat} (hr:r<m.regs.length) {x:Int} (h:x ∈ exM m c r):∃ k:Nat,x=k∧k<m.vers.length∧isA m c k=true:=by
 obtain ⟨k,_,e,hk,ha,_⟩:=ex_in F 66 r hr x h
 exact ⟨k,e,hk,ha⟩
theorem atL_left (c done:List Int) (r:Int):atL (leftM c done) r=if atL c r ∈ done then -1 else atL c r:=by
 unfold atL leftM
 rw [List.getD_eq_getElem?_getD,List.getD_eq_getElem?_getD,List.getElem?_map]
 cases h:c[r.toNat]? with
 | none=>simp
 | some x=>simp
theorem left_at {c done:List Int} {i:Nat} (h:i<(leftM c done).length) (h':i<c.length):(leftM c done)[i]=if c[i] ∈ done then -1 else c[i]:=List.getElem_map _
theorem left_len (c done:List Int):(leftM c done).length=c.length:=List.length_map _
theorem left_nil (c:List Int):leftM c []=c:=by unfold leftM;simp
theorem act_at {m:MdlD} {c:List Int} {v:Int} (h:isA m c v=true):stands m v=true∧atL c (rgA m v)=v:=by
 unfold isA at h
 simpa only [Bool.and_eq_true,beq_iff_eq] using h
theorem act_left {m:MdlD} {c done:List Int} {v:Int} (hv:0≤v):isA m (leftM c done) v=(isA m c v && !decide (v ∈ done)):=by
 unfold isA
 rw [atL_left]
 by_cases h:atL c (rgA m v)=v
 · rw [h]
   by_cases hd:v ∈ done
   · rw [if_pos hd]
     have:((-1:Int) == v)=false:=by rw [beq_eq_false_iff_ne];omega
     simp [this,hd]
   · rw [if_neg hd];simp [hd]
 · have h1:(atL c (rgA m v) == v)=false:=by rw [beq_eq_false_iff_ne];exact h
   rw [h1]
   split
   · have:((-1:Int) == v)=false:=by rw [beq_eq_false_iff_ne];omega
     rw [this];simp
   · rw [h1];simp
theorem left_step {m:MdlD} {c done:List Int} (F:Fit m c) {x:Int} (ha:isA m c x=true):(leftM c done).set (rgA m x).toNat (-1)=leftM c (done ++ [x]):=by
 obtain ⟨hs,hx⟩:=act_at ha
 obtain ⟨k,hk,rfl,r,hr,e1,_,e2,_⟩:=stands_in F.h0 hs
 rw [e1] at hx ⊢
 rw [Int.toNat_natCast]
 apply List.ext_getElem (by simp [leftM])
 intro i hi hi'
 have hic:i<c.length:=by simpa [leftM] using hi'
 rw [List.getElem_set,left_at hi' hic]
 by_cases h:r=i
 · subst h
   rw [if_pos rfl]
   have:c[r]=k:=by rw [← hx];unfold atL;rw [Int.toNat_natCast,List.getD_eq_getElem?_getD,List.getElem?_eq_getElem hic];rfl
   rw [this,if_pos (by simp)]
 · rw [if_neg h,left_at (by simpa [leftM] using hic) hic]
   have hne:c[i]≠(k:Int):=fun e=>by
     have hm:=fitRow_iff.1 F.hf i hic
     rw [e] at hm
     unfold mayM at hm
     rw [if_pos (hasV_at hk),Int.toNat_natCast,List.getElem?_eq_getElem hk] at hm
     simp only [Bool.and_eq_true,beq_iff_eq] at hm
     omega
   have e:(c[i] ∈ done ++ [(k:Int)])=(c[i] ∈ done):=by simp [hne]
   simp only [e]
theorem fit_left {m:MdlD} {c:List Int} (F:Fit m c) (done:List Int):Fit m (leftM c done):=by
 refine ⟨F.h0,by rw [left_len];exact F.hl,?_⟩
 rw [fitRow_iff]
 intro r hr
 have hrc:r<c.length:=by simpa [leftM] using hr
 rw [left_at hr hrc]
 split
 · unfold mayM;simp [hasV]
 · exact fitRow_iff.1 F.hf r hrc
def leaveOk (m:MdlD) (d:List Int) (v:Int):Bool:=!((ownM m v).any fun q=>decide (0≤atL d q)) && isA m d v
theorem leave_at {m:MdlD} {c:List Int} (F:Fit m c) {r:Nat} (hr:r<m.regs.length) {i:Nat} (hi:i<(exM m c r).length):leaveOk m (leftM c ((exM m c r).take i)) (exM m c r)[i]=true:=by
 obtain ⟨k,e,hk,ha⟩:=exM_act F hr (List.getElem_mem hi)
 have hp:=Post.at _ _ (exM_post F hr) i hi
 have hnot:(exM m c r)[i] ∉ (exM m c r).take i:=fun h=>by
   obtain ⟨j,hj,ej⟩:=List.getElem_of_mem h
   rw [List.getElem_take] at ej
   have:=(List.nodup_iff_pairwise_ne.1 (exM_nodup F hr))
   have hji:j<i:=by simp at hj;omega
   exact (List.pairwise_iff_getElem.1 this j i (by omega) hi hji) ej
 unfold leaveOk
 rw [Bool.and_eq_true]
 constructor
 · rw [Bool.not_eq_true',List.any_eq_false]
   intro q hq
   rw [atL_left]
   have:=hp q hq
   rw [List.nil_append] at this
   rcases this with h | h
   · split <;> simp <;> omega
   · rw [if_pos h];simp
 · rw [e] at hnot ⊢
   rw [act_left (by omega),ha]
   simpa using hnot
def noStray (m:MdlD) (c:List Int):Prop:=∀ r:Nat,r<m.regs.length→0≤ownA m r→0≤atL c r→isA m c (ownA m r)=true
theorem stray_leg {m:MdlD} {c:List Int} (h:legM m c=true):noStray m c:=fun r hr ho ha=>by
 have:=leg_at h hr
 unfold ruleM at this
 rw [if_neg (by omega)] at this
 cases hb:isA m c (ownA m r) with
 | true=>rfl
 | false=>rw [hb,if_neg (by decide),if_pos ha] at this;cases this
theorem stray_left {m:MdlD} {c done:List Int} (h:noStray m c) (hc:∀ s ∈ done,∀ q ∈ ownM m s,atL c q<0∨atL c q ∈ done):noStray m (leftM c done):=fun r hr ho ha=>by
 rw [atL_left] at ha
 split at ha
 · omega
 · rename_i hn
   have h1:=h r hr ho ha
   rw [act_left ho,h1]
   simp only [Bool.true_and,Bool.not_eq_true',decide_eq_false_iff_not]
   intro hd
   rcases hc _ hd r (own_in hr (by rw [ownA_at hr])) with h2 | h2
   · omega
   · exact hn h2
theorem act_set {m:MdlD} {d:List Int} {r:Nat} (hr:r<d.length) (h:atL d r<0) {v s:Int} (hs:0≤s) (ha:isA m d s=true):isA m (d.set r v) s=true:=by
 obtain ⟨h1,h2⟩:=act_at ha
 unfold isA
 rw [h1,Bool.true_and,beq_iff_eq,atL_set hr,if_neg]
 · exact h2
 · intro e
   have:atL d (rgA m s)=atL d r:=by unfold atL;rw [e,Int.toNat_natCast]
   omega
theorem stray_fill {m:MdlD} {d:List Int} {r:Nat} (hr:r<d.length) (h:noStray m d) (hf:fillM m d r=true):noStray m (d.set r (leastM m r)):=fun q hq ho ha=>by
 obtain ⟨f1,f2,f3⟩:=fill_at hf
 rw [atL_set hr] at ha
 by_cases e:(q:Int).toNat=r
 · obtain rfl:q=r:=by omega
   exact act_set hr f1 ho (f3.resolve_left (by omega))
 · rw [if_neg e] at ha
   exact act_set hr f1 ho (h q hq ho ha)
theorem Fld.stray {m:MdlD} {c d:List Int} (hl:c.length=m.regs.length) (h:Fld m c d) (hs:noStray m c):noStray m d:=by
 induction h with
 | refl=>exact hs
 | @step d q hd hq hf ih=>exact stray_fill (by rw [hd.len,hl];exact hq) ih hf
def someM (m:MdlD) (r:Int):Bool:=m.vers.any fun x=>(x.kd == 1 || x.kd == 2) && x.rg == r
theorem lst_some {m:MdlD} {r:Int} {k j:Nat} (hj:j<m.vers.length) (h1:m.vers[j].kd=k) (h2:m.vers[j].rg=r) (h3:m.vers[j].ofv<0):0≤lstM m r k:=by
 unfold lstM
 have hm:(j:Int) ∈ kidsM m r:=(sel_mem _ _ _).2 ⟨j,hj,rfl,by simp [isKid,h2,h3]⟩
 cases hf:(kidsM m r).find? (fun v=>kdA m v == k) with
 | none =>
  have:=List.find?_eq_none.1 hf _ hm
  rw [kdA_at hj,h1] at this
  simp at this
 | some x =>
  obtain ⟨v,hv,rfl,_⟩:=(sel_mem _ _ _).1 (List.mem_of_find?_eq_some hf)
  simp
theorem some_least {m:MdlD} (h0:riM m=(0,0,0)) {r:Int} (h:someM m r=true):0≤leastM m r:=by
 unfold someM at h
 rw [List.any_eq_true] at h
 obtain ⟨x,hx,hp⟩:=h
 obtain ⟨j,hj,rfl⟩:=List.getElem_of_mem hx
 simp only [Bool.and_eq_true,Bool.or_eq_true,beq_iff_eq] at hp
 have hpl:=plain_at h0 hj (by omega)
 unfold leastM
 rcases hp.1 with h1 | h1
 · have:=lst_some hj h1 hp.2 (by omega)
   rw [if_neg (by omega)];exact this
 · have:=lst_some hj h1 hp.2 (by omega)
   split <;> omega
theorem leg_again {m:MdlD} {d:List Int} (hs:noStray m d) (hn:Nrm m d) (hf:∀ r:Nat,r<m.regs.length→0≤leastM m r):legM m d=true:=by
 unfold legM
 rw [List.all_eq_true]
 intro r hr
 have hr:=List.mem_range.1 hr
 rw [beq_iff_eq]
 have h1:=hn r hr
 unfold ruleM
 by_cases ha:0≤atL d r
 · by_cases ho:ownA m r<0
   · rw [if_pos ho,if_pos ha]
   · rw [if_neg ho,hs r hr (by omega) ha,if_pos rfl,if_pos ha]
 · by_cases ho:ownA m r<0
   · rw [fill_of (by omega) (hf r hr) (.inl ho)] at h1;cases h1
   · rw [if_neg ho]
     cases hb:isA m d (ownA m r) with
     | true=>rw [fill_of (by omega) (hf r hr) (.inr hb)] at h1;cases h1
     | false=>rw [if_neg (by decide),if_neg ha]
theorem nrm_leg {m:MdlD} {c:List Int} (h:legM m c=true):Nrm m c:=fun r hr=>by
 have:=leg_at h hr
 unfold fillM
 rw [this];rfl
theorem fill_legal {m:MdlD} {c d:List Int} (hl:c.length=m.regs.length) (h:legM m c=true) (hf:Fld m c d) (hn:Nrm m d):d=c:=(fill_one hl Fld.refl hf (nrm_leg h) hn).symm
theorem left_again {m:MdlD} {c d:List Int} (F:Fit m c) (h:legM m c=true) {r:Nat} (hr:r<m.regs.length) (hf:Fld m (leftM c (exM m c r)) d) (hn:Nrm m d) (hfull:∀ r:Nat,r<m.regs.length→someM m r=true):legM m d=true:=by
 refine leg_again (hf.stray (by rw [left_len];exact F.hl) (stray_left (stray_leg h) fun s hs q hq=>?_)) hn fun r hr=>some_least F.h0 (hfull r hr)
 simpa using Post.closed _ _ (exM_post F hr) s hs q hq
theorem flt_fill {m:MdlD} (h0:riM m=(0,0,0)) {d:List Int} (hn:Nrm m d) {k r n:Nat} (hk:n≤m.regs.length) (h:(k,r) ∈ fltF m d n) (h3:k<3):someM m r=false:=by
 unfold fltF at h
 rw [List.mem_map] at h
 obtain ⟨q,hq,e⟩:=h
 simp only [Prod.mk.injEq] at e
 obtain ⟨rfl,rfl⟩:=e
 rw [List.mem_filter,List.mem_range] at hq
 cases hs:someM m q with
 | false=>rfl
 | true =>
  have h1:=hn q (by omega)
  unfold fillM at h1
  have h2:ruleM m d q≠0:=by simpa using hq.2
  have h4:(ruleM m d q == 1 || ruleM m d q == 2)=true:=by
    have:ruleM m d q=1∨ruleM m d q=2:=by omega
    simpa using this
  rw [h4,decide_eq_true (some_least h0 hs)] at h1
  cases h1
inductive Pth (m:MdlD):Nat→List Nat→Prop
 | one {r p:Nat}:p<m.vers.length→r<m.regs.length→stands m p=true→rgA m p=r→arM m p=ownA m r→Pth m r [p]
 | cons {r p q:Nat} {L:List Nat}:p<m.vers.length→r<m.regs.length→stands m p=true→rgA m p=r→arM m p=ownA m r→(q:Int) ∈ ownM m p→Pth m q L→Pth m r (p :: L)
theorem stands_rg {m:MdlD} (h0:riM m=(0,0,0)) {k:Nat} (h:stands m k=true):∃ r:Nat,r<m.regs.length∧rgA m k=r∧rgM m k=r∧arM m k=ownA m r:=by
 obtain ⟨k',hk,ek,r,hr,e1,e2,_,_,e4⟩:=stands_in h0 h
 obtain rfl:k=k':=by omega
 refine ⟨r,hr,e1,?_,by rw [e4,ownA_at hr]⟩
 unfold homeM at e2
 rw [hasV_at hk,if_pos rfl] at e2
 exact e2
theorem Pth.first {m:MdlD} {r:Nat} {L:List Nat} (h:Pth m r L):∃ p L',L=p :: L'∧p<m.vers.length∧r<m.regs.length∧stands m p=true∧rgA m p=r∧arM m p=ownA m r:=by
 cases h with
 | one a b c d e=>exact ⟨_,[],rfl,a,b,c,d,e⟩
 | cons a b c d e _ _=>exact ⟨_,_,rfl,a,b,c,d,e⟩
theorem fit_set {m:MdlD} {c:List Int} (F:Fit m c) {p:Nat} (hp:stands m p=true):Fit m (c.set (rgA m p).toNat p):=by
 obtain ⟨r,hr,e1,_,_⟩:=stands_rg F.h0 hp
 refine ⟨F.h0,by rw [List.length_set];exact F.hl,?_⟩
 rw [fitRow_iff]
 intro i hi
 rw [List.getElem_set]
 split
 · rename_i h
   have:=may_stands hp
   rw [e1] at this h
   rw [Int.toNat_natCast] at h
   rw [← h];exact this
 · exact fitRow_iff.1 F.hf i (by rw [List.length_set] at hi;exact hi)
end Go.Md
