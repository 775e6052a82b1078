/- What lies in what: the plain laws of the stage's theorem. No program is in sight. -/
import Derived.Test.YtiimoclbmaggjaaGreatDoorIRyP
namespace Go.Md
open Go.RowKit Go.Lx Go.Proofs
set_option linter.unusedVariables false

theorem in_top {m:MdlD} (h0:riM m=(0,0,0)) {k:Nat} (hk:k<m.vers.length):inM m k 0=true:=by
 have key:∀ (d k:Nat) (hk:k<m.vers.length),deM m k=d→inM m k 0=true:=by
   intro d
   induction d with
   | zero =>
    intro k hk hd
    rcases ar_at h0 hk with e | ⟨s,hs,e,_⟩
    · rcases ver_at h0 hk with ⟨_,r,hr,e2,_,e3⟩ | ⟨_,s,_,e2,_⟩
      · rcases reg_right h0 hr with ⟨e4,_⟩ | ⟨_,s,_,e4,_⟩
        · exact in_iff.2 ⟨hasV_at hk,k,ups_self,by rw [e2,e4];rfl⟩
        · rw [e3,e4] at e;omega
      · rw [e2] at e;omega
    · have:=dp_succ h0 hk hs e;omega
   | succ d ih =>
    intro k hk hd
    rcases ar_at h0 hk with e | ⟨s,hs,e,_⟩
    · have:=(len_par h0 hk).1
      rw [e] at this
      have h2:lenM m (-1)=0:=rfl
      omega
    · have:=ih s hs (by have:=dp_succ h0 hk hs e;omega)
      obtain ⟨_,p,hp,ep⟩:=in_iff.1 this
      refine in_iff.2 ⟨hasV_at hk,p,?_,ep⟩
      rw [ups_cons h0 hk,e]
      exact List.mem_cons_of_mem _ hp
 exact key _ k hk rfl
theorem com_two {m:MdlD} (h0:riM m=(0,0,0)) {a b:Nat} (ha:a<m.vers.length) (hb:b<m.vers.length):∃ c:Nat,c<m.regs.length∧commonM m a [(b:Int)]=(c:Int)∧inM m a c=true∧inM m b c=true∧∀ r:Nat,r<m.regs.length→inM m a r=true→inM m b r=true→depM' m (ownA m r)≤depM' m (ownA m c):=by
 rw [common_eq h0 a [(b:Int)] [(a:Int),(b:Int)] (fun x=>by simp)]
 have hal:∀ r:Int,([(a:Int),(b:Int)].all fun v=>inM m v r)=true↔inM m a r=true∧inM m b r=true:=fun r=>by simp
 unfold comR
 rcases comF_is m [(a:Int),(b:Int)] m.regs.length with ⟨e,hn⟩ | ⟨c,hc,e,hin,hmax⟩
 · have hp:=regs_pos h0
   have:=hn 0 hp
   have h2:=(hal 0).2 ⟨in_top h0 ha,in_top h0 hb⟩
   have e0:((0:Nat):Int)=0:=rfl
   rw [e0] at this
   rw [h2] at this;cases this
 · exact ⟨c,hc,by rw [e],((hal _).1 hin).1,((hal _).1 hin).2,fun r hr h1 h2=>hmax r hr ((hal _).2 ⟨h1,h2⟩)⟩
theorem dep_nat {m:MdlD} (h0:riM m=(0,0,0)) {c t:Nat} (hc:c<m.regs.length) (ht:t<m.vers.length) (h1:m.vers[t].ofv<0) (h2:rgM m t=(c:Int)):depM' m (ownA m c)=(deM m t:Int) - 1:=by
 have:=dep_own h0 ht h1;rwa [h2] at this
theorem com_none {m:MdlD} (h0:riM m=(0,0,0)) {a b c r s:Nat} (hc:c<m.regs.length) (hr:r<m.regs.length) (hs:s<m.vers.length) (ho:m.regs[r].own=(s:Int)) (hmax:depM' m (ownA m r)≤depM' m (ownA m c)) (hin:inM m s c=true):False:=by
 obtain ⟨t,ht,h1,h2,h3,h4⟩:=(in_plain h0 hs hc).1 hin
 have d1:=dep_nat h0 hc ht h2 h3
 have d2:depM' m (ownA m r)=deM m s:=by
   rw [ownA_at hr,ho];unfold depM';rw [hasV_at hs];rfl
 have:=(ups_at h0 hs h1).2.1
 omega
theorem orth_apart {m:MdlD} (h0:riM m=(0,0,0)) {a b:Nat} (ha:a<m.vers.length) (hb:b<m.vers.length) (h:orthM m a b=true):underM m a b=false∧underM m b a=false∧orthM m b a=true:=by
 rw [orth_eq h0] at h
 have hR:∀ (x y:Int),orthR m x y=true↔∃ r q:Nat,r<m.regs.length∧q<m.regs.length∧r≠q∧0≤ownA m r∧ownA m r=ownA m q∧inM m x r=true∧inM m y q=true∧underM m x (ownA m r)=true∧underM m y (ownA m r)=true:=fun x y=>by
   unfold orthR
   simp only [List.any_eq_true,List.mem_range,Bool.and_eq_true,decide_eq_true_eq,beq_iff_eq]
   constructor
   · rintro ⟨r,hr,q,hq,⟨⟨⟨⟨⟨⟨h1,h2⟩,h3⟩,h4⟩,h5⟩,h6⟩,h7⟩⟩;exact ⟨r,q,hr,hq,h1,h2,h3,h4,h5,h6,h7⟩
   · rintro ⟨r,q,hr,hq,h1,h2,h3,h4,h5,h6,h7⟩;exact ⟨r,hr,q,hq,⟨⟨⟨⟨⟨⟨h1,h2⟩,h3⟩,h4⟩,h5⟩,h6⟩,h7⟩⟩
 obtain ⟨r,q,hr,hq,hne,hp,he,i1,i2,u1,u2⟩:=(hR _ _).1 h
 have hsym:orthM m b a=true:=by
   rw [orth_eq h0]
   exact (hR _ _).2 ⟨q,r,hq,hr,fun e=>hne e.symm,by rw [← he];exact hp,he.symm,i2,i1,by rw [← he];exact u2,by rw [← he];exact u1⟩
 rw [ownA_at hr] at hp he u1 u2
 rw [ownA_at hq] at he
 obtain ⟨s,hs⟩:=Int.eq_ofNat_of_zero_le hp
 have key:∀ (x y r q:Nat) (hx:x<m.vers.length) (hy:y<m.vers.length) (hr:r<m.regs.length) (hq:q<m.regs.length),r≠q→m.regs[r].own=(s:Int)→m.regs[q].own=(s:Int)→inM m x r=true→inM m y q=true→underM m y s=true→underM m x y=false:=by
   intro x y r q hx hy hr hq hne o1 o2 i1 i2 u2
   cases hu:underM m x y with
   | false=>rfl
   | true =>
    exfalso
    have hxy:=(under_at h0 hx).1 hu
    have hys:=(under_at h0 hy).1 u2
    obtain ⟨t,ht,t1,t2,t3,t4⟩:=(in_plain h0 hx hr).1 i1
    obtain ⟨z,hz,z1,z2,z3,z4⟩:=(in_plain h0 hy hq).1 i2
    have hsl:=(ups_at h0 hy hys.1).1
    have dt:=dp_succ h0 ht hsl (by rw [t4,o1])
    have dz:=dp_succ h0 hz hsl (by rw [z4,o2])
    have hty:(t:Int) ∈ upsM m y:=up_le h0 hx t1 hxy.1 (by omega)
    have:=up_one h0 hy hty z1 (by omega)
    subst this
    rw [t3] at z3
    exact hne (by omega)
 rw [hs] at u1 u2
 exact ⟨key a b r q ha hb hr hq hne hs (by rw [← he,hs]) i1 i2 u2,key b a q r hb ha hq hr (fun e=>hne e.symm) (by rw [← he,hs]) hs i2 i1 u1,hsym⟩
def meets (m:MdlD) (a b x:Int):Bool:=x == a || x == b || underM m a x || underM m b x
theorem count_sel {l:List Int} (hn:l.Nodup) (P:Int→Bool) (s:List Int) (hs:s.Nodup) (h:∀ x,x ∈ s↔x ∈ l∧P x=true):l.countP P=s.length:=by
 rw [List.countP_eq_length_filter]
 refine List.Perm.length_eq ((List.perm_ext_iff_of_nodup (hn.filter _) hs).2 fun x=>?_)
 rw [List.mem_filter,h]
theorem apart_ok {m:MdlD} (h0:riM m=(0,0,0)) {a b:Nat} (ha:a<m.vers.length) (hb:b<m.vers.length) (hne:a≠b) (ho:orthM m a b=false) (h1:underM m a b=false) (h2:underM m b a=false) :
   (kidsM m (commonM m a [(b:Int)])).countP (meets m a b)=2∨((0≤m.vers[a].ofv∨0≤m.vers[b].ofv)∧(kidsM m (commonM m a [(b:Int)])).countP (meets m a b)=1):=by
 obtain ⟨c,hc,e,ia,ib,hmax⟩:=com_two h0 ha hb
 rw [e]
 obtain ⟨t,ht,t1,t2,t3,t4⟩:=(in_plain h0 ha hc).1 ia
 obtain ⟨z,hz,z1,z2,z3,z4⟩:=(in_plain h0 hb hc).1 ib
 have dt:=dep_nat h0 hc ht t2 t3
 have dz:=dep_nat h0 hc hz z2 z3
 have hkid:∀ (x:Nat) (hx:x<m.vers.length),m.vers[x].ofv<0→rgM m x=(c:Int)→(x:Int) ∈ kidsM m c:=fun x hx h1 h2=>by
   refine (sel_mem _ _ _).2 ⟨x,hx,rfl,?_⟩
   rcases ver_at h0 hx with ⟨_,r,_,e1,e2,_⟩ | ⟨h,_⟩
   · simp only [isKid,Bool.and_eq_true,decide_eq_true_eq,beq_iff_eq];exact ⟨h1,by omega⟩
   · omega
 have hkid':∀ x:Int,x ∈ kidsM m c→∃ k:Nat,∃ hk:k<m.vers.length,x=k∧m.vers[k].ofv<0∧rgM m k=(c:Int):=fun x hx=>by
   obtain ⟨k,hk,rfl,hp⟩:=(sel_mem _ _ _).1 hx
   simp only [isKid,Bool.and_eq_true,decide_eq_true_eq,beq_iff_eq] at hp
   rcases ver_at h0 hk with ⟨_,r,_,e1,e2,_⟩ | ⟨h,_⟩
   · exact ⟨k,hk,rfl,hp.1,by omega⟩
   · omega
 -- one that is met stands on the way up
 have hon:∀ (v:Nat) (hv:v<m.vers.length) (y:Nat) (hy:y<m.vers.length),m.vers[y].ofv<0→rgM m y=(c:Int)→(y:Int) ∈ upsM m v→∀ k:Nat,∀ hk:k<m.vers.length,m.vers[k].ofv<0→rgM m k=(c:Int)→((k:Int)=v∨underM m v k=true)→k=y:=by
   intro v hv y hy y1 y2 y3 k hk k1 k2 hu
   have hin:(k:Int) ∈ upsM m v:=by
     rcases hu with hu | hu
     · have:k=v:=by omega
       subst this;exact ups_self
     · exact ((under_at h0 hv).1 hu).1
   have d1:=dep_nat h0 hc hy y1 y2
   have d2:=dep_nat h0 hc hk k1 k2
   exact up_one h0 hv hin y3 (by omega)
 have hmeet:∀ x:Int,x ∈ kidsM m c∧meets m a b x=true↔x=t∨x=z:=fun x=>by
   constructor
   · rintro ⟨hx,hm⟩
     obtain ⟨k,hk,rfl,k1,k2⟩:=hkid' x hx
     unfold meets at hm
     simp only [Bool.or_eq_true,beq_iff_eq] at hm
     rcases hm with ((hm | hm) | hm) | hm
     · left;rw [hon a ha t ht t2 t3 t1 k hk k1 k2 (.inl hm)]
     · right;rw [hon b hb z hz z2 z3 z1 k hk k1 k2 (.inl hm)]
     · left;rw [hon a ha t ht t2 t3 t1 k hk k1 k2 (.inr hm)]
     · right;rw [hon b hb z hz z2 z3 z1 k hk k1 k2 (.inr hm)]
   · have hup:∀ (v y:Nat) (hv:v<m.vers.length),(y:Int) ∈ upsM m v→(y:Int)=v∨underM m v y=true:=fun v y hv hy=>by
       by_cases hd:deM m y<deM m v
       · exact .inr ((under_at h0 hv).2 ⟨hy,hd⟩)
       · have:=(ups_at h0 hv hy).2.1
         left;rw [up_one h0 hv hy ups_self (by omega)]
     rintro (rfl | rfl)
     · refine ⟨hkid t ht t2 t3,?_⟩
       unfold meets
       rcases hup a t ha t1 with h | h
       · simp [h]
       · simp [h]
     · refine ⟨hkid z hz z2 z3,?_⟩
       unfold meets
       rcases hup b z hb z1 with h | h
       · simp [h]
       · simp [h]
 have hnd:(kidsM m c).Nodup:=sel_nodup _ _
 by_cases htz:t=z
 · right
   subst htz
   refine ⟨?_,(count_sel hnd _ [(t:Int)] (by simp) fun x=>by rw [hmeet];simp).trans rfl⟩
   -- both lie in t
   have hat:deM m t<deM m a:=by
     have:=(ups_at h0 ha t1).2.1
     rcases Nat.lt_or_ge (deM m t) (deM m a) with h | h
     · exact h
     · exfalso
       have:t=a:=up_one h0 ha t1 ups_self (by omega)
       subst this
       have hd:=(ups_at h0 hb z1).2.1
       by_cases h3:deM m t<deM m b
       · rw [(under_at h0 hb).2 ⟨z1,h3⟩] at h2;cases h2
       · exact hne (up_one h0 hb z1 ups_self (by omega))
   have hbt:deM m t<deM m b:=by
     have:=(ups_at h0 hb z1).2.1
     rcases Nat.lt_or_ge (deM m t) (deM m b) with h | h
     · exact h
     · exfalso
       have:t=b:=up_one h0 hb z1 ups_self (by omega)
       subst this
       rw [(under_at h0 ha).2 ⟨t1,hat⟩] at h1;cases h1
   -- what stands just below t
   have hstep:∀ (v:Nat) (hv:v<m.vers.length),(t:Int) ∈ upsM m v→deM m t<deM m v→(0≤m.vers[v].ofv)∨∃ r,∃ hr:r<m.regs.length,m.regs[r].own=(t:Int)∧inM m v r=true:=by
     intro v hv hin hd
     have hst:=(ups_steps h0 (v:=(v:Int)) (by omega) (len_self h0 hv).2).2
     have hlen:=(len_self h0 hv).1
     obtain ⟨y,y1,y2,y3⟩:=hst (deM m v - deM m t - 1) (by omega)
     have hy:(y:Int) ∈ upsM m v:=by
       rw [upsM_eq,List.mem_map];exact ⟨_,by rw [List.mem_range];omega,y1⟩
     have hyt:arM m y=(t:Int):=by
       rw [y3,show deM m v - deM m t - 1+1=deM m v - deM m t by omega];exact (ups_at h0 hv hin).2.2
     rcases ver_at h0 y2 with ⟨g1,r,hr,g2,_,g3⟩ | ⟨g1,s,hs,g2,_⟩
     · exact .inr ⟨r,hr,by rw [← g3,hyt],in_iff.2 ⟨hasV_at hv,y,hy,g2⟩⟩
     · left
       -- a point has nothing below
       by_cases hyv:y=v
       · subst hyv;exact g1
       · exfalso
         rw [ups_cons h0 hv,List.mem_cons] at hy
         rcases hy with hy | hy
         · omega
         · obtain ⟨q,hq,eq,hkd,_⟩:=up_state h0 hv hy
           obtain rfl:y=q:=by omega
           have:=point_at h0 hq g1
           omega
   rcases hstep a ha t1 hat with h | ⟨r,hr,o1,i1⟩
   · exact .inl h
   · rcases hstep b hb z1 hbt with h | ⟨q,hq,o2,i2⟩
     · exact .inr h
     · exfalso
       by_cases hrq:r=q
       · subst hrq
         have:=hmax r hr i1 i2
         have d2:depM' m (ownA m r)=deM m t:=by
           rw [ownA_at hr,o1];unfold depM';rw [hasV_at ht];rfl
         omega
       · have:orthM m a b=true:=by
           rw [orth_eq h0]
           unfold orthR
           simp only [List.any_eq_true,List.mem_range,Bool.and_eq_true,decide_eq_true_eq,beq_iff_eq]
           refine ⟨r,hr,q,hq,⟨⟨⟨⟨⟨⟨hrq,?_⟩,?_⟩,i1⟩,i2⟩,?_⟩,?_⟩⟩
           · rw [ownA_at hr,o1];omega
           · rw [ownA_at hr,ownA_at hq,o1,o2]
           · rw [ownA_at hr,o1];exact in_under h0 ha hr o1 i1
           · rw [ownA_at hr,o1];exact in_under h0 hb hq o2 i2
         rw [this] at ho;cases ho
 · left
   exact (count_sel hnd _ [(t:Int),(z:Int)] (by simp;omega) fun x=>by rw [hmeet];simp).trans rfl
def sumN (f:Nat→Nat):Nat→Nat
 | 0=>0
 | k+1=>sumN f k+f k
theorem sumN_zero (f:Nat→Nat):∀ n,(∀ k,k<n→f k=0)→sumN f n=0
 | 0,_=>rfl
 | n+1,h=>by rw [sumN,sumN_zero f n fun k hk=>h k (by omega),h n (by omega)]
theorem sumN_one (f:Nat→Nat) (c:Nat):∀ n,c<n→(∀ k,k<n→f k=if k=c then 1 else 0)→sumN f n=1
 | 0,h,_=>by omega
 | n+1,hc,h=>by
   rw [sumN,h n (by omega)]
   by_cases e:n=c
   · subst e
     rw [if_pos rfl,sumN_zero f n fun k hk=>by rw [h k (by omega),if_neg (by omega)]]
   · rw [if_neg e,sumN_one f c n (by omega) fun k hk=>h k (by omega)]
theorem count_nd {l:List Int} (hn:l.Nodup) (v:Int):l.count v=if v ∈ l then 1 else 0:=by
 by_cases h:v ∈ l
 · rw [if_pos h];have:=List.nodup_iff_count.1 hn v;have h2:=List.count_pos_iff.2 h;omega
 · rw [if_neg h];exact List.count_eq_zero.2 h
theorem homes_one {m:MdlD} (h0:riM m=(0,0,0)) {v:Nat} (hv:v<m.vers.length):sumN (fun r=>(kidsM m r).count (v:Int)) m.regs.length+sumN (fun u=>(pntM m u).count (v:Int)) m.vers.length=1:=by
 have hk:∀ r:Nat,(kidsM m r).count (v:Int)=if m.vers[v].ofv<0∧m.vers[v].rg=(r:Int) then 1 else 0:=fun r=>by
   have hnd:(kidsM m r).Nodup:=sel_nodup _ _
   rw [count_nd hnd]
   have:(v:Int) ∈ kidsM m r↔m.vers[v].ofv<0∧m.vers[v].rg=(r:Int):=by
     refine (sel_mem _ _ _).trans ⟨fun ⟨k,hk,e,hp⟩=>?_,fun h=>⟨v,hv,rfl,by simp [isKid,h]⟩⟩
     obtain rfl:v=k:=by omega
     simpa [isKid] using hp
   simp only [this]
 have hp:∀ u:Nat,(pntM m u).count (v:Int)=if m.vers[v].ofv=(u:Int) then 1 else 0:=fun u=>by
   have hnd:(pntM m u).Nodup:=sel_nodup _ _
   rw [count_nd hnd]
   have:(v:Int) ∈ pntM m u↔m.vers[v].ofv=(u:Int):=by
     refine (sel_mem _ _ _).trans ⟨fun ⟨k,hk,e,hp⟩=>?_,fun h=>⟨v,hv,rfl,by simp [isPnt,h]⟩⟩
     obtain rfl:v=k:=by omega
     simp only [isPnt,Bool.and_eq_true,beq_iff_eq] at hp
     exact hp.2
   simp only [this]
 rcases ver_at h0 hv with ⟨h1,r,hr,_,e,_⟩ | ⟨h1,s,hs,_,_,_,_,e⟩
 · rw [sumN_one _ r _ hr fun k hk'=>by { rw [hk k];simp only [h1,e,true_and];by_cases h:k=r;{ rw [if_pos (by omega),if_pos h] };{ rw [if_neg (by omega),if_neg h] } },sumN_zero _ _ fun k _=>by rw [hp k,if_neg (by omega)]]
 · rw [sumN_zero _ _ fun k _=>by rw [hk k,if_neg (by omega)],sumN_one _ s _ hs fun k hk'=>by { rw [hp k,e];by_cases h:k=s;{ rw [if_pos (by omega),if_pos h] };{ rw [if_neg (by omega),if_neg h] } }]
def addL (H:List Int) (l:List Int):List Int:=l.foldl (fun (H:List Int) (x:Int)=>if 0≤x∧x<H.length then H.set x.toNat (H.getD x.toNat 0+1) else H) H
theorem addL_len (l:List Int):∀ H,(addL H l).length=H.length:=by
 induction l with
 | nil=>intro H;rfl
 | cons x t ih =>
  intro H
  show (addL (if 0≤x∧x<H.length then H.set x.toNat (H.getD x.toNat 0+1) else H) t).length=_
  rw [ih];split <;> simp
theorem addL_at (l:List Int):∀ (H:List Int) (v:Nat),v<H.length→(addL H l).getD v 0=H.getD v 0+(l.count (v:Int):Nat):=by
 induction l with
 | nil=>intro H v hv;simp [addL]
 | cons x t ih =>
  intro H v hv
  show (addL (if 0≤x∧x<H.length then H.set x.toNat (H.getD x.toNat 0+1) else H) t).getD v 0=_
  rw [ih _ v (by split <;> simp [hv]),List.count_cons]
  by_cases hx:x=(v:Int)
  · subst hx
    rw [if_pos ⟨by omega,by omega⟩,Int.toNat_natCast,List.getD_eq_getElem?_getD,List.getElem?_set,if_pos rfl,if_pos hv]
    simp;omega
  · have hb:(x == (v:Int))=false:=by simpa using hx
    rw [hb]
    have:(if 0≤x∧x<H.length then H.set x.toNat (H.getD x.toNat 0+1) else H).getD v 0=H.getD v 0:=by
      split
      · rw [List.getD_eq_getElem?_getD,List.getElem?_set,if_neg (by omega),← List.getD_eq_getElem?_getD]
      · rfl
    rw [this];simp
end Go.Md
