/- What the document says lies in what: plain. No program is in sight. -/
import Derived.Test.YtiimoclbmaggjaaGreatDoorLHiP
namespace Go.Md
open Go.RowKit Go.Lx Go.Proofs
set_option linter.unusedVariables false

def ownA (m:MdlD) (r:Int):Int:=match m.regs[r.toNat]? with | some x=>x.own | none=>-1
theorem ownA_at {m:MdlD} {r:Nat} (h:r<m.regs.length):ownA m (r:Int)=m.regs[r].own:=by
 unfold ownA;rw [Int.toNat_natCast,List.getElem?_eq_getElem h]
theorem hasV_at {m:MdlD} {k:Nat} (h:k<m.vers.length):hasV m (k:Int)=true:=by simp [hasV];omega
theorem hasR_at {m:MdlD} {k:Nat} (h:k<m.regs.length):hasR m (k:Int)=true:=by simp [hasR];omega
theorem hasV_nat {m:MdlD} {v:Int} (h:hasV m v=true):∃ k:Nat,v=k∧k<m.vers.length:=by
 unfold hasV at h
 simp only [Bool.and_eq_true,decide_eq_true_eq] at h
 exact ⟨v.toNat,by omega,by omega⟩
theorem stM_at {m:MdlD} {k:Nat} (h:k<m.vers.length):Md.stM m (k:Int)=(m.vers[k].kd == 1):=by
 unfold Md.stM;rw [Int.toNat_natCast,List.getElem?_eq_getElem h];simp
theorem reg_right {m:MdlD} (h0:riM m=(0,0,0)) {r:Nat} (hr:r<m.regs.length):(r=0∧m.regs[r].own=-1)∨(r≠0∧∃ s,∃ hs:s<m.vers.length,m.regs[r].own=(s:Int)∧m.vers[s].kd=1):=by
 have h4:=(riM_zero.1 h0).2.2.2.1
 unfold f4 at h4
 split at h4
 · simp only [Prod.mk.injEq] at h4;omega
 · have:=((wrL_zero (by decide)).1 h4 r hr).1
   rw [Nat.zero_add] at this
   unfold rReg at this
   split at this
   · simp only [Bool.and_eq_true,beq_iff_eq] at this;exact .inl ⟨by assumption,this.2⟩
   · simp only [Bool.and_eq_true] at this
     obtain ⟨k,hk,e,hkd⟩:=st_in this.1.2
     exact .inr ⟨by assumption,k,hk,e,hkd⟩
theorem ver_at {m:MdlD} (h0:riM m=(0,0,0)) {k:Nat} (hk:k<m.vers.length) :
   (m.vers[k].ofv<0∧∃ r,∃ hr:r<m.regs.length,rgM m k=(r:Int)∧m.vers[k].rg=r∧arM m k=m.regs[r].own) ∨
   (0≤m.vers[k].ofv∧∃ s,∃ hs:s<m.vers.length,arM m k=(s:Int)∧m.vers[s].kd=1∧m.vers[s].ofv<0∧rgM m k=rgM m s∧m.vers[k].ofv=s):=by
 have e1:rgM m k=if 0≤m.vers[k].ofv then (match m.vers[m.vers[k].ofv.toNat]? with | some y=>y.rg | none=>-1) else m.vers[k].rg:=by
   unfold rgM;rw [Int.toNat_natCast,List.getElem?_eq_getElem hk];rfl
 have e2:arM m k=if 0≤m.vers[k].ofv then m.vers[k].ofv else match m.regs[m.vers[k].rg.toNat]? with | some r=>r.own | none=>-1:=by
   unfold arM;rw [Int.toNat_natCast,List.getElem?_eq_getElem hk];rfl
 rcases ver_right h0 hk with ⟨h1,s,hs,h2,h3,_⟩ | ⟨h1,r,hr,h2,_⟩
 · have hsp:=plain_at h0 hs ⟨by omega,by omega⟩
   refine .inr ⟨h1,s,hs,by rw [e2,if_pos h1,h2],h3,by omega,?_,h2⟩
   rw [e1,if_pos h1,h2,Int.toNat_natCast,List.getElem?_eq_getElem hs]
   unfold rgM
   rw [Int.toNat_natCast,List.getElem?_eq_getElem hs]
   show _=if 0≤m.vers[s].ofv then _ else _
   rw [if_neg (by omega)]
 · refine .inl ⟨h1,r,hr,by rw [e1,if_neg (by omega),h2],h2,?_⟩
   rw [e2,if_neg (by omega),h2,Int.toNat_natCast,List.getElem?_eq_getElem hr]
theorem ar_at {m:MdlD} (h0:riM m=(0,0,0)) {k:Nat} (hk:k<m.vers.length):arM m k=-1∨∃ s,∃ hs:s<m.vers.length,arM m k=(s:Int)∧m.vers[s].kd=1:=by
 rcases ver_at h0 hk with ⟨_,r,hr,_,_,e⟩ | ⟨_,s,hs,e,h,_⟩
 · rcases reg_right h0 hr with ⟨_,e2⟩ | ⟨_,s,hs,e2,h⟩
   · exact .inl (by rw [e,e2])
   · exact .inr ⟨s,hs,by rw [e,e2],h⟩
 · exact .inr ⟨s,hs,e,h⟩
theorem ups_neg (m:MdlD) {v:Int} (h:v<0):upsM m v=[]:=by unfold upsM upL;rw [if_pos h]
theorem ups_cons {m:MdlD} (h0:riM m=(0,0,0)) {k:Nat} (hk:k<m.vers.length):upsM m k=(k:Int) :: upsM m (arM m k):=by
 have hl:=len_par h0 hk
 have hd:=deep_right h0 hk
 have e:upL m 65 (arM m k)=upL m 66 (arM m k):=by
   rw [upL_eq,upL_eq]
   have:dpM m 66 (arM m k)=dpM m 65 (arM m k):=dpM_more m 65 (arM m k) 66 (by unfold deM at hd;omega) (by omega)
   rw [this]
 unfold upsM
 show (if (k:Int)<0 then [] else (k:Int) :: upL m 65 (arM m k))=_
 rw [if_neg (by omega),e]
theorem up_state {m:MdlD} (h0:riM m=(0,0,0)) {k:Nat} (hk:k<m.vers.length) {x:Int} (hx:x ∈ upsM m (arM m k)):∃ s,∃ hs:s<m.vers.length,x=(s:Int)∧m.vers[s].kd=1∧(s:Int) ∈ upsM m k∧deM m s<deM m k:=by
 have key:∀ (d k:Nat) (hk:k<m.vers.length),deM m k=d→x ∈ upsM m (arM m k)→∃ s,∃ hs:s<m.vers.length,x=(s:Int)∧m.vers[s].kd=1:=by
   intro d
   induction d with
   | zero =>
    intro k hk hd hx
    rcases ar_at h0 hk with e | ⟨s,hs,e,_⟩
    · rw [e,ups_neg m (by omega)] at hx;cases hx
    · have:=dp_succ h0 hk hs e;omega
   | succ d ih =>
    intro k hk hd hx
    rcases ar_at h0 hk with e | ⟨s,hs,e,hkd⟩
    · rw [e,ups_neg m (by omega)] at hx;cases hx
    · rw [e,ups_cons h0 hs,List.mem_cons] at hx
      rcases hx with rfl | hx
      · exact ⟨s,hs,rfl,hkd⟩
      · exact ih s hs (by have:=dp_succ h0 hk hs e;omega) hx
 obtain ⟨s,hs,e,hkd⟩:=key _ k hk rfl hx
 subst e
 have hin:(s:Int) ∈ upsM m k:=by rw [ups_cons h0 hk];exact List.mem_cons_of_mem _ hx
 refine ⟨s,hs,rfl,hkd,hin,?_⟩
 rcases ar_at h0 hk with e | ⟨t,ht,e,_⟩
 · rw [e,ups_neg m (by omega)] at hx;cases hx
 · rw [e] at hx
   have:=(ups_at h0 ht hx).2.1
   have:=dp_succ h0 hk ht e
   omega
theorem up_of {m:MdlD} (h0:riM m=(0,0,0)) {k s:Nat} (hk:k<m.vers.length) (h:(s:Int) ∈ upsM m k) (hd:deM m s<deM m k):(s:Int) ∈ upsM m (arM m k):=by
 rw [ups_cons h0 hk,List.mem_cons] at h
 rcases h with h | h
 · obtain rfl:s=k:=by omega
   omega
 · exact h
theorem up_one {m:MdlD} (h0:riM m=(0,0,0)) {k s t:Nat} (hk:k<m.vers.length) (h1:(s:Int) ∈ upsM m k) (h2:(t:Int) ∈ upsM m k) (hd:deM m s=deM m t):s=t:=by
 have a:=(ups_at h0 hk h1).2.2
 have b:=(ups_at h0 hk h2).2.2
 rw [hd,b] at a
 omega
theorem up_nat {m:MdlD} (h0:riM m=(0,0,0)) {k:Nat} (hk:k<m.vers.length) {x:Int} (hx:x ∈ upsM m k):∃ s,s<m.vers.length∧x=(s:Int):=by
 rw [ups_cons h0 hk,List.mem_cons] at hx
 rcases hx with rfl | hx
 · exact ⟨k,hk,rfl⟩
 · obtain ⟨s,hs,e,_⟩:=up_state h0 hk hx;exact ⟨s,hs,e⟩
theorem up_le {m:MdlD} (h0:riM m=(0,0,0)) {k s t:Nat} (hk:k<m.vers.length) (h1:(s:Int) ∈ upsM m k) (h2:(t:Int) ∈ upsM m k) (hd:deM m s≤deM m t):(s:Int) ∈ upsM m t:=by
 obtain ⟨hs,d1,u1⟩:=ups_at h0 hk h1
 obtain ⟨ht,d2,u2⟩:=ups_at h0 hk h2
 have hst:=(ups_steps h0 (v:=(k:Int)) (by omega) (len_self h0 hk).2).2
 have key:∀ j,upN m j t=upN m (j+(deM m k - deM m t)) k:=by
   intro j
   induction j with
   | zero=>rw [Nat.zero_add,u2];rfl
   | succ j ih=>rw [upN_succ,ih,show j+1+(deM m k - deM m t)=(j+(deM m k - deM m t))+1 by omega,upN_succ]
 rw [upsM_eq,List.mem_map]
 refine ⟨deM m t - deM m s,?_,by rw [key,show deM m t - deM m s+(deM m k - deM m t)=deM m k - deM m s by omega,u1]⟩
 rw [List.mem_range,(len_self h0 ht).1];omega
theorem under_iff {m:MdlD} {v s:Int}:underM m v s=true↔hasV m v=true∧hasV m s=true∧Md.stM m s=true∧s ∈ upsM m (arM m v):=by
 unfold underM
 simp only [Bool.and_eq_true,List.find?_isSome,beq_iff_eq,and_assoc]
 constructor
 · rintro ⟨h1,h2,h3,x,hx,rfl⟩;exact ⟨h1,h2,h3,hx⟩
 · rintro ⟨h1,h2,h3,hx⟩;exact ⟨h1,h2,h3,s,hx,rfl⟩
theorem under_at {m:MdlD} (h0:riM m=(0,0,0)) {k s:Nat} (hk:k<m.vers.length):underM m k s=true↔(s:Int) ∈ upsM m k∧deM m s<deM m k:=by
 rw [under_iff]
 constructor
 · rintro ⟨_,_,_,h⟩
   obtain ⟨t,ht,e,_,h1,h2⟩:=up_state h0 hk h
   obtain rfl:s=t:=by omega
   exact ⟨h1,h2⟩
 · rintro ⟨h1,h2⟩
   have h:=up_of h0 hk h1 h2
   obtain ⟨t,ht,e,hkd,_⟩:=up_state h0 hk h
   obtain rfl:s=t:=by omega
   exact ⟨hasV_at hk,hasV_at ht,by rw [stM_at ht,hkd];rfl,h⟩
def insC (m:MdlD) (s:Int):List Int→List Int
 | []=>[s]
 | o :: t=>if underM m s o then o :: insC m s t else s :: o :: t
def chainF (m:MdlD) (v:Int) (k:Nat):List Int:=(List.range k).foldl (fun out (s:Nat)=>if underM m v (s:Int) then insC m (s:Int) out else out) []
def chainR (m:MdlD) (v:Int):List Int:=chainF m v m.vers.length
theorem chainF_zero (m:MdlD) (v:Int):chainF m v 0=[]:=rfl
theorem chainF_succ (m:MdlD) (v:Int) (k:Nat):chainF m v (k+1)=if underM m v (k:Int) then insC m (k:Int) (chainF m v k) else chainF m v k:=by
 unfold chainF;rw [List.range_succ,List.foldl_append];rfl
theorem insC_at (m:MdlD) (s:Int):∀ (l:List Int) (k:Nat),k≤l.length→(∀ j (h:j<l.length),j<k→underM m s l[j]=true)→insC m s l=l.take k ++ insC m s (l.drop k)
 | l,0,_,_=>by simp
 | [],k+1,h,_=>by simp at h
 | o :: t,k+1,h,hu=>by
   have h1:=hu 0 (by simp) (by omega)
   rw [List.getElem_cons_zero] at h1
   rw [show insC m s (o :: t)=o :: insC m s t by rw [insC,if_pos h1],List.take_succ_cons,List.drop_succ_cons,List.cons_append,← insC_at m s t k (by simpa using h) fun j hj hjk=>hu (j+1) (by simpa using hj) (by omega)]
theorem insC_end {m:MdlD} {s:Int} {l:List Int} {k:Nat} (hk:k≤l.length) (hu:∀ j (h:j<l.length),j<k→underM m s l[j]=true) (hn:∀ (h:k<l.length),underM m s l[k]=false):insC m s l=l.take k ++ s :: l.drop k:=by
 rw [insC_at m s l k hk hu]
 by_cases h:k<l.length
 · rw [List.drop_eq_getElem_cons h,insC,if_neg (by rw [hn h];decide)]
 · rw [List.drop_eq_nil_of_le (by omega)];rfl
theorem sorted_ext (f:Int→Nat):∀ (l l':List Int),l.Pairwise (fun a b=>f a<f b)→l'.Pairwise (fun a b=>f a<f b)→(∀ x,x ∈ l↔x ∈ l')→l=l'
 | [],l',_,_,h=>by
   cases l' with
   | nil=>rfl
   | cons b t=>have:=(h b).2 List.mem_cons_self;cases this
 | a :: t,[],_,_,h=>by have:=(h a).1 List.mem_cons_self;cases this
 | a :: t,b :: t',h1,h2,h=>by
   rw [List.pairwise_cons] at h1 h2
   have hab:a=b:=by
     have ha:=(h a).1 List.mem_cons_self
     have hb:=(h b).2 List.mem_cons_self
     rw [List.mem_cons] at ha hb
     rcases ha with ha | ha
     · exact ha
     · rcases hb with hb | hb
       · exact hb.symm
       · have:=h2.1 a ha;have:=h1.1 b hb;omega
   subst hab
   rw [sorted_ext f t t' h1.2 h2.2 fun x=>?_]
   constructor
   · intro hx
     have:=(h x).1 (List.mem_cons_of_mem _ hx)
     rw [List.mem_cons] at this
     rcases this with rfl | this
     · have:=h1.1 x hx;omega
     · exact this
   · intro hx
     have:=(h x).2 (List.mem_cons_of_mem _ hx)
     rw [List.mem_cons] at this
     rcases this with rfl | this
     · have:=h2.1 x hx;omega
     · exact this
def deN (m:MdlD) (v:Int):Nat:=deM m v
theorem insC_sorted {m:MdlD} (h0:riM m=(0,0,0)) {k:Nat} (hk:k<m.vers.length) {s:Nat} (hs:(s:Int) ∈ upsM m k):∀ (l:List Int),(∀ x ∈ l,x ∈ upsM m k∧x≠s)→l.Pairwise (fun a b=>deN m a<deN m b) →
   (insC m s l).Pairwise (fun a b=>deN m a<deN m b)∧∀ x,x ∈ insC m s l↔x=s∨x ∈ l
 | [],_,_=>by simp [insC]
 | o :: t,hm,hp=>by
   obtain ⟨ho,hne⟩:=hm o List.mem_cons_self
   obtain ⟨i,hi,rfl⟩:=up_nat h0 hk ho
   have hsl:=(ups_at h0 hk hs).1
   rw [List.pairwise_cons] at hp
   cases hu:underM m s i with
   | true =>
    have hd:=((under_at h0 hsl).1 hu).2
    obtain ⟨ih1,ih2⟩:=insC_sorted h0 hk hs t (fun x hx=>hm x (List.mem_cons_of_mem _ hx)) hp.2
    rw [insC,if_pos hu]
    refine ⟨List.pairwise_cons.2 ⟨fun x hx=>?_,ih1⟩,fun x=>?_⟩
    · rcases (ih2 x).1 hx with rfl | hx
      · exact hd
      · exact hp.1 x hx
    · rw [List.mem_cons,ih2,List.mem_cons]
      constructor
      · rintro (h | h | h);exact .inr (.inl h);exact .inl h;exact .inr (.inr h)
      · rintro (h | h | h);exact .inr (.inl h);exact .inl h;exact .inr (.inr h)
   | false =>
    have hd:deM m s<deM m i:=by
      rcases Nat.lt_trichotomy (deM m s) (deM m i) with h | h | h
      · exact h
      · exact absurd (by rw [up_one h0 hk hs ho h]) hne
      · rw [(under_at h0 hsl).2 ⟨up_le h0 hk ho hs (by omega),h⟩] at hu;cases hu
    rw [insC,if_neg (by rw [hu];decide)]
    refine ⟨List.pairwise_cons.2 ⟨fun x hx=>?_,List.pairwise_cons.2 hp⟩,fun x=>by rw [List.mem_cons]⟩
    rw [List.mem_cons] at hx
    rcases hx with rfl | hx
    · exact hd
    · have:=hp.1 x hx;exact Nat.lt_trans hd this
theorem chainF_is {m:MdlD} (h0:riM m=(0,0,0)) {v:Nat} (hv:v<m.vers.length):∀ k,k≤m.vers.length→(chainF m v k).Pairwise (fun a b=>deN m a<deN m b)∧∀ x,x ∈ chainF m v k↔∃ s:Nat,x=s∧s<k∧underM m v s=true
 | 0,_=>by rw [chainF_zero];exact ⟨List.Pairwise.nil,fun x=>⟨fun h=>(by cases h),fun ⟨s,_,h,_⟩=>absurd h (by omega)⟩⟩
 | k+1,hk=>by
   obtain ⟨ih1,ih2⟩:=chainF_is h0 hv k (by omega)
   rw [chainF_succ]
   cases hu:underM m v k with
   | false =>
    rw [if_neg (by decide)]
    refine ⟨ih1,fun x=>(ih2 x).trans ⟨fun ⟨s,e,h1,h2⟩=>⟨s,e,by omega,h2⟩,fun ⟨s,e,h1,h2⟩=>⟨s,e,?_,h2⟩⟩⟩
    by_cases hsk:s=k
    · subst hsk;rw [hu] at h2;cases h2
    · omega
   | true =>
    rw [if_pos rfl]
    have hin:=((under_at h0 hv).1 hu).1
    obtain ⟨h1,h2⟩:=insC_sorted h0 hv hin (chainF m v k) (fun x hx=>by
      obtain ⟨s,rfl,hs,hus⟩:=(ih2 x).1 hx
      exact ⟨((under_at h0 hv).1 hus).1,by omega⟩) ih1
    refine ⟨h1,fun x=>(h2 x).trans ?_⟩
    rw [ih2]
    constructor
    · rintro (rfl | ⟨s,e,hs,hus⟩)
      · exact ⟨k,rfl,by omega,hu⟩
      · exact ⟨s,e,by omega,hus⟩
    · rintro ⟨s,e,hs,hus⟩
      by_cases hsk:s=k
      · subst hsk;exact .inl e
      · exact .inr ⟨s,e,by omega,hus⟩
theorem ups_sorted {m:MdlD} (h0:riM m=(0,0,0)):∀ (d k:Nat) (hk:k<m.vers.length),deM m k=d→(upsM m k).Pairwise (fun a b=>deN m b<deN m a)
 | d,k,hk,hd=>by
   rw [ups_cons h0 hk,List.pairwise_cons]
   refine ⟨fun x hx=>?_,?_⟩
   · obtain ⟨s,_,rfl,_,_,h⟩:=up_state h0 hk hx;exact h
   · rcases ar_at h0 hk with e | ⟨s,hs,e,_⟩
     · rw [e,ups_neg m (by omega)];exact List.Pairwise.nil
     · rw [e]
       have:=dp_succ h0 hk hs e
       match d,hd with
       | 0,hd=>omega
       | d+1,hd=>exact ups_sorted h0 d s hs (by omega)
theorem chain_eq {m:MdlD} (h0:riM m=(0,0,0)) (v:Int):chainR m v=chainM m v:=by
 cases hv:hasV m v with
 | false =>
  unfold chainM
  rw [hv,if_neg (by decide)]
  have hno:∀ s,underM m v s=false:=fun s=>by unfold underM;rw [hv];rfl
  have:∀ k,chainF m v k=[]:=by
    intro k
    induction k with
    | zero=>rfl
    | succ k ih=>rw [chainF_succ,hno,if_neg (by decide),ih]
  exact this _
 | true =>
  obtain ⟨k,rfl,hk⟩:=hasV_nat hv
  obtain ⟨h1,h2⟩:=chainF_is h0 hk m.vers.length (Nat.le_refl _)
  have hs:(upsM m (arM m k)).Pairwise (fun a b=>deN m b<deN m a):=by
    have:=ups_sorted h0 _ k hk rfl
    rw [ups_cons h0 hk,List.pairwise_cons] at this
    exact this.2
  unfold chainM chainR
  rw [hv,if_pos rfl]
  refine sorted_ext (deN m) _ _ h1 ?_ fun x=>?_
  · rw [List.pairwise_reverse];exact hs
  · rw [h2,List.mem_reverse]
    constructor
    · rintro ⟨s,rfl,hs,hu⟩
      have:=(under_at h0 hk).1 hu
      exact up_of h0 hk this.1 this.2
    · intro hx
      obtain ⟨s,hs,rfl,_,h3,h4⟩:=up_state h0 hk hx
      exact ⟨s,rfl,hs,(under_at h0 hk).2 ⟨h3,h4⟩⟩
theorem kidsR_eq {m:MdlD} (h0:riM m=(0,0,0)) (r:Int):kidsR m r=kidsM m r:=by
 unfold kidsR
 cases hr:hasR m r with
 | true=>rfl
 | false =>
  rw [if_neg (by decide)]
  refine (List.eq_nil_iff_forall_not_mem.2 fun v hv=>?_).symm
  obtain ⟨k,hk,rfl,hp⟩:=(sel_mem _ _ _).1 hv
  unfold isKid at hp
  simp only [Bool.and_eq_true,decide_eq_true_eq,beq_iff_eq] at hp
  rcases ver_at h0 hk with ⟨_,q,hq,_,e,_⟩ | ⟨h,_⟩
  · rw [← hp.2,e,hasR_at hq] at hr;cases hr
  · omega
end Go.Md
