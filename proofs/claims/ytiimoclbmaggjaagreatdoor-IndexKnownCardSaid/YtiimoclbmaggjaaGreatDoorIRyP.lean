/- What the document says lies in what: plain. No program is in sight. -/
import Derived.Test.YtiimoclbmaggjaaGreatDoorIHiP
namespace Go.Md
open Go.RowKit Go.Lx Go.Proofs
set_option linter.unusedVariables false

def ownA (m:MdlD) (r:Int):Int:=match m.regs[r.toNat]? with | some x=>x.own | none=>-1
theorem ownA_at {m:MdlD} {r:Nat} (h:r<m.regs.length):ownA m (r:Int)=m.regs[r].own:=by
 unfold ownA;rw [Int.toNat_natCast,List.getElem?_eq_getElem h]
theorem hasV_at {m:MdlD} {k:Nat} (h:k<m.vers.length):hasV m (k:Int)=true:=by simp [hasV];omega
theorem hasR_at {m:MdlD} {k:Nat} (h:k<m.regs.length):hasR m (k:Int)=true:=by simp [hasR];omega
theorem hasV_nat {m:MdlD} {v:Int} (h:hasV m v=true):∃ k:Nat,v=k∧k<m.vers.length:=by
 unfold hasV at h
 simp only [Bool.and_eq_true,decide_eq_true_eq] at h
 exact ⟨v.toNat,by omega,by omega⟩
theorem stM_at {m:MdlD} {k:Nat} (h:k<m.vers.length):Md.stM m (k:Int)=(m.vers[k].kd == 1):=by
 unfold Md.stM;rw [Int.toNat_natCast,List.getElem?_eq_getElem h];simp
theorem reg_right {m:MdlD} (h0:riM m=(0,0,0)) {r:Nat} (hr:r<m.regs.length):(r=0∧m.regs[r].own=-1)∨(r≠0∧∃ s,∃ hs:s<m.vers.length,m.regs[r].own=(s:Int)∧m.vers[s].kd=1):=by
 have h4:=(riM_zero.1 h0).2.2.2.1
 unfold f4 at h4
 split at h4
 · simp only [Prod.mk.injEq] at h4;omega
 · have:=((wrL_zero (by decide)).1 h4 r hr).1
   rw [Nat.zero_add] at this
   unfold rReg at this
   split at this
   · simp only [Bool.and_eq_true,beq_iff_eq] at this;exact .inl ⟨by assumption,this.2⟩
   · simp only [Bool.and_eq_true] at this
     obtain ⟨k,hk,e,hkd⟩:=st_in this.1.2
     exact .inr ⟨by assumption,k,hk,e,hkd⟩
theorem ver_at {m:MdlD} (h0:riM m=(0,0,0)) {k:Nat} (hk:k<m.vers.length) :
   (m.vers[k].ofv<0∧∃ r,∃ hr:r<m.regs.length,rgM m k=(r:Int)∧m.vers[k].rg=r∧arM m k=m.regs[r].own) ∨
   (0≤m.vers[k].ofv∧∃ s,∃ hs:s<m.vers.length,arM m k=(s:Int)∧m.vers[s].kd=1∧m.vers[s].ofv<0∧rgM m k=rgM m s∧m.vers[k].ofv=s):=by
 have e1:rgM m k=if 0≤m.vers[k].ofv then (match m.vers[m.vers[k].ofv.toNat]? with | some y=>y.rg | none=>-1) else m.vers[k].rg:=by
   unfold rgM;rw [Int.toNat_natCast,List.getElem?_eq_getElem hk];rfl
 have e2:arM m k=if 0≤m.vers[k].ofv then m.vers[k].ofv else match m.regs[m.vers[k].rg.toNat]? with | some r=>r.own | none=>-1:=by
   unfold arM;rw [Int.toNat_natCast,List.getElem?_eq_getElem hk];rfl
 rcases ver_right h0 hk with ⟨h1,s,hs,h2,h3,_⟩ | ⟨h1,r,hr,h2,_⟩
 · have hsp:=plain_at h0 hs ⟨by omega,by omega⟩
   refine .inr ⟨h1,s,hs,by rw [e2,if_pos h1,h2],h3,by omega,?_,h2⟩
   rw [e1,if_pos h1,h2,Int.toNat_natCast,List.getElem?_eq_getElem hs]
   unfold rgM
   rw [Int.toNat_natCast,List.getElem?_eq_getElem hs]
   show _=if 0≤m.vers[s].ofv then _ else _
   rw [if_neg (by omega)]
 · refine .inl ⟨h1,r,hr,by rw [e1,if_neg (by omega),h2],h2,?_⟩
   rw [e2,if_neg (by omega),h2,Int.toNat_natCast,List.getElem?_eq_getElem hr]
theorem rg_lt {m:MdlD} (h0:riM m=(0,0,0)) {k:Nat} (hk:k<m.vers.length):∃ r,r<m.regs.length∧rgM m k=(r:Int):=by
 rcases ver_at h0 hk with ⟨_,r,hr,e,_⟩ | ⟨_,s,hs,_,_,hof,e,_⟩
 · exact ⟨r,hr,e⟩
 · rcases ver_at h0 hs with ⟨_,r,hr,e2,_⟩ | ⟨h,_⟩
   · exact ⟨r,hr,by rw [e,e2]⟩
   · omega
theorem ar_at {m:MdlD} (h0:riM m=(0,0,0)) {k:Nat} (hk:k<m.vers.length):arM m k=-1∨∃ s,∃ hs:s<m.vers.length,arM m k=(s:Int)∧m.vers[s].kd=1:=by
 rcases ver_at h0 hk with ⟨_,r,hr,_,_,e⟩ | ⟨_,s,hs,e,h,_⟩
 · rcases reg_right h0 hr with ⟨_,e2⟩ | ⟨_,s,hs,e2,h⟩
   · exact .inl (by rw [e,e2])
   · exact .inr ⟨s,hs,by rw [e,e2],h⟩
 · exact .inr ⟨s,hs,e,h⟩
theorem ups_neg (m:MdlD) {v:Int} (h:v<0):upsM m v=[]:=by unfold upsM upL;rw [if_pos h]
theorem ups_cons {m:MdlD} (h0:riM m=(0,0,0)) {k:Nat} (hk:k<m.vers.length):upsM m k=(k:Int) :: upsM m (arM m k):=by
 have hl:=len_par h0 hk
 have hd:=deep_right h0 hk
 have e:upL m 65 (arM m k)=upL m 66 (arM m k):=by
   rw [upL_eq,upL_eq]
   have:dpM m 66 (arM m k)=dpM m 65 (arM m k):=dpM_more m 65 (arM m k) 66 (by unfold deM at hd;omega) (by omega)
   rw [this]
 unfold upsM
 show (if (k:Int)<0 then [] else (k:Int) :: upL m 65 (arM m k))=_
 rw [if_neg (by omega),e]
theorem up_state {m:MdlD} (h0:riM m=(0,0,0)) {k:Nat} (hk:k<m.vers.length) {x:Int} (hx:x ∈ upsM m (arM m k)):∃ s,∃ hs:s<m.vers.length,x=(s:Int)∧m.vers[s].kd=1∧(s:Int) ∈ upsM m k∧deM m s<deM m k:=by
 have key:∀ (d k:Nat) (hk:k<m.vers.length),deM m k=d→x ∈ upsM m (arM m k)→∃ s,∃ hs:s<m.vers.length,x=(s:Int)∧m.vers[s].kd=1:=by
   intro d
   induction d with
   | zero =>
    intro k hk hd hx
    rcases ar_at h0 hk with e | ⟨s,hs,e,_⟩
    · rw [e,ups_neg m (by omega)] at hx;cases hx
    · have:=dp_succ h0 hk hs e;omega
   | succ d ih =>
    intro k hk hd hx
    rcases ar_at h0 hk with e | ⟨s,hs,e,hkd⟩
    · rw [e,ups_neg m (by omega)] at hx;cases hx
    · rw [e,ups_cons h0 hs,List.mem_cons] at hx
      rcases hx with rfl | hx
      · exact ⟨s,hs,rfl,hkd⟩
      · exact ih s hs (by have:=dp_succ h0 hk hs e;omega) hx
 obtain ⟨s,hs,e,hkd⟩:=key _ k hk rfl hx
 subst e
 have hin:(s:Int) ∈ upsM m k:=by rw [ups_cons h0 hk];exact List.mem_cons_of_mem _ hx
 refine ⟨s,hs,rfl,hkd,hin,?_⟩
 rcases ar_at h0 hk with e | ⟨t,ht,e,_⟩
 · rw [e,ups_neg m (by omega)] at hx;cases hx
 · rw [e] at hx
   have:=(ups_at h0 ht hx).2.1
   have:=dp_succ h0 hk ht e
   omega
theorem up_of {m:MdlD} (h0:riM m=(0,0,0)) {k s:Nat} (hk:k<m.vers.length) (h:(s:Int) ∈ upsM m k) (hd:deM m s<deM m k):(s:Int) ∈ upsM m (arM m k):=by
 rw [ups_cons h0 hk,List.mem_cons] at h
 rcases h with h | h
 · obtain rfl:s=k:=by omega
   omega
 · exact h
theorem up_one {m:MdlD} (h0:riM m=(0,0,0)) {k s t:Nat} (hk:k<m.vers.length) (h1:(s:Int) ∈ upsM m k) (h2:(t:Int) ∈ upsM m k) (hd:deM m s=deM m t):s=t:=by
 have a:=(ups_at h0 hk h1).2.2
 have b:=(ups_at h0 hk h2).2.2
 rw [hd,b] at a
 omega
theorem up_nat {m:MdlD} (h0:riM m=(0,0,0)) {k:Nat} (hk:k<m.vers.length) {x:Int} (hx:x ∈ upsM m k):∃ s,s<m.vers.length∧x=(s:Int):=by
 rw [ups_cons h0 hk,List.mem_cons] at hx
 rcases hx with rfl | hx
 · exact ⟨k,hk,rfl⟩
 · obtain ⟨s,hs,e,_⟩:=up_state h0 hk hx;exact ⟨s,hs,e⟩
theorem up_le {m:MdlD} (h0:riM m=(0,0,0)) {k s t:Nat} (hk:k<m.vers.length) (h1:(s:Int) ∈ upsM m k) (h2:(t:Int) ∈ upsM m k) (hd:deM m s≤deM m t):(s:Int) ∈ upsM m t:=by
 obtain ⟨hs,d1,u1⟩:=ups_at h0 hk h1
 obtain ⟨ht,d2,u2⟩:=ups_at h0 hk h2
 have hst:=(ups_steps h0 (v:=(k:Int)) (by omega) (len_self h0 hk).2).2
 have key:∀ j,upN m j t=upN m (j+(deM m k - deM m t)) k:=by
   intro j
   induction j with
   | zero=>rw [Nat.zero_add,u2];rfl
   | succ j ih=>rw [upN_succ,ih,show j+1+(deM m k - deM m t)=(j+(deM m k - deM m t))+1 by omega,upN_succ]
 rw [upsM_eq,List.mem_map]
 refine ⟨deM m t - deM m s,?_,by rw [key,show deM m t - deM m s+(deM m k - deM m t)=deM m k - deM m s by omega,u1]⟩
 rw [List.mem_range,(len_self h0 ht).1];omega
theorem up_trans {m:MdlD} (h0:riM m=(0,0,0)) {k s t:Nat} (hk:k<m.vers.length) (h1:(s:Int) ∈ upsM m k) (h2:(t:Int) ∈ upsM m s):(t:Int) ∈ upsM m k:=by
 obtain ⟨hs,d1,u1⟩:=ups_at h0 hk h1
 obtain ⟨ht,d2,u2⟩:=ups_at h0 hs h2
 have key:∀ j,upN m j s=upN m (j+(deM m k - deM m s)) k:=by
   intro j
   induction j with
   | zero=>rw [Nat.zero_add,u1];rfl
   | succ j ih=>rw [upN_succ,ih,show j+1+(deM m k - deM m s)=(j+(deM m k - deM m s))+1 by omega,upN_succ]
 rw [key] at u2
 rw [upsM_eq,List.mem_map]
 refine ⟨_,?_,u2⟩
 rw [List.mem_range,(len_self h0 hk).1];omega
theorem in_iff {m:MdlD} {v r:Int}:inM m v r=true↔hasV m v=true∧∃ p ∈ upsM m v,rgM m p=r:=by
 unfold inM
 rw [Bool.and_eq_true,List.find?_isSome]
 simp only [beq_iff_eq]
theorem under_iff {m:MdlD} {v s:Int}:underM m v s=true↔hasV m v=true∧hasV m s=true∧Md.stM m s=true∧s ∈ upsM m (arM m v):=by
 unfold underM
 simp only [Bool.and_eq_true,List.find?_isSome,beq_iff_eq,and_assoc]
 constructor
 · rintro ⟨h1,h2,h3,x,hx,rfl⟩;exact ⟨h1,h2,h3,hx⟩
 · rintro ⟨h1,h2,h3,hx⟩;exact ⟨h1,h2,h3,s,hx,rfl⟩
theorem under_at {m:MdlD} (h0:riM m=(0,0,0)) {k s:Nat} (hk:k<m.vers.length):underM m k s=true↔(s:Int) ∈ upsM m k∧deM m s<deM m k:=by
 rw [under_iff]
 constructor
 · rintro ⟨_,_,_,h⟩
   obtain ⟨t,ht,e,_,h1,h2⟩:=up_state h0 hk h
   obtain rfl:s=t:=by omega
   exact ⟨h1,h2⟩
 · rintro ⟨h1,h2⟩
   have h:=up_of h0 hk h1 h2
   obtain ⟨t,ht,e,hkd,_⟩:=up_state h0 hk h
   obtain rfl:s=t:=by omega
   exact ⟨hasV_at hk,hasV_at ht,by rw [stM_at ht,hkd];rfl,h⟩
theorem in_has {m:MdlD} (h0:riM m=(0,0,0)) {v r:Int} (h:inM m v r=true):hasR m r=true:=by
 obtain ⟨hv,p,hp,e⟩:=in_iff.1 h
 obtain ⟨k,rfl,hk⟩:=hasV_nat hv
 obtain ⟨s,hs,rfl⟩:=up_nat h0 hk hp
 obtain ⟨q,hq,e2⟩:=rg_lt h0 hs
 rw [← e,e2];exact hasR_at hq
theorem in_plain {m:MdlD} (h0:riM m=(0,0,0)) {k r:Nat} (hk:k<m.vers.length) (hr:r<m.regs.length):inM m k r=true↔∃ t,∃ ht:t<m.vers.length,(t:Int) ∈ upsM m k∧m.vers[t].ofv<0∧rgM m t=(r:Int)∧arM m t=m.regs[r].own:=by
 rw [in_iff]
 constructor
 · rintro ⟨_,p,hp,e⟩
   obtain ⟨s,hs,rfl⟩:=up_nat h0 hk hp
   rcases ver_at h0 hs with ⟨h1,q,hq,e2,_,e3⟩ | ⟨h1,t,ht,e2,h3,h4,e5,_⟩
   · obtain rfl:r=q:=by rw [e] at e2;omega
     exact ⟨s,hs,hp,h1,e,e3⟩
   · have hin:=ups_trans h0 hk hp e2 ht
     rcases ver_at h0 ht with ⟨_,q,hq,e6,_,e7⟩ | ⟨h,_⟩
     · obtain rfl:r=q:=by rw [e,e6] at e5;omega
       exact ⟨t,ht,hin,h4,e6,e7⟩
     · omega
 · rintro ⟨t,ht,h1,_,h3,_⟩
   exact ⟨hasV_at hk,t,h1,h3⟩
theorem in_under {m:MdlD} (h0:riM m=(0,0,0)) {k r s:Nat} (hk:k<m.vers.length) (hr:r<m.regs.length) (hs:m.regs[r].own=(s:Int)) (h:inM m k r=true):underM m k s=true:=by
 obtain ⟨t,ht,h1,h2,h3,h4⟩:=(in_plain h0 hk hr).1 h
 rw [hs] at h4
 rcases ar_at h0 ht with e | ⟨q,hq,e,hkd⟩
 · omega
 · obtain rfl:s=q:=by omega
   have hin:=ups_trans h0 hk h1 h4 hq
   have:=dp_succ h0 ht hq h4
   have:=(ups_at h0 hk h1).2.1
   exact (under_at h0 hk).2 ⟨hin,by omega⟩

def insC (m:MdlD) (s:Int):List Int→List Int
 | []=>[s]
 | o :: t=>if underM m s o then o :: insC m s t else s :: o :: t
def chainF (m:MdlD) (v:Int) (k:Nat):List Int:=(List.range k).foldl (fun out (s:Nat)=>if underM m v (s:Int) then insC m (s:Int) out else out) []
def chainR (m:MdlD) (v:Int):List Int:=chainF m v m.vers.length
theorem chainF_zero (m:MdlD) (v:Int):chainF m v 0=[]:=rfl
theorem chainF_succ (m:MdlD) (v:Int) (k:Nat):chainF m v (k+1)=if underM m v (k:Int) then insC m (k:Int) (chainF m v k) else chainF m v k:=by
 unfold chainF;rw [List.range_succ,List.foldl_append];rfl
theorem insC_at (m:MdlD) (s:Int):∀ (l:List Int) (k:Nat),k≤l.length→(∀ j (h:j<l.length),j<k→underM m s l[j]=true)→insC m s l=l.take k ++ insC m s (l.drop k)
 | l,0,_,_=>by simp
 | [],k+1,h,_=>by simp at h
 | o :: t,k+1,h,hu=>by
   have h1:=hu 0 (by simp) (by omega)
   rw [List.getElem_cons_zero] at h1
   rw [show insC m s (o :: t)=o :: insC m s t by rw [insC,if_pos h1],List.take_succ_cons,List.drop_succ_cons,List.cons_append,← insC_at m s t k (by simpa using h) fun j hj hjk=>hu (j+1) (by simpa using hj) (by omega)]
theorem insC_end {m:MdlD} {s:Int} {l:List Int} {k:Nat} (hk:k≤l.length) (hu:∀ j (h:j<l.length),j<k→underM m s l[j]=true) (hn:∀ (h:k<l.length),underM m s l[k]=false):insC m s l=l.take k ++ s :: l.drop k:=by
 rw [insC_at m s l k hk hu]
 by_cases h:k<l.length
 · rw [List.drop_eq_getElem_cons h,insC,if_neg (by rw [hn h];decide)]
 · rw [List.drop_eq_nil_of_le (by omega)];rfl
theorem sorted_ext (f:Int→Nat):∀ (l l':List Int),l.Pairwise (fun a b=>f a<f b)→l'.Pairwise (fun a b=>f a<f b)→(∀ x,x ∈ l↔x ∈ l')→l=l'
 | [],l',_,_,h=>by
   cases l' with
   | nil=>rfl
   | cons b t=>have:=(h b).2 List.mem_cons_self;cases this
 | a :: t,[],_,_,h=>by have:=(h a).1 List.mem_cons_self;cases this
 | a :: t,b :: t',h1,h2,h=>by
   rw [List.pairwise_cons] at h1 h2
   have hab:a=b:=by
     have ha:=(h a).1 List.mem_cons_self
     have hb:=(h b).2 List.mem_cons_self
     rw [List.mem_cons] at ha hb
     rcases ha with ha | ha
     · exact ha
     · rcases hb with hb | hb
       · exact hb.symm
       · have:=h2.1 a ha;have:=h1.1 b hb;omega
   subst hab
   rw [sorted_ext f t t' h1.2 h2.2 fun x=>?_]
   constructor
   · intro hx
     have:=(h x).1 (List.mem_cons_of_mem _ hx)
     rw [List.mem_cons] at this
     rcases this with rfl | this
     · have:=h1.1 x hx;omega
     · exact this
   · intro hx
     have:=(h x).2 (List.mem_cons_of_mem _ hx)
     rw [List.mem_cons] at this
     rcases this with rfl | this
     · have:=h2.1 x hx;omega
     · exact this
def deN (m:MdlD) (v:Int):Nat:=deM m v
theorem insC_sorted {m:MdlD} (h0:riM m=(0,0,0)) {k:Nat} (hk:k<m.vers.length) {s:Nat} (hs:(s:Int) ∈ upsM m k):∀ (l:List Int),(∀ x ∈ l,x ∈ upsM m k∧x≠s)→l.Pairwise (fun a b=>deN m a<deN m b) →
   (insC m s l).Pairwise (fun a b=>deN m a<deN m b)∧∀ x,x ∈ insC m s l↔x=s∨x ∈ l
 | [],_,_=>by simp [insC]
 | o :: t,hm,hp=>by
   obtain ⟨ho,hne⟩:=hm o List.mem_cons_self
   obtain ⟨i,hi,rfl⟩:=up_nat h0 hk ho
   have hsl:=(ups_at h0 hk hs).1
   rw [List.pairwise_cons] at hp
   cases hu:underM m s i with
   | true =>
    have hd:=((under_at h0 hsl).1 hu).2
    obtain ⟨ih1,ih2⟩:=insC_sorted h0 hk hs t (fun x hx=>hm x (List.mem_cons_of_mem _ hx)) hp.2
    rw [insC,if_pos hu]
    refine ⟨List.pairwise_cons.2 ⟨fun x hx=>?_,ih1⟩,fun x=>?_⟩
    · rcases (ih2 x).1 hx with rfl | hx
      · exact hd
      · exact hp.1 x hx
    · rw [List.mem_cons,ih2,List.mem_cons]
      constructor
      · rintro (h | h | h);exact .inr (.inl h);exact .inl h;exact .inr (.inr h)
      · rintro (h | h | h);exact .inr (.inl h);exact .inl h;exact .inr (.inr h)
   | false =>
    have hd:deM m s<deM m i:=by
      rcases Nat.lt_trichotomy (deM m s) (deM m i) with h | h | h
      · exact h
      · exact absurd (by rw [up_one h0 hk hs ho h]) hne
      · rw [(under_at h0 hsl).2 ⟨up_le h0 hk ho hs (by omega),h⟩] at hu;cases hu
    rw [insC,if_neg (by rw [hu];decide)]
    refine ⟨List.pairwise_cons.2 ⟨fun x hx=>?_,List.pairwise_cons.2 hp⟩,fun x=>by rw [List.mem_cons]⟩
    rw [List.mem_cons] at hx
    rcases hx with rfl | hx
    · exact hd
    · have:=hp.1 x hx;exact Nat.lt_trans hd this
theorem chainF_is {m:MdlD} (h0:riM m=(0,0,0)) {v:Nat} (hv:v<m.vers.length):∀ k,k≤m.vers.length→(chainF m v k).Pairwise (fun a b=>deN m a<deN m b)∧∀ x,x ∈ chainF m v k↔∃ s:Nat,x=s∧s<k∧underM m v s=true
 | 0,_=>by rw [chainF_zero];exact ⟨List.Pairwise.nil,fun x=>⟨fun h=>(by cases h),fun ⟨s,_,h,_⟩=>absurd h (by omega)⟩⟩
 | k+1,hk=>by
   obtain ⟨ih1,ih2⟩:=chainF_is h0 hv k (by omega)
   rw [chainF_succ]
   cases hu:underM m v k with
   | false =>
    rw [if_neg (by decide)]
    refine ⟨ih1,fun x=>(ih2 x).trans ⟨fun ⟨s,e,h1,h2⟩=>⟨s,e,by omega,h2⟩,fun ⟨s,e,h1,h2⟩=>⟨s,e,?_,h2⟩⟩⟩
    by_cases hsk:s=k
    · subst hsk;rw [hu] at h2;cases h2
    · omega
   | true =>
    rw [if_pos rfl]
    have hin:=((under_at h0 hv).1 hu).1
    obtain ⟨h1,h2⟩:=insC_sorted h0 hv hin (chainF m v k) (fun x hx=>by
      obtain ⟨s,rfl,hs,hus⟩:=(ih2 x).1 hx
      exact ⟨((under_at h0 hv).1 hus).1,by omega⟩) ih1
    refine ⟨h1,fun x=>(h2 x).trans ?_⟩
    rw [ih2]
    constructor
    · rintro (rfl | ⟨s,e,hs,hus⟩)
      · exact ⟨k,rfl,by omega,hu⟩
      · exact ⟨s,e,by omega,hus⟩
    · rintro ⟨s,e,hs,hus⟩
      by_cases hsk:s=k
      · subst hsk;exact .inl e
      · exact .inr ⟨s,e,by omega,hus⟩
theorem ups_sorted {m:MdlD} (h0:riM m=(0,0,0)):∀ (d k:Nat) (hk:k<m.vers.length),deM m k=d→(upsM m k).Pairwise (fun a b=>deN m b<deN m a)
 | d,k,hk,hd=>by
   rw [ups_cons h0 hk,List.pairwise_cons]
   refine ⟨fun x hx=>?_,?_⟩
   · obtain ⟨s,_,rfl,_,_,h⟩:=up_state h0 hk hx;exact h
   · rcases ar_at h0 hk with e | ⟨s,hs,e,_⟩
     · rw [e,ups_neg m (by omega)];exact List.Pairwise.nil
     · rw [e]
       have:=dp_succ h0 hk hs e
       match d,hd with
       | 0,hd=>omega
       | d+1,hd=>exact ups_sorted h0 d s hs (by omega)
theorem chain_eq {m:MdlD} (h0:riM m=(0,0,0)) (v:Int):chainR m v=chainM m v:=by
 cases hv:hasV m v with
 | false =>
  unfold chainM
  rw [hv,if_neg (by decide)]
  have hno:∀ s,underM m v s=false:=fun s=>by unfold underM;rw [hv];rfl
  have:∀ k,chainF m v k=[]:=by
    intro k
    induction k with
    | zero=>rfl
    | succ k ih=>rw [chainF_succ,hno,if_neg (by decide),ih]
  exact this _
 | true =>
  obtain ⟨k,rfl,hk⟩:=hasV_nat hv
  obtain ⟨h1,h2⟩:=chainF_is h0 hk m.vers.length (Nat.le_refl _)
  have hs:(upsM m (arM m k)).Pairwise (fun a b=>deN m b<deN m a):=by
    have:=ups_sorted h0 _ k hk rfl
    rw [ups_cons h0 hk,List.pairwise_cons] at this
    exact this.2
  unfold chainM chainR
  rw [hv,if_pos rfl]
  refine sorted_ext (deN m) _ _ h1 ?_ fun x=>?_
  · rw [List.pairwise_reverse];exact hs
  · rw [h2,List.mem_reverse]
    constructor
    · rintro ⟨s,rfl,hs,hu⟩
      have:=(under_at h0 hk).1 hu
      exact up_of h0 hk this.1 this.2
    · intro hx
      obtain ⟨s,hs,rfl,_,h3,h4⟩:=up_state h0 hk hx
      exact ⟨s,rfl,hs,(under_at h0 hk).2 ⟨h3,h4⟩⟩
theorem depth_eq {m:MdlD} (h0:riM m=(0,0,0)) (v:Int):depM' m v=if hasV m v then ((chainM m v).length:Int) else -1:=by
 unfold depM'
 cases hv:hasV m v with
 | false=>rfl
 | true =>
  obtain ⟨k,rfl,hk⟩:=hasV_nat hv
  rw [if_pos rfl,if_pos rfl,chainM_len h0 hk]

def comStep (m:MdlD) (l:List Int) (st:Int × Int) (r:Nat):Int × Int:=if l.all (fun v=>inM m v (r:Int)) && decide (st.2<depM' m (ownA m r)) then ((r:Int),depM' m (ownA m r)) else st
def comF (m:MdlD) (l:List Int) (k:Nat):Int × Int:=(List.range k).foldl (comStep m l) (-1,-2)
def comR (m:MdlD) (l:List Int):Int:=(comF m l m.regs.length).1
theorem comF_succ (m:MdlD) (l:List Int) (k:Nat):comF m l (k+1)=comStep m l (comF m l k) k:=by
 unfold comF;rw [List.range_succ,List.foldl_append];rfl
theorem comF_is (m:MdlD) (l:List Int):∀ k,(comF m l k=(-1,-2)∧∀ r:Nat,r<k→l.all (fun v=>inM m v (r:Int))=false) ∨
   ∃ b:Nat,b<k∧comF m l k=((b:Int),depM' m (ownA m b))∧l.all (fun v=>inM m v (b:Int))=true∧∀ r:Nat,r<k→l.all (fun v=>inM m v (r:Int))=true→depM' m (ownA m r)≤depM' m (ownA m b)
 | 0=>.inl ⟨rfl,fun r h=>by omega⟩
 | k+1=>by
   have hlo:∀ v,-2<depM' m v:=fun v=>by unfold depM';split <;> omega
   rw [comF_succ]
   rcases comF_is m l k with ⟨e,hn⟩ | ⟨b,hb,e,ha,hmax⟩
   · rw [e]
     unfold comStep
     cases hc:l.all (fun v=>inM m v (k:Int)) with
     | false =>
      left
      refine ⟨rfl,fun r hr=>?_⟩
      by_cases h:r=k
      · subst h;exact hc
      · exact hn r (by omega)
     | true =>
      right
      refine ⟨k,by omega,by rw [if_pos (by simp [hlo])],hc,fun r hr hra=>?_⟩
      by_cases h:r=k
      · subst h;exact Int.le_refl _
      · rw [hn r (by omega)] at hra;cases hra
   · rw [e]
     unfold comStep
     right
     cases hc:l.all (fun v=>inM m v (k:Int)) with
     | false =>
      refine ⟨b,by omega,rfl,ha,fun r hr hra=>?_⟩
      by_cases h:r=k
      · subst h;rw [hc] at hra;cases hra
      · exact hmax r (by omega) hra
     | true =>
      by_cases hd:depM' m (ownA m b)<depM' m (ownA m k)
      · refine ⟨k,by omega,by rw [if_pos (by simp [hd])],hc,fun r hr hra=>?_⟩
        by_cases h:r=k
        · subst h;exact Int.le_refl _
        · have:=hmax r (by omega) hra;omega
      · refine ⟨b,by omega,by rw [if_neg (by simp [hd])],ha,fun r hr hra=>?_⟩
        by_cases h:r=k
        · subst h;omega
        · exact hmax r (by omega) hra
theorem dep_own {m:MdlD} (h0:riM m=(0,0,0)) {t:Nat} (ht:t<m.vers.length) (h:m.vers[t].ofv<0):depM' m (ownA m (rgM m t))=(deM m t:Int) - 1:=by
 rcases ver_at h0 ht with ⟨_,r,hr,e,_,e2⟩ | ⟨h1,_⟩
 · rw [e,ownA_at hr,← e2]
   rcases ar_at h0 ht with e3 | ⟨s,hs,e3,_⟩
   · have hz:deM m t=0:=by
       have:=(len_par h0 ht).1
       rw [← this,e3];rfl
     rw [e3,hz];rfl
   · rw [e3]
     unfold depM'
     rw [hasV_at hs,if_pos rfl,dp_succ h0 ht hs e3];omega
 · omega
theorem common_eq {m:MdlD} (h0:riM m=(0,0,0)) (a:Int) (all l:List Int) (hl:∀ x,x ∈ l↔x=a∨x ∈ all):commonM m a all=comR m l:=by
 have hal:∀ r,l.all (fun v=>inM m v r)=true↔inM m a r=true∧all.all (fun v=>inM m v r)=true:=fun r=>by
   rw [List.all_eq_true,List.all_eq_true]
   constructor
   · intro h;exact ⟨h a ((hl a).2 (.inl rfl)),fun x hx=>h x ((hl x).2 (.inr hx))⟩
   · rintro ⟨h1,h2⟩ x hx
     rcases (hl x).1 hx with rfl | hx
     · exact h1
     · exact h2 x hx
 unfold comR
 cases hv:hasV m a with
 | false =>
  have hno:∀ r,inM m a r=false:=fun r=>by unfold inM;rw [hv];rfl
  rcases comF_is m l m.regs.length with ⟨e,_⟩ | ⟨b,_,_,ha,_⟩
  · rw [e];unfold commonM;rw [hv];rfl
  · have:=((hal _).1 ha).1;rw [hno] at this;cases this
 | true =>
  obtain ⟨k,rfl,hk⟩:=hasV_nat hv
  unfold commonM
  rw [hv,if_pos rfl]
  cases hf:(upsM m k).find? (fun p=>all.all fun v=>inM m v (rgM m p)) with
  | none =>
   rw [List.find?_eq_none] at hf
   rcases comF_is m l m.regs.length with ⟨e,_⟩ | ⟨b,_,_,ha,_⟩
   · rw [e]
   · obtain ⟨h1,h2⟩:=(hal _).1 ha
     obtain ⟨_,p,hp,e⟩:=in_iff.1 h1
     have:=hf p hp
     rw [e] at this
     exact absurd h2 this
  | some p =>
   obtain ⟨hp,i,hi,ei,hno⟩:=List.find?_eq_some_iff_getElem.1 hf
   have hmem:p ∈ upsM m k:=by rw [← ei];exact List.getElem_mem hi
   obtain ⟨s,hs,rfl⟩:=up_nat h0 hk hmem
   obtain ⟨q,hq,eq⟩:=rg_lt h0 hs
   have hina:inM m k q=true:=in_iff.2 ⟨hv,s,hmem,eq⟩
   show rgM m s=_
   rw [eq] at hp ⊢
   have hallq:=(hal (q:Int)).2 ⟨hina,hp⟩
   rcases comF_is m l m.regs.length with ⟨e,hn⟩ | ⟨b,hb,e,ha,hmax⟩
   · rw [hn q hq] at hallq;cases hallq
   · rw [e]
     have hm:=hmax q hq hallq
     obtain ⟨hb1,hb2⟩:=(hal (b:Int)).1 ha
     -- both at vertices that are no points
     obtain ⟨t,ht,t1,t2,t3,t4⟩:=(in_plain h0 hk hb).1 hb1
     obtain ⟨u,hu,u1,u2,u3,u4⟩:=(in_plain h0 hk hq).1 hina
     have d1:=dep_own h0 ht t2
     have d2:=dep_own h0 hu u2
     rw [t3] at d1
     rw [u3] at d2
     rw [d1,d2] at hm
     -- the deeper one comes first
     have hle:deM m t≤deM m u:=by
       refine Nat.le_of_not_lt fun hlt=>?_
       have hls:=(ups_at h0 hk hmem).2.1
       have hlt':=(ups_at h0 hk t1).2.1
       have hut:=(ups_at h0 hk t1).2.2
       have hus:=(ups_at h0 hk hmem).2.2
       -- t stands behind s,or is it,on the way up
       have hts:deM m t≤deM m s:=by
         refine Nat.le_of_not_lt fun h=>?_
         have hjl:deM m k - deM m t<(upsM m k).length:=by rw [upsM_len,(len_self h0 hk).1];omega
         have hil:=hi
         rw [upsM_len] at hil
         have e3:(upsM m k)[i]=upN m i k:=upsM_at m k hil
         have hii:i=deM m k - deM m s:=by
           have hin:(upsM m k)[i] ∈ upsM m k:=List.getElem_mem hi
           have h5:=(ups_steps h0 (v:=(k:Int)) (by omega) (len_self h0 hk).2).2 i hil
           have key:∀ j,j<lenM m k→∃ t:Nat,upN m j k=t∧t<m.vers.length∧deM m t+j=deM m k:=by
             intro j
             induction j with
             | zero=>intro _;exact ⟨k,rfl,hk,rfl⟩
             | succ j ih =>
              intro hj
              obtain ⟨x,h1,h2,h3⟩:=ih (by omega)
              obtain ⟨y,e1,e2,_⟩:=(ups_steps h0 (v:=(k:Int)) (by omega) (len_self h0 hk).2).2 (j+1) hj
              refine ⟨y,e1,e2,?_⟩
              rw [upN_succ,h1] at e1
              have:=dp_succ h0 h2 e2 e1
              omega
           obtain ⟨y,e1,e2,e4⟩:=key i hil
           rw [← e3,ei] at e1
           obtain rfl:s=y:=by omega
           omega
         have h4:=hno (deM m k - deM m t) (by omega)
         rw [upsM_at m k (by rw [(len_self h0 hk).1];omega),hut,t3] at h4
         rw [hb2] at h4
         cases h4
       rcases ver_at h0 hs with ⟨h1,r,hr,e5,_⟩ | ⟨h1,w,hw,e5,e6,e7,e8,_⟩
       · -- s is no point: it is u
         have:deM m s=deM m u:=by
           have:=dep_own h0 hs h1
           rw [eq] at this
           omega
         omega
       · have hww:deM m w=deM m u:=by
           have:=dep_own h0 hw e7
           rw [← e8,eq] at this
           omega
         have:=dp_succ h0 hs hw e5
         have hst:deM m t=deM m s:=by omega
         have:=up_one h0 hk t1 hmem hst
         subst this
         omega
     have htu:t=u:=up_one h0 hk t1 u1 (by omega)
     subst htu
     rw [t3] at u3
     exact u3.symm

def orthR (m:MdlD) (a b:Int):Bool:=(List.range m.regs.length).any fun r=>(List.range m.regs.length).any fun q =>
 decide (r≠q) && decide (0≤ownA m r) && (ownA m r == ownA m q) && inM m a r && inM m b q && underM m a (ownA m r) && underM m b (ownA m r)
theorem below_at {m:MdlD} (h0:riM m=(0,0,0)) {k s r:Nat} (hk:k<m.vers.length) (hr:r<m.regs.length) (ho:m.regs[r].own=(s:Int)) (h:inM m k r=true):belowM m k s=r:=by
 obtain ⟨t,ht,h1,h2,h3,h4⟩:=(in_plain h0 hk hr).1 h
 have hpt:∀ {x:Nat} (hx:x<m.vers.length),ptM m (x:Int)=decide (0≤m.vers[x].ofv):=fun hx=>by unfold ptM;rw [Int.toNat_natCast,List.getElem?_eq_getElem hx]
 unfold belowM
 cases hf:(upsM m k).find? (fun p=>arM m p == (s:Int) && !ptM m p) with
 | none =>
  rw [List.find?_eq_none] at hf
  exact absurd (by rw [h4,ho,hpt ht];simp;omega) (hf t h1)
 | some p =>
  have hp:=List.find?_some hf
  have hm:=List.mem_of_find?_eq_some hf
  obtain ⟨u,hu,rfl⟩:=up_nat h0 hk hm
  rw [hpt hu] at hp
  simp only [Bool.and_eq_true,beq_iff_eq,Bool.not_eq_true',decide_eq_false_iff_not] at hp
  obtain ⟨hp1,hp2⟩:=hp
  have hsl:s<m.vers.length:=by
    rcases ar_at h0 ht with e | ⟨q,hq,e,_⟩ <;> omega
  have d1:=dp_succ h0 hu hsl hp1
  have d2:=dp_succ h0 ht hsl (by rw [h4,ho])
  have:=up_one h0 hk h1 hm (by omega)
  subst this
  exact h3
theorem below_in {m:MdlD} (h0:riM m=(0,0,0)) {k s:Nat} (hk:k<m.vers.length) (h:0≤belowM m k s):∃ r,∃ hr:r<m.regs.length,belowM m k s=(r:Int)∧m.regs[r].own=(s:Int)∧inM m k r=true:=by
 have hpt:∀ {x:Nat} (hx:x<m.vers.length),ptM m (x:Int)=decide (0≤m.vers[x].ofv):=fun hx=>by unfold ptM;rw [Int.toNat_natCast,List.getElem?_eq_getElem hx]
 unfold belowM at h ⊢
 cases hf:(upsM m k).find? (fun p=>arM m p == (s:Int) && !ptM m p) with
 | none=>rw [hf] at h;exact absurd (show (0:Int)≤-1 from h) (by decide)
 | some p =>
  have hp:=List.find?_some hf
  have hm:=List.mem_of_find?_eq_some hf
  obtain ⟨u,hu,rfl⟩:=up_nat h0 hk hm
  rw [hpt hu] at hp
  simp only [Bool.and_eq_true,beq_iff_eq,Bool.not_eq_true',decide_eq_false_iff_not] at hp
  rcases ver_at h0 hu with ⟨_,r,hr,e,_,e2⟩ | ⟨h1,_⟩
  · exact ⟨r,hr,e,by rw [← e2,hp.1],in_iff.2 ⟨hasV_at hk,u,hm,e⟩⟩
  · exact absurd h1 hp.2
theorem orth_eq {m:MdlD} (h0:riM m=(0,0,0)) (a b:Int):orthM m a b=orthR m a b:=by
 have hR:orthR m a b=true↔∃ r q:Nat,r<m.regs.length∧q<m.regs.length∧r≠q∧0≤ownA m r∧ownA m r=ownA m q∧inM m a r=true∧inM m b q=true∧underM m a (ownA m r)=true∧underM m b (ownA m r)=true:=by
   unfold orthR
   simp only [List.any_eq_true,List.mem_range,Bool.and_eq_true,decide_eq_true_eq,beq_iff_eq]
   constructor
   · rintro ⟨r,hr,q,hq,⟨⟨⟨⟨⟨⟨h1,h2⟩,h3⟩,h4⟩,h5⟩,h6⟩,h7⟩⟩;exact ⟨r,q,hr,hq,h1,h2,h3,h4,h5,h6,h7⟩
   · rintro ⟨r,q,hr,hq,h1,h2,h3,h4,h5,h6,h7⟩;exact ⟨r,hr,q,hq,⟨⟨⟨⟨⟨⟨h1,h2⟩,h3⟩,h4⟩,h5⟩,h6⟩,h7⟩⟩
 cases hva:hasV m a with
 | false =>
  have h1:orthM m a b=false:=by unfold orthM;rw [hva];rfl
  rw [h1]
  cases hc:orthR m a b with
  | false=>rfl
  | true =>
   obtain ⟨r,q,_,_,_,_,_,h,_⟩:=hR.1 hc
   have:=(in_iff.1 h).1
   rw [hva] at this;cases this
 | true =>
  cases hvb:hasV m b with
  | false =>
   have h1:orthM m a b=false:=by unfold orthM;rw [hva,hvb];rfl
   rw [h1]
   cases hc:orthR m a b with
   | false=>rfl
   | true =>
    obtain ⟨r,q,_,_,_,_,_,_,h,_⟩:=hR.1 hc
    have:=(in_iff.1 h).1
    rw [hvb] at this;cases this
  | true =>
   obtain ⟨x,rfl,hx⟩:=hasV_nat hva
   obtain ⟨y,rfl,hy⟩:=hasV_nat hvb
   have hE:orthM m x y=(match (upsM m (arM m x)).find? (fun p=>decide (0≤belowM m x p) && decide (0≤belowM m y p)) with | some p=>belowM m x p != belowM m y p | none=>false):=by
     unfold orthM;rw [hva,hvb];rfl
   rw [Bool.eq_iff_iff,hR,hE]
   constructor
   · intro h
     cases hf:(upsM m (arM m x)).find? (fun p=>decide (0≤belowM m x p) && decide (0≤belowM m y p)) with
     | none=>rw [hf] at h;cases h
     | some p =>
      rw [hf] at h
      have hp:=List.find?_some hf
      have hm:=List.mem_of_find?_eq_some hf
      obtain ⟨s,hs,rfl,_⟩:=up_state h0 hx hm
      simp only [Bool.and_eq_true,decide_eq_true_eq] at hp
      obtain ⟨r,hr,e1,o1,i1⟩:=below_in h0 hx hp.1
      obtain ⟨q,hq,e2,o2,i2⟩:=below_in h0 hy hp.2
      have hne:belowM m x s≠belowM m y s:=by simpa using h
      refine ⟨r,q,hr,hq,fun e=>hne (by rw [e1,e2,e]),by rw [ownA_at hr,o1];omega,by rw [ownA_at hr,ownA_at hq,o1,o2],i1,i2,?_,?_⟩
      · rw [ownA_at hr,o1];exact in_under h0 hx hr o1 i1
      · rw [ownA_at hr,o1];exact in_under h0 hy hq o2 i2
   · rintro ⟨r,q,hr,hq,hne,hp,he,i1,i2,u1,u2⟩
     rw [ownA_at hr] at hp he u1 u2
     rw [ownA_at hq] at he
     obtain ⟨s,hs⟩:=Int.eq_ofNat_of_zero_le hp
     have b1:=below_at h0 hx hr hs i1
     have b2:=below_at h0 hy hq (by rw [← he,hs]) i2
     rw [hs] at u1 u2
     have hin:=(under_at h0 hx).1 u1
     have hup:=up_of h0 hx hin.1 hin.2
     cases hf:(upsM m (arM m x)).find? (fun p=>decide (0≤belowM m x p) && decide (0≤belowM m y p)) with
     | none =>
      rw [List.find?_eq_none] at hf
      exact absurd (by rw [b1,b2];simp) (hf s hup)
     | some p =>
      have hpp:=List.find?_some hf
      have hm:=List.mem_of_find?_eq_some hf
      obtain ⟨t,ht,rfl,hkt,ht1,ht2⟩:=up_state h0 hx hm
      simp only [Bool.and_eq_true,decide_eq_true_eq] at hpp
      show (belowM m x t != belowM m y t)=true
      by_cases hts:t=s
      · subst hts
        rw [b1,b2];simp;omega
      · exfalso
        -- t comes first,so it is the deeper one
        have hdt:deM m s<deM m t:=by
          obtain ⟨_,i,hi,ei,hno⟩:=List.find?_eq_some_iff_getElem.1 hf
          refine Nat.lt_of_not_le fun hle=>?_
          have hlt:deM m t<deM m s:=by
            rcases Nat.lt_or_ge (deM m t) (deM m s) with h | h
            · exact h
            · exact absurd (up_one h0 hx ht1 hin.1 (by omega)) hts
          -- s stands ahead
          have hsrt:(upsM m (arM m x)).Pairwise (fun a b=>deN m b<deN m a):=by
            have:=ups_sorted h0 _ x hx rfl
            rw [ups_cons h0 hx,List.pairwise_cons] at this
            exact this.2
          obtain ⟨j,hj,ej⟩:=List.getElem_of_mem hup
          rw [List.pairwise_iff_getElem] at hsrt
          have hji:j<i:=by
            rcases Nat.lt_trichotomy j i with h | h | h
            · exact h
            · subst h;rw [ei] at ej;exact absurd (by omega) hts
            · have:=hsrt i j hi hj h
              rw [ei,ej] at this
              have h2:deM m s<deM m t:=this
              omega
          have:=hno j hji
          rw [ej,b1,b2] at this
          simp at this
        obtain ⟨w,hw,w1,w2,w3,w4⟩:=(in_plain h0 hx hr).1 i1
        obtain ⟨z,hz,z1,z2,z3,z4⟩:=(in_plain h0 hy hq).1 i2
        have hsl:s<m.vers.length:=(ups_at h0 hx hin.1).1
        have dw:=dp_succ h0 hw hsl (by rw [w4,hs])
        have dz:=dp_succ h0 hz hsl (by rw [z4,← he,hs])
        obtain ⟨r',hr',_,o',i'⟩:=below_in h0 hy hpp.2
        have hty:=(under_at h0 hy).1 (in_under h0 hy hr' o' i')
        have hwt:(w:Int) ∈ upsM m t:=up_le h0 hx w1 ht1 (by omega)
        have hwy:=up_trans h0 hy hty.1 hwt
        have hwz:=up_one h0 hy hwy z1 (by omega)
        subst hwz
        rw [w3] at z3
        exact hne (by omega)
theorem kidsR_eq {m:MdlD} (h0:riM m=(0,0,0)) (r:Int):kidsR m r=kidsM m r:=by
 unfold kidsR
 cases hr:hasR m r with
 | true=>rfl
 | false =>
  rw [if_neg (by decide)]
  refine (List.eq_nil_iff_forall_not_mem.2 fun v hv=>?_).symm
  obtain ⟨k,hk,rfl,hp⟩:=(sel_mem _ _ _).1 hv
  unfold isKid at hp
  simp only [Bool.and_eq_true,decide_eq_true_eq,beq_iff_eq] at hp
  rcases ver_at h0 hk with ⟨_,q,hq,_,e,_⟩ | ⟨h,_⟩
  · rw [← hp.2,e,hasR_at hq] at hr;cases hr
  · omega
theorem outR_eq {m:MdlD} (h0:riM m=(0,0,0)) (v:Int):outR m v=outM m v:=by
 unfold outR
 cases hv:hasV m v with
 | true=>rfl
 | false =>
  rw [if_neg (by decide)]
  refine (List.eq_nil_iff_forall_not_mem.2 fun t ht=>?_).symm
  obtain ⟨k,hk,rfl,hp⟩:=(sel_mem _ _ _).1 ht
  unfold isOut at hp
  rw [beq_iff_eq] at hp
  obtain ⟨⟨s,hs,e⟩,_⟩:=trn_right h0 hk
  rw [← hp,e,hasV_at hs] at hv;cases hv
theorem intoR_eq {m:MdlD} (h0:riM m=(0,0,0)) (v:Int):intoR m v=intoM m v:=by
 unfold intoR
 cases hv:hasV m v with
 | true=>rfl
 | false =>
  rw [if_neg (by decide)]
  refine (List.eq_nil_iff_forall_not_mem.2 fun t ht=>?_).symm
  obtain ⟨k,hk,rfl,hp⟩:=(sel_mem _ _ _).1 ht
  unfold isInto at hp
  rw [beq_iff_eq] at hp
  obtain ⟨_,s,hs,e⟩:=trn_right h0 hk
  rw [← hp,e,hasV_at hs] at hv;cases hv
end Go.Md
