/- What the document says lies in what: plain. -/
import Derived.Test.YtiimoclbmaggjaaGreatDoorZHiP
namespace Go.Md
open Go.RowKit Go.Lx Go.Proofs
set_option linter.unusedVariables false

def ownA (m:MdlD) (r:Int):Int:=match m.zb[r.toNat]? with | some x=>x.own | none=>-1
theorem yq {m:MdlD} {r:Nat} (h:r<m.zb.length):ownA m (r:Int)=m.zb[r].own:=by
 unfold ownA;rw [Int.toNat_natCast,List.getElem?_eq_getElem h]
theorem zE {m:MdlD} {k:Nat} (h:k<m.zc.length):hasV m (k:Int)=true:=by simp [hasV];omega
theorem zeD {m:MdlD} {k:Nat} (h:k<m.zb.length):hasR m (k:Int)=true:=by simp [hasR];omega
theorem zN {m:MdlD} {v:Int} (h:hasV m v=true):∃ k:Nat,v=k/\k<m.zc.length:=by
 unfold hasV at h;simp only [Bool.and_eq_true,decide_eq_true_eq] at h;exact ⟨v.toNat,by omega,by omega⟩
theorem stM_at {m:MdlD} {k:Nat} (h:k<m.zc.length):Md.stM m (k:Int)=(m.zc[k].kd == 1):=by
 unfold Md.stM;rw [Int.toNat_natCast,List.getElem?_eq_getElem h];simp
theorem zfA {m:MdlD} (h0:riM m=(0,0,0)) {r:Nat} (hr:r<m.zb.length):(r=0/\m.zb[r].own=-1)\/(r≠0/\∃ s,∃ hs:s<m.zc.length,m.zb[r].own=(s:Int)/\m.zc[s].kd=1):=by
 have h4:=(yB.1 h0).2.2.2.1;unfold f4 at h4
 split at h4
 . simp only [Prod.mk.injEq] at h4;omega
 . have:=((yA (by decide)).1 h4 r hr).1
   rw [Nat.zero_add] at this;unfold rReg at this
   split at this
   . simp only [Bool.and_eq_true,beq_iff_eq] at this;exact .inl ⟨by assumption,this.2⟩
   . simp only [Bool.and_eq_true] at this
     obtain ⟨k,hk,e,hkd⟩:=st_in this.1.2;exact .inr ⟨by assumption,k,hk,e,hkd⟩
theorem qQ {m:MdlD} (h0:riM m=(0,0,0)) {k:Nat} (hk:k<m.zc.length) :
   (m.zc[k].ofv<0/\∃ r,∃ hr:r<m.zb.length,rgM m k=(r:Int)/\m.zc[k].rg=r/\arM m k=m.zb[r].own) \/
   (0<=m.zc[k].ofv/\∃ s,∃ hs:s<m.zc.length,arM m k=(s:Int)/\m.zc[s].kd=1/\m.zc[s].ofv<0/\rgM m k=rgM m s/\m.zc[k].ofv=s):=by
 have e1:rgM m k=if 0<=m.zc[k].ofv then (match m.zc[m.zc[k].ofv.toNat]? with | some y=>y.rg | none=>-1) else m.zc[k].rg:=by
   unfold rgM;rw [Int.toNat_natCast,List.getElem?_eq_getElem hk];rfl
 have e2:arM m k=if 0<=m.zc[k].ofv then m.zc[k].ofv else match m.zb[m.zc[k].rg.toNat]? with | some r=>r.own | none=>-1:=by
   unfold arM;rw [Int.toNat_natCast,List.getElem?_eq_getElem hk];rfl
 rcases js h0 hk with ⟨h1,s,hs,h2,h3,_⟩ | ⟨h1,r,hr,h2,_⟩
 . have hsp:=zaE h0 hs ⟨by omega,by omega⟩
   refine .inr ⟨h1,s,hs,by rw [e2,if_pos h1,h2],h3,by omega,?_,h2⟩;rw [e1,if_pos h1,h2,Int.toNat_natCast,List.getElem?_eq_getElem hs];unfold rgM;rw [Int.toNat_natCast,List.getElem?_eq_getElem hs]
   show _=if 0<=m.zc[s].ofv then _ else _
   rw [if_neg (by omega)]
 . refine .inl ⟨h1,r,hr,by rw [e1,if_neg (by omega),h2],h2,?_⟩
   rw [e2,if_neg (by omega),h2,Int.toNat_natCast,List.getElem?_eq_getElem hr]
theorem rg_lt {m:MdlD} (h0:riM m=(0,0,0)) {k:Nat} (hk:k<m.zc.length):∃ r,r<m.zb.length/\rgM m k=(r:Int):=by
 rcases qQ h0 hk with ⟨_,r,hr,e,_⟩ | ⟨_,s,hs,_,_,hof,e,_⟩
 . exact ⟨r,hr,e⟩
 . rcases qQ h0 hs with ⟨_,r,hr,e2,_⟩ | ⟨h,_⟩
   . exact ⟨r,hr,by rw [e,e2]⟩
   . omega
theorem qG {m:MdlD} (h0:riM m=(0,0,0)) {k:Nat} (hk:k<m.zc.length):arM m k=-1\/∃ s,∃ hs:s<m.zc.length,arM m k=(s:Int)/\m.zc[s].kd=1:=by
 rcases qQ h0 hk with ⟨_,r,hr,_,_,e⟩ | ⟨_,s,hs,e,h,_⟩
 . rcases zfA h0 hr with ⟨_,e2⟩ | ⟨_,s,hs,e2,h⟩
   . exact .inl (by rw [e,e2])
   . exact .inr ⟨s,hs,by rw [e,e2],h⟩
 . exact .inr ⟨s,hs,e,h⟩
theorem yT (m:MdlD) {v:Int} (h:v<0):upsM m v=[]:=by unfold upsM upL;rw [if_pos h]
theorem ya {m:MdlD} (h0:riM m=(0,0,0)) {k:Nat} (hk:k<m.zc.length):upsM m k=(k:Int) :: upsM m (arM m k):=by
 have hl:=yp h0 hk;have hd:=zO h0 hk
 have e:upL m 65 (arM m k)=upL m 66 (arM m k):=by
   rw [zbX,zbX];have:dpM m 66 (arM m k)=dpM m 65 (arM m k):=zai m 65 (arM m k) 66 (by unfold deM at hd;omega) (by omega);rw [this]
 unfold upsM
 show (if (k:Int)<0 then [] else (k:Int) :: upL m 65 (arM m k))=_
 rw [if_neg (by omega),e]
theorem qH {m:MdlD} (h0:riM m=(0,0,0)) {k:Nat} (hk:k<m.zc.length) {x:Int} (hx:x ∈ upsM m (arM m k)):∃ s,∃ hs:s<m.zc.length,x=(s:Int)/\m.zc[s].kd=1/\(s:Int) ∈ upsM m k/\deM m s<deM m k:=by
 have key:∀ (d k:Nat) (hk:k<m.zc.length),deM m k=d->x ∈ upsM m (arM m k)->∃ s,∃ hs:s<m.zc.length,x=(s:Int)/\m.zc[s].kd=1:=by
   intro d
   induction d with
   | zero =>
    intro k hk hd hx
    rcases qG h0 hk with e | ⟨s,hs,e,_⟩
    . rw [e,yT m (by omega)] at hx;cases hx
    . have:=zW h0 hk hs e;omega
   | succ d ih =>
    intro k hk hd hx
    rcases qG h0 hk with e | ⟨s,hs,e,hkd⟩
    . rw [e,yT m (by omega)] at hx;cases hx
    . rw [e,ya h0 hs,List.mem_cons] at hx
      rcases hx with rfl | hx
      . exact ⟨s,hs,rfl,hkd⟩
      . exact ih s hs (by have:=zW h0 hk hs e;omega) hx
 obtain ⟨s,hs,e,hkd⟩:=key _ k hk rfl hx;subst e;have hin:(s:Int) ∈ upsM m k:=by rw [ya h0 hk];exact List.mem_cons_of_mem _ hx
 refine ⟨s,hs,rfl,hkd,hin,?_⟩
 rcases qG h0 hk with e | ⟨t,ht,e,_⟩
 . rw [e,yT m (by omega)] at hx;cases hx
 . rw [e] at hx
   have:=(yr h0 ht hx).2.1;have:=zW h0 hk ht e;omega
theorem up_of {m:MdlD} (h0:riM m=(0,0,0)) {k s:Nat} (hk:k<m.zc.length) (h:(s:Int) ∈ upsM m k) (hd:deM m s<deM m k):(s:Int) ∈ upsM m (arM m k):=by
 rw [ya h0 hk,List.mem_cons] at h
 rcases h with h | h
 . obtain rfl:s=k:=by omega
   omega
 . exact h
theorem zaG {m:MdlD} (h0:riM m=(0,0,0)) {k s t:Nat} (hk:k<m.zc.length) (h1:(s:Int) ∈ upsM m k) (h2:(t:Int) ∈ upsM m k) (hd:deM m s=deM m t):s=t:=by
 have a:=(yr h0 hk h1).2.2;have b:=(yr h0 hk h2).2.2;rw [hd,b] at a;omega
theorem qR {m:MdlD} (h0:riM m=(0,0,0)) {k:Nat} (hk:k<m.zc.length) {x:Int} (hx:x ∈ upsM m k):∃ s,s<m.zc.length/\x=(s:Int):=by
 rw [ya h0 hk,List.mem_cons] at hx
 rcases hx with rfl | hx
 . exact ⟨k,hk,rfl⟩
 . obtain ⟨s,hs,e,_⟩:=qH h0 hk hx;exact ⟨s,hs,e⟩
theorem up_le {m:MdlD} (h0:riM m=(0,0,0)) {k s t:Nat} (hk:k<m.zc.length) (h1:(s:Int) ∈ upsM m k) (h2:(t:Int) ∈ upsM m k) (hd:deM m s<=deM m t):(s:Int) ∈ upsM m t:=by
 obtain ⟨hs,d1,u1⟩:=yr h0 hk h1;obtain ⟨ht,d2,u2⟩:=yr h0 hk h2;have hst:=(yw h0 (v:=(k:Int)) (by omega) (zR h0 hk).2).2
 have key:∀ j,upN m j t=upN m (j+(deM m k - deM m t)) k:=by
   intro j
   induction j with
   | zero=>rw [Nat.zero_add,u2];rfl
   | succ j ih=>rw [ye,ih,show j+1+(deM m k - deM m t)=(j+(deM m k - deM m t))+1 by omega,ye]
 rw [yJ,List.mem_map];refine ⟨deM m t - deM m s,?_,by rw [key,show deM m t - deM m s+(deM m k - deM m t)=deM m k - deM m s by omega,u1]⟩;rw [List.mem_range,(zR h0 ht).1];omega
theorem up_trans {m:MdlD} (h0:riM m=(0,0,0)) {k s t:Nat} (hk:k<m.zc.length) (h1:(s:Int) ∈ upsM m k) (h2:(t:Int) ∈ upsM m s):(t:Int) ∈ upsM m k:=by
 obtain ⟨hs,d1,u1⟩:=yr h0 hk h1;obtain ⟨ht,d2,u2⟩:=yr h0 hs h2
 have key:∀ j,upN m j s=upN m (j+(deM m k - deM m s)) k:=by
   intro j
   induction j with
   | zero=>rw [Nat.zero_add,u1];rfl
   | succ j ih=>rw [ye,ih,show j+1+(deM m k - deM m s)=(j+(deM m k - deM m s))+1 by omega,ye]
 rw [key] at u2;rw [yJ,List.mem_map];refine ⟨_,?_,u2⟩;rw [List.mem_range,(zR h0 hk).1];omega
theorem yS {m:MdlD} {v r:Int}:inM m v r=true↔hasV m v=true/\∃ p ∈ upsM m v,rgM m p=r:=by
 unfold inM;rw [Bool.and_eq_true,List.find?_isSome];simp only [beq_iff_eq]
theorem zfB {m:MdlD} {v s:Int}:underM m v s=true↔hasV m v=true/\hasV m s=true/\Md.stM m s=true/\s ∈ upsM m (arM m v):=by
 unfold underM;simp only [Bool.and_eq_true,List.find?_isSome,beq_iff_eq,and_assoc];constructor
 . rintro ⟨h1,h2,h3,x,hx,rfl⟩;exact ⟨h1,h2,h3,hx⟩
 . rintro ⟨h1,h2,h3,hx⟩;exact ⟨h1,h2,h3,s,hx,rfl⟩
theorem yW {m:MdlD} (h0:riM m=(0,0,0)) {k s:Nat} (hk:k<m.zc.length):underM m k s=true↔(s:Int) ∈ upsM m k/\deM m s<deM m k:=by
 rw [zfB];constructor
 . rintro ⟨_,_,_,h⟩
   obtain ⟨t,ht,e,_,h1,h2⟩:=qH h0 hk h;obtain rfl:s=t:=by omega
   exact ⟨h1,h2⟩
 . rintro ⟨h1,h2⟩
   have h:=up_of h0 hk h1 h2;obtain ⟨t,ht,e,hkd,_⟩:=qH h0 hk h;obtain rfl:s=t:=by omega
   exact ⟨zE hk,zE ht,by rw [stM_at ht,hkd];rfl,h⟩
theorem zaH {m:MdlD} (h0:riM m=(0,0,0)) {v r:Int} (h:inM m v r=true):hasR m r=true:=by
 obtain ⟨hv,p,hp,e⟩:=yS.1 h;obtain ⟨k,rfl,hk⟩:=zN hv;obtain ⟨s,hs,rfl⟩:=qR h0 hk hp;obtain ⟨q,hq,e2⟩:=rg_lt h0 hs;rw [<- e,e2];exact zeD hq
theorem j6 {m:MdlD} (h0:riM m=(0,0,0)) {k r:Nat} (hk:k<m.zc.length) (hr:r<m.zb.length):inM m k r=true↔∃ t,∃ ht:t<m.zc.length,(t:Int) ∈ upsM m k/\m.zc[t].ofv<0/\rgM m t=(r:Int)/\arM m t=m.zb[r].own:=by
 rw [yS];constructor
 . rintro ⟨_,p,hp,e⟩
   obtain ⟨s,hs,rfl⟩:=qR h0 hk hp
   rcases qQ h0 hs with ⟨h1,q,hq,e2,_,e3⟩ | ⟨h1,t,ht,e2,h3,h4,e5,_⟩
   . obtain rfl:r=q:=by rw [e] at e2;omega
     exact ⟨s,hs,hp,h1,e,e3⟩
   . have hin:=kD h0 hk hp e2 ht
     rcases qQ h0 ht with ⟨_,q,hq,e6,_,e7⟩ | ⟨h,_⟩
     . obtain rfl:r=q:=by rw [e,e6] at e5;omega
       exact ⟨t,ht,hin,h4,e6,e7⟩
     . omega
 . rintro ⟨t,ht,h1,_,h3,_⟩
   exact ⟨zE hk,t,h1,h3⟩
theorem in_under {m:MdlD} (h0:riM m=(0,0,0)) {k r s:Nat} (hk:k<m.zc.length) (hr:r<m.zb.length) (hs:m.zb[r].own=(s:Int)) (h:inM m k r=true):underM m k s=true:=by
 obtain ⟨t,ht,h1,h2,h3,h4⟩:=(j6 h0 hk hr).1 h;rw [hs] at h4
 rcases qG h0 ht with e | ⟨q,hq,e,hkd⟩
 . omega
 . obtain rfl:s=q:=by omega
   have hin:=kD h0 hk h1 h4 hq;have:=zW h0 ht hq h4;have:=(yr h0 hk h1).2.1;exact (yW h0 hk).2 ⟨hin,by omega⟩

def insC (m:MdlD) (s:Int):List Int->List Int
 | []=>[s]
 | o :: t=>if underM m s o then o :: insC m s t else s :: o :: t
def chainF (m:MdlD) (v:Int) (k:Nat):List Int:=(List.range k).foldl (fun out (s:Nat)=>if underM m v (s:Int) then insC m (s:Int) out else out) []
def chainR (m:MdlD) (v:Int):List Int:=chainF m v m.zc.length
theorem zc7 (m:MdlD) (v:Int):chainF m v 0=[]:=rfl
theorem qu (m:MdlD) (v:Int) (k:Nat):chainF m v (k+1)=if underM m v (k:Int) then insC m (k:Int) (chainF m v k) else chainF m v k:=by
 unfold chainF;rw [List.range_succ,List.foldl_append];rfl
theorem zeE (m:MdlD) (s:Int):∀ (l:List Int) (k:Nat),k<=l.length->(∀ j (h:j<l.length),j<k->underM m s l[j]=true)->insC m s l=l.take k ++ insC m s (l.drop k)
 | l,0,_,_=>by simp
 | [],k+1,h,_=>by simp at h
 | o :: t,k+1,h,hu=>by
   have h1:=hu 0 (by simp) (by omega);rw [List.getElem_cons_zero] at h1;rw [show insC m s (o :: t)=o :: insC m s t by rw [insC,if_pos h1],List.take_succ_cons,List.drop_succ_cons,List.cons_append,<- zeE m s t k (by simpa using h) fun j hj hjk=>hu (j+1) (by simpa using hj) (by omega)]
theorem insC_end {m:MdlD} {s:Int} {l:List Int} {k:Nat} (hk:k<=l.length) (hu:∀ j (h:j<l.length),j<k->underM m s l[j]=true) (hn:∀ (h:k<l.length),underM m s l[k]=false):insC m s l=l.take k ++ s :: l.drop k:=by
 rw [zeE m s l k hk hu]
 by_cases h:k<l.length
 . rw [List.drop_eq_getElem_cons h,insC,if_neg (by rw [hn h];decide)]
 . rw [List.drop_eq_nil_of_le (by omega)];rfl
theorem jM (f:Int->Nat):∀ (l l':List Int),l.Pairwise (fun a b=>f a<f b)->l'.Pairwise (fun a b=>f a<f b)->(∀ x,x ∈ l↔x ∈ l')->l=l'
 | [],l',_,_,h=>by
   cases l' with
   | nil=>rfl
   | cons b t=>have:=(h b).2 List.mem_cons_self;cases this
 | a :: t,[],_,_,h=>by have:=(h a).1 List.mem_cons_self;cases this
 | a :: t,b :: t',h1,h2,h=>by
   rw [List.pairwise_cons] at h1 h2
   have hab:a=b:=by
     have ha:=(h a).1 List.mem_cons_self;have hb:=(h b).2 List.mem_cons_self;rw [List.mem_cons] at ha hb
     rcases ha with ha | ha
     . exact ha
     . rcases hb with hb | hb
       . exact hb.symm
       . have:=h2.1 a ha;have:=h1.1 b hb;omega
   subst hab;rw [jM f t t' h1.2 h2.2 fun x=>?_];constructor
   . intro hx
     have:=(h x).1 (List.mem_cons_of_mem _ hx);rw [List.mem_cons] at this
     rcases this with rfl | this
     . have:=h1.1 x hx;omega
     . exact this
   . intro hx
     have:=(h x).2 (List.mem_cons_of_mem _ hx);rw [List.mem_cons] at this
     rcases this with rfl | this
     . have:=h2.1 x hx;omega
     . exact this
def deN (m:MdlD) (v:Int):Nat:=deM m v
theorem kM {m:MdlD} (h0:riM m=(0,0,0)) {k:Nat} (hk:k<m.zc.length) {s:Nat} (hs:(s:Int) ∈ upsM m k):∀ (l:List Int),(∀ x ∈ l,x ∈ upsM m k/\x≠s)->l.Pairwise (fun a b=>deN m a<deN m b) ->
   (insC m s l).Pairwise (fun a b=>deN m a<deN m b)/\∀ x,x ∈ insC m s l↔x=s\/x ∈ l
 | [],_,_=>by simp [insC]
 | o :: t,hm,hp=>by
   obtain ⟨ho,hne⟩:=hm o List.mem_cons_self;obtain ⟨i,hi,rfl⟩:=qR h0 hk ho;have hsl:=(yr h0 hk hs).1;rw [List.pairwise_cons] at hp
   cases hu:underM m s i with
   | true =>
    have hd:=((yW h0 hsl).1 hu).2;obtain ⟨ih1,ih2⟩:=kM h0 hk hs t (fun x hx=>hm x (List.mem_cons_of_mem _ hx)) hp.2;rw [insC,if_pos hu];refine ⟨List.pairwise_cons.2 ⟨fun x hx=>?_,ih1⟩,fun x=>?_⟩
    . rcases (ih2 x).1 hx with rfl | hx
      . exact hd
      . exact hp.1 x hx
    . rw [List.mem_cons,ih2,List.mem_cons]
      constructor
      . rintro (h | h | h);exact .inr (.inl h);exact .inl h;exact .inr (.inr h)
      . rintro (h | h | h);exact .inr (.inl h);exact .inl h;exact .inr (.inr h)
   | false =>
    have hd:deM m s<deM m i:=by
      rcases Nat.lt_trichotomy (deM m s) (deM m i) with h | h | h
      . exact h
      . exact absurd (by rw [zaG h0 hk hs ho h]) hne
      . rw [(yW h0 hsl).2 ⟨up_le h0 hk ho hs (by omega),h⟩] at hu;cases hu
    rw [insC,if_neg (by rw [hu];decide)];refine ⟨List.pairwise_cons.2 ⟨fun x hx=>?_,List.pairwise_cons.2 hp⟩,fun x=>by rw [List.mem_cons]⟩;rw [List.mem_cons] at hx
    rcases hx with rfl | hx
    . exact hd
    . have:=hp.1 x hx;exact Nat.lt_trans hd this
theorem zbI {m:MdlD} (h0:riM m=(0,0,0)) {v:Nat} (hv:v<m.zc.length):∀ k,k<=m.zc.length->(chainF m v k).Pairwise (fun a b=>deN m a<deN m b)/\∀ x,x ∈ chainF m v k↔∃ s:Nat,x=s/\s<k/\underM m v s=true
 | 0,_=>by rw [zc7];exact ⟨List.Pairwise.nil,fun x=>⟨fun h=>(by cases h),fun ⟨s,_,h,_⟩=>absurd h (by omega)⟩⟩
 | k+1,hk=>by
   obtain ⟨ih1,ih2⟩:=zbI h0 hv k (by omega);rw [qu]
   cases hu:underM m v k with
   | false =>
    rw [if_neg (by decide)];refine ⟨ih1,fun x=>(ih2 x).trans ⟨fun ⟨s,e,h1,h2⟩=>⟨s,e,by omega,h2⟩,fun ⟨s,e,h1,h2⟩=>⟨s,e,?_,h2⟩⟩⟩
    by_cases hsk:s=k
    . subst hsk;rw [hu] at h2;cases h2
    . omega
   | true =>
    rw [if_pos rfl];have hin:=((yW h0 hv).1 hu).1
    obtain ⟨h1,h2⟩:=kM h0 hv hin (chainF m v k) (fun x hx=>by
      obtain ⟨s,rfl,hs,hus⟩:=(ih2 x).1 hx;exact ⟨((yW h0 hv).1 hus).1,by omega⟩) ih1
    refine ⟨h1,fun x=>(h2 x).trans ?_⟩;rw [ih2];constructor
    . rintro (rfl | ⟨s,e,hs,hus⟩)
      . exact ⟨k,rfl,by omega,hu⟩
      . exact ⟨s,e,by omega,hus⟩
    . rintro ⟨s,e,hs,hus⟩
      by_cases hsk:s=k
      . subst hsk;exact .inl e
      . exact .inr ⟨s,e,by omega,hus⟩
theorem zaI {m:MdlD} (h0:riM m=(0,0,0)):∀ (d k:Nat) (hk:k<m.zc.length),deM m k=d->(upsM m k).Pairwise (fun a b=>deN m b<deN m a)
 | d,k,hk,hd=>by
   rw [ya h0 hk,List.pairwise_cons];refine ⟨fun x hx=>?_,?_⟩
   . obtain ⟨s,_,rfl,_,_,h⟩:=qH h0 hk hx;exact h
   . rcases qG h0 hk with e | ⟨s,hs,e,_⟩
     . rw [e,yT m (by omega)];exact List.Pairwise.nil
     . rw [e]
       have:=zW h0 hk hs e
       match d,hd with
       | 0,hd=>omega
       | d+1,hd=>exact zaI h0 d s hs (by omega)
theorem chain_eq {m:MdlD} (h0:riM m=(0,0,0)) (v:Int):chainR m v=chainM m v:=by
 cases hv:hasV m v with
 | false =>
  unfold chainM;rw [hv,if_neg (by decide)];have hno:∀ s,underM m v s=false:=fun s=>by unfold underM;rw [hv];rfl
  have:∀ k,chainF m v k=[]:=by
    intro k
    induction k with
    | zero=>rfl
    | succ k ih=>rw [qu,hno,if_neg (by decide),ih]
  exact this _
 | true =>
  obtain ⟨k,rfl,hk⟩:=zN hv;obtain ⟨h1,h2⟩:=zbI h0 hk m.zc.length (Nat.le_refl _)
  have hs:(upsM m (arM m k)).Pairwise (fun a b=>deN m b<deN m a):=by
    have:=zaI h0 _ k hk rfl;rw [ya h0 hk,List.pairwise_cons] at this;exact this.2
  unfold chainM chainR;rw [hv,if_pos rfl];refine jM (deN m) _ _ h1 ?_ fun x=>?_
  . rw [List.pairwise_reverse];exact hs
  . rw [h2,List.mem_reverse]
    constructor
    . rintro ⟨s,rfl,hs,hu⟩
      have:=(yW h0 hk).1 hu;exact up_of h0 hk this.1 this.2
    . intro hx
      obtain ⟨s,hs,rfl,_,h3,h4⟩:=qH h0 hk hx;exact ⟨s,rfl,hs,(yW h0 hk).2 ⟨h3,h4⟩⟩
theorem depth_eq {m:MdlD} (h0:riM m=(0,0,0)) (v:Int):depM' m v=if hasV m v then ((chainM m v).length:Int) else -1:=by
 unfold depM'
 cases hv:hasV m v with
 | false=>rfl
 | true =>
  obtain ⟨k,rfl,hk⟩:=zN hv;rw [if_pos rfl,if_pos rfl,jH h0 hk]

def comStep (m:MdlD) (l:List Int) (st:Int × Int) (r:Nat):Int × Int:=if l.all (fun v=>inM m v (r:Int)) && decide (st.2<depM' m (ownA m r)) then ((r:Int),depM' m (ownA m r)) else st
def comF (m:MdlD) (l:List Int) (k:Nat):Int × Int:=(List.range k).foldl (comStep m l) (-1,-2)
def comR (m:MdlD) (l:List Int):Int:=(comF m l m.zb.length).1
theorem zbJ (m:MdlD) (l:List Int) (k:Nat):comF m l (k+1)=comStep m l (comF m l k) k:=by
 unfold comF;rw [List.range_succ,List.foldl_append];rfl
theorem kW (m:MdlD) (l:List Int):∀ k,(comF m l k=(-1,-2)/\∀ r:Nat,r<k->l.all (fun v=>inM m v (r:Int))=false) \/
   ∃ b:Nat,b<k/\comF m l k=((b:Int),depM' m (ownA m b))/\l.all (fun v=>inM m v (b:Int))=true/\∀ r:Nat,r<k->l.all (fun v=>inM m v (r:Int))=true->depM' m (ownA m r)<=depM' m (ownA m b)
 | 0=>.inl ⟨rfl,fun r h=>by omega⟩
 | k+1=>by
   have hlo:∀ v,-2<depM' m v:=fun v=>by unfold depM';split <;> omega
   rw [zbJ]
   rcases kW m l k with ⟨e,hn⟩ | ⟨b,hb,e,ha,hmax⟩
   . rw [e]
     unfold comStep
     cases hc:l.all (fun v=>inM m v (k:Int)) with
     | false =>
      left
      refine ⟨rfl,fun r hr=>?_⟩
      by_cases h:r=k
      . subst h;exact hc
      . exact hn r (by omega)
     | true =>
      right
      refine ⟨k,by omega,by rw [if_pos (by simp [hlo])],hc,fun r hr hra=>?_⟩
      by_cases h:r=k
      . subst h;exact Int.le_refl _
      . rw [hn r (by omega)] at hra;cases hra
   . rw [e]
     unfold comStep
     right
     cases hc:l.all (fun v=>inM m v (k:Int)) with
     | false =>
      refine ⟨b,by omega,rfl,ha,fun r hr hra=>?_⟩
      by_cases h:r=k
      . subst h;rw [hc] at hra;cases hra
      . exact hmax r (by omega) hra
     | true =>
      by_cases hd:depM' m (ownA m b)<depM' m (ownA m k)
      . refine ⟨k,by omega,by rw [if_pos (by simp [hd])],hc,fun r hr hra=>?_⟩
        by_cases h:r=k
        . subst h;exact Int.le_refl _
        . have:=hmax r (by omega) hra;omega
      . refine ⟨b,by omega,by rw [if_neg (by simp [hd])],ha,fun r hr hra=>?_⟩
        by_cases h:r=k
        . subst h;omega
        . exact hmax r (by omega) hra
theorem kX {m:MdlD} (h0:riM m=(0,0,0)) {t:Nat} (ht:t<m.zc.length) (h:m.zc[t].ofv<0):depM' m (ownA m (rgM m t))=(deM m t:Int) - 1:=by
 rcases qQ h0 ht with ⟨_,r,hr,e,_,e2⟩ | ⟨h1,_⟩
 . rw [e,yq hr,<- e2]
   rcases qG h0 ht with e3 | ⟨s,hs,e3,_⟩
   . have hz:deM m t=0:=by
       have:=(yp h0 ht).1;rw [<- this,e3];rfl
     rw [e3,hz];rfl
   . rw [e3]
     unfold depM';rw [zE hs,if_pos rfl,zW h0 ht hs e3];omega
 . omega
theorem zfC {m:MdlD} (h0:riM m=(0,0,0)) (a:Int) (all l:List Int) (hl:∀ x,x ∈ l↔x=a\/x ∈ all):commonM m a all=comR m l:=by
 have hal:∀ r,l.all (fun v=>inM m v r)=true↔inM m a r=true/\all.all (fun v=>inM m v r)=true:=fun r=>by
   rw [List.all_eq_true,List.all_eq_true];constructor
   . intro h;exact ⟨h a ((hl a).2 (.inl rfl)),fun x hx=>h x ((hl x).2 (.inr hx))⟩
   . rintro ⟨h1,h2⟩ x hx
     rcases (hl x).1 hx with rfl | hx
     . exact h1
     . exact h2 x hx
 unfold comR
 cases hv:hasV m a with
 | false =>
  have hno:∀ r,inM m a r=false:=fun r=>by unfold inM;rw [hv];rfl
  rcases kW m l m.zb.length with ⟨e,_⟩ | ⟨b,_,_,ha,_⟩
  . rw [e];unfold commonM;rw [hv];rfl
  . have:=((hal _).1 ha).1;rw [hno] at this;cases this
 | true =>
  obtain ⟨k,rfl,hk⟩:=zN hv;unfold commonM;rw [hv,if_pos rfl]
  cases hf:(upsM m k).find? (fun p=>all.all fun v=>inM m v (rgM m p)) with
  | none =>
   rw [List.find?_eq_none] at hf
   rcases kW m l m.zb.length with ⟨e,_⟩ | ⟨b,_,_,ha,_⟩
   . rw [e]
   . obtain ⟨h1,h2⟩:=(hal _).1 ha
     obtain ⟨_,p,hp,e⟩:=yS.1 h1;have:=hf p hp;rw [e] at this;exact absurd h2 this
  | some p =>
   obtain ⟨hp,i,hi,ei,hno⟩:=List.find?_eq_some_iff_getElem.1 hf;have hmem:p ∈ upsM m k:=by rw [<- ei];exact List.getElem_mem hi
   obtain ⟨s,hs,rfl⟩:=qR h0 hk hmem;obtain ⟨q,hq,eq⟩:=rg_lt h0 hs;have hina:inM m k q=true:=yS.2 ⟨hv,s,hmem,eq⟩
   show rgM m s=_
   rw [eq] at hp |-;have hallq:=(hal (q:Int)).2 ⟨hina,hp⟩
   rcases kW m l m.zb.length with ⟨e,hn⟩ | ⟨b,hb,e,ha,hmax⟩
   . rw [hn q hq] at hallq;cases hallq
   . rw [e]
     have hm:=hmax q hq hallq;obtain ⟨hb1,hb2⟩:=(hal (b:Int)).1 ha
     -- both at vertices that are no points
     obtain ⟨t,ht,t1,t2,t3,t4⟩:=(j6 h0 hk hb).1 hb1;obtain ⟨u,hu,u1,u2,u3,u4⟩:=(j6 h0 hk hq).1 hina;have d1:=kX h0 ht t2;have d2:=kX h0 hu u2;rw [t3] at d1;rw [u3] at d2;rw [d1,d2] at hm
     -- the deeper one comes first
     have hle:deM m t<=deM m u:=by
       refine Nat.le_of_not_lt fun hlt=>?_;have hls:=(yr h0 hk hmem).2.1;have hlt':=(yr h0 hk t1).2.1;have hut:=(yr h0 hk t1).2.2;have hus:=(yr h0 hk hmem).2.2
       -- t stands behind s,or is it,on the way up
       have hts:deM m t<=deM m s:=by
         refine Nat.le_of_not_lt fun h=>?_;have hjl:deM m k - deM m t<(upsM m k).length:=by rw [yV,(zR h0 hk).1];omega
         have hil:=hi;rw [yV] at hil;have e3:(upsM m k)[i]=upN m i k:=jS m k hil
         have hii:i=deM m k - deM m s:=by
           have hin:(upsM m k)[i] ∈ upsM m k:=List.getElem_mem hi;have h5:=(yw h0 (v:=(k:Int)) (by omega) (zR h0 hk).2).2 i hil
           have key:∀ j,j<lenM m k->∃ t:Nat,upN m j k=t/\t<m.zc.length/\deM m t+j=deM m k:=by
             intro j
             induction j with
             | zero=>intro _;exact ⟨k,rfl,hk,rfl⟩
             | succ j ih =>
              intro hj;obtain ⟨x,h1,h2,h3⟩:=ih (by omega);obtain ⟨y,e1,e2,_⟩:=(yw h0 (v:=(k:Int)) (by omega) (zR h0 hk).2).2 (j+1) hj;refine ⟨y,e1,e2,?_⟩;rw [ye,h1] at e1;have:=zW h0 h2 e2 e1;omega
           obtain ⟨y,e1,e2,e4⟩:=key i hil;rw [<- e3,ei] at e1;obtain rfl:s=y:=by omega
           omega
         have h4:=hno (deM m k - deM m t) (by omega);rw [jS m k (by rw [(zR h0 hk).1];omega),hut,t3] at h4;rw [hb2] at h4
         cases h4
       rcases qQ h0 hs with ⟨h1,r,hr,e5,_⟩ | ⟨h1,w,hw,e5,e6,e7,e8,_⟩
       . -- s is no point: it is u
         have:deM m s=deM m u:=by
           have:=kX h0 hs h1;rw [eq] at this;omega
         omega
       . have hww:deM m w=deM m u:=by
           have:=kX h0 hw e7;rw [<- e8,eq] at this;omega
         have:=zW h0 hs hw e5;have hst:deM m t=deM m s:=by omega
         have:=zaG h0 hk t1 hmem hst;subst this;omega
     have htu:t=u:=zaG h0 hk t1 u1 (by omega);subst htu;rw [t3] at u3;exact u3.symm

end Go.Md
